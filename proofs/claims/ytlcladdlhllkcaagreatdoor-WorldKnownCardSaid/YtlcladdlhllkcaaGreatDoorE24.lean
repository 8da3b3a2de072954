/-
  PROVED HERE: what the evaluator says of a call is what the machine does.
-/
import Derived.Test.YtlcladdlhllkcaaGreatDoorE23
namespace Go.Eng
set_option linter.unusedVariables false
set_option linter.unusedSimpArgs false
variable {P : Program}
section
variable {F : Fx} {x : Act} {k : List Item} {cs : List Frame} {w : World}
/-- a frame that is leaving. -/
def Fx.off (F : Fx) (x : Act) (ds : List Deferred) (todo : List Item) : Frame := { fn := F.fn, tmps := x.tmps, todo := todo, defers := ds, mode := .returning, kind := .normal, roundOf := none }
theorem st_end (hF : F.rd = none) : step P (lone (F.at x []) cs w) = .next (lone (F.off x x.defers []) cs w) := step_lone_go (by simp [stepG, stepG.exec, Fx.at, Fx.off, hF])
theorem st_ret (hF : F.rd = none) : step P (lone (F.at x (.code .ret :: k)) cs w) = .next (lone (F.off x x.defers (.code .ret :: k)) cs w) := step_lone_go (by simp [stepG, stepG.exec, Fx.at, Fx.off, hF])
theorem st_collect {b : Nat} {ds : List Deferred} {todo : List Item} {w' : World} (h : (Instr.takeDeferred b).run P w = .ok [] w') :
    step P (lone (F.off x ({ target := .collected b, args := #[] } :: ds) todo) cs w) = .next (lone (F.off x ds todo) cs w') :=
  step_lone_go (by simp [stepG, unwind, Fx.off, Sem.runT_eq, h])
theorem st_leave {fn : Func} {v : Value} {caller : Frame} {todo : List Item} (hf : P.funcs[F.fn]? = some fn) (hr : (results fn x.tmps).run P w = .ok v w) :
    step P (lone (F.off x [] todo) (caller :: cs) w) = .next (lone (caller.finish v) cs w) :=
  step_lone_go (by simp [stepG, unwind, doReturn, Fx.off, hf, Sem.runT_eq, hr])
theorem leave_round {l : Nat} {jump : Option Code} {v : Value} {caller : Frame} {w' : World} (hF : F.rd = some l) (hr : (Instr.endRound l jump).run P w = .ok v w') (hd : x.defers = []) (todo : List Item)
    (ht : (todo = [] ∧ jump = none) ∨ (∃ k, todo = .code .ret :: k ∧ jump = some .ret) ∨ (∃ id k, todo = .code (.exit id) :: k ∧ jump = some (.exit id) ∧ exitTo id k = none) ∨ (∃ id k, todo = .code (.goto id) :: k ∧ jump = some (.goto id) ∧ gotoIn id k = none)) :
    step P (lone (F.at x todo) (caller :: cs) w) = .next (lone (caller.finish v) cs w') := by
  rcases ht with ⟨rfl, rfl⟩ | ⟨k, rfl, rfl⟩ | ⟨id, k, rfl, rfl, he⟩ | ⟨id, k, rfl, rfl, he⟩
  · exact step_lone_go (by simp [stepG, stepG.exec, Fx.at, hF, Sem.runT_eq, hr, doReturn])
  · exact step_lone_go (by simp [stepG, stepG.exec, Fx.at, hF, Sem.runT_eq, hr, doReturn])
  · exact step_lone_go (by simp [stepG, stepG.exec, Fx.at, hF, Sem.runT_eq, hr, doReturn, he])
  · exact step_lone_go (by simp [stepG, stepG.exec, Fx.at, hF, Sem.runT_eq, hr, doReturn, he])
theorem st_beginRound {l : Nat} {w' : World} (hF : F.rd = some l) (hr : (Instr.beginRound l).run P w = .ok () w') :
    step P (lone (F.at x (.beginRound :: k)) cs w) = .next (lone (F.at x k) cs w') :=
  step_lone_go (by simp [stepG, stepG.exec, stepG.apply, Fx.at, hF, Sem.runT_eq, hr, Frame.finish])
end

/-! ### leaving a function -/
theorem St.gone {c : Cx} {t : T O} {w w' : World} (h : HR c t.get w) {b : Nat} {old : O} {ob : Obj} (hb : t.get b = some old) (hw : Turned w w' (c.b b) ob) (n : Nat) : St c t.get w c (t.set b none).get w' n n := by
  have hg : ∀ i x, (t.set b none).get i = some x → i ≠ b ∧ t.get i = some x := fun i x hi => by
    rw [T.get_set] at hi
    split at hi
    · cases hi
    · rename_i h; exact ⟨h, hi⟩
  refine ⟨Ext.refl c n, ⟨fun i x hx => ?_, fun i j x y hx hy => h.inj i j x y (hg i x hx).2 (hg j y hy).2⟩, Nat.le_of_eq hw.size.symm, fun k hk hn => hw.other k fun e => hn b old hb e.symm, fun i x hx => .inl ⟨i, x, (hg i x hx).2, rfl⟩, hw.os, hw.tape, hw.output, fun i l _ hi => ⟨⟨l, (hg i _ hi).2⟩, hw.other _ fun e => (hg i _ hi).1 (h.inj i b _ old (hg i _ hi).2 hb e)⟩⟩
  obtain ⟨h1, h2⟩ := hg i x hx
  have := h.at_ i x h2
  exact ⟨this.1, by rw [hw.other _ fun e => h1 (h.inj i b x old h2 hb e)]; exact this.2⟩
theorem take_run {w : World} {b : Nat} (h : w.heap[b]? = some (.deferred (some []))) : ∃ w', (Instr.takeDeferred b).run P w = .ok [] w' ∧ Turned w w' b (.deferred none) := by
  have hlt := (Array.getElem?_eq_some_iff.1 h).1
  refine ⟨{ w with heap := w.heap.setIfInBounds b (.deferred none) }, ?_, ⟨by simp, by simp [hlt], fun j hj => by simp [Array.getElem?_setIfInBounds_ne (Ne.symm hj)], rfl, rfl, rfl⟩⟩
  have h1 : (getObj b).run P w = .ok (.deferred (some [])) w := by simp [getObj, Sem.run, h]
  have h2 : (setObj b (.deferred none)).run P w = .ok () { w with heap := w.heap.setIfInBounds b (.deferred none) } := by simp [setObj, Sem.run, h]
  simp only [Instr.takeDeferred, Sem.run_bind, h1, Result.andThen_ok, h2, Sem.run_pure]
theorem drop_ok {F : Fx} {x : Act} : ∀ (ds : List Nat) (h h' : H), dropDs h ds = some h' → h'.next = h.next ∧ ∀ c w, HR c h.t.get w → ∃ w', St c h.t.get w c h'.t.get w' h.next h.next ∧
    ∀ cs todo, Steps P (lone (F.off x (ds.map fun d => { target := .collected (c.b d), args := #[] }) todo) cs w) (lone (F.off x [] todo) cs w')
  | [], h, h', hd => by
    cases hd
    exact ⟨rfl, fun c w H => ⟨w, St.refl H _, fun cs todo => .refl _ _⟩⟩
  | d :: ds, h, h', hd => by
    unfold dropDs at hd
    split at hd
    · rename_i hg
      rw [T.setK_eq] at hd
      obtain ⟨h1, h2⟩ := drop_ok (F := F) (x := x) ds _ h' hd
      refine ⟨h1, fun c w H => ?_⟩
      obtain ⟨w1, hr, ht⟩ := take_run (P := P) (H.at_ d _ hg).2
      have s1 := St.gone H hg ht h.next
      obtain ⟨w2, s2, st⟩ := h2 c w1 s1.hr
      exact ⟨w2, s1.trans s2, fun cs todo => .head (st_collect hr) (st cs todo)⟩
    · cases hd
theorem res_ok {h : T O} {a : A} {x : Act} {c : Cx} {w : World} (ha : TR c a.t x.tmps) (H : HR c h.get w) : ∀ (l : List ResultVar) (vs : List Value), resE P h a l = some vs →
    ∃ vs', LR c vs vs' ∧ (l.mapM fun r => (match r with | .tmp t => pure (x.tmps.getD t undef) | .cell a t => do loadVar t (← asAddr (x.tmps.getD a undef)) : Sem Value)).run P w = .ok vs' w
  | [], vs, hr => by cases hr; exact ⟨[], .nil, rfl⟩
  | .tmp t :: l, vs, hr => by
    simp only [resE] at hr
    cases hq : resE P h a l with
    | none => rw [hq] at hr; cases hr
    | some us =>
      rw [hq] at hr
      cases hr
      obtain ⟨us', h1, h2⟩ := res_ok ha H l us hq
      exact ⟨_, .cons (ha t) h1, by rw [List.mapM_cons]; simp only [Sem.run_bind, Sem.run_pure, Result.andThen_ok, h2]⟩
  | .cell q t :: l, vs, hr => by
    simp only [resE] at hr
    split at hr
    · rename_i v e us hv hq
      cases hr
      obtain ⟨us', h1, h2⟩ := res_ok ha H l us hq
      obtain ⟨b, he, hl⟩ := load_ok (u := h.get) (w := w) hv (ha q)
      obtain ⟨v', hv1, hv2⟩ := hl H rfl
      have haddr : (do loadVar t (← asAddr (x.tmps.getD q undef)) : Sem Value).run P w = .ok v' w := by
        have hq2 := ha q
        have : ∃ b o, a.get q = .pointer (some ⟨b, o, none⟩) := by
          unfold loadE at hv
          split at hv
          · rename_i b o hp; exact ⟨b, o, hp⟩
          · cases hv
        obtain ⟨b2, o2, hp⟩ := this
        change VR c (a.get q) _ at hq2
        rw [hp] at hq2
        generalize x.tmps.getD q undef = z at hq2 hv2
        cases hq2
        simp only [Instr.loadAt, Instr.sureAddr, Sem.run_bind, Sem.run_pure, Result.andThen_ok] at hv2
        simp only [asAddr, Sem.run_bind, Sem.run_pure, Result.andThen_ok, hv2]
      refine ⟨_, .cons hv1 h1, ?_⟩
      rw [List.mapM_cons]
      simp only [Sem.run_bind] at haddr ⊢
      simp only [haddr, Result.andThen_ok, h2, Sem.run_pure]
    · cases hr
theorem leave_ok {F : Fx} {fn : Func} {a : A} {h h' : H} {v : Value} (hl : leaveE P fn a h = some (v, h')) : h'.next = h.next ∧ ∀ c w x, HR c h.t.get w → AR c a x → ∃ w' v', St c h.t.get w c h'.t.get w' h.next h.next ∧ VR c v v' ∧
    (results fn x.tmps).run P w' = .ok v' w' ∧ ∀ cs todo, Steps P (lone (F.off x x.defers todo) cs w) (lone (F.off x [] todo) cs w') := by
  unfold leaveE at hl
  split at hl
  · rename_i h1 hd
    split at hl
    · rename_i vs hrs
      rw [force_eq] at hl
      cases hl
      obtain ⟨hn, _⟩ := drop_ok (P := P) (F := F) (x := ⟨#[], []⟩) a.ds h h' hd
      refine ⟨hn, fun c w x H ha => ?_⟩
      obtain ⟨_, hdrop⟩ := drop_ok (P := P) (F := F) (x := x) a.ds h h' hd
      obtain ⟨w', s, st⟩ := hdrop c w H
      obtain ⟨vs', hl2, hrun⟩ := res_ok ha.tmps s.hr _ _ hrs
      have hres : (results fn x.tmps).run P w' = .ok (Eng.one vs') w' := by
        unfold results
        rw [Array.mapM_eq_mapM_toList]
        simp only [Sem.run_bind, Sem.run_map]
        refine (congrArg (fun r : Result (List Value) => (Result.andThen (Result.andThen r fun a w' => .ok a.toArray w') fun (a : Array Value) w' => Sem.run P (pure (if h : a.size = 1 then a[0] else .tuple a)) w')) hrun).trans ?_
        simp only [Result.andThen_ok, Sem.run_pure]
        congr 1
        unfold Eng.one
        split
        · rename_i hsz
          split
          · rfl
          · rename_i hne
            exfalso
            cases vs' with
            | nil => simp at hsz
            | cons a as => cases as with
              | nil => exact hne a rfl
              | cons _ _ => simp at hsz
        · rename_i hsz
          split
          · simp at hsz
          · rfl
      refine ⟨w', Eng.one vs', s, ?_, hres, fun cs todo => ?_⟩
      · unfold Eng.one
        cases hl2 with
        | nil => exact .tuple .nil
        | cons hv hl3 => cases hl3 with
          | nil => exact hv
          | cons hv2 hl4 => exact .tuple (.cons hv (.cons hv2 hl4))
      · rw [ha.defers]
        exact st cs todo
    · cases hl
  · cases hl
end Go.Eng
