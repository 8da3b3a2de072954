/-
  PROVED HERE: a range over a function: the evaluator's way through it is the machine's.
-/
import Derived.Test.YtlcladdlhllkcaaGreatDoorE21
import Derived.RunT
namespace Go.Eng
set_option linter.unusedVariables false
set_option linter.unusedSimpArgs false
variable {P : Program}
section
variable {F : Fx} {x : Act} {k : List Item} {cs : List Frame} {w : World}
/-- the call of a range over a function. -/
def rangeCall (ρ : Operand → Value) (f : Operand) (l : Nat) : Sem Next := do
  let d ← resolve ρ { callee := .value f, args := #[.const (.func (.yield l) #[] #[])], argTypes := #[] } 0
  invoke d.target d.args
theorem st_range {f : Operand} {ps : Array Tmp} {as bd : Code} {l : Nat} {mark : List Deferred} {w1 w2 : World} {v : Value}
    (hE : (Instr.enterLoop F.fn x.tmps ps as bd F.rd).run P w = .ok (l, mark) w1) (hG : Goes P (rangeCall x.eval f l) w1 v w2) :
    Steps P (lone (F.at x (.code (.rangeFunc f ps as bd) :: k)) cs w) (lone (F.at ⟨x.tmps, mark ++ x.defers⟩ (.endRangeFunc l :: k)) cs w2) := by
  have hs : ∀ g, (stepG.apply P true (F.at ⟨x.tmps, mark ++ x.defers⟩ (.inRangeFunc l :: k)) cs none (rangeCall x.eval f l) w1).bare = g →
      (stepG P true { frame := F.at x (.code (.rangeFunc f ps as bd) :: k), callers := cs, status := .running, dying := none } w).bare = g := by
    intro g hg
    rw [← hg]
    have he := Fx.eval F ⟨x.tmps, mark ++ x.defers⟩ (.inRangeFunc l :: k)
    simp only [Fx.at] at he
    simp only [stepG, stepG.exec, Fx.at, Sem.runT_eq, hE, GStep.bare_after]
    rw [he]
    rfl
  have hfin : ∀ v, (F.at ⟨x.tmps, mark ++ x.defers⟩ (.inRangeFunc l :: k)).finish v = F.at ⟨x.tmps, mark ++ x.defers⟩ (.endRangeFunc l :: k) := fun v => rfl
  cases hG with
  | value h => exact .one (step_lone_go (hs _ (by rw [← hfin v]; simp [stepG.apply, h])))
  | skip h hv => exact .one (step_lone_go (hs _ (by rw [← hfin undef]; simp [stepG.apply, h])))
  | enter g args w3 h hst =>
    refine .head (m₁ := lone (Frame.enter P g args .normal) (F.at ⟨x.tmps, mark ++ x.defers⟩ (.inRangeFunc l :: k) :: cs) w3) (step_lone_go (hs _ (by simp [stepG.apply, h, Fx.at]))) ?_
    have := hst (F.at ⟨x.tmps, mark ++ x.defers⟩ (.inRangeFunc l :: k)) cs
    rwa [hfin] at this
  | round l2 g tm as2 bd2 w3 h hst =>
    refine .head (m₁ := lone (Frame.round l2 g tm as2 bd2 .normal) (F.at ⟨x.tmps, mark ++ x.defers⟩ (.inRangeFunc l :: k) :: cs) w3) (step_lone_go (hs _ (by simp [stepG.apply, h, Fx.at]))) ?_
    have := hst (F.at ⟨x.tmps, mark ++ x.defers⟩ (.inRangeFunc l :: k)) cs
    rwa [hfin] at this
theorem st_endRange {l : Nat} {jump : Option Code} {w1 : World} (h : (Instr.endLoop l).run P w = .ok jump w1) :
    step P (lone (F.at x (.endRangeFunc l :: k)) cs w) = .next (lone (F.at x ((jump.map Item.code).toList ++ k)) cs w1) :=
  step_lone_go (by simp [stepG, stepG.exec, Fx.at, Sem.runT_eq, h])
end
theorem run_loopSet {w : World} {b : Nat} {l0 : Loop} (h : w.heap[b]? = some (.loop l0)) (o : Obj) : ∃ w', (setObj b o).run P w = .ok () w' ∧ Turned w w' b o := by
  have hlt := (Array.getElem?_eq_some_iff.1 h).1
  refine ⟨{ w with heap := w.heap.setIfInBounds b o }, by simp [setObj, Sem.run, h], ?_⟩
  exact ⟨by simp, by simp [hlt], fun j hj => by simp [Array.getElem?_setIfInBounds_ne (Ne.symm hj)], rfl, rfl, rfl⟩
theorem run_getLoop {w : World} {b : Nat} {l0 : Loop} (h : w.heap[b]? = some (.loop l0)) : (Instr.getLoop b).run P w = .ok l0 w := by
  have : (getObj b).run P w = .ok (.loop l0) w := by simp [getObj, Sem.run, h]
  simp only [Instr.getLoop, Sem.run_bind, this, Result.andThen_ok, Sem.run_pure]
/-- the jump that a loop's record keeps, as a way out. -/
theorem rangeB_ok {cl : Cl} (hcl : ClOK P cl) {fn : FuncId} {rd : Option Nat} {f : Operand} {ps : List Tmp} {as bd : Code} {a a' : A} {ds : List Nat} {h h' : H} {e : X} (hr : rangeB cl P fn f ps as bd a ds h = some (e, a', h')) :
    h.next ≤ h'.next ∧ ∀ (c : Cx) (w : World) (x : Act) (F : Fx) (dfs : Nat) (mark : List Deferred), Gl c → HR c h.t.get w → AR c a x → F.fn = fn → Free c h.next h'.next → (mark ++ x.defers = ds.map fun d => { target := .collected (c.b d), args := #[] }) → (∀ d, d ∈ ds → c.av d) →
      (∀ w0 : World, (Instr.enterLoop F.fn x.tmps ⟨ps⟩ as bd F.rd).run P w0 = .ok (w.heap.size, mark) { w with heap := w.heap.push (.loop { state := .ready, pending := none, fn := F.fn, tmps := x.tmps, params := ⟨ps⟩, assign := as, body := bd, defers := dfs }) } →
        ∃ c' x' w', St c h.t.get w c' h'.t.get w' h.next h'.next ∧ AR c' a' x' ∧ ∀ k cs, Arr P F (lone (F.at x (.code (.rangeFunc f ⟨ps⟩ as bd) :: k)) cs w0) e x' w' k cs) := by
  unfold rangeB at hr
  rw [T.setK_eq, forceN_eq] at hr
  split at hr
  case h_2 => cases hr
  rename_i g first cap hfe
  split at hr
  · cases hr
  · rename_i v h1 hcall
    obtain ⟨hle, hc⟩ := callE_ok hcl hcall
    simp only [Nat.succ_eq_add_one] at hle
    split at hr
    case h_2 => cases hr
    rename_i st pend fn' sz tm ps' as' bd' hget
    have hexh : st ≠ .busy ∧ ∃ jump : Option Code, pend = jump ∧ a' = ⟨a.size, a.t, ds⟩ ∧ h' = ⟨h1.t.set h.next (some (.loop .exhausted pend fn' sz tm ps' as' bd')), h1.next⟩ ∧ (match jump with
        | none => e = .normal
        | some .ret => e = .ret
        | some (.exit id) => e = .exit id
        | some (.goto l) => e = .goto l
        | _ => False) := by
      split at hr
      · cases hr
      · rename_i hnb
        rw [T.setK_eq] at hr
        refine ⟨hnb, pend, rfl, ?_⟩
        split at hr <;> first
          | (cases hr; exact ⟨rfl, rfl, rfl⟩)
          | cases hr
    obtain ⟨hnb, jump, rfl, rfl, rfl, hj⟩ := hexh
    clear hr
    refine ⟨by simp only; omega, fun c w x F dfs mark G H ha hF hfree hmark hds w0 hE => ?_⟩
    simp only at hfree
    have hn : ¬ c.av h.next := hfree h.next (Nat.le_refl _) (by omega)
    -- the loop's record
    have hmade := made_push w (.loop { state := .ready, pending := none, fn := F.fn, tmps := x.tmps, params := ⟨ps⟩, assign := as, body := bd, defers := dfs })
    have s1 := St.new (o := .loop .ready none fn a.size a.t ps as bd) H 0 0 hn hmade (by
      refine ⟨x.tmps, dfs, by rw [hF], ha.size, ha.tmps.le (put_le hn)⟩)
    have hle1 := s1.ext.toLe
    generalize { w with heap := w.heap.push (.loop { state := .ready, pending := none, fn := F.fn, tmps := x.tmps, params := ⟨ps⟩, assign := as, body := bd, defers := dfs }) } = w1 at *
    have hcl1 : (c.put h.next w.heap.size 0 0 0).av h.next ∧ (c.put h.next w.heap.size 0 0 0).b h.next = w.heap.size := ⟨put_self.1, put_self.2.1⟩
    generalize c.put h.next w.heap.size 0 0 0 = c1 at *
    -- the call
    have hev := (ha.le hle1).ev (G.le hle1) f
    rw [hfe] at hev
    generalize hz : x.eval f = z at hev
    cases hev with
    | func _ hx1 hy1 =>
      rename_i y1 y2
      have hargs : LR c1 (first ++ [.func (.yield h.next) ⟨[]⟩ ⟨[]⟩] ++ cap) (y1 ++ [.func (.yield w.heap.size) ⟨[]⟩ ⟨[]⟩] ++ y2) := by
        refine (hx1.append (.cons ?_ .nil)).append hy1
        rw [← hcl1.2]
        exact .yield hcl1.1
      obtain ⟨c2, w2, v', s2, hv, hgoes⟩ := hc c1 w1 (G.le hle1) s1.hr (by
        have := hfree.right s1.ext
        exact this) _ (.fn g hargs)
      have hgo : Goes P (rangeCall x.eval f w.heap.size) w1 v' w2 := by
        refine hgoes.congr ?_
        simp only [rangeCall, resolve, hz, Deferred.ofValue, Sem.run_bind, Sem.run_pure, Result.andThen_ok, invoke]
        have : ((⟨y1⟩ : Array Value) ++ (#[Operand.const (.func (.yield w.heap.size) #[] #[])] : Array Operand).map x.eval ++ ⟨y2⟩) = ⟨y1 ++ [.func (.yield w.heap.size) ⟨[]⟩ ⟨[]⟩] ++ y2⟩ := by
          apply Array.ext'
          simp [Act.eval]
        rw [this]
      have hle2 := s2.ext.toLe
      -- the loop's end
      obtain ⟨hav2, tm', ds2, hw2, hsz, htm⟩ := s2.hr.at_ _ _ hget
      have hb2 : c2.b h.next = w.heap.size := by rw [(hle2 _ hcl1.1).2.1]; exact hcl1.2
      rw [hb2] at hw2
      obtain ⟨w3, hset, hturn⟩ := run_loopSet (P := P) hw2 (.loop { state := .exhausted, pending := pend, fn := fn', tmps := tm', params := ⟨ps'⟩, assign := as', body := bd', defers := ds2 })
      have hend : (Instr.endLoop w.heap.size).run P w2 = .ok pend w3 := by
        simp only [Instr.endLoop, Sem.run_bind, run_getLoop hw2, Result.andThen_ok]
        have : ((st == LoopState.busy) = true) = False := by simp [hnb]
        simp only [this, if_false, Sem.run_bind, hset, Result.andThen_ok, Sem.run_pure]
      have s3 := St.set (o := .loop .exhausted pend fn' sz tm ps' as' bd') s2.hr hget (by rw [hb2]; exact hturn) ⟨tm', ds2, rfl, hsz, htm⟩ h1.next
      refine ⟨c2, ⟨x.tmps, mark ++ x.defers⟩, w3, (s1.trans s2).trans s3, ⟨ha.size, (ha.tmps.le hle1).le hle2, ?_, fun d hd => (hle2 d (hle1 d (hds d hd)).1).1⟩, fun k cs => ?_⟩
      · show mark ++ x.defers = _
        rw [hmark]
        exact List.map_congr_left fun d hd => by rw [(hle2 d (hle1 d (hds d hd)).1).2.1, (hle1 d (hds d hd)).2.1]
      · have hst := st_range (P := P) (k := k) (cs := cs) hE hgo
        have hst2 : Steps P (lone (F.at x (.code (.rangeFunc f ⟨ps⟩ as bd) :: k)) cs w0) (lone (F.at ⟨x.tmps, mark ++ x.defers⟩ ((pend.map Item.code).toList ++ k)) cs w3) := .trans hst (.one (st_endRange hend))
        split at hj
        · subst hj; exact hst2
        · subst hj; exact ⟨k, hst2⟩
        · subst hj; exact ⟨k, rfl, hst2⟩
        · subst hj; exact ⟨k, rfl, hst2⟩
        · exact hj.elim
end Go.Eng
