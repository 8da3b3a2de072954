/-
  PROVED HERE: pieces inside a body: a loop's rounds, a block, a scope, a region's operations; a call's answer out of its body's pieces.
-/
import Derived.Test.YtlcladdlhllkcaaGreatDoorE27
namespace Go.Eng
set_option linter.unusedVariables false
set_option linter.unusedSimpArgs false
variable {P : Program}

/-- The machine's answer to a request. -/
def Answers (P : Program) (r : Req) (h : H) (v : Value) (h' : H) : Prop := h.next ≤ h'.next ∧ ∀ c w, Gl c → HR c h.t.get w → Free c h.next h'.next → ∀ s, ReqR c r s →
  ∃ c' w' v', St c h.t.get w c' h'.t.get w' h.next h'.next ∧ VR c' v v' ∧ Goes P s w v' w'
/-- More may lie in the first heap. -/
theorem Moves.more {fn : FuncId} {rd : Option Nat} {a a' : A} {h h' : H} {M : Fx → Act → World → Act → World → Prop} (m : Moves P fn rd a h a' h' M) {t : T O} (ht : ∀ i x, h.t.get i = some x → t.get i = some x) : Moves P fn rd a ⟨t, h.next⟩ a' h' M :=
  ⟨m.1, fun c w x F g H ha hF hR hfree => by
    have H' : HR c h.t.get w := ⟨fun i x hx => H.at_ i x (ht i x hx), fun i j x y hx hy => H.inj i j x y (ht i x hx) (ht j y hy)⟩
    obtain ⟨c', x', w', s, h2, h3⟩ := m.2 c w x F g H' ha hF hR hfree
    refine ⟨c', x', w', ⟨s.ext, s.hr, s.size, fun k hk hn => s.keep k hk fun i x hx => hn i x (ht i x hx), fun i x hx => ?_, s.os, s.tape, s.output, fun i l hav hi => ?_⟩, h2, h3⟩
    · rcases s.img i x hx with ⟨j, y, hj, hb⟩ | hb
      · exact .inl ⟨j, y, ht j y hj, hb⟩
      · exact .inr hb
    · obtain ⟨⟨m, hm⟩, e⟩ := s.ros i l hav hi
      exact ⟨⟨m, ht i _ hm⟩, e⟩⟩

/-! ### a loop's rounds -/
/-- From a round's beginning on. -/
def LeadsIn (P : Program) (fn : FuncId) (rd : Option Nat) (b : Code) (e : X) (a : A) (h : H) (a' : A) (h' : H) : Prop :=
  Moves P fn rd a h a' h' fun F x w x' w' => ∀ k cs, Arr P F (lone (F.at x (.code b :: .inLoop b :: k)) cs w) e x' w' k cs
theorem LeadsIn.step {fn : FuncId} {rd : Option Nat} {b : Code} {e : X} {a a1 a2 : A} {h h1 h2 : H} (m : Leads P fn rd b .normal a h a1 h1) (n : LeadsIn P fn rd b e a1 h1 a2 h2) : LeadsIn P fn rd b e a h a2 h2 :=
  Moves.then m n fun F x w x1 w1 x2 w2 p q k cs => Arr.of (Steps.trans (p (.inLoop b :: k) cs) (.one st_inLoop)) (q k cs)
theorem LeadsIn.last {fn : FuncId} {rd : Option Nat} {b : Code} {e : X} {a a1 : A} {h h1 : H} (he : e ≠ .normal) (m : Leads P fn rd b e a h a1 h1) : LeadsIn P fn rd b e a h a1 h1 :=
  Moves.mono m fun F x w x' w' p k cs => Arr.pass he (fun _ => rfl) (fun _ => rfl) (p (.inLoop b :: k) cs)
theorem Leads.loop {fn : FuncId} {rd : Option Nat} {b : Code} {e : X} {a a1 : A} {h h1 : H} (m : LeadsIn P fn rd b e a h a1 h1) : Leads P fn rd (.loop b) e a h a1 h1 :=
  Moves.mono m fun F x w x' w' p k cs => Arr.of (.one st_loop) (p k cs)
/-- n rounds. -/
noncomputable def timesE (f : A → H → R) (n : Nat) : A → H → R := Nat.rec (motive := fun _ => A → H → R) (fun a h => some (.normal, a, h)) (fun _ ih a h => thenE (f a h) ih) n
theorem LeadsIn.rounds {cl : Cl} (hcl : ClOK P cl) (hm : P.follows .mixedOrders = true) {fn : FuncId} {rd : Option Nat} {b : Code} {e : X} {a' a2 : A} {h' h2 : H} (n : LeadsIn P fn rd b e a' h' a2 h2) : ∀ (k : Nat) (a : A) (h h1 : H),
    timesE (codeE cl P fn rd b).1 k a h = some (.normal, a', h1) → h1.next = h'.next → (∀ i x, h'.t.get i = some x → h1.t.get i = some x) → LeadsIn P fn rd b e a h a2 h2
  | 0, a, h, h1, hr, hn, hs => by
    cases hr
    obtain ⟨t, nx⟩ := h
    simp only at hn
    subst hn
    exact Moves.more n hs
  | k + 1, a, h, h1, hr, hn, hs => by
    have hr' : thenE ((codeE cl P fn rd b).1 a h) (timesE (codeE cl P fn rd b).1 k) = some (.normal, a', h1) := hr
    unfold thenE at hr'
    split at hr'
    · rename_i a3 h3 hq
      exact LeadsIn.step ((codeE_ok hcl hm fn rd b).1 _ _ _ _ _ hq) (LeadsIn.rounds hcl hm n k a3 h3 h1 hr' hn hs)
    · rename_i hne
      exact absurd hr' (hne _ _)
theorem LeadsIn.times {cl : Cl} (hcl : ClOK P cl) (hm : P.follows .mixedOrders = true) {fn : FuncId} {rd : Option Nat} {b : Code} (k : Nat) (ids : List Nat) {e : X} {a a' a2 : A} {h h' h2 : H} (hr : onlyR ids (timesE (codeE cl P fn rd b).1 k a h) = some (.normal, a', h')) (n : LeadsIn P fn rd b e a' h' a2 h2) : LeadsIn P fn rd b e a h a2 h2 := by
  cases hq : timesE (codeE cl P fn rd b).1 k a h with
  | none => rw [hq] at hr; cases hr
  | some r =>
    obtain ⟨e1, a1, h1⟩ := r
    rw [hq] at hr
    obtain ⟨s, hs, hsub⟩ := only_ok h1.t ids .leaf (fun t => (some (e1, a1, (⟨t, h1.next⟩ : H)) : R)) (fun i x h => by rw [T.get_leaf] at h; cases h)
    have : some (e1, a1, (⟨s, h1.next⟩ : H)) = some (.normal, a', h') := hs.symm.trans hr
    cases this
    exact LeadsIn.rounds hcl hm n k a h h1 hq rfl hsub

/-! ### blocks, scopes -/
theorem Leads.block {fn : FuncId} {rd : Option Nat} {id : Nat} {b : Code} {a a1 : A} {h h1 : H} (m : Leads P fn rd b (.exit id) a h a1 h1) : Leads P fn rd (.block id b) .normal a h a1 h1 :=
  Moves.mono m fun F x w x' w' p k cs => by
    obtain ⟨kk, h3, h4⟩ := p (.inBlock id :: k) cs
    refine .head st_block (.trans h4 (.one (st_exit ?_)))
    rw [h3]
    simp [exitTo]
theorem Leads.scope {fn : FuncId} {rd : Option Nat} {b : Code} {a a1 : A} {h h1 : H} (m : Leads P fn rd b .ret a h a1 h1) : Leads P fn rd (.scope b) .ret a h a1 h1 :=
  Moves.mono m fun F x w x' w' p k cs => by
    obtain ⟨kk, h4⟩ := p (.inScope b :: k) cs
    exact ⟨kk, .head st_scope h4⟩

/-! ### a region's operations -/
/-- From operation i on. -/
def LeadsAt (P : Program) (fn : FuncId) (rd : Option Nat) (ops : Array Oper) (i : Nat) (a : A) (h : H) (a' : A) (h' : H) : Prop :=
  Moves P fn rd a h a' h' fun F x w x' w' => ∀ k cs, Steps P (lone (F.at x (.inRegion ops ((List.range ops.size).drop i) :: k)) cs w) (lone (F.at x' k) cs w')
theorem LeadsAt.of {cl : Cl} (hcl : ClOK P cl) {fn : FuncId} {rd : Option Nat} {ops : Array Oper} {i : Nat} {a a' : A} {h h' : H} (hr : regE cl P ops.toList (ops.toList.drop i) a h = some (a', h')) : LeadsAt P fn rd ops i a h a' h' := regE_ok hcl _ i a h a' h' hr rfl
theorem LeadsAt.acts {fn : FuncId} {rd : Option Nat} {ops : Array Oper} {i : Nat} {o : Oper} {a a1 a' : A} {h h1 h' : H} {v : Value} (ho : ops[i]? = some o) (hw : wantE ops.toList a o = some true)
    (hs : h.next ≤ h1.next ∧ ∀ (c : Cx) (w : World) (x : Act), Gl c → HR c h.t.get w → (∀ y, y ∈ o.op.operands → VR c (a.ev y) (x.eval y)) → Free c h.next h1.next → ∃ c' w' v', St c h.t.get w c' h1.t.get w' h.next h1.next ∧ VR c' v v' ∧ Goes P (execOp x.eval o) w v' w')
    (hp : a.put o.dst v = some a1) (n : LeadsAt P fn rd ops (i + 1) a1 h1 a' h') : LeadsAt P fn rd ops i a h a' h' := by
  obtain ⟨hle1, hstep⟩ := hs
  obtain ⟨hle2, ih⟩ := n
  have hi : i < ops.size := (Array.getElem?_eq_some_iff.1 ho).1
  refine ⟨Nat.le_trans hle1 hle2, fun c w x F g H ha hF hR hfree => ?_⟩
  have hw := want_ok hw fun _ _ _ d _ _ _ => ha.tmps d
  obtain ⟨c1, w1, v', s1, s2, s3⟩ := hstep c w x g H (fun y _ => ha.ev g y) (hfree.left hle2)
  have hc1 := s1.ext.toLe
  obtain ⟨c', x', w', t1, t2, t3⟩ := ih c1 w1 (x.put o.dst v') F (g.le hc1) s1.hr (put_ok hp (ha.le hc1) s2) hF (hR.le hc1) (hfree.right s1.ext)
  refine ⟨c', x', w', s1.trans t1, t2, fun k cs => ?_⟩
  rw [drop_range _ _ hi]
  exact .trans (goes_step ho hw s3) (t3 k cs)
theorem LeadsAt.step {cl : Cl} (hcl : ClOK P cl) {fn : FuncId} {rd : Option Nat} {ops : Array Oper} {i : Nat} {o : Oper} {a a1 a' : A} {h h1 h' : H} {v : Value} {k : K} (ho : ops[i]? = some o) (hw : wantE ops.toList a o = some true) (hs : stepE cl P a h o = some (v, h1, k))
    (hp : a.put o.dst v = some a1) (n : LeadsAt P fn rd ops (i + 1) a1 h1 a' h') : LeadsAt P fn rd ops i a h a' h' := .acts ho hw (stepE_ok hcl hs) hp n
theorem LeadsAt.call {fn : FuncId} {rd : Option Nat} {ops : Array Oper} {i : Nat} {o : Oper} {c : Call} {r : Req} {a a1 a' : A} {h h1 h' : H} {v : Value} (ho : ops[i]? = some o) (hop : o.op = .call c) (hw : wantE ops.toList a o = some true) (hr : reqE a c = some r) (hA : Answers P r h v h1)
    (hp : a.put o.dst v = some a1) (n : LeadsAt P fn rd ops (i + 1) a1 h1 a' h') : LeadsAt P fn rd ops i a h a' h' :=
  .acts ho hw ⟨hA.1, fun cx w x hg H ha hfree => by
    obtain ⟨s, hs, hrun⟩ := reqE_ok hr (fun y hy => ha y (by rw [hop]; exact hy)) o.type
    obtain ⟨c', w', v', h1, h2, h3⟩ := hA.2 cx w hg H hfree s hs
    refine ⟨c', w', v', h1, h2, h3.congr ?_⟩
    rw [← hrun w]
    obtain ⟨dst, op, type, pos, after, guard⟩ := o
    dsimp only at hop
    subst hop
    rfl⟩ hp n
theorem Leads.region {fn : FuncId} {rd : Option Nat} {id : Nat} {ops : Array Oper} {a a' : A} {h h' : H} (m : LeadsAt P fn rd ops 0 a h a' h') : Leads P fn rd (.region id ops false) .normal a h a' h' :=
  Moves.mono m fun F x w x' w' p k cs => .head st_region (by have := p k cs; rwa [List.drop_zero] at this)

/-! ### a call's answer -/
theorem Answers.fn {f : FuncId} {fn : Func} {b : Code} (hf : P.funcs[f]? = some fn) (hbd : fn.body = some b) (hn : (fn.name == "runtime.NumGoroutine") = false) {args : List Value} {a0 a1 : A} {h h1 h' : H} {e : X} {v : Value} (ha0 : a0 = ⟨Nat.max fn.ntmps args.length, layT args 0 .leaf id, []⟩)
    (hc : Leads P f none b e a0 h a1 h1) (he : e = .normal ∨ e = .ret) (hl : leaveE P fn a1 h1 = some (v, h')) : Answers P (.fn f args) h v h' := by
  subst ha0
  obtain ⟨t, e1, ht⟩ := layT_ok args 0 .leaf (id : T Value → T Value)
  rw [e1] at hc
  obtain ⟨hle, hrun⟩ := call_of (P := P) hf hbd (t := t) ht hc he hl
  refine ⟨hle, fun c w g H hfree s hs => ?_⟩
  cases hs with
  | fn _ hargs =>
    rename_i args'
    obtain ⟨c', w', v', x, s1, hv', hres, hst⟩ := hrun c w args' g H hfree hargs
    refine ⟨c', w', v', s1, hv', .enter f ⟨args'⟩ w ?_ fun caller cs => ?_⟩
    · have hp : (program).run P w = .ok P w := rfl
      simp only [callFunc, Sem.run_bind, hp, Result.andThen_ok, hf]
      simp at hn
      simp [hn, hbd]
    · obtain ⟨todo, h4⟩ := hst (caller :: cs)
      exact .trans h4 (.one (st_leave (F := ⟨f, none⟩) hf hres))

/-! ### the rules, over parts of a code that are named by where they lie -/
/-- what a scope, a block or a loop holds. -/
def into : Code → Code
  | .scope b => b
  | .block _ b => b
  | .loop b => b
  | c => c
def isScope : Code → Bool
  | .scope _ => true
  | _ => false
def isLoop : Code → Bool
  | .loop _ => true
  | _ => false
def blockOf : Code → Option Nat
  | .block id _ => some id
  | _ => none
def opsOf : Code → Array Oper
  | .region _ ops _ => ops
  | _ => #[]
def isPlain : Code → Bool
  | .region _ _ d => !d
  | _ => false
theorem Leads.scope' {fn : FuncId} {rd : Option Nat} {c : Code} {a a1 : A} {h h1 : H} (hc : isScope c = true) (m : Leads P fn rd (into c) .ret a h a1 h1) : Leads P fn rd c .ret a h a1 h1 := by
  cases c with
  | scope b => exact m.scope
  | _ => cases hc
theorem Leads.loop' {fn : FuncId} {rd : Option Nat} {c : Code} {e : X} {a a1 : A} {h h1 : H} (hc : isLoop c = true) (m : LeadsIn P fn rd (into c) e a h a1 h1) : Leads P fn rd c e a h a1 h1 := by
  cases c with
  | loop b => exact Leads.loop m
  | _ => cases hc
theorem Leads.block' {fn : FuncId} {rd : Option Nat} {c : Code} {id : Nat} {a a1 : A} {h h1 : H} (hc : blockOf c = some id) (m : Leads P fn rd (into c) (.exit id) a h a1 h1) : Leads P fn rd c .normal a h a1 h1 := by
  cases c with
  | block i b => cases hc; exact m.block
  | _ => cases hc
theorem Leads.region' {fn : FuncId} {rd : Option Nat} {c : Code} {a a1 : A} {h h1 : H} (hc : isPlain c = true) (m : LeadsAt P fn rd (opsOf c) 0 a h a1 h1) : Leads P fn rd c .normal a h a1 h1 := by
  cases c with
  | region i ops d => cases d with
    | false => exact Leads.region m
    | true => cases hc
  | _ => cases hc
/-- one operation by the evaluator. -/
noncomputable def stepAt (cl : Cl) (p : Program) (ops : Array Oper) (i : Nat) (a : A) (h : H) : Option (A × H) := match ops[i]? with
  | some o => match wantE ops.toList a o with
    | some true => match stepE cl p a h o with
      | some (v, h1, _) => match a.put o.dst v with
        | some a1 => some (a1, h1)
        | none => none
      | none => none
    | _ => none
  | none => none
theorem LeadsAt.step' {cl : Cl} (hcl : ClOK P cl) {fn : FuncId} {rd : Option Nat} {ops : Array Oper} {i : Nat} {a a1 a' : A} {h h1 h' : H} (hs : stepAt cl P ops i a h = some (a1, h1)) (n : LeadsAt P fn rd ops (i + 1) a1 h1 a' h') : LeadsAt P fn rd ops i a h a' h' := by
  unfold stepAt at hs
  split at hs
  · rename_i o ho
    split at hs
    · rename_i hw
      split at hs
      · rename_i v h2 k hst
        split at hs
        · rename_i a2 hp
          cases hs
          exact LeadsAt.step hcl ho hw hst hp n
        · cases hs
      · cases hs
    · cases hs
  · cases hs
/-- the call that stands at an operation, and where its value goes. -/
noncomputable def callAt (ops : Array Oper) (i : Nat) (a : A) : Option (Req × Option Tmp) := match ops[i]? with
  | some o => match wantE ops.toList a o with
    | some true => match o.op with
      | .call c => match reqE a c with
        | some r => some (r, o.dst)
        | none => none
      | _ => none
    | _ => none
  | none => none
theorem LeadsAt.call' {fn : FuncId} {rd : Option Nat} {ops : Array Oper} {i : Nat} {r : Req} {d : Option Tmp} {a a1 a' : A} {h h1 h' : H} {v : Value} (hq : callAt ops i a = some (r, d)) (hA : Answers P r h v h1)
    (hp : a.put d v = some a1) (n : LeadsAt P fn rd ops (i + 1) a1 h1 a' h') : LeadsAt P fn rd ops i a h a' h' := by
  unfold callAt at hq
  split at hq
  · rename_i o ho
    split at hq
    · rename_i hw
      split at hq
      · rename_i c hop
        split at hq
        · rename_i r' hr
          cases hq
          exact LeadsAt.call ho hop hw hr hA hp n
        · cases hq
      · cases hq
    · cases hq
  · cases hq
/-- less is kept. -/
theorem Leads.prune {fn : FuncId} {rd : Option Nat} {c : Code} {e : X} {a a' : A} {h h' h2 : H} (ids : List Nat) (m : Leads P fn rd c e a h a' h') (hq : onlyFrom h'.t ids .leaf (fun t => (⟨t, h'.next⟩ : H)) = h2) : Leads P fn rd c e a h a' h2 := by
  obtain ⟨s, hs, hsub⟩ := only_ok h'.t ids .leaf (fun t => (⟨t, h'.next⟩ : H)) (fun i x h => by rw [T.get_leaf] at h; cases h)
  rw [← hq, hs]
  exact Moves.less m hsub
end Go.Eng
