/-
  PROVED HERE: regions whose order is drawn: one operation more, whatever it is.
-/
import Derived.Test.YtlcladdlhllkcaaGreatDoorE18
namespace Go.Eng
set_option linter.unusedVariables false
set_option linter.unusedSimpArgs false
variable {P : Program}
section
variable {cl : Cl} {ops : Array Oper} {t : Tr} {c0 : Cx} {w0 : World} {x0 : Act} {X : Nat → Prop} {m : Nat} {C : Nat → Option O} {c : Cx} {x : Act} {w : World}

/-- the parts of Inv that speak of which operations have been carried out. -/
theorem Inv.closedX (I : Inv t ops c0 w0 x0 X m C c x w) {i : Nat} {o : Oper} (r : Ready ops X i o) : ∀ j o', j < ops.size → (X j ∨ j = i) → ops[j]? = some o' → ∀ e, e ∈ o'.after → Region.binds .any e = true → (X e.on ∨ e.on = i) := by
  intro j o' hj hX ho' e he hb
  rcases hX with hX | rfl
  · exact .inl (I.closed j o' hj hX ho' e he hb)
  · rw [r.op] at ho'; cases ho'; exact .inl (r.all e he hb)
theorem Inv.avX (I : Inv t ops c0 w0 x0 X m C c x w) {i : Nat} {o : Oper} (r : Ready ops X i o) {c' : Cx} (h : ∀ q, c'.av q ↔ c.av q ∨ ((t.h i).next ≤ q ∧ q < (t.h (i + 1)).next)) :
    ∀ q, c'.av q ↔ c0.av q ∨ ∃ j, j < ops.size ∧ (X j ∨ j = i) ∧ (t.h j).next ≤ q ∧ q < (t.h (j + 1)).next := by
  intro q
  rw [h, I.av]
  constructor
  · rintro ((h | ⟨j, a1, a2, a3⟩) | h)
    · exact .inl h
    · exact .inr ⟨j, a1, .inl a2, a3⟩
    · exact .inr ⟨i, r.lt, .inr rfl, h⟩
  · rintro (h | ⟨j, a1, a2 | rfl, a3⟩)
    · exact .inl (.inl h)
    · exact .inl (.inr ⟨j, a1, a2, a3⟩)
    · exact .inr a3
theorem Inv.step (I : Inv t ops c0 w0 x0 X m C c x w) (hf : Full cl P ops t) (hcl : ClOK P cl) (hg : Gl c0) (hfree : Free c0 (t.h 0).next (t.h ops.size).next) {i : Nat} {o : Oper} (r : Ready ops X i o) :
    ∃ m' C' c' x' w', Inv t ops c0 w0 x0 (fun j => X j ∨ j = i) m' C' c' x' w' ∧ ∀ (F : Fx) (k : List Item) (cs : List Frame) (rest : List Nat), Steps P (lone (F.at x (.inRegion ops (i :: rest) :: k)) cs w) (lone (F.at x' (.inRegion ops rest :: k)) cs w') := by
  have hi := r.lt
  have g := hg.le I.le
  obtain ⟨o', ho⟩ := hf.ok i hi
  have : o' = o := by have := ho.op; rw [r.op] at this; cases this; rfl
  subst this
  have hwant := I.wanted hf r
  have hfr := I.free hf hcl hfree r
  have hout0 := hf.mono hcl (Nat.zero_le i) (Nat.le_of_lt hi)
  have hout1 := hf.mono hcl (i := i + 1) (j := ops.size) hi (Nat.le_refl _)
  cases hw : t.w i with
  | false =>
    obtain ⟨hv, hh⟩ := ho.no hw
    obtain ⟨p1, p2, p3⟩ := I.putX hf r (Le.refl c) (v' := undef) (by rw [hv]; exact VR.undef c)
    have hna : ∀ k, Acts t k → k ≠ i := fun k hk e => by subst e; rw [hk.1] at hw; cases hw
    refine ⟨m, C, c, x.put o'.dst undef, w, ⟨I.le, I.avX r (fun q => by rw [hh]; exact ⟨.inl, fun h => h.elim id fun h => by omega⟩), I.out, p1, p2, I.asize, p3, I.sd, I.closedX r, I.mle, fun k a b => .inl (I.m1 k a b), fun k a b c d e => ?_, fun k b a1 a2 a3 a4 a5 => ?_, fun b hb => ?_⟩, fun F k cs rest => ?_⟩
    · rcases e with e | rfl
      · exact I.m2 k a b c d e
      · rw [c] at hw; cases hw
    · rcases a3 with a3 | rfl
      · exact I.c1 k b a1 a2 a3 a4 a5
      · rw [a4] at hw; cases hw
    · exact I.c2 b fun k b' a1 a2 a3 a4 a5 => hb k b' a1 a2 (.inl a3) a4 a5
    · have := st_op_skip (P := P) (F := F) (x := x) (k := k) (cs := cs) (w := w) (ops := ops) (i := i) (rest := rest) (by rw [r.op]; simp only [Option.map_some, Option.getD_some]; rw [hwant, hw])
      rw [r.op] at this
      exact .one this
  | true =>
    rw [hw] at hwant
    have hst := ho.yes hw
    cases hk : t.k i with
    | simple rs =>
      obtain ⟨hh, hop⟩ := (step_kind hst).1 rs hk
      have hres := op_res (w := w) hop (I.ev hf g r)
      have : ∃ v', VR c (t.v i) v' ∧ (execOp x.eval o').run P w = .ok (.value v') w := by
        cases hres with
        | rd r2 he hs => cases he; exact hs C I.sd.hr fun b hb => I.reads hf hcl r hw hk hb
        | new _ he => cases he
        | act he => cases he
        | turn _ _ he => cases he
      obtain ⟨v', hv, hrun⟩ := this
      obtain ⟨p1, p2, p3⟩ := I.putX hf r (Le.refl c) hv
      refine ⟨m, C, c, x.put o'.dst v', w, ⟨I.le, I.avX r (fun q => by rw [hh]; exact ⟨.inl, fun h => h.elim id fun h => by omega⟩), I.out, p1, p2, I.asize, p3, I.sd, I.closedX r, I.mle, fun k a b => .inl (I.m1 k a b), fun k a b c d e => ?_, fun k b a1 a2 a3 a4 a5 => ?_, fun b hb => ?_⟩, fun F k cs rest => ?_⟩
      · rcases e with e | rfl
        · exact I.m2 k a b c d e
        · rw [d] at hk; cases hk
      · rcases a3 with a3 | rfl
        · exact I.c1 k b a1 a2 a3 a4 a5
        · rw [a5] at hk; cases hk
      · exact I.c2 b fun k b' a1 a2 a3 a4 a5 => hb k b' a1 a2 (.inl a3) a4 a5
      · exact goes_step r.op hwant (.value hrun)
    | fresh b0 =>
      obtain ⟨hb0, ob, hop, hh⟩ := (step_kind hst).2 b0 hk
      have hres := op_res (w := w) hop (I.ev hf g r)
      have hn : ¬ c.av b0 := hfr b0 (by omega) (by rw [hh]; simp only; omega)
      have : ∃ w' obj v', (execOp x.eval o').run P w = .ok (.value v') w' ∧ Made w w' obj ∧ OR (c.put b0 w.heap.size 0 0 0) b0 ob (some obj) ∧ VR (c.put b0 w.heap.size 0 0 0) (t.v i) v' := by
        cases hres with
        | rd r2 he hs => cases he
        | new o2 he hs => cases he; rw [← hb0] at hs; exact hs hn
        | act he => cases he
        | turn _ _ he => cases he
      obtain ⟨w', obj, v', hrun, hmade, hor, hv⟩ := this
      have hext := c.put_ext b0 w.heap.size 0 0 0 hn
      have hle := hext.toLe
      obtain ⟨p1, p2, p3⟩ := I.putX hf r hle hv
      have hmi : m ≤ i := by
        rcases Nat.lt_or_ge i m with h | h
        · exact absurd (I.m1 i h ⟨hw, fun s hs => by rw [hk] at hs; cases hs⟩) r.no
        · exact h
      have hobj : (t.h (i + 1)).t.get b0 = some ob := by rw [hh]; simp only [T.get_set, if_true]
      refine ⟨m, fun b => if b = b0 then some ob else C b, c.put b0 w.heap.size 0 0 0, x.put o'.dst v', w', ⟨I.le.trans hle, I.avX r (fun q => by
          rw [hext.av]
          have e1 : (t.h (i + 1)).next = b0 + 1 := by rw [hh]; simp only; omega
          rw [e1, ← hb0]), fun q hq => ?_, p1, p2, I.asize, p3, ?_, I.closedX r, I.mle, fun k a b => .inl (I.m1 k a b), fun k a b c d e => ?_, fun k b a1 a2 a3 a4 a5 => ?_, fun b hb => ?_⟩, fun F k cs rest => ?_⟩
      · obtain ⟨q1, q2, q3, q4⟩ := I.out q hq
        have hqb : q ≠ b0 := by
          have e1 : (t.h (i + 1)).next = b0 + 1 := by rw [hh]; simp only; omega
          omega
        simp only [Cx.put, hqb, if_false]
        exact ⟨q1, q2, q3, q4⟩
      · refine Sd.trans I.le I.sd (Sd.newF I.sd.hr hn hmade hor fun j y hy => ?_)
        split at hy
        · rename_i hj; cases hy; exact .inl ⟨hj, rfl⟩
        · rename_i hj; exact .inr ⟨hj, hy⟩
      · rcases e with e | rfl
        · exact I.m2 k a b c d e
        · rw [d] at hk; cases hk
      · rcases a3 with a3 | rfl
        · have hne : b ≠ b0 := by
            rcases Nat.lt_or_ge k i with hlt | hge
            · have := hf.fresh_lt hcl hlt hi a4 a5 hw hk; omega
            · have hki : i ≠ k := fun e => r.no (e ▸ a3)
              have := hf.fresh_lt hcl (j := i) (k := k) (by omega) a2 hw hk a4 a5; omega
          rw [if_neg hne]
          exact I.c1 k b a1 a2 a3 a4 a5
        · rw [hk] at a5; cases a5
          rw [if_pos rfl, hobj]
      · have hne : b ≠ b0 := fun e => hb i b0 hmi hi (.inr rfl) hw hk e.symm
        rw [if_neg hne]
        exact I.c2 b fun k b' a1 a2 a3 a4 a5 => hb k b' a1 a2 (.inl a3) a4 a5
      · exact goes_step r.op hwant (.value hrun)
    | heavy =>
      obtain ⟨s1, s2, s3, s4⟩ := I.sees hf hcl r hw hk
      have H : HR c (t.h i).t.get w := ⟨fun j y hy => I.sd.hr.at_ j y (s4 j y hy), fun j j' y y' hy hy' => I.sd.hr.inj j j' y y' (s4 j y hy) (s4 j' y' hy')⟩
      obtain ⟨hle0, hstep⟩ := stepE_ok hcl hst
      obtain ⟨c', w', v', hst2, hv, hgoes⟩ := hstep c w x g H (I.ev hf g r) hfr
      have hle := hst2.ext.toLe
      obtain ⟨p1, p2, p3⟩ := I.putX hf r hle hv
      let C' : Nat → Option O := fun b => @ite _ (∃ k, i + 1 ≤ k ∧ k < ops.size ∧ X k ∧ t.w k = true ∧ t.k k = .fresh b) (Classical.propDecidable _) (C b) ((t.h (i + 1)).t.get b)
      have hC1 : ∀ b, (∃ k, i + 1 ≤ k ∧ k < ops.size ∧ X k ∧ t.w k = true ∧ t.k k = .fresh b) → C' b = C b := fun b h => by show @ite _ _ (Classical.propDecidable _) _ _ = _; rw [if_pos h]
      have hC2 : ∀ b, ¬ (∃ k, i + 1 ≤ k ∧ k < ops.size ∧ X k ∧ t.w k = true ∧ t.k k = .fresh b) → C' b = (t.h (i + 1)).t.get b := fun b h => by show @ite _ _ (Classical.propDecidable _) _ _ = _; rw [if_neg h]
      refine ⟨i + 1, C', c', x.put o'.dst v', w', ⟨I.le.trans hle, I.avX r hst2.ext.av, fun q hq => ?_, p1, p2, I.asize, p3, ?_, I.closedX r, hi, fun k a b => ?_, fun k a b c d e => ?_, fun k b a1 a2 a3 a4 a5 => ?_, fun b hb => ?_⟩, fun F k cs rest => goes_step r.op hwant hgoes⟩
      · obtain ⟨q1, q2, q3, q4⟩ := I.out q hq
        obtain ⟨u1, u2, u3, u4⟩ := hst2.ext.same q (by omega)
        exact ⟨u1.trans q1, u2.trans q2, u3.trans q3, u4.trans q4⟩
      · refine Sd.trans I.le I.sd (Sd.frame I.sd.hr s4 hst2 fun j y hy => ?_)
        by_cases h : ∃ k, i + 1 ≤ k ∧ k < ops.size ∧ X k ∧ t.w k = true ∧ t.k k = .fresh j
        · rw [hC1 j h] at hy
          obtain ⟨k, a1, a2, a3, a4, a5⟩ := h
          exact .inr ⟨(s3 k j (by omega) a2 a3 a4 a5).1, hy⟩
        · rw [hC2 j h] at hy
          exact .inl hy
      · rcases Nat.lt_or_ge k i with hlt | hge
        · exact .inl (s2 k hlt b)
        · exact .inr (by omega)
      · rcases e with e | rfl
        · have hki : i < k := a
          have := hf.heavy b hki c d ⟨hw, fun s hs => by rw [hk] at hs; cases hs⟩
          rw [I.behind hf r b e] at this; cases this
        · omega
      · have a3' : X k := by
          rcases a3 with a3 | rfl
          · exact a3
          · omega
        rw [hC1 b ⟨k, a1, a2, a3', a4, a5⟩]
        exact I.c1 k b (by omega) a2 a3' a4 a5
      · exact hC2 b fun ⟨k, a1, a2, a3, a4, a5⟩ => hb k b a1 a2 (.inl a3) a4 a5 rfl
end
end Go.Eng
