/-
  PROVED HERE: regions whose order is drawn: one operation more.
-/
import Derived.Test.YtlcladdlhllkcaaGreatDoorE17
namespace Go.Eng
set_option linter.unusedVariables false
set_option linter.unusedSimpArgs false
variable {P : Program}
section
variable {cl : Cl} {ops : Array Oper} {t : Tr} {c0 : Cx} {w0 : World} {x0 : Act} {X : Nat → Prop} {m : Nat} {C : Nat → Option O} {c : Cx} {x : Act} {w : World}

theorem Inv.free (I : Inv t ops c0 w0 x0 X m C c x w) (hf : Full cl P ops t) (hcl : ClOK P cl) (hfree : Free c0 (t.h 0).next (t.h ops.size).next) {i : Nat} {o : Oper} (r : Ready ops X i o) : Free c (t.h i).next (t.h (i + 1)).next := by
  intro q h1 h2 hav
  have hi := r.lt
  have a1 := hf.mono hcl (Nat.zero_le i) (Nat.le_of_lt hi)
  have a2 := hf.mono hcl (i := i + 1) (j := ops.size) hi (Nat.le_refl _)
  rcases (I.av q).1 hav with h | ⟨j, hj, hX, h3, h4⟩
  · exact hfree q (by omega) (by omega) h
  · rcases Nat.lt_or_ge j i with hlt | hge
    · have := hf.mono hcl (i := j + 1) (j := i) hlt (Nat.le_of_lt hi)
      omega
    · rcases Nat.lt_or_ge i j with hlt | hge2
      · have := hf.mono hcl (i := i + 1) (j := j) hlt (Nat.le_of_lt hj)
        omega
      · have : j = i := by omega
        subst this
        exact r.no hX
/-- two blocks that are made are two. -/
theorem Full.fresh_lt (hf : Full cl P ops t) (hcl : ClOK P cl) {j k b b' : Nat} (hjk : j < k) (hk : k < ops.size) (h1 : t.w j = true) (h2 : t.k j = .fresh b) (h3 : t.w k = true) (h4 : t.k k = .fresh b') : b < b' := by
  obtain ⟨e1, e2, _⟩ := hf.fresh (by omega) h1 h2
  obtain ⟨e3, e4, _⟩ := hf.fresh hk h3 h4
  have := hf.mono hcl (i := j + 1) (j := k) hjk (by omega)
  omega
/-- where a block that has been made, and where one that was there, stands in the canonical run at q, if all that acts on the way is known to leave it. -/
theorem Inv.content (I : Inv t ops c0 w0 x0 X m C c x w) (hf : Full cl P ops t) (hcl : ClOK P cl) {q b : Nat} (hq : q ≤ ops.size) (hmq : m ≤ q)
    (hheavy : ∀ k, m ≤ k → k < q → t.w k = true → t.k k = .heavy → (t.h (k + 1)).t.get b = (t.h k).t.get b)
    (hno : ∀ k b', m ≤ k → k < q → t.w k = true → t.k k = .fresh b' → ¬ X k → b' ≠ b)
    (hlate : ∀ k b', q ≤ k → k < ops.size → X k → t.w k = true → t.k k = .fresh b' → b' ≠ b) : C b = (t.h q).t.get b := by
  by_cases h : ∃ k, m ≤ k ∧ k < ops.size ∧ X k ∧ t.w k = true ∧ t.k k = .fresh b
  · obtain ⟨k, h1, h2, h3, h4, h5⟩ := h
    rw [I.c1 k b h1 h2 h3 h4 h5]
    rcases Nat.lt_or_ge k q with hkq | hkq
    · symm
      refine hf.chain hkq hq fun k' a1 a2 a3 => ?_
      cases hk' : t.k k' with
      | simple s => exact absurd hk' (a3.2 s)
      | heavy => exact hheavy k' (by omega) a2 a3.1 hk'
      | fresh b' =>
        have := hf.fresh_lt hcl (j := k) (k := k') (by omega) (by omega) h4 h5 a3.1 hk'
        exact hf.fresh_ne (by omega) a3.1 hk' (by omega)
    · exact absurd rfl (hlate k b hkq h2 h3 h4 h5)
  · rw [I.c2 b fun k b' a1 a2 a3 a4 a5 e => h ⟨k, a1, a2, a3, a4, e ▸ a5⟩]
    symm
    refine hf.chain hmq hq fun k' a1 a2 a3 => ?_
    cases hk' : t.k k' with
    | simple s => exact absurd hk' (a3.2 s)
    | heavy => exact hheavy k' a1 a2 a3.1 hk'
    | fresh b' =>
      refine hf.fresh_ne (by omega) a3.1 hk' fun e => ?_
      by_cases hX : X k'
      · exact h ⟨k', a1, by omega, hX, a3.1, e ▸ hk'⟩
      · exact hno k' b' a1 a2 a3.1 hk' hX e.symm
theorem Inv.reads (I : Inv t ops c0 w0 x0 X m C c x w) (hf : Full cl P ops t) (hcl : ClOK P cl) {i : Nat} {o : Oper} (r : Ready ops X i o) (hw : t.w i = true) {rs : List Nat} (hk : t.k i = .simple rs) {b : Nat} (hb : b ∈ rs) : C b = (t.h i).t.get b := by
  have hi := r.lt
  have early : ∀ k, k < i → Acts t k → ¬ X k → (t.h (k + 1)).t.get b = (t.h k).t.get b := fun k h1 h2 h3 => by
    refine hf.apart1 hi h1 hw hk hb h2 ?_
    cases hbit : Nat.testBit (t.b i) k with
    | false => rfl
    | true => exact absurd (I.ready hf r hbit) h3
  have late : ∀ k, i < k → k < ops.size → Acts t k → X k → (t.h (k + 1)).t.get b = (t.h k).t.get b ∧ ∀ c, t.k k = .fresh c → b ≠ c := fun k h1 h2 h3 h4 =>
    hf.apart2 h2 h1 hw hk hb h3 (I.behind hf r h2 h4)
  have lateF : ∀ k b', i ≤ k → k < ops.size → X k → t.w k = true → t.k k = .fresh b' → b' ≠ b := fun k b' h1 h2 h3 h4 h5 e => by
    have hki : i ≠ k := fun e => r.no (e ▸ h3)
    exact (late k (by omega) h2 ⟨h4, fun s hs => by rw [h5] at hs; cases hs⟩ h3).2 b' h5 e.symm
  rcases Nat.lt_or_ge i m with him | hmi
  · have hm := I.mle
    rw [I.content hf hcl (q := m) (b := b) hm (Nat.le_refl _) (fun k a1 a2 => by omega) (fun k b' a1 a2 => by omega) (fun k b' h1 h2 h3 h4 h5 => lateF k b' (by omega) h2 h3 h4 h5)]
    refine hf.chain (Nat.le_of_lt him) hm fun k a1 a2 a3 => ?_
    have hX := I.m1 k a2 a3
    have hki : i ≠ k := fun e => r.no (e ▸ hX)
    exact (late k (by omega) (by omega) a3 hX).1
  · refine I.content hf hcl (Nat.le_of_lt hi) hmi (fun k a1 a2 a3 a4 => ?_) (fun k b' a1 a2 a3 a4 a5 e => ?_) lateF
    · exact early k a2 ⟨a3, fun s hs => by rw [a4] at hs; cases hs⟩ (I.m2 k a1 (by omega) a3 a4)
    · have hac : Acts t k := ⟨a3, fun s hs => by rw [a4] at hs; cases hs⟩
      have hu : Nat.testBit (t.b i) k = false := by
        cases hbit : Nat.testBit (t.b i) k with
        | false => rfl
        | true => exact absurd (I.ready hf r hbit) a5
      obtain ⟨o', ho'⟩ := hf.ok i hi
      have hg := ho'.goes k a2 hw a3
      unfold goesWith at hg
      simp only [hu, hk, a4] at hg
      exact lacks_ne hg b hb e.symm
theorem Inv.sees (I : Inv t ops c0 w0 x0 X m C c x w) (hf : Full cl P ops t) (hcl : ClOK P cl) {i : Nat} {o : Oper} (r : Ready ops X i o) (hw : t.w i = true) (hk : t.k i = .heavy) :
    m ≤ i ∧ (∀ k, k < i → Acts t k → X k) ∧ (∀ k b', i ≤ k → k < ops.size → X k → t.w k = true → t.k k = .fresh b' → (t.h i).t.get b' = none ∧ (t.h (i + 1)).t.get b' = none) ∧ ∀ b v, (t.h i).t.get b = some v → C b = some v := by
  have hi := r.lt
  have hac : Acts t i := ⟨hw, fun s hs => by rw [hk] at hs; cases hs⟩
  have h1 : m ≤ i := by
    rcases Nat.lt_or_ge i m with h | h
    · exact absurd (I.m1 i h hac) r.no
    · exact h
  have h2 : ∀ k, k < i → Acts t k → X k := fun k a1 a2 => I.ready hf r (hf.heavy hi a1 hw hk a2)
  have h3 : ∀ k b', i ≤ k → k < ops.size → X k → t.w k = true → t.k k = .fresh b' → (t.h i).t.get b' = none ∧ (t.h (i + 1)).t.get b' = none := fun k b' a1 a2 a3 a4 a5 => by
    have hki : i ≠ k := fun e => r.no (e ▸ a3)
    exact hf.later a2 (by omega) hw hk a4 a5 (I.behind hf r a2 a3)
  refine ⟨h1, h2, h3, fun b v hb => ?_⟩
  rw [I.content hf hcl (q := i) (b := b) (Nat.le_of_lt hi) h1 (fun k a1 a2 a3 a4 => ?_) (fun k b' a1 a2 a3 a4 a5 => ?_) (fun k b' a1 a2 a3 a4 a5 e => ?_)]
  · exact hb
  · exact absurd (h2 k a2 ⟨a3, fun s hs => by rw [a4] at hs; cases hs⟩) (I.m2 k a1 (by omega) a3 a4)
  · exact absurd (h2 k a2 ⟨a3, fun s hs => by rw [a4] at hs; cases hs⟩) a5
  · rw [← e, (h3 k b' a1 a2 a3 a4 a5).1] at hb; cases hb
end
end Go.Eng
