/-
  PROVED HERE: regions whose order is drawn: facts on a trace.
-/
import Derived.Test.YtlcladdlhllkcaaGreatDoorE15
namespace Go.Eng
set_option linter.unusedVariables false
set_option linter.unusedSimpArgs false
variable {P : Program}

theorem sameV_eq : ∀ (n : Nat) (x y : Value), sameV n x y = true → x = y
  | 0, _, _, h => by unfold sameV at h; cases h
  | n + 1, x, y, h => by
    have ih := sameV_eq n
    have hl : ∀ l m, sameV.sameL n l m = true → l = m := by
      intro l
      induction l with
      | nil => intro m h; cases m with
        | nil => rfl
        | cons _ _ => cases h
      | cons a l ihl => intro m h; cases m with
        | nil => cases h
        | cons b m =>
          simp only [sameV.sameL, Bool.and_eq_true] at h
          rw [ih _ _ h.1, ihl _ h.2]
    unfold sameV at h
    split at h
    · rename_i a b; cases a <;> cases b <;> first | rfl | cases h
    · simp only [Bool.and_eq_true, decide_eq_true_eq] at h; rw [h.1, h.2]
    · rfl
    · simp only [Bool.and_eq_true, Nat.beq_eq] at h; rw [h.1, h.2]
    · simp only [Bool.and_eq_true, Nat.beq_eq] at h; rw [h.1, h.2]
    · simp only [Bool.and_eq_true, Nat.beq_eq] at h; rw [h.1, h.2.1, h.2.2.1, h.2.2.2]
    · rfl
    · rename_i a b; rw [Nat.eq_of_beq_eq_true h]
    · rfl
    · rfl
    · rename_i a b
      have := of_decide_eq_true h
      congr 1
      cases a; cases b
      congr 1
      exact Array.ext' this
    · rw [hl _ _ h]
    · simp only [Bool.and_eq_true, Nat.beq_eq] at h; rw [h.1, hl _ _ h.2.1, hl _ _ h.2.2]
    · cases h
theorem sameL_eq : ∀ (l m : List Value), sameV.sameL 4 l m = true → l = m
  | [], [], _ => rfl
  | a :: l, b :: m, h => by
    simp only [sameV.sameL, Bool.and_eq_true] at h
    rw [sameV_eq _ _ _ h.1, sameL_eq _ _ h.2]
  | [], _ :: _, h => by cases h
  | _ :: _, [], h => by cases h
theorem sameE_eq : ∀ (l m : List E), sameE l m = true → l = m
  | [], [], _ => rfl
  | a :: l, b :: m, h => by
    simp only [sameE, Bool.and_eq_true] at h
    obtain ⟨h1, h2, h3, h4⟩ := h
    have h1 := sameV_eq _ _ _ h1
    have h2 := sameV_eq _ _ _ h2
    have h3 := Nat.eq_of_beq_eq_true h3
    rw [sameE_eq _ _ h4]
    cases a; cases b
    simp only at h1 h2 h3
    rw [h1, h2, h3]
  | [], _ :: _, h => by cases h
  | _ :: _, [], h => by cases h
theorem sameO_eq (x y : Option O) (h : sameO x y = true) : x = y := by
  unfold sameO at h
  split at h
  · rw [sameL_eq _ _ h]
  · rw [sameL_eq _ _ h]
  · simp only [Bool.and_eq_true, Nat.beq_eq] at h; rw [h.1, sameL_eq _ _ h.2]
  · simp only [Bool.and_eq_true, Nat.beq_eq] at h; rw [h.1, sameE_eq _ _ h.2]
  · cases h
theorem calm_eq {h h' : T O} : ∀ {l : List Nat}, calm h h' l = true → ∀ b, b ∈ l → h'.get b = h.get b
  | [], _, b, hb => by cases hb
  | x :: l, hc, b, hb => by
    simp only [calm, Bool.and_eq_true] at hc
    rcases List.mem_cons.1 hb with rfl | hb
    · exact (sameO_eq _ _ hc.1).symm
    · exact calm_eq hc.2 b hb
theorem lacks_ne {c : Nat} : ∀ {l : List Nat}, lacks c l = true → ∀ b, b ∈ l → b ≠ c
  | [], _, b, hb => by cases hb
  | x :: l, hc, b, hb => by
    unfold lacks at hc
    by_cases hx : Nat.beq c x = true
    · rw [hx] at hc; cases hc
    · have hx' : Nat.beq c x = false := by cases hq : Nat.beq c x; rfl; exact absurd hq hx
      rw [hx'] at hc
      rcases List.mem_cons.1 hb with rfl | hb
      · intro e; exact hx (by rw [Nat.beq_eq]; exact e.symm)
      · exact lacks_ne hc b hb
theorem nothing_eq {x : Option O} (h : nothing x = true) : x = none := by
  unfold nothing at h
  split at h
  · rfl
  · cases h

theorem step_kind {cl : Cl} {a : A} {h h' : H} {o : Oper} {v : Value} {k : K} (hs : stepE cl P a h o = some (v, h', k)) :
    (∀ r, k = .simple r → h' = h ∧ opE P a h.t h.next o.op o.type = some (v, .rd r)) ∧ (∀ c, k = .fresh c → c = h.next ∧ ∃ ob, opE P a h.t h.next o.op o.type = some (v, .new ob) ∧ h' = ⟨h.t.set c (some ob), h.next + 1⟩) := by
  unfold stepE at hs
  split at hs
  · rename_i v0 e hop
    cases hs
    cases e with
    | rd r => exact ⟨fun r' h => by cases h; exact ⟨rfl, hop⟩, fun c h => by cases h⟩
    | new ob => exact ⟨(fun r' h => by cases h), fun c hc => by cases hc; exact ⟨rfl, ob, hop, new_run _ _ _⟩⟩
    | _ => exact ⟨(fun r' h => by cases h), (fun c h => by cases h)⟩
  · split at hs
    · cases hs; exact ⟨(fun r' h => by cases h), (fun c h => by cases h)⟩
    · cases hs

/-- all that a trace of a whole region tells. -/
structure Full (cl : Cl) (P : Program) (ops : Array Oper) (t : Tr) : Prop where
  ok : ∀ j, j < ops.size → ∃ o, TrOK cl P ops t j o
section
variable {cl : Cl} {ops : Array Oper} {t : Tr}
theorem Full.next (hf : Full cl P ops t) (hcl : ClOK P cl) (i : Nat) (hi : i < ops.size) : (t.h i).next ≤ (t.h (i + 1)).next := by
  obtain ⟨o, ho⟩ := hf.ok i hi
  cases hw : t.w i with
  | false => rw [(ho.no hw).2]; exact Nat.le_refl _
  | true => exact (stepE_ok hcl (ho.yes hw)).1
theorem Full.mono (hf : Full cl P ops t) (hcl : ClOK P cl) {i j : Nat} (hij : i ≤ j) (hj : j ≤ ops.size) : (t.h i).next ≤ (t.h j).next := by
  induction j with
  | zero => have : i = 0 := by omega
            subst this; exact Nat.le_refl _
  | succ j ih =>
    rcases Nat.lt_or_ge i (j + 1) with h | h
    · exact Nat.le_trans (ih (by omega) (by omega)) (hf.next hcl j (by omega))
    · have : i = j + 1 := by omega
      subst this; exact Nat.le_refl _
/-- an operation that acts: it makes a block, or is heavy. -/
def Acts (t : Tr) (k : Nat) : Prop := t.w k = true ∧ ∀ r, t.k k ≠ .simple r
theorem Full.still (hf : Full cl P ops t) {k : Nat} (hk : k < ops.size) (h : ¬ Acts t k) : (t.h (k + 1)).t = (t.h k).t := by
  obtain ⟨o, ho⟩ := hf.ok k hk
  cases hw : t.w k with
  | false => rw [(ho.no hw).2]
  | true =>
    have : ∃ r, t.k k = .simple r := Classical.byContradiction fun hn => h ⟨hw, fun r hr => hn ⟨r, hr⟩⟩
    obtain ⟨r, hr⟩ := this
    rw [((step_kind (ho.yes hw)).1 r hr).1]
theorem Full.fresh (hf : Full cl P ops t) {k c : Nat} (hk : k < ops.size) (hw : t.w k = true) (h : t.k k = .fresh c) : c = (t.h k).next ∧ (t.h (k + 1)).next = c + 1 ∧ ∃ ob, (t.h (k + 1)).t = (t.h k).t.set c (some ob) := by
  obtain ⟨o, ho⟩ := hf.ok k hk
  obtain ⟨h1, ob, _, h3⟩ := (step_kind (ho.yes hw)).2 c h
  rw [h3]
  exact ⟨h1, by rw [h1], ob, rfl⟩
/-- nothing turns at b from p to q, if nothing acts on b there. -/
theorem Full.chain (hf : Full cl P ops t) {b p q : Nat} (hpq : p ≤ q) (hq : q ≤ ops.size) (h : ∀ k, p ≤ k → k < q → Acts t k → (t.h (k + 1)).t.get b = (t.h k).t.get b) : (t.h q).t.get b = (t.h p).t.get b := by
  induction q with
  | zero => have : p = 0 := by omega
            subst this; rfl
  | succ q ih =>
    rcases Nat.lt_or_ge p (q + 1) with hlt | hge
    · rw [← ih (by omega) (by omega) (fun k a b => h k a (by omega))]
      by_cases ha : Acts t q
      · exact h q (by omega) (by omega) ha
      · rw [hf.still (by omega) ha]
    · have : p = q + 1 := by omega
      subst this; rfl
theorem Full.fresh_ne (hf : Full cl P ops t) {k c b : Nat} (hk : k < ops.size) (hw : t.w k = true) (h : t.k k = .fresh c) (hb : b ≠ c) : (t.h (k + 1)).t.get b = (t.h k).t.get b := by
  obtain ⟨_, _, ob, h3⟩ := hf.fresh hk hw h
  rw [h3, T.get_set, if_neg hb]
/-- an operation that acts, beside one that only reads b, not held to an order, leaves b. -/
theorem Full.apart1 (hf : Full cl P ops t) {i k b : Nat} {r : List Nat} (hi : i < ops.size) (hk : k < i) (hw : t.w i = true) (hr : t.k i = .simple r) (hb : b ∈ r) (ha : Acts t k) (hu : Nat.testBit (t.b i) k = false) : (t.h (k + 1)).t.get b = (t.h k).t.get b := by
  obtain ⟨o, ho⟩ := hf.ok i hi
  have hg := ho.goes k hk hw ha.1
  unfold goesWith at hg
  simp only [hu, hr] at hg
  cases hkk : t.k k with
  | simple s => exact absurd hkk (ha.2 s)
  | fresh c =>
    rw [hkk] at hg
    exact hf.fresh_ne (by omega) ha.1 hkk (lacks_ne hg b hb)
  | heavy =>
    rw [hkk] at hg
    exact calm_eq hg b hb
theorem Full.apart2 (hf : Full cl P ops t) {i k b : Nat} {r : List Nat} (hk : k < ops.size) (hik : i < k) (hw : t.w i = true) (hr : t.k i = .simple r) (hb : b ∈ r) (ha : Acts t k) (hu : Nat.testBit (t.b k) i = false) :
    (t.h (k + 1)).t.get b = (t.h k).t.get b ∧ ∀ c, t.k k = .fresh c → b ≠ c := by
  obtain ⟨o, ho⟩ := hf.ok k hk
  have hg := ho.goes i hik ha.1 hw
  unfold goesWith at hg
  simp only [hu, hr] at hg
  cases hkk : t.k k with
  | simple s => exact absurd hkk (ha.2 s)
  | fresh c =>
    rw [hkk] at hg
    have := lacks_ne hg b hb
    exact ⟨hf.fresh_ne hk ha.1 hkk this, fun c' h => by cases h; exact this⟩
  | heavy =>
    rw [hkk] at hg
    exact ⟨calm_eq hg b hb, fun c' h => by cases h⟩
/-- ahead of a heavy operation all stand in order that act. -/
theorem Full.heavy (hf : Full cl P ops t) {i k : Nat} (hi : i < ops.size) (hk : k < i) (hw : t.w i = true) (hh : t.k i = .heavy) (ha : Acts t k) : Nat.testBit (t.b i) k = true := by
  obtain ⟨o, ho⟩ := hf.ok i hi
  have hg := ho.goes k hk hw ha.1
  cases hu : Nat.testBit (t.b i) k with
  | true => rfl
  | false =>
    unfold goesWith at hg
    simp only [hu, hh] at hg
    cases hkk : t.k k with
    | simple s => exact absurd hkk (ha.2 s)
    | fresh c => rw [hkk] at hg; cases hg
    | heavy => rw [hkk] at hg; cases hg
/-- a block that is made behind a heavy operation, not held to an order, is not there yet. -/
theorem Full.later (hf : Full cl P ops t) {i k c : Nat} (hk : k < ops.size) (hik : i < k) (hw : t.w i = true) (hh : t.k i = .heavy) (hwk : t.w k = true) (hc : t.k k = .fresh c) (hu : Nat.testBit (t.b k) i = false) : (t.h i).t.get c = none ∧ (t.h (i + 1)).t.get c = none := by
  obtain ⟨o, ho⟩ := hf.ok k hk
  have hg := ho.goes i hik hwk hw
  unfold goesWith at hg
  simp only [hu, hh, hc, Bool.and_eq_true] at hg
  exact ⟨nothing_eq hg.1, nothing_eq hg.2⟩
/-- who wrote a temporary last, of those ahead of i. -/
theorem Full.last (hf : Full cl P ops t) (d : Nat) : ∀ i, i ≤ ops.size → (∃ j o, j < i ∧ ops[j]? = some o ∧ o.dst = some d ∧ t.v j = (t.a i).get d ∧ ∀ j' o', j' < i → ops[j']? = some o' → o'.dst = some d → j' ≤ j) ∨ ((∀ j o, j < i → ops[j]? = some o → o.dst ≠ some d) ∧ (t.a i).get d = (t.a 0).get d)
  | 0, _ => .inr ⟨fun j o h => by omega, rfl⟩
  | i + 1, hi => by
    obtain ⟨o, ho⟩ := hf.ok i (by omega)
    have hput := ho.put
    unfold A.put at hput
    have ih := Full.last hf d i (by omega)
    have other : (∀ e, o.dst = some e → e ≠ d) → (t.a (i + 1)).get d = (t.a i).get d := by
      intro hne
      split at hput
      · rw [← Option.some.inj hput]
      · rename_i e hde
        split at hput
        · rw [force_eq, T.setK_eq] at hput
          rw [← Option.some.inj hput]
          simp only [A.get, T.get_set]
          rw [if_neg (Ne.symm (hne e hde))]
        · cases hput
    by_cases hd : o.dst = some d
    · rw [hd] at hput
      dsimp only at hput
      split at hput
      · rw [force_eq, T.setK_eq] at hput
        refine .inl ⟨i, o, by omega, ho.op, hd, ?_, fun j' o' hj' _ _ => by omega⟩
        rw [← Option.some.inj hput]
        simp only [A.get, T.get_set, if_true, Option.getD_some]
      · cases hput
    · have ho2 := other fun e he hed => hd (hed ▸ he)
      rcases ih with ⟨j, oj, h1, h2, h3, h4, h5⟩ | ⟨h1, h2⟩
      · refine .inl ⟨j, oj, by omega, h2, h3, by rw [ho2]; exact h4, fun j' o' hj' ho' hd' => ?_⟩
        rcases Nat.lt_or_ge j' i with hlt | hge
        · exact h5 j' o' hlt ho' hd'
        · have : j' = i := by omega
          subst this
          rw [ho.op] at ho'
          cases ho'
          exact absurd hd' hd
      · refine .inr ⟨fun j oj hj hoj => ?_, by rw [ho2]; exact h2⟩
        rcases Nat.lt_or_ge j i with hlt | hge
        · exact h1 j oj hlt hoj
        · have : j = i := by omega
          subst this
          rw [ho.op] at hoj
          cases hoj
          exact hd
end
end Go.Eng
