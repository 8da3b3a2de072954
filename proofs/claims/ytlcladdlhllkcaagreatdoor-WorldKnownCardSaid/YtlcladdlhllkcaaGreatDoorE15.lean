/-
  PROVED HERE: regions whose order is drawn: what the canonical run tells (its trace).
-/
import Derived.Test.YtlcladdlhllkcaaGreatDoorE14
namespace Go.Eng
set_option linter.unusedVariables false
set_option linter.unusedSimpArgs false
variable {P : Program}

/-- A canonical run of a region's operations: heaps and temporaries ahead of each, its value, how it acted, whether it was carried out, what stands ahead of it. -/
structure Tr where
  h : Nat → H
  a : Nat → A
  v : Nat → Value
  k : Nat → K
  w : Nat → Bool
  b : Nat → Nat
structure TrOK (cl : Cl) (P : Program) (ops : Array Oper) (t : Tr) (i : Nat) (o : Oper) : Prop where
  op : ops[i]? = some o
  back : ∀ j, Nat.testBit (t.b i) j = true → j < i ∧ ∃ e, e ∈ o.after ∧ Region.binds .any e = true ∧ (e.on = j ∨ Nat.testBit (t.b e.on) j = true) ∧ e.on < i
  less : ∀ e, e ∈ o.after → Region.binds .any e = true → e.on < i
  apart : ∀ j y, j < i → ops[j]? = some y → Nat.testBit (t.b i) j = false → Oper.apart ops y o = true
  put : (t.a i).put o.dst (t.v i) = some (t.a (i + 1))
  want : wantE ops.toList (t.a i) o = some (t.w i)
  no : t.w i = false → t.v i = undef ∧ t.h (i + 1) = t.h i
  yes : t.w i = true → stepE cl P (t.a i) (t.h i) o = some (t.v i, t.h (i + 1), t.k i)
  goes : ∀ j, j < i → t.w i = true → t.w j = true → goesWith (t.b i) (t.k i) (t.h i).t (t.h (i + 1)).t ⟨j, t.k j, (t.h j).t, (t.h (j + 1)).t⟩ = true
/-- the same up to a place. -/
structure Same (t u : Tr) (i : Nat) : Prop where
  h : ∀ j, j ≤ i → u.h j = t.h j
  a : ∀ j, j ≤ i → u.a j = t.a j
  v : ∀ j, j < i → u.v j = t.v j
  k : ∀ j, j < i → u.k j = t.k j
  w : ∀ j, j < i → u.w j = t.w j
  b : ∀ j, j < i → u.b j = t.b j
theorem TrOK.same {cl : Cl} {ops : Array Oper} {t u : Tr} {i n : Nat} {o : Oper} (h : TrOK cl P ops t i o) (s : Same t u n) (hi : i < n) : TrOK cl P ops u i o := by
  have e1 := s.h i (by omega)
  have e2 := s.h (i + 1) (by omega)
  have e3 := s.a i (by omega)
  have e4 := s.a (i + 1) (by omega)
  have e5 := s.v i hi
  have e6 := s.k i hi
  have e7 := s.w i hi
  have e8 := s.b i hi
  refine ⟨h.op, fun j hj => ?_, h.less, fun j y hj hy hb => h.apart j y hj hy (by rw [← e8]; exact hb), by rw [e3, e4, e5]; exact h.put, by rw [e3, e7]; exact h.want, fun hw => ?_, fun hw => ?_, fun j hj hwi hwj => ?_⟩
  · rw [e8] at hj
    obtain ⟨h1, e, h2, h3, h4, h5⟩ := h.back j hj
    refine ⟨h1, e, h2, h3, ?_, h5⟩
    rw [s.b e.on (by omega)]
    exact h4
  · rw [e5, e2, e1]; exact h.no (by rw [← e7]; exact hw)
  · rw [e3, e1, e5, e2, e6]; exact h.yes (by rw [← e7]; exact hw)
  · rw [e8, e6, e1, e2, s.k j (by omega), s.h j (by omega), s.h (j + 1) (by omega)]
    exact h.goes j hj (by rw [← e7]; exact hwi) (by rw [← s.w j (by omega)]; exact hwj)
theorem apartAll_ok {ops : Array Oper} {bits : Nat} {o : Oper} : ∀ {l : List Oper} {n : Nat}, apartAll ops bits o l n = true → ∀ j y, l[j]? = some y → Nat.testBit bits (n + j) = false → Oper.apart ops y o = true
  | [], _, _, j, y, h, _ => by simp at h
  | x :: l, n, h, j, y, hj, hb => by
    simp only [apartAll, Bool.and_eq_true, Bool.or_eq_true] at h
    cases j with
    | zero =>
      simp at hj; subst hj
      rcases h.1 with h1 | h1
      · simp at hb; rw [hb] at h1; cases h1
      · exact h1
    | succ j => exact apartAll_ok h.2 j y (by simpa using hj) (by rw [← hb]; congr 1; simp only [Nat.succ_eq_add_one]; omega)
theorem bitsOf_ok {bs : List (Nat × Nat)} {i : Nat} {bf : Nat → Nat} (hbs : ∀ j b, bs.find? (fun x => Nat.beq x.1 j) = some b → b.2 = bf j) : ∀ {l : List Edge} {s : Nat}, bitsOf bs i l = some s →
    (∀ j, Nat.testBit s j = true → ∃ e, e ∈ l ∧ Region.binds .any e = true ∧ (e.on = j ∨ Nat.testBit (bf e.on) j = true) ∧ e.on < i) ∧ ∀ e, e ∈ l → Region.binds .any e = true → e.on < i
  | [], s, h => by
    simp only [bitsOf, Option.some.injEq] at h
    subst h
    exact ⟨fun j hj => by simp at hj, fun e he => by cases he⟩
  | e :: l, s, h => by
    unfold bitsOf at h
    split at h
    · cases h
    · rename_i s0 hs0
      obtain ⟨ih1, ih2⟩ := bitsOf_ok hbs hs0
      have up : ∀ j, Nat.testBit s0 j = true → ∃ e', e' ∈ e :: l ∧ Region.binds .any e' = true ∧ (e'.on = j ∨ Nat.testBit (bf e'.on) j = true) ∧ e'.on < i := fun j hj =>
        have ⟨e', h1, h2⟩ := ih1 j hj; ⟨e', List.mem_cons_of_mem _ h1, h2⟩
      split at h
      · rename_i hb
        cases h
        exact ⟨up, fun e' he' hb' => by
          rcases List.mem_cons.1 he' with rfl | he'
          · rw [hb] at hb'; cases hb'
          · exact ih2 e' he' hb'⟩
      · rename_i hb
        split at h
        · rename_i hlt
          have hlt' : e.on < i := by simpa [Nat.blt_eq] using hlt
          split at h
          · rename_i x bb hf
            cases h
            refine ⟨fun j hj => ?_, fun e' he' hb' => ?_⟩
            · simp only [Nat.lor_eq, Nat.testBit_or, Bool.or_eq_true] at hj
              rcases hj with hj | hj | hj
              · exact up j hj
              · exact ⟨e, List.mem_cons_self .., hb, .inr (by rw [← hbs _ _ hf]; exact hj), hlt'⟩
              · have : j = e.on := by
                  rw [Nat.shiftLeft_eq', Nat.one_shiftLeft] at hj
                  have := Nat.testBit_two_pow (n := e.on) (m := j)
                  rw [hj] at this
                  have h2 : e.on = j := by simpa using this.symm
                  exact h2.symm
                exact ⟨e, List.mem_cons_self .., hb, .inl this.symm, hlt'⟩
            · rcases List.mem_cons.1 he' with rfl | he'
              · exact hlt'
              · exact ih2 e' he' hb'
          · cases h
        · cases h
theorem goesAll_ok {bits : Nat} {k : K} {h h' : T O} : ∀ {l : List Rec}, goesAll bits k h h' l = true → ∀ r, r ∈ l → goesWith bits k h h' r = true
  | [], _, r, hr => by cases hr
  | x :: l, hg, r, hr => by
    simp only [goesAll, Bool.and_eq_true] at hg
    rcases List.mem_cons.1 hr with rfl | hr
    · exact hg.1
    · exact goesAll_ok hg.2 r hr
def Tr.at (t : Tr) (i : Nat) (h : H) (a : A) (v : Value) (k : K) (w : Bool) (b : Nat) : Tr :=
  ⟨fun j => if j = i + 1 then h else t.h j, fun j => if j = i + 1 then a else t.a j, fun j => if j = i then v else t.v j, fun j => if j = i then k else t.k j, fun j => if j = i then w else t.w j, fun j => if j = i then b else t.b j⟩
theorem Tr.at_same (t : Tr) (i : Nat) (h : H) (a : A) (v : Value) (k : K) (w : Bool) (b : Nat) : Same t (t.at i h a v k w b) i := by
  refine ⟨fun j hj => ?_, fun j hj => ?_, fun j hj => ?_, fun j hj => ?_, fun j hj => ?_, fun j hj => ?_⟩ <;> (simp only [Tr.at]; rw [if_neg (by omega)])
theorem Same.trans {s t u : Tr} {i n : Nat} (h : Same s t i) (k : Same t u n) (hin : i ≤ n) : Same s u i :=
  ⟨fun j hj => (k.h j (by omega)).trans (h.h j hj), fun j hj => (k.a j (by omega)).trans (h.a j hj), fun j hj => (k.v j (by omega)).trans (h.v j hj), fun j hj => (k.k j (by omega)).trans (h.k j hj), fun j hj => (k.w j (by omega)).trans (h.w j hj), fun j hj => (k.b j (by omega)).trans (h.b j hj)⟩
theorem regD_tr {cl : Cl} {ops : Array Oper} : ∀ (l : List Oper) (i : Nat) (bs : List (Nat × Nat)) (rs : List Rec) (a : A) (h : H) (a' : A) (h' : H) (t : Tr), regD cl P ops l i bs rs a h = some (a', h') → l = ops.toList.drop i →
    t.h i = h → t.a i = a → (∀ j, j < i → ∃ o, TrOK cl P ops t j o) → (∀ j b, bs.find? (fun x => Nat.beq x.1 j) = some b → b.2 = t.b j ∧ j < i) → (∀ j, j < i → t.w j = true → (⟨j, t.k j, (t.h j).t, (t.h (j + 1)).t⟩ : Rec) ∈ rs) → i ≤ ops.size →
    ∃ u, Same t u i ∧ (∀ j, j < ops.size → ∃ o, TrOK cl P ops u j o) ∧ u.h ops.size = h' ∧ u.a ops.size = a'
  | [], i, bs, rs, a, h, a', h', t, hr, hl, h1, h2, h3, _, _, hin => by
    simp only [regD, Option.some.injEq, Prod.mk.injEq] at hr
    obtain ⟨rfl, rfl⟩ := hr
    have hlen : ops.size ≤ i := by
      have := congrArg List.length hl
      simp at this
      omega
    have : ops.size = i := by omega
    exact ⟨t, ⟨fun _ _ => rfl, fun _ _ => rfl, fun _ _ => rfl, fun _ _ => rfl, fun _ _ => rfl, fun _ _ => rfl⟩, fun j hj => h3 j (by omega), by rw [this]; exact h1, by rw [this]; exact h2⟩
  | o :: l, i, bs, rs, a, h, a', h', t, hr, hl, h1, h2, h3, h4, h5, hin => by
    have hi : i < ops.size := by
      rcases Nat.lt_or_ge i ops.size with h | h
      · exact h
      · rw [List.drop_eq_nil_of_le (by simpa using h)] at hl; cases hl
    have hsplit := List.drop_eq_getElem_cons (l := ops.toList) (i := i) (by simpa using hi)
    rw [← hl] at hsplit
    obtain ⟨ho, hl2⟩ : o = ops[i] ∧ l = ops.toList.drop (i + 1) := by simpa using hsplit
    have hoi : ops[i]? = some o := by rw [ho]; exact Array.getElem?_eq_getElem hi
    unfold regD at hr
    split at hr
    · cases hr
    · rename_i bits hbits
      obtain ⟨hb1, hb2⟩ := bitsOf_ok (bf := t.b) (fun j b hb => (h4 j b hb).1) hbits
      split at hr
      · cases hr
      · rename_i hap
        have hap' : ∀ j y, j < i → ops[j]? = some y → Nat.testBit bits j = false → Oper.apart ops y o = true := fun j y hj hy hb => by
          refine apartAll_ok hap j y ?_ (by rw [Nat.zero_add]; exact hb)
          rw [List.getElem?_take_of_lt hj, Array.getElem?_toList]
          exact hy
        -- what is told of this operation, however it went
        have go : ∀ (v : Value) (k : K) (w : Bool) (a1 : A) (h1' : H) (rs' : List Rec), regD cl P ops l (Nat.succ i) ((i, bits) :: bs) rs' a1 h1' = some (a', h') → a.put o.dst v = some a1 → wantE ops.toList a o = some w →
            (w = false → v = undef ∧ h1' = h) → (w = true → stepE cl P a h o = some (v, h1', k)) → (w = true → goesAll bits k h.t h1'.t rs = true) → (rs' = if w = true then ⟨i, k, h.t, h1'.t⟩ :: rs else rs) →
            ∃ u, Same t u i ∧ (∀ j, j < ops.size → ∃ o, TrOK cl P ops u j o) ∧ u.h ops.size = h' ∧ u.a ops.size = a' := by
          intro v k w a1 h1' rs' hrec hput hwant hno hyes hgo hrs
          have hs := t.at_same i h1' a1 v k w bits
          have e1 : (t.at i h1' a1 v k w bits).h i = h := by rw [hs.h i (Nat.le_refl _)]; exact h1
          have e2 : (t.at i h1' a1 v k w bits).a i = a := by rw [hs.a i (Nat.le_refl _)]; exact h2
          have e3 : (t.at i h1' a1 v k w bits).h (i + 1) = h1' := by simp [Tr.at]
          have e4 : (t.at i h1' a1 v k w bits).a (i + 1) = a1 := by simp [Tr.at]
          have e5 : (t.at i h1' a1 v k w bits).v i = v := by simp [Tr.at]
          have e6 : (t.at i h1' a1 v k w bits).k i = k := by simp [Tr.at]
          have e7 : (t.at i h1' a1 v k w bits).w i = w := by simp [Tr.at]
          have e8 : (t.at i h1' a1 v k w bits).b i = bits := by simp [Tr.at]
          generalize t.at i h1' a1 v k w bits = t1 at *
          have hthis : TrOK cl P ops t1 i o := by
            refine ⟨hoi, fun j hj => ?_, fun e he hb => hb2 e (Array.mem_toList_iff.2 he) hb, fun j y hj hy hb => hap' j y hj hy (by rw [← e8]; exact hb), by rw [e2, e5, e4]; exact hput, by rw [e2, e7]; exact hwant, fun hw => ?_, fun hw => ?_, fun j hj hwi hwj => ?_⟩
            · rw [e8] at hj
              obtain ⟨e, he, hbd, hor, hlt⟩ := hb1 j hj
              have hor' : e.on = j ∨ Nat.testBit (t1.b e.on) j = true := by rw [hs.b e.on hlt]; exact hor
              refine ⟨?_, e, Array.mem_toList_iff.1 he, hbd, hor', hlt⟩
              rcases hor with rfl | hor
              · exact hlt
              · obtain ⟨o2, ho2⟩ := h3 e.on hlt
                have := (ho2.back j hor).1
                omega
            · rw [e7] at hw; rw [e5, e3, e1]; exact hno hw
            · rw [e7] at hw; rw [e2, e1, e5, e3, e6]; exact hyes hw
            · rw [e7] at hwi
              rw [hs.w j hj] at hwj
              rw [e8, e6, e1, e3, hs.k j hj, hs.h j (by omega), hs.h (j + 1) (by omega)]
              exact goesAll_ok (hgo hwi) _ (h5 j hj hwj)
          obtain ⟨u, hu1, hu2, hu3, hu4⟩ := regD_tr l (i + 1) ((i, bits) :: bs) rs' a1 h1' a' h' t1 hrec hl2 e3 e4 (fun j hj => by
              rcases Nat.lt_or_ge j i with hji | hji
              · obtain ⟨oj, hoj⟩ := h3 j hji; exact ⟨oj, hoj.same hs hji⟩
              · have : j = i := by omega
                subst this; exact ⟨o, hthis⟩) (fun j b hb => by
              rw [List.find?_cons] at hb
              by_cases hij : Nat.beq i j = true
              · simp only [hij] at hb
                cases hb
                have := Nat.eq_of_beq_eq_true hij
                subst this
                exact ⟨e8.symm, by omega⟩
              · have : Nat.beq i j = false := by cases hq : Nat.beq i j; rfl; exact absurd hq hij
                simp only [this] at hb
                obtain ⟨h6, h7⟩ := h4 j b hb
                exact ⟨by rw [hs.b j h7]; exact h6, by omega⟩) (fun j hj hwj => by
              rcases Nat.lt_or_ge j i with hji | hji
              · rw [hs.w j hji] at hwj
                have := h5 j hji hwj
                rw [hs.k j hji, hs.h j (by omega), hs.h (j + 1) (by omega), hrs]
                split
                · exact List.mem_cons_of_mem _ this
                · exact this
              · have : j = i := by omega
                subst this
                rw [e7] at hwj
                subst hwj
                rw [e6, e1, e3, hrs, if_pos rfl]
                exact List.mem_cons_self ..) hi
          exact ⟨u, hs.trans hu1 (by omega), hu2, hu3, hu4⟩
        split at hr
        · cases hr
        · rename_i hwant
          split at hr
          · rename_i a1 hput
            exact go undef (.simple []) false a1 h rs hr hput hwant (fun _ => ⟨rfl, rfl⟩) (fun h => by cases h) (fun h => by cases h) (by simp)
          · cases hr
        · rename_i hwant
          split at hr
          · rename_i v h1' k hst
            split at hr
            · rename_i hgo
              split at hr
              · rename_i a1 hput
                exact go v k true a1 h1' _ hr hput hwant (fun h => by cases h) (fun _ => hst) (fun _ => hgo) (by simp)
              · cases hr
            · cases hr
          · cases hr
end Go.Eng
