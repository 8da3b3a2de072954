/-
  PROVED HERE: regions whose order is drawn: whatever the order, all comes as in the canonical run.
-/
import Derived.Test.YtlcladdlhllkcaaGreatDoorE16
namespace Go.Eng
set_option linter.unusedVariables false
set_option linter.unusedSimpArgs false
variable {P : Program}

/-- A step, without its numbers. -/
structure Sd (c : Cx) (t : Nat → Option O) (w : World) (c' : Cx) (t' : Nat → Option O) (w' : World) : Prop where
  hr : HR c' t' w'
  size : w.heap.size ≤ w'.heap.size
  keep : ∀ k, k < w.heap.size → (∀ i x, t i = some x → c.b i ≠ k) → w'.heap[k]? = w.heap[k]?
  img : ∀ i x, t' i = some x → (∃ j y, t j = some y ∧ c'.b i = c.b j) ∨ w.heap.size ≤ c'.b i
  os : w'.os = w.os
  tape : w'.tape = w.tape
  output : w'.output = w.output
  ros : ∀ i l, c.av i → t' i = some (.ro l) → (∃ m, t i = some (.ro m)) ∧ w'.heap[c.b i]? = w.heap[c.b i]?
theorem Sd.trans {a b c : Cx} {s t u : Nat → Option O} {w1 w2 w3 : World} (hle : Le a b) (h : Sd a s w1 b t w2) (k : Sd b t w2 c u w3) : Sd a s w1 c u w3 := by
  refine ⟨k.hr, Nat.le_trans h.size k.size, fun n hn hs => ?_, fun i x hx => ?_, k.os.trans h.os, k.tape.trans h.tape, k.output.trans h.output, fun i l hav hi => ?_⟩
  · rw [k.keep n (Nat.lt_of_lt_of_le hn h.size), h.keep n hn hs]
    intro i x hx e
    rcases h.img i x hx with ⟨j, y, hj, hb⟩ | hb
    · exact hs j y hj (hb.symm.trans e)
    · omega
  · rcases k.img i x hx with ⟨j, y, hj, hb⟩ | hb
    · rcases h.img j y hj with ⟨m, z, hm, hb2⟩ | hb2
      · exact .inl ⟨m, z, hm, hb.trans hb2⟩
      · exact .inr (by omega)
    · exact .inr (Nat.le_trans h.size hb)
  · have hle := hle i hav
    obtain ⟨⟨m, hm⟩, e1⟩ := k.ros i l hle.1 hi
    obtain ⟨hs, e2⟩ := h.ros i m hav hm
    rw [hle.2.1] at e1
    exact ⟨hs, e1.trans e2⟩
theorem Sd.refl {c : Cx} {t : Nat → Option O} {w w2 : World} (h : HR c t w) (hh : w2.heap = w.heap) (ho : w2.os = w.os) (ht : w2.tape = w.tape) (hu : w2.output = w.output) : Sd c t w c t w2 :=
  ⟨⟨fun i x hx => by rw [hh]; exact h.at_ i x hx, h.inj⟩, by rw [hh]; exact Nat.le_refl _, fun _ _ _ => by rw [hh], fun i x hx => .inl ⟨i, x, hx, rfl⟩, ho, ht, hu, fun i l _ hi => ⟨⟨l, hi⟩, by rw [hh]⟩⟩
theorem Sd.sub {c c' : Cx} {t t' t2 : Nat → Option O} {w w' : World} (h : Sd c t w c' t' w') (hs : ∀ i x, t2 i = some x → t' i = some x) : Sd c t w c' t2 w' :=
  ⟨⟨fun i x hx => h.hr.at_ i x (hs i x hx), fun i j x y hx hy => h.hr.inj i j x y (hs i x hx) (hs j y hy)⟩, h.size, h.keep, fun i x hx => h.img i x (hs i x hx), h.os, h.tape, h.output, fun i l a b => h.ros i l a (hs i _ b)⟩
/-- A step on a part of the heap is a step on the whole. -/
theorem Sd.frame {c c' : Cx} {C t t' C' : Nat → Option O} {w w' : World} {lo hi : Nat} (H : HR c C w) (hsub : ∀ i x, t i = some x → C i = some x) (s : St c t w c' t' w' lo hi)
    (hC : ∀ i x, C' i = some x → t' i = some x ∨ (t i = none ∧ C i = some x)) : Sd c C w c' C' w' := by
  have hle := s.ext.toLe
  have hout : ∀ i x, t i = none → C i = some x → c'.b i = c.b i ∧ w'.heap[c'.b i]? = w.heap[c.b i]? ∧ c'.av i := by
    intro i x hi hx
    obtain ⟨h1, h2, _⟩ := hle i (H.at_ i x hx).1
    refine ⟨h2, ?_, h1⟩
    rw [h2]
    refine s.keep _ (H.lt hx) fun j y hj e => ?_
    have := H.inj j i y x (hsub j y hj) hx e
    subst this
    rw [hi] at hj; cases hj
  refine ⟨⟨fun i x hx => ?_, fun i j x y hx hy e => ?_⟩, s.size, fun k hk hn => s.keep k hk fun i x hx => hn i x (hsub i x hx), fun i x hx => ?_, s.os, s.tape, s.output, fun i l hav hi => ?_⟩
  · rcases hC i x hx with h | ⟨h1, h2⟩
    · exact s.hr.at_ i x h
    · obtain ⟨e1, e2, e3⟩ := hout i x h1 h2
      exact ⟨e3, by rw [e2]; exact (H.at_ i x h2).2.le hle (H.at_ i x h2).1⟩
  · have mixed : ∀ i j x y, t' i = some x → t j = none → C j = some y → c'.b i = c'.b j → i = j := by
      intro i j x y hi hj hy e
      obtain ⟨e1, e2, e3⟩ := hout j y hj hy
      rcases s.img i x hi with ⟨m, z, hm, hb⟩ | hb
      · have := H.inj m j z y (hsub m z hm) hy (by rw [← hb, e, e1])
        subst this
        rw [hj] at hm; cases hm
      · have := H.lt hy
        omega
    rcases hC i x hx with h | ⟨h1, h2⟩
    · rcases hC j y hy with k | ⟨k1, k2⟩
      · exact s.hr.inj i j x y h k e
      · exact mixed i j x y h k1 k2 e
    · rcases hC j y hy with k | ⟨k1, k2⟩
      · exact (mixed j i y x k h1 h2 e.symm).symm
      · exact H.inj i j x y h2 k2 (by rw [← (hout i x h1 h2).1, e, (hout j y k1 k2).1])
  · rcases hC i x hx with h | ⟨h1, h2⟩
    · rcases s.img i x h with ⟨j, y, hj, hb⟩ | hb
      · exact .inl ⟨j, y, hsub j y hj, hb⟩
      · exact .inr hb
    · exact .inl ⟨i, x, h2, (hout i x h1 h2).1⟩
  · rcases hC i _ hi with h | ⟨h1, h2⟩
    · obtain ⟨⟨m, hm⟩, e⟩ := s.ros i l hav h
      exact ⟨⟨m, hsub i _ hm⟩, e⟩
    · obtain ⟨e1, e2, _⟩ := hout i _ h1 h2
      rw [e1] at e2
      exact ⟨⟨l, h2⟩, e2⟩
theorem Sd.newF {c : Cx} {C C' : Nat → Option O} {w w' : World} (h : HR c C w) {n : Nat} {o : O} {ob : Obj} (hn : ¬ c.av n) (hw : Made w w' ob) (ho : OR (c.put n w.heap.size 0 0 0) n o (some ob)) (hC : ∀ i x, C' i = some x → (i = n ∧ x = o) ∨ (i ≠ n ∧ C i = some x)) :
    Sd c C w (c.put n w.heap.size 0 0 0) C' w' := by
  have hx := c.put_ext n w.heap.size 0 0 0 hn
  have hcb : ∀ i, i ≠ n → (c.put n w.heap.size 0 0 0).b i = c.b i := fun i hi => by simp [Cx.put, hi]
  have hcn : (c.put n w.heap.size 0 0 0).b n = w.heap.size := by simp [Cx.put]
  refine ⟨⟨fun i x hi => ?_, fun i j x y hi hj he => ?_⟩, by have := hw.size; omega, fun k hk _ => hw.other k hk, fun i x hi => ?_, hw.os, hw.tape, hw.output, fun i l hav hi => ?_⟩
  · rcases hC i x hi with ⟨rfl, rfl⟩ | ⟨hin, hi2⟩
    · exact ⟨.inr rfl, by rw [hcn, hw.at_]; exact ho⟩
    · have := h.at_ i x hi2
      exact ⟨.inl this.1, by rw [hcb i hin, hw.other _ (h.lt hi2)]; exact this.2.le hx.toLe this.1⟩
  · rcases hC i x hi with ⟨rfl, rfl⟩ | ⟨hin, hi2⟩
    · rcases hC j y hj with ⟨rfl, rfl⟩ | ⟨hjn, hj2⟩
      · rfl
      · rw [hcn, hcb j hjn] at he
        have := h.lt hj2
        omega
    · rcases hC j y hj with ⟨rfl, rfl⟩ | ⟨hjn, hj2⟩
      · rw [hcn, hcb i hin] at he
        have := h.lt hi2
        omega
      · rw [hcb i hin, hcb j hjn] at he
        exact h.inj i j _ _ hi2 hj2 he
  · rcases hC i x hi with ⟨rfl, rfl⟩ | ⟨hin, hi2⟩
    · exact .inr (by rw [hcn]; exact Nat.le_refl _)
    · exact .inl ⟨i, x, hi2, hcb i hin⟩
  · rcases hC i _ hi with ⟨rfl, _⟩ | ⟨_, hi2⟩
    · exact absurd hav hn
    · exact ⟨⟨l, hi2⟩, hw.other _ (h.lt hi2)⟩

/-- what a temporary holds, when the operations of X have been carried out. -/
def IsVal (t : Tr) (ops : Array Oper) (X : Nat → Prop) (d : Nat) (u : Value) : Prop :=
  (∃ j o, j < ops.size ∧ X j ∧ ops[j]? = some o ∧ o.dst = some d ∧ t.v j = u ∧ ∀ j' o', j' < ops.size → X j' → ops[j']? = some o' → o'.dst = some d → j' ≤ j) ∨
  ((∀ j o, j < ops.size → X j → ops[j]? = some o → o.dst ≠ some d) ∧ u = (t.a 0).get d)
/-- where all stands, when the operations of X have been carried out. -/
structure Inv (t : Tr) (ops : Array Oper) (c0 : Cx) (w0 : World) (x0 : Act) (X : Nat → Prop) (m : Nat) (C : Nat → Option O) (c : Cx) (x : Act) (w : World) : Prop where
  le : Le c0 c
  av : ∀ i, c.av i ↔ c0.av i ∨ ∃ j, j < ops.size ∧ X j ∧ (t.h j).next ≤ i ∧ i < (t.h (j + 1)).next
  out : ∀ i, ¬ ((t.h 0).next ≤ i ∧ i < (t.h ops.size).next) → c.b i = c0.b i ∧ c.o i = c0.o i ∧ c.e i = c0.e i ∧ c.z i = c0.z i
  size : x.tmps.size = x0.tmps.size
  defers : x.defers = x0.defers
  asize : (t.a 0).size = x0.tmps.size
  vals : ∀ d u, IsVal t ops X d u → VR c u (x.tmps.getD d undef)
  sd : Sd c0 (t.h 0).t.get w0 c C w
  closed : ∀ j o, j < ops.size → X j → ops[j]? = some o → ∀ e, e ∈ o.after → Region.binds .any e = true → X e.on
  mle : m ≤ ops.size
  m1 : ∀ k, k < m → Acts t k → X k
  m2 : ∀ k, m ≤ k → k < ops.size → t.w k = true → t.k k = .heavy → ¬ X k
  c1 : ∀ k b, m ≤ k → k < ops.size → X k → t.w k = true → t.k k = .fresh b → C b = (t.h (k + 1)).t.get b
  c2 : ∀ b, (∀ k b', m ≤ k → k < ops.size → X k → t.w k = true → t.k k = .fresh b' → b' ≠ b) → C b = (t.h m).t.get b
section
variable {cl : Cl} {ops : Array Oper} {t : Tr} {c0 : Cx} {w0 : World} {x0 : Act} {X : Nat → Prop} {m : Nat} {C : Nat → Option O} {c : Cx} {x : Act} {w : World}
theorem Inv.bits (I : Inv t ops c0 w0 x0 X m C c x w) (hf : Full cl P ops t) {i k : Nat} (hi : i < ops.size) (hX : ∀ o, ops[i]? = some o → ∀ e, e ∈ o.after → Region.binds .any e = true → X e.on) (hb : Nat.testBit (t.b i) k = true) : X k := by
  induction i using Nat.strongRecOn with
  | _ i ih =>
    obtain ⟨o, ho⟩ := hf.ok i hi
    obtain ⟨_, e, he, hbd, hor, hlt⟩ := ho.back k hb
    have hxe := hX o ho.op e he hbd
    rcases hor with rfl | hor
    · exact hxe
    · exact ih e.on hlt (by omega) (fun o2 ho2 => I.closed e.on o2 (by omega) hxe ho2) hor
/-- an operation that is not carried out yet, but may be. -/
structure Ready (ops : Array Oper) (X : Nat → Prop) (i : Nat) (o : Oper) : Prop where
  lt : i < ops.size
  op : ops[i]? = some o
  no : ¬ X i
  all : ∀ e, e ∈ o.after → Region.binds .any e = true → X e.on
theorem Inv.ready (I : Inv t ops c0 w0 x0 X m C c x w) (hf : Full cl P ops t) {i : Nat} {o : Oper} (r : Ready ops X i o) {k : Nat} (hb : Nat.testBit (t.b i) k = true) : X k :=
  I.bits hf r.lt (fun o' ho' => by rw [r.op] at ho'; cases ho'; exact r.all) hb
theorem Inv.behind (I : Inv t ops c0 w0 x0 X m C c x w) (hf : Full cl P ops t) {i k : Nat} {o : Oper} (r : Ready ops X i o) (hk : k < ops.size) (hX : X k) : Nat.testBit (t.b k) i = false := by
  cases h : Nat.testBit (t.b k) i with
  | false => rfl
  | true => exact absurd (I.bits hf hk (fun o' ho' => I.closed k o' hk hX ho') h) r.no
theorem Full.asize (hf : Full cl P ops t) : ∀ i, i ≤ ops.size → (t.a i).size = (t.a 0).size
  | 0, _ => rfl
  | i + 1, hi => by
    obtain ⟨o, ho⟩ := hf.ok i (by omega)
    rw [← Full.asize hf i (by omega)]
    have hp := ho.put
    unfold A.put at hp
    split at hp
    · rw [← Option.some.inj hp]
    · split at hp
      · rw [force_eq, T.setK_eq] at hp
        rw [← Option.some.inj hp]
      · cases hp
/-- what a temporary that i looks at, or writes, has been written by. -/
theorem Inv.looks (I : Inv t ops c0 w0 x0 X m C c x w) (hf : Full cl P ops t) {i : Nat} {o : Oper} (r : Ready ops X i o) {d : Nat} (hd : d ∈ o.looksAt ops ∨ o.dst = some d) {k : Nat} {y : Oper} (hk : k < ops.size) (hy : ops[k]? = some y) (hyd : y.dst = some d) : (k < i → X k) ∧ (i < k → ¬ X k) := by
  refine ⟨fun hlt => ?_, fun hlt hX => ?_⟩
  · cases hb : Nat.testBit (t.b i) k with
    | true => exact I.ready hf r hb
    | false =>
      obtain ⟨o', ho'⟩ := hf.ok i r.lt
      have : o' = o := by have := ho'.op; rw [r.op] at this; cases this; rfl
      subst this
      obtain ⟨h1, h2, h3⟩ := Oper.apart_spec (ho'.apart k y hlt hy hb)
      rcases hd with hd | hd
      · exact absurd hd (h1 d hyd)
      · exact absurd hd (h2 d hyd)
  · have hb := I.behind hf r hk hX
    obtain ⟨y', hy'⟩ := hf.ok k hk
    have : y' = y := by have := hy'.op; rw [hy] at this; cases this; rfl
    subst this
    obtain ⟨h1, h2, h3⟩ := Oper.apart_spec (hy'.apart i o hlt r.op hb)
    rcases hd with hd | hd
    · exact h3 d hyd hd
    · exact h2 d hd hyd
theorem Inv.val (I : Inv t ops c0 w0 x0 X m C c x w) (hf : Full cl P ops t) {i : Nat} {o : Oper} (r : Ready ops X i o) {d : Nat} (hd : d ∈ o.looksAt ops) : VR c ((t.a i).get d) (x.tmps.getD d undef) := by
  refine I.vals d _ ?_
  rcases hf.last d i (Nat.le_of_lt r.lt) with ⟨j, oj, h1, h2, h3, h4, h5⟩ | ⟨h1, h2⟩
  · refine .inl ⟨j, oj, by have := r.lt; omega, (I.looks hf r (.inl hd) (by have := r.lt; omega) h2 h3).1 h1, h2, h3, h4, fun j' o' hj' hX' ho' hd' => ?_⟩
    rcases Nat.lt_or_ge j' i with hlt | hge
    · exact h5 j' o' hlt ho' hd'
    · rcases Nat.lt_or_ge i j' with hlt | hge2
      · exact absurd hX' ((I.looks hf r (.inl hd) hj' ho' hd').2 hlt)
      · have : j' = i := by omega
        subst this
        exact absurd hX' r.no
  · refine .inr ⟨fun j oj hj hX hoj hdj => ?_, h2⟩
    rcases Nat.lt_or_ge j i with hlt | hge
    · exact h1 j oj hlt hoj hdj
    · rcases Nat.lt_or_ge i j with hlt | hge2
      · exact (I.looks hf r (.inl hd) hj hoj hdj).2 hlt hX
      · have : j = i := by omega
        subst this
        exact r.no hX
theorem Inv.ev (I : Inv t ops c0 w0 x0 X m C c x w) (hf : Full cl P ops t) (g : Gl c) {i : Nat} {o : Oper} (r : Ready ops X i o) (y : Operand) (hy : y ∈ o.op.operands) : VR c ((t.a i).ev y) (x.eval y) := by
  cases y with
  | tmp d => exact I.val hf r (List.mem_append_left _ (List.mem_filterMap.2 ⟨.tmp d, by simpa using hy, rfl⟩))
  | const v =>
    show VR c (match flat 4 v with | true => v | false => unk) v
    cases hq : flat 4 v with
    | true => exact (flat_vr c 4 v hq).1
    | false => exact .any _
  | global n =>
    show VR c (match Nat.blt n 64 with | true => _ | false => unk) _
    cases hq : Nat.blt n 64 with
    | true =>
      obtain ⟨h1, h2, h3⟩ := g n (by simpa [Nat.blt_eq] using hq)
      have := VR.ptr (c := c) (o := 0) h1
      rw [h2, h3] at this
      exact this
    | false => exact .any _
  | func f => exact .func f .nil .nil
theorem Inv.wanted (I : Inv t ops c0 w0 x0 X m C c x w) (hf : Full cl P ops t) {i : Nat} {o : Oper} (r : Ready ops X i o) : Region.wanted o (yielded ops x.tmps) = t.w i := by
  obtain ⟨o', ho'⟩ := hf.ok i r.lt
  have : o' = o := by have := ho'.op; rw [r.op] at this; cases this; rfl
  subst this
  refine want_ok ho'.want fun j w' o2 d hg ho2 hd => I.val hf r ?_
  unfold Oper.looksAt
  refine List.mem_append_right _ ?_
  rw [hg]
  simp [ho2, hd]
/-- the temporaries behind i. -/
theorem Inv.putX (I : Inv t ops c0 w0 x0 X m C c x w) (hf : Full cl P ops t) {i : Nat} {o : Oper} (r : Ready ops X i o) {c' : Cx} (hle : Le c c') {v' : Value} (hv : VR c' (t.v i) v') :
    (x.put o.dst v').tmps.size = x0.tmps.size ∧ (x.put o.dst v').defers = x0.defers ∧ ∀ d u, IsVal t ops (fun j => X j ∨ j = i) d u → VR c' u ((x.put o.dst v').tmps.getD d undef) := by
  refine ⟨?_, ?_, fun d u hu => ?_⟩
  · rw [← I.size]; cases o.dst <;> simp [Act.put]
  · rw [← I.defers]; cases o.dst <;> rfl
  · obtain ⟨o', ho'⟩ := hf.ok i r.lt
    have : o' = o := by have := ho'.op; rw [r.op] at this; cases this; rfl
    subst this
    by_cases hd : o'.dst = some d
    · have huv : t.v i = u := by
        rcases hu with ⟨j, oj, h1, h2, h3, h4, h5, h6⟩ | ⟨h1, h2⟩
        · rcases h2 with h2 | rfl
          · have hji := h6 i o' r.lt (.inr rfl) r.op hd
            rcases Nat.lt_or_ge i j with hlt | hge
            · exact absurd h2 ((I.looks hf r (.inr hd) h1 h3 h4).2 hlt)
            · have : j = i := by omega
              subst this
              exact absurd h2 r.no
          · exact h5
        · exact absurd hd (h1 i o' r.lt (.inr rfl) r.op)
      subst huv
      have hlt : d < x.tmps.size := by
        have hp := ho'.put
        unfold A.put at hp
        rw [hd] at hp
        dsimp only at hp
        split at hp
        · rename_i hlt
          rw [I.size, ← I.asize, ← hf.asize i (Nat.le_of_lt r.lt)]
          simpa [Nat.blt_eq] using hlt
        · cases hp
      rw [hd]
      have : ((x.put (some d) v').tmps).getD d undef = v' := by simp [Act.put, hlt]
      rw [this]
      exact hv
    · have huX : IsVal t ops X d u := by
        rcases hu with ⟨j, oj, h1, h2, h3, h4, h5, h6⟩ | ⟨h1, h2⟩
        · rcases h2 with h2 | rfl
          · exact .inl ⟨j, oj, h1, h2, h3, h4, h5, fun j' o2 a b => h6 j' o2 a (.inl b)⟩
          · rw [r.op] at h3; cases h3; exact absurd h4 hd
        · exact .inr ⟨fun j oj a b => h1 j oj a (.inl b), h2⟩
      have hg : ((x.put o'.dst v').tmps).getD d undef = x.tmps.getD d undef := by
        cases hod : o'.dst with
        | none => rfl
        | some e =>
          have hne : e ≠ d := fun h => hd (h ▸ hod)
          simp [Act.put, Array.getElem?_setIfInBounds_ne hne]
      rw [hg]
      exact (I.vals d u huX).le hle
end
end Go.Eng
