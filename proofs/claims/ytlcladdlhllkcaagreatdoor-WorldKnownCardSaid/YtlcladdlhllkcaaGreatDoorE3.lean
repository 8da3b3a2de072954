/-
  PROVED HERE: abstract heaps: how they stand for a world's, and what a step does to both.
-/
import Derived.Test.YtlcladdlhllkcaaGreatDoorE2
namespace Go.Eng
set_option linter.unusedVariables false
set_option linter.unusedSimpArgs false

def ER (c : Cx) : List E → List MapEntry → Prop
  | [], [] => True
  | x :: l, y :: m => VR c x.key y.key ∧ VR c x.val y.val ∧ y.born = x.born ∧ ER c l m
  | _, _ => False
def TR (c : Cx) (t : T Value) (tm : Array Value) : Prop := ∀ i, VR c ((t.get i).getD undef) (tm.getD i undef)
def OR (c : Cx) (i : Nat) : O → Option Obj → Prop
  | .cells l, x => ∃ pre l' post ty, x = some (.cells ⟨pre ++ l' ++ post⟩ ty (0, 0)) ∧ pre.length = c.o i ∧ LR c l l'
  | .ro l, x => ∃ pre l' post ty fr, x = some (.cells ⟨pre ++ l' ++ post⟩ ty fr) ∧ pre.length = c.o i ∧ LR c l l'
  | .opn z l, x => ∃ pre l' post ty, x = some (.cells ⟨pre ++ l' ++ post⟩ ty (0, 0)) ∧ pre.length = c.o i ∧ LR c l l' ∧ c.z i = z ∧ c.e i = l'.length + post.length
  | .map es k, x => ∃ es', x = some (.map ⟨es'⟩ k) ∧ ER c es es'
  | .loop st pend fn size tm ps as bd, x => ∃ tm' ds, x = some (.loop { state := st, pending := pend, fn := fn, tmps := tm', params := ⟨ps⟩, assign := as, body := bd, defers := ds }) ∧ size = tm'.size ∧ TR c tm tm'
  | .deferred, x => x = some (.deferred (some []))
structure HR (c : Cx) (t : Nat → Option O) (w : World) : Prop where
  at_ : ∀ i x, t i = some x → c.av i ∧ OR c i x w.heap[c.b i]?
  inj : ∀ i j x y, t i = some x → t j = some y → c.b i = c.b j → i = j

theorem ER.le {c c' : Cx} (hc : Le c c') : ∀ {l : List E} {m : List MapEntry}, ER c l m → ER c' l m
  | [], [], _ => trivial
  | _ :: _, _ :: _, ⟨h1, h2, h3, h4⟩ => ⟨h1.le hc, h2.le hc, h3, ER.le hc h4⟩
  | [], _ :: _, h => h.elim
  | _ :: _, [], h => h.elim
theorem TR.le {c c' : Cx} (hc : Le c c') {t : T Value} {tm : Array Value} (h : TR c t tm) : TR c' t tm := fun i => (h i).le hc
theorem OR.le {c c' : Cx} (hc : Le c c') {i : Nat} (hi : c.av i) {o : O} {x : Option Obj} (h : OR c i o x) : OR c' i o x := by
  obtain ⟨h1, h2, h3, h4, h5⟩ := hc i hi
  cases o with
  | cells l => obtain ⟨pre, l', post, ty, e, hp, hl⟩ := h; exact ⟨pre, l', post, ty, e, hp.trans h3.symm, hl.le hc⟩
  | ro l => obtain ⟨pre, l', post, ty, fr, e, hp, hl⟩ := h; exact ⟨pre, l', post, ty, fr, e, hp.trans h3.symm, hl.le hc⟩
  | opn z l => obtain ⟨pre, l', post, ty, e, hp, hl, hz, he⟩ := h; exact ⟨pre, l', post, ty, e, hp.trans h3.symm, hl.le hc, h5.trans hz, h4.trans he⟩
  | map es k => obtain ⟨es', e, he⟩ := h; exact ⟨es', e, he.le hc⟩
  | loop st pend fn size tm ps as bd => obtain ⟨tm', ds, e, hs, ht⟩ := h; exact ⟨tm', ds, e, hs, ht.le hc⟩
  | deferred => exact h

/-- c' knows all that c knows, and the numbers from lo on, below hi, none of which c knows. -/
structure Ext (c c' : Cx) (lo hi : Nat) : Prop where
  le : lo ≤ hi
  fresh : ∀ i, lo ≤ i → i < hi → ¬ c.av i
  av : ∀ i, c'.av i ↔ c.av i ∨ (lo ≤ i ∧ i < hi)
  same : ∀ i, ¬ (lo ≤ i ∧ i < hi) → c'.b i = c.b i ∧ c'.o i = c.o i ∧ c'.e i = c.e i ∧ c'.z i = c.z i
theorem Ext.toLe {c c' : Cx} {lo hi : Nat} (h : Ext c c' lo hi) : Le c c' := fun i ha =>
  have hn : ¬ (lo ≤ i ∧ i < hi) := fun ⟨a, b⟩ => h.fresh i a b ha
  have ⟨h1, h2, h3, h4⟩ := h.same i hn
  ⟨(h.av i).2 (.inl ha), h1, h2, h3, h4⟩
theorem Ext.refl (c : Cx) (n : Nat) : Ext c c n n := ⟨Nat.le_refl _, fun i a b => by omega, fun i => ⟨.inl, fun h => h.elim id (fun h => by omega)⟩, fun i _ => ⟨rfl, rfl, rfl, rfl⟩⟩
theorem Ext.trans {a b c : Cx} {lo mid hi : Nat} (h : Ext a b lo mid) (k : Ext b c mid hi) : Ext a c lo hi := by
  have l1 := h.le
  have l2 := k.le
  refine ⟨Nat.le_trans h.le k.le, fun i h1 h2 hav => ?_, fun i => ?_, fun i hn => ?_⟩
  · by_cases hm : i < mid
    · exact h.fresh i h1 hm hav
    · exact k.fresh i (by omega) h2 ((h.av i).2 (.inl hav))
  · rw [k.av, h.av]
    constructor
    · rintro ((h | h) | h)
      · exact .inl h
      · exact .inr (by omega)
      · exact .inr (by omega)
    · rintro (h | h)
      · exact .inl (.inl h)
      · by_cases hm : i < mid
        · exact .inl (.inr (by omega))
        · exact .inr (by omega)
  · obtain ⟨h1, h2, h3, h4⟩ := h.same i (by omega)
    obtain ⟨k1, k2, k3, k4⟩ := k.same i (by omega)
    exact ⟨k1.trans h1, k2.trans h2, k3.trans h3, k4.trans h4⟩

/-- A step: from the heap t, that stands for w's, to t', that stands for w''s; what t did not hold of the world has not turned. -/
structure St (c : Cx) (t : Nat → Option O) (w : World) (c' : Cx) (t' : Nat → Option O) (w' : World) (lo hi : Nat) : Prop where
  ext : Ext c c' lo hi
  hr : HR c' t' w'
  size : w.heap.size ≤ w'.heap.size
  keep : ∀ k, k < w.heap.size → (∀ i x, t i = some x → c.b i ≠ k) → w'.heap[k]? = w.heap[k]?
  img : ∀ i x, t' i = some x → (∃ j y, t j = some y ∧ c'.b i = c.b j) ∨ w.heap.size ≤ c'.b i
  os : w'.os = w.os
  tape : w'.tape = w.tape
  output : w'.output = w.output
  ros : ∀ i l, c.av i → t' i = some (.ro l) → (∃ m, t i = some (.ro m)) ∧ w'.heap[c.b i]? = w.heap[c.b i]?
theorem St.refl {c : Cx} {t : Nat → Option O} {w : World} (h : HR c t w) (n : Nat) : St c t w c t w n n :=
  ⟨Ext.refl c n, h, Nat.le_refl _, fun _ _ _ => rfl, fun i x hx => .inl ⟨i, x, hx, rfl⟩, rfl, rfl, rfl, fun i l _ hi => ⟨⟨l, hi⟩, rfl⟩⟩
theorem St.drew {c c' : Cx} {t t' : Nat → Option O} {w w' w2 : World} {lo hi : Nat} (h : St c t w c' t' w' lo hi) (hh : w2.heap = w'.heap) (ho : w2.os = w'.os) (ht : w2.tape = w'.tape) (hu : w2.output = w'.output) : St c t w c' t' w2 lo hi :=
  ⟨h.ext, ⟨fun i x hx => by rw [hh]; exact h.hr.at_ i x hx, h.hr.inj⟩, by rw [hh]; exact h.size, fun k a b => by rw [hh]; exact h.keep k a b, h.img, ho.trans h.os, ht.trans h.tape, hu.trans h.output, fun i l a b => by rw [hh]; exact h.ros i l a b⟩
theorem St.trans {a b c : Cx} {s t u : Nat → Option O} {w1 w2 w3 : World} {lo mid hi : Nat} (h : St a s w1 b t w2 lo mid) (k : St b t w2 c u w3 mid hi) : St a s w1 c u w3 lo hi := by
  refine ⟨h.ext.trans k.ext, k.hr, Nat.le_trans h.size k.size, fun n hn hs => ?_, fun i x hx => ?_, k.os.trans h.os, k.tape.trans h.tape, k.output.trans h.output, fun i l hav hi => ?_⟩
  · rw [k.keep n (Nat.lt_of_lt_of_le hn h.size), h.keep n hn hs]
    intro i x hx e
    rcases h.img i x hx with ⟨j, y, hj, hb⟩ | hb
    · exact hs j y hj (hb.symm.trans e)
    · omega
  · rcases k.img i x hx with ⟨j, y, hj, hb⟩ | hb
    · rcases h.img j y hj with ⟨m, z, hm, hb2⟩ | hb2
      · exact .inl ⟨m, z, hm, hb.trans hb2⟩
      · exact .inr (by omega)
    · exact .inr (Nat.le_trans h.size hb)
  · have hle := h.ext.toLe i hav
    obtain ⟨⟨m, hm⟩, e1⟩ := k.ros i l hle.1 hi
    obtain ⟨hs, e2⟩ := h.ros i m hav hm
    rw [hle.2.1] at e1
    exact ⟨hs, e1.trans e2⟩
theorem St.sub {c c' : Cx} {t t' t2 : Nat → Option O} {w w' : World} {lo hi : Nat} (h : St c t w c' t' w' lo hi) (hs : ∀ i x, t2 i = some x → t' i = some x) : St c t w c' t2 w' lo hi :=
  ⟨h.ext, ⟨fun i x hx => h.hr.at_ i x (hs i x hx), fun i j x y hx hy => h.hr.inj i j x y (hs i x hx) (hs j y hy)⟩, h.size, h.keep, fun i x hx => h.img i x (hs i x hx), h.os, h.tape, h.output, fun i l a b => h.ros i l a (hs i _ b)⟩

/-- one number more. -/
def Cx.put (c : Cx) (n b o e z : Nat) : Cx :=
  ⟨fun i => c.av i ∨ i = n, fun i => if i = n then b else c.b i, fun i => if i = n then o else c.o i, fun i => if i = n then e else c.e i, fun i => if i = n then z else c.z i⟩
theorem Cx.put_ext (c : Cx) (n b o e z : Nat) (h : ¬ c.av n) : Ext c (c.put n b o e z) n (n + 1) := by
  refine ⟨by omega, fun i a b => ?_, fun i => ?_, fun i hn => ?_⟩
  · have : i = n := by omega
    subst this; exact h
  · show c.av i ∨ i = n ↔ _
    constructor
    · rintro (h | h)
      · exact .inl h
      · exact .inr (by omega)
    · rintro (h | h)
      · exact .inl h
      · exact .inr (by omega)
  · have : i ≠ n := by omega
    simp [Cx.put, this]

/-- One block is turned. -/
structure Turned (w w' : World) (k : Nat) (o : Obj) : Prop where
  size : w'.heap.size = w.heap.size
  at_ : w'.heap[k]? = some o
  other : ∀ j, j ≠ k → w'.heap[j]? = w.heap[j]?
  os : w'.os = w.os
  tape : w'.tape = w.tape
  output : w'.output = w.output
/-- One block is new. -/
structure Made (w w' : World) (o : Obj) : Prop where
  size : w'.heap.size = w.heap.size + 1
  at_ : w'.heap[w.heap.size]? = some o
  other : ∀ j, j < w.heap.size → w'.heap[j]? = w.heap[j]?
  os : w'.os = w.os
  tape : w'.tape = w.tape
  output : w'.output = w.output

theorem OR.some {c : Cx} {i : Nat} {o : O} {x : Option Obj} (h : OR c i o x) : ∃ ob, x = some ob := by
  cases o with
  | cells l => obtain ⟨pre, l', post, ty, e, _⟩ := h; exact ⟨_, e⟩
  | ro l => obtain ⟨pre, l', post, ty, fr, e, _⟩ := h; exact ⟨_, e⟩
  | opn z l => obtain ⟨pre, l', post, ty, e, _⟩ := h; exact ⟨_, e⟩
  | map es k => obtain ⟨es', e, _⟩ := h; exact ⟨_, e⟩
  | loop st pend fn size tm ps as bd => obtain ⟨tm', ds, e, _⟩ := h; exact ⟨_, e⟩
  | deferred => exact ⟨_, h⟩
theorem HR.lt {c : Cx} {t : Nat → Option O} {w : World} (h : HR c t w) {i : Nat} {x : O} (hx : t i = some x) : c.b i < w.heap.size := by
  obtain ⟨ob, e⟩ := (h.at_ i x hx).2.some
  exact (Array.getElem?_eq_some_iff.1 e).1
theorem St.set {c : Cx} {t : T O} {w w' : World} (h : HR c t.get w) {b : Nat} {old o : O} {ob : Obj} (hb : t.get b = some old) (hw : Turned w w' (c.b b) ob) (ho : OR c b o (some ob)) (n : Nat) (hno : ∀ l, o ≠ O.ro l := by intro l h; cases h) :
    St c t.get w c (t.set b (some o)).get w' n n := by
  refine ⟨Ext.refl c n, ⟨fun i x hx => ?_, fun i j x y hx hy e => ?_⟩, Nat.le_of_eq hw.size.symm, fun k hk hn => ?_, fun i x hx => ?_, hw.os, hw.tape, hw.output, fun i l _ hi => ?_⟩
  · rw [T.get_set] at hx
    by_cases hi : i = b
    · subst hi
      rw [if_pos rfl] at hx
      cases hx
      exact ⟨(h.at_ _ _ hb).1, by rw [hw.at_]; exact ho⟩
    · rw [if_neg hi] at hx
      have := h.at_ i x hx
      refine ⟨this.1, ?_⟩
      rw [hw.other _ (fun e => hi (h.inj i b x old hx hb e))]
      exact this.2
  · rw [T.get_set] at hx hy
    have hx' : ∃ x, t.get i = some x := by
      by_cases hi : i = b
      · exact ⟨old, hi ▸ hb⟩
      · rw [if_neg hi] at hx; exact ⟨_, hx⟩
    have hy' : ∃ x, t.get j = some x := by
      by_cases hi : j = b
      · exact ⟨old, hi ▸ hb⟩
      · rw [if_neg hi] at hy; exact ⟨_, hy⟩
    obtain ⟨_, hx'⟩ := hx'
    obtain ⟨_, hy'⟩ := hy'
    exact h.inj i j _ _ hx' hy' e
  · exact hw.other k (fun e => hn b old hb e.symm)
  · rw [T.get_set] at hx
    by_cases hi : i = b
    · exact .inl ⟨b, old, hb, by rw [hi]⟩
    · rw [if_neg hi] at hx; exact .inl ⟨i, x, hx, rfl⟩
  · rw [T.get_set] at hi
    split at hi
    · cases hi; exact absurd rfl (hno l)
    · rename_i hib; exact ⟨⟨l, hi⟩, hw.other _ fun e => hib (h.inj i b _ old hi hb e)⟩
theorem St.new {c : Cx} {t : T O} {w w' : World} (h : HR c t.get w) {n : Nat} {o : O} {ob : Obj} (e z : Nat) (hn : ¬ c.av n) (hw : Made w w' ob) (ho : OR (c.put n w.heap.size 0 e z) n o (some ob)) :
    St c t.get w (c.put n w.heap.size 0 e z) (t.set n (some o)).get w' n (n + 1) := by
  have hx := c.put_ext n w.heap.size 0 e z hn
  have hno : ∀ i x, t.get i = some x → i ≠ n := fun i x hi e => hn (e ▸ (h.at_ i x hi).1)
  have hcb : ∀ i, i ≠ n → (c.put n w.heap.size 0 e z).b i = c.b i := fun i hi => by simp [Cx.put, hi]
  have hcn : (c.put n w.heap.size 0 e z).b n = w.heap.size := by simp [Cx.put]
  refine ⟨hx, ⟨fun i x hi => ?_, fun i j x y hi hj he => ?_⟩, by have := hw.size; omega, fun k hk _ => hw.other k hk, fun i x hi => ?_, hw.os, hw.tape, hw.output, fun i l hav hi => ?_⟩
  · rw [T.get_set] at hi
    by_cases hin : i = n
    · subst hin
      rw [if_pos rfl] at hi
      cases hi
      exact ⟨.inr rfl, by rw [hcn, hw.at_]; exact ho⟩
    · rw [if_neg hin] at hi
      have := h.at_ i x hi
      refine ⟨.inl this.1, ?_⟩
      rw [hcb i hin, hw.other _ (h.lt hi)]
      exact this.2.le hx.toLe this.1
  · rw [T.get_set] at hi hj
    by_cases hin : i = n
    · by_cases hjn : j = n
      · rw [hin, hjn]
      · rw [if_neg hjn] at hj
        rw [hin, hcn, hcb j hjn] at he
        have := h.lt hj
        omega
    · rw [if_neg hin] at hi
      by_cases hjn : j = n
      · rw [hjn, hcn, hcb i hin] at he
        have := h.lt hi
        omega
      · rw [if_neg hjn] at hj
        rw [hcb i hin, hcb j hjn] at he
        exact h.inj i j _ _ hi hj he
  · rw [T.get_set] at hi
    by_cases hin : i = n
    · exact .inr (by rw [hin, hcn]; exact Nat.le_refl _)
    · rw [if_neg hin] at hi; exact .inl ⟨i, x, hi, hcb i hin⟩
  · rw [T.get_set, if_neg (fun e : i = n => hn (e ▸ hav))] at hi
    exact ⟨⟨l, hi⟩, hw.other _ (h.lt hi)⟩
/-- A block goes on under a new number. -/
theorem St.shift {c : Cx} {t : T O} {w w' : World} (h : HR c t.get w) {n b : Nat} {old o : O} {ob : Obj} (off e z : Nat) (hn : ¬ c.av n) (hb : t.get b = some old) (hw : Turned w w' (c.b b) ob) (ho : OR (c.put n (c.b b) off e z) n o (some ob)) :
    St c t.get w (c.put n (c.b b) off e z) ((t.set b none).set n (some o)).get w' n (n + 1) := by
  have hx := c.put_ext n (c.b b) off e z hn
  have hno : ∀ i x, t.get i = some x → i ≠ n := fun i x hi e => hn (e ▸ (h.at_ i x hi).1)
  have hcb : ∀ i, i ≠ n → (c.put n (c.b b) off e z).b i = c.b i := fun i hi => by simp [Cx.put, hi]
  have hcn : (c.put n (c.b b) off e z).b n = c.b b := by simp [Cx.put]
  have hg : ∀ i x, ((t.set b none).set n (some o)).get i = some x → (i = n ∧ x = o) ∨ (i ≠ n ∧ i ≠ b ∧ t.get i = some x) := by
    intro i x hi
    rw [T.get_set, T.get_set] at hi
    by_cases hin : i = n
    · rw [if_pos hin] at hi; cases hi; exact .inl ⟨hin, rfl⟩
    · rw [if_neg hin] at hi
      by_cases hib : i = b
      · rw [if_pos hib] at hi; cases hi
      · rw [if_neg hib] at hi; exact .inr ⟨hin, hib, hi⟩
  refine ⟨hx, ⟨fun i x hi => ?_, fun i j x y hi hj he => ?_⟩, Nat.le_of_eq hw.size.symm, fun k hk hnk => hw.other k (fun e => hnk b old hb e.symm), fun i x hi => ?_, hw.os, hw.tape, hw.output, fun i l hav hi => ?_⟩
  · rcases hg i x hi with ⟨rfl, rfl⟩ | ⟨hin, hib, hi2⟩
    · exact ⟨.inr rfl, by rw [hcn, hw.at_]; exact ho⟩
    · have := h.at_ i x hi2
      refine ⟨.inl this.1, ?_⟩
      rw [hcb i hin, hw.other _ (fun e => hib (h.inj i b x old hi2 hb e))]
      exact this.2.le hx.toLe this.1
  · rcases hg i x hi with ⟨rfl, rfl⟩ | ⟨hin, hib, hi2⟩
    · rcases hg j y hj with ⟨rfl, rfl⟩ | ⟨hjn, hjb, hj2⟩
      · rfl
      · rw [hcn, hcb j hjn] at he
        exact absurd (h.inj b j _ _ hb hj2 he).symm hjb
    · rcases hg j y hj with ⟨rfl, rfl⟩ | ⟨hjn, hjb, hj2⟩
      · rw [hcn, hcb i hin] at he
        exact absurd (h.inj i b _ _ hi2 hb he) hib
      · rw [hcb i hin, hcb j hjn] at he
        exact h.inj i j _ _ hi2 hj2 he
  · rcases hg i x hi with ⟨rfl, rfl⟩ | ⟨hin, hib, hi2⟩
    · exact .inl ⟨b, old, hb, hcn⟩
    · exact .inl ⟨i, x, hi2, hcb i hin⟩
  · rcases hg i _ hi with ⟨rfl, rfl⟩ | ⟨hin, hib, hi2⟩
    · exact absurd hav hn
    · exact ⟨⟨l, hi2⟩, hw.other _ fun e => hib (h.inj i b _ old hi2 hb e)⟩

/-! rows -/
theorem HR.row {c : Cx} {u : Nat → Option O} {t : T O} {w : World} (h : HR c u w) {b : Nat} (hu : u b = t.get b) {l : List Value} (hb : rowOf t b = some l) :
    c.av b ∧ ∃ pre l' post ty fr, w.heap[c.b b]? = some (.cells ⟨pre ++ l' ++ post⟩ ty fr) ∧ pre.length = c.o b ∧ LR c l l' := by
  unfold rowOf at hb
  split at hb
  · rename_i x hx; cases hb; have := h.at_ _ _ (hu.trans hx); obtain ⟨pre, l', post, ty, e, hp, hl⟩ := this.2; exact ⟨this.1, pre, l', post, ty, _, e, hp, hl⟩
  · rename_i x hx; cases hb; have := h.at_ _ _ (hu.trans hx); obtain ⟨pre, l', post, ty, fr, e, hp, hl⟩ := this.2; exact ⟨this.1, pre, l', post, ty, fr, e, hp, hl⟩
  · rename_i z x hx; cases hb; have := h.at_ _ _ (hu.trans hx); obtain ⟨pre, l', post, ty, e, hp, hl, _⟩ := this.2; exact ⟨this.1, pre, l', post, ty, _, e, hp, hl⟩
  · cases hb
theorem HR.rowAt {c : Cx} {t : T O} {w : World} (h : HR c t.get w) {b : Nat} {l : List Value} {g : List Value → O} (hb : rowAt t b = some (l, g)) :
    c.av b ∧ t.get b = some (g l) ∧ ∃ pre l' post ty, w.heap[c.b b]? = some (.cells ⟨pre ++ l' ++ post⟩ ty (0, 0)) ∧ pre.length = c.o b ∧ LR c l l' ∧
      ∀ m m', LR c m m' → m.length = l.length → OR c b (g m) (some (.cells ⟨pre ++ m' ++ post⟩ ty (0, 0))) := by
  unfold Eng.rowAt at hb
  split at hb
  · rename_i x hx; cases hb; have := h.at_ _ _ hx; obtain ⟨pre, l', post, ty, e, hp, hl⟩ := this.2
    exact ⟨this.1, hx, pre, l', post, ty, e, hp, hl, fun m m' hm _ => ⟨pre, m', post, ty, rfl, hp, hm⟩⟩
  · rename_i z x hx; cases hb; have := h.at_ _ _ hx; obtain ⟨pre, l', post, ty, e, hp, hl, hz, he⟩ := this.2
    exact ⟨this.1, hx, pre, l', post, ty, e, hp, hl, fun m m' hm hlen => ⟨pre, m', post, ty, rfl, hp, hm, hz, by rw [hm.length, hlen, ← hl.length]; exact he⟩⟩
  · cases hb
theorem cell_of_parts {w : World} {k : Nat} {pre l post : List Value} {ty : TypeId} {fr : Nat × Nat} (hw : w.heap[k]? = some (.cells ⟨pre ++ l ++ post⟩ ty fr)) {j : Nat} {v : Value} (hj : l[j]? = some v) : w.cell? ⟨k, pre.length + j, none⟩ = some v := by
  rw [cell_of_row w k _ _ ty fr hw]
  have hlt : j < l.length := (List.getElem?_eq_some_iff.1 hj).1
  rw [show (⟨pre ++ l ++ post⟩ : Array Value)[pre.length + j]? = (pre ++ l ++ post)[pre.length + j]? from (Array.getElem?_toList ..).symm, List.append_assoc, List.getElem?_append_right (by omega), Nat.add_sub_cancel_left, List.getElem?_append_left hlt]
  exact hj
theorem add_addr (b o n : Nat) : (⟨b, o, none⟩ : Addr).add n = ⟨b, o + n, none⟩ := by unfold Addr.add; split <;> simp_all
theorem run_cells {P : Program} {w : World} {k : Nat} {pre l post : List Value} {ty : TypeId} {fr : Nat × Nat} (hw : w.heap[k]? = some (.cells ⟨pre ++ l ++ post⟩ ty fr)) {o n : Nat} (hn : o + n ≤ l.length) :
    (loadCells ⟨k, pre.length + o, none⟩ n).run P w = .ok ⟨cut l o n⟩ w := by
  have hl : (cut l o n).length = n := by simp [cut]; omega
  have := run_loadCells_list (P := P) w ⟨k, pre.length + o, none⟩ (cut l o n) (fun j v hv => by
    rw [add_addr, Nat.add_assoc]
    refine cell_of_parts hw ?_
    have hj : j < n := by have := (List.getElem?_eq_some_iff.1 hv).1; omega
    simpa [cut, List.getElem?_take, hj] using hv)
  rw [hl] at this
  simpa using this
theorem run_lay {P : Program} {w : World} {k : Nat} {pre l post : List Value} {ty : TypeId} (hw : w.heap[k]? = some (.cells ⟨pre ++ l ++ post⟩ ty (0, 0))) {o : Nat} {vs : List Value} (hn : o + vs.length ≤ l.length) (h1 : ∀ v ∈ vs, v.oneCell' = true) :
    ∃ w', (storeCells ⟨k, pre.length + o, none⟩ vs).run P w = .ok () w' ∧ Turned w w' k (.cells ⟨pre ++ lay l o vs ++ post⟩ ty (0, 0)) := by
  have := run_storeCells_at P k (pre.length + o) ty vs 0 _ w hw (by simp; omega) h1
  refine ⟨_, this, ?_⟩
  have hk : k < w.heap.size := (Array.getElem?_eq_some_iff.1 hw).1
  have he : (pre ++ l ++ post).take (pre.length + o + 0) ++ vs ++ (pre ++ l ++ post).drop (pre.length + o + 0 + vs.length) = pre ++ lay l o vs ++ post := by
    rw [lay_eq _ _ _ hn, Nat.add_zero, List.append_assoc pre l post, List.take_length_add_append, Nat.add_assoc, List.drop_length_add_append, List.take_append_of_le_length (by omega), List.drop_append_of_le_length (by omega)]
    simp only [List.append_assoc]
  refine ⟨by simp, ?_, fun j hj => setRow_other _ _ _ _ hj, by simp, by simp, by simp⟩
  rw [setRow_heap w k _ _ ty (0, 0) hw]
  simp only [he]
end Go.Eng
