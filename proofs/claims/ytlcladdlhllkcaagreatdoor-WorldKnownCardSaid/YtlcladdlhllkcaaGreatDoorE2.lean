/-
  PROVED HERE: laws of the evaluator's tries and forcings; how abstract values and heaps stand for a world's.
-/
import Derived.Test.YtlcladdlhllkcaaGreatDoorE1
import Derived.Calls
import Derived.Laws.CopyRow
import Derived.Laws.Rows
namespace Go.Eng
set_option linter.unusedVariables false
set_option linter.unusedSimpArgs false

/-! ### tries -/
noncomputable def T.set {α : Type} (t : T α) (n : Nat) (v : Option α) : T α := t.setK n v id
theorem T.setK_eq {α β : Type} (t : T α) (n : Nat) (v : Option α) (k : T α → β) : t.setK n v k = k (t.set n v) := by
  unfold T.set
  induction t generalizing n β with
  | leaf => rfl
  | node l o r ihl ihr =>
    show Bool.rec (motive := fun _ => β) (Bool.rec (motive := fun _ => β) (T.setK l (Nat.div n 2) v fun l' => k (.node l' o r)) (T.setK r (Nat.pred (Nat.div n 2)) v fun r' => k (.node l o r')) (Nat.beq (Nat.mod n 2) 0)) (k (.node l v r)) (Nat.beq n 0)
      = k (Bool.rec (motive := fun _ => T α) (Bool.rec (motive := fun _ => T α) (T.setK l (Nat.div n 2) v fun l' => id (.node l' o r)) (T.setK r (Nat.pred (Nat.div n 2)) v fun r' => id (.node l o r')) (Nat.beq (Nat.mod n 2) 0)) (id (.node l v r)) (Nat.beq n 0))
    cases Nat.beq n 0
    · cases Nat.beq (Nat.mod n 2) 0
      · show T.setK l _ v _ = k (T.setK l _ v _)
        rw [ihl, ihl (k := fun l' => id (T.node l' o r))]; rfl
      · show T.setK r _ v _ = k (T.setK r _ v _)
        rw [ihr, ihr (k := fun r' => id (T.node l o r'))]; rfl
    · rfl
theorem T.get_leaf {α : Type} (n : Nat) : (T.leaf : T α).get n = none := rfl
theorem T.get_node {α : Type} (l r : T α) (v : Option α) (n : Nat) : (T.node l v r).get n = if n = 0 then v else if n % 2 = 0 then r.get (n / 2 - 1) else l.get (n / 2) := by
  show Bool.rec (motive := fun _ => Option α) (Bool.rec (motive := fun _ => Option α) (l.get (Nat.div n 2)) (r.get (Nat.pred (Nat.div n 2))) (Nat.beq (Nat.mod n 2) 0)) v (Nat.beq n 0) = _
  by_cases h : n = 0
  · subst h; rfl
  · have h1 : Nat.beq n 0 = false := by cases n; exact absurd rfl h; rfl
    rw [h1, if_neg h]
    by_cases h2 : n % 2 = 0
    · have : Nat.beq (Nat.mod n 2) 0 = true := by show Nat.beq (n % 2) 0 = true; rw [h2]; rfl
      rw [this, if_pos h2]; rfl
    · have : Nat.beq (Nat.mod n 2) 0 = false := by
        show Nat.beq (n % 2) 0 = false
        cases hq : n % 2; exact absurd hq h2; rfl
      rw [this, if_neg h2]; rfl
theorem T.set_node {α : Type} (l r : T α) (o v : Option α) (n : Nat) : (T.node l o r).set n v = if n = 0 then .node l v r else if n % 2 = 0 then .node l o (r.set (n / 2 - 1) v) else .node (l.set (n / 2) v) o r := by
  show Bool.rec (motive := fun _ => T α) (Bool.rec (motive := fun _ => T α) (T.setK l (Nat.div n 2) v fun l' => id (.node l' o r)) (T.setK r (Nat.pred (Nat.div n 2)) v fun r' => id (.node l o r')) (Nat.beq (Nat.mod n 2) 0)) (id (.node l v r)) (Nat.beq n 0) = _
  rw [T.setK_eq, T.setK_eq]
  by_cases h : n = 0
  · subst h; rfl
  · have h1 : Nat.beq n 0 = false := by cases n; exact absurd rfl h; rfl
    rw [h1, if_neg h]
    by_cases h2 : n % 2 = 0
    · have : Nat.beq (Nat.mod n 2) 0 = true := by show Nat.beq (n % 2) 0 = true; rw [h2]; rfl
      rw [this, if_pos h2]; rfl
    · have : Nat.beq (Nat.mod n 2) 0 = false := by
        show Nat.beq (n % 2) 0 = false
        cases hq : n % 2; exact absurd hq h2; rfl
      rw [this, if_neg h2]; rfl
theorem T.get_one {α : Type} (v : Option α) : ∀ (f n : Nat), n + 2 ≤ 2 ^ f → ∀ m, (T.one f n v).get m = if m = n then v else none
  | 0, n, h, _ => by simp at h
  | f + 1, n, h, m => by
    have ih := T.get_one v f
    show T.get (Bool.rec (motive := fun _ => T α) (Bool.rec (motive := fun _ => T α) (.node (T.one f (Nat.div n 2) v) none .leaf) (.node .leaf none (T.one f (Nat.pred (Nat.div n 2)) v)) (Nat.beq (Nat.mod n 2) 0)) (.node .leaf v .leaf) (Nat.beq n 0)) m = _
    by_cases h0 : n = 0
    · subst h0
      show T.get (.node .leaf v .leaf) m = _
      rw [T.get_node]
      simp only [T.get_leaf]
      split
      · rfl
      · split <;> rfl
    · have h1 : Nat.beq n 0 = false := by cases n; exact absurd rfl h0; rfl
      rw [h1]
      have h2p : 2 ^ (f + 1) = 2 * 2 ^ f := by rw [Nat.pow_succ]; omega
      by_cases h2 : n % 2 = 0
      · have : Nat.beq (Nat.mod n 2) 0 = true := by show Nat.beq (n % 2) 0 = true; rw [h2]; rfl
        rw [this]
        show T.get (.node .leaf none (T.one f (n / 2 - 1) v)) m = _
        rw [T.get_node, ih (n / 2 - 1) (by omega)]
        simp only [T.get_leaf]
        by_cases hm : m = n
        · subst hm; rw [if_neg h0, if_pos h2, if_pos rfl, if_pos rfl]
        · rw [if_neg hm]
          split
          · rfl
          · split
            · rw [if_neg (by omega)]
            · rfl
      · have : Nat.beq (Nat.mod n 2) 0 = false := by
          show Nat.beq (n % 2) 0 = false
          cases hq : n % 2; exact absurd hq h2; rfl
        rw [this]
        show T.get (.node (T.one f (n / 2) v) none .leaf) m = _
        rw [T.get_node, ih (n / 2) (by omega)]
        simp only [T.get_leaf]
        by_cases hm : m = n
        · subst hm; rw [if_neg h0, if_neg h2, if_pos rfl, if_pos rfl]
        · rw [if_neg hm]
          split
          · rfl
          · split
            · rfl
            · rw [if_neg (by omega)]
theorem two_pow_big (n : Nat) : n + 2 ≤ 2 ^ (n + 1) := by
  induction n with
  | zero => decide
  | succ n ih => rw [Nat.pow_succ]; omega
theorem T.get_set {α : Type} (t : T α) (n : Nat) (v : Option α) (m : Nat) : (t.set n v).get m = if m = n then v else t.get m := by
  induction t generalizing n m with
  | leaf => exact T.get_one v (n + 1) n (two_pow_big n) m
  | node l o r ihl ihr =>
    rw [T.set_node]
    by_cases h0 : n = 0
    · subst h0
      rw [if_pos rfl, T.get_node, T.get_node]
      split
      · rfl
      · rfl
    · rw [if_neg h0]
      by_cases h2 : n % 2 = 0
      · rw [if_pos h2, T.get_node, T.get_node, ihr]
        by_cases hm : m = n
        · subst hm; rw [if_neg h0, if_pos h2, if_pos rfl, if_pos rfl]
        · rw [if_neg hm]
          split
          · rfl
          · split
            · rw [if_neg (by omega)]
            · rfl
      · rw [if_neg h2, T.get_node, T.get_node, ihl]
        by_cases hm : m = n
        · subst hm; rw [if_neg h0, if_neg h2, if_pos rfl, if_pos rfl]
        · rw [if_neg hm]
          split
          · rfl
          · split
            · rfl
            · rw [if_neg (by omega)]

/-! ### forcing -/
theorem forceN_eq {β : Type} (n : Nat) (k : Nat → β) : forceN n k = k n := by cases n <;> rfl
theorem forceI_eq {β : Type} (n : Int) (k : Int → β) : forceI n k = k n := by
  cases n with
  | ofNat m => exact forceN_eq m fun m => k (.ofNat m)
  | negSucc m => exact forceN_eq m fun m => k (.negSucc m)
theorem forceS_eq {β : Type} (v : Value) (k : Value → β) : forceS v k = k v := by
  unfold forceS
  split
  · exact forceI_eq _ _
  · rename_i b; cases b <;> rfl
  · rw [forceN_eq, forceN_eq]
  · rw [forceN_eq, forceN_eq, forceN_eq, forceN_eq]
  · rw [forceN_eq]
  · rfl
theorem forceL_eq {β : Type} (l : List Value) (k : List Value → β) : forceL l k = k l := by
  induction l generalizing k with
  | nil => rfl
  | cons x l ih =>
    show forceS x (fun x => forceL l fun l => k (x :: l)) = _
    rw [forceS_eq, ih]
theorem force_eq {β : Type} (v : Value) (k : Value → β) : force v k = k v := by
  unfold force
  split
  · rw [forceL_eq]
  · rw [forceL_eq]
  · exact forceS_eq _ _

/-! ### lists -/
theorem nth_eq {α : Type} (l : List α) (n : Nat) : nth l n = l[n]? := by
  induction l generalizing n with
  | nil => rfl
  | cons x l ih => cases n with
    | zero => rfl
    | succ n => simpa [nth] using ih n
theorem lay_eq {α : Type} (l : List α) (o : Nat) (ys : List α) (h : o + ys.length ≤ l.length) : lay l o ys = l.take o ++ ys ++ l.drop (o + ys.length) := by
  induction l generalizing o ys with
  | nil => simp at h; obtain ⟨rfl, rfl⟩ := h; rfl
  | cons x l ih =>
    cases o with
    | zero => cases ys with
      | nil => simp [lay]
      | cons y ys =>
        have := ih 0 ys (by simp at h ⊢; omega)
        simp [lay, this]
    | succ o =>
      have := ih o ys (by simp at h ⊢; omega)
      simp [lay, this, Nat.add_right_comm]

/-! ### what stands for what -/
/-- Which abstract blocks there have been; of each the block, the place where it begins; of one that an append has made, how many cells it has from there on, and how many an element takes. -/
structure Cx where
  av : Nat → Prop
  b : Nat → Nat
  o : Nat → Nat
  e : Nat → Nat
  z : Nat → Nat
/-- c' knows all that c knows. -/
def Le (c c' : Cx) : Prop := ∀ i, c.av i → c'.av i ∧ c'.b i = c.b i ∧ c'.o i = c.o i ∧ c'.e i = c.e i ∧ c'.z i = c.z i
theorem Le.refl (c : Cx) : Le c c := fun i h => ⟨h, rfl, rfl, rfl, rfl⟩
theorem Le.trans {a b c : Cx} (h : Le a b) (k : Le b c) : Le a c := fun i hi =>
  have ⟨h1, h2, h3, h4, h5⟩ := h i hi
  have ⟨k1, k2, k3, k4, k5⟩ := k i h1
  ⟨k1, k2.trans h2, k3.trans h3, k4.trans h4, k5.trans h5⟩

mutual
inductive VR (c : Cx) : Value → Value → Prop where
  | any (v : Value) : VR c (.chan none) v
  | bool (b : Bool) : VR c (.bool b) (.bool b)
  | int (k : IntKind) (n : Int) : VR c (.int k n) (.int k n)
  | float (k : FloatKind) (n : Nat) : VR c (.float k n) (.float k n)
  | complex (k : FloatKind) (n m : Nat) : VR c (.complex k n m) (.complex k n m)
  | string (s : ByteArray) : VR c (.string s) (.string s)
  | pnil : VR c (.pointer none) (.pointer none)
  | ptr {b o : Nat} (h : c.av b) : VR c (.pointer (some ⟨b, o, none⟩)) (.pointer (some ⟨c.b b, c.o b + o, none⟩))
  | snil (l k : Nat) : VR c (.slice none l k) (.slice none l k)
  | slice {b o : Nat} (h : c.av b) (l k : Nat) (hk : k < big) : VR c (.slice (some ⟨b, o, none⟩) l k) (.slice (some ⟨c.b b, c.o b + o, none⟩) l k)
  | open_ {b o : Nat} (h : c.av b) (l k k' : Nat) (hk : big ≤ k) (hl : l ≤ k - big) (hk' : k - big ≤ k') (he : o + k' * c.z b = c.e b) : VR c (.slice (some ⟨b, o, none⟩) l k) (.slice (some ⟨c.b b, c.o b + o, none⟩) l k')
  | loose (a : Addr) (s : Nat) (a' : Addr) (k' : Nat) (h : a.spot = some s) : VR c (.slice (some a) 0 big) (.slice (some a') 0 k')
  | mnil : VR c (.map none) (.map none)
  | map {b : Nat} (h : c.av b) : VR c (.map (some b)) (.map (some (c.b b)))
  | fnil : VR c .nilFunc .nilFunc
  | func (f : FuncId) {x x' y y' : List Value} (hx : LR c x x') (hy : LR c y y') : VR c (.func (.func f) ⟨x⟩ ⟨y⟩) (.func (.func f) ⟨x'⟩ ⟨y'⟩)
  | yield {l : Nat} (h : c.av l) : VR c (.func (.yield l) ⟨[]⟩ ⟨[]⟩) (.func (.yield (c.b l)) ⟨[]⟩ ⟨[]⟩)
  | inil : VR c .nilIface .nilIface
  | agg {x x' : List Value} (hx : LR c x x') : VR c (.agg ⟨x⟩) (.agg ⟨x'⟩)
  | tuple {x x' : List Value} (hx : LR c x x') : VR c (.tuple ⟨x⟩) (.tuple ⟨x'⟩)
inductive LR (c : Cx) : List Value → List Value → Prop where
  | nil : LR c [] []
  | cons {v v' : Value} {l l' : List Value} (h : VR c v v') (hl : LR c l l') : LR c (v :: l) (v' :: l')
end

mutual
theorem VR.le {c c' : Cx} (hc : Le c c') {v v' : Value} (h : VR c v v') : VR c' v v' := by
  cases h with
  | any => exact .any _
  | bool => exact .bool _
  | int => exact .int _ _
  | float => exact .float _ _
  | complex => exact .complex _ _ _
  | string => exact .string _
  | pnil => exact .pnil
  | ptr h => obtain ⟨h1, h2, h3, _, _⟩ := hc _ h; rw [← h2, ← h3]; exact .ptr h1
  | snil => exact .snil _ _
  | slice h l k hk => obtain ⟨h1, h2, h3, _, _⟩ := hc _ h; rw [← h2, ← h3]; exact .slice h1 _ _ hk
  | open_ h l k k' hk hl hk' he => obtain ⟨h1, h2, h3, h4, h5⟩ := hc _ h; rw [← h2, ← h3]; exact .open_ h1 _ _ _ hk hl hk' (by rw [h4, h5]; exact he)
  | loose a s a' k' h => exact .loose _ _ _ _ h
  | mnil => exact .mnil
  | map h => obtain ⟨h1, h2, _, _, _⟩ := hc _ h; rw [← h2]; exact .map h1
  | fnil => exact .fnil
  | func f hx hy => exact .func f (hx.le hc) (hy.le hc)
  | yield h => obtain ⟨h1, h2, _, _, _⟩ := hc _ h; rw [← h2]; exact .yield h1
  | inil => exact .inil
  | agg hx => exact .agg (hx.le hc)
  | tuple hx => exact .tuple (hx.le hc)
theorem LR.le {c c' : Cx} (hc : Le c c') {l l' : List Value} (h : LR c l l') : LR c' l l' := by
  cases h with
  | nil => exact .nil
  | cons h hl => exact .cons (h.le hc) (hl.le hc)
end
theorem LR.length {c : Cx} {l l' : List Value} (h : LR c l l') : l'.length = l.length := by
  induction l generalizing l' with
  | nil => cases h; rfl
  | cons x l ih => cases h with | cons _ hl => simp [ih hl]
theorem LR.get {c : Cx} {l l' : List Value} (h : LR c l l') {i : Nat} {v : Value} (hi : l[i]? = some v) : ∃ v', l'[i]? = some v' ∧ VR c v v' := by
  induction l generalizing l' i with
  | nil => simp at hi
  | cons x l ih => cases h with
    | cons h hl => cases i with
      | zero => simp at hi; subst hi; exact ⟨_, rfl, h⟩
      | succ i => simpa using ih hl (by simpa using hi)
theorem LR.append {c : Cx} {l l' m m' : List Value} (h : LR c l l') (k : LR c m m') : LR c (l ++ m) (l' ++ m') := by
  induction l generalizing l' with
  | nil => cases h; exact k
  | cons x l ih => cases h with | cons h hl => exact .cons h (ih hl)
theorem LR.take {c : Cx} {l l' : List Value} (h : LR c l l') (n : Nat) : LR c (l.take n) (l'.take n) := by
  induction l generalizing l' n with
  | nil => cases h; simp; exact .nil
  | cons x l ih => cases h with
    | cons h hl => cases n with
      | zero => exact .nil
      | succ n => exact .cons h (ih hl n)
theorem LR.drop {c : Cx} {l l' : List Value} (h : LR c l l') (n : Nat) : LR c (l.drop n) (l'.drop n) := by
  induction l generalizing l' n with
  | nil => cases h; simp; exact .nil
  | cons x l ih => cases h with
    | cons h hl => cases n with
      | zero => exact .cons h hl
      | succ n => exact ih hl n
theorem LR.lay {c : Cx} {l l' m m' : List Value} (h : LR c l l') (k : LR c m m') {o : Nat} (ho : o + m.length ≤ l.length) : LR c (lay l o m) (lay l' o m') := by
  rw [lay_eq _ _ _ ho, lay_eq _ _ _ (by rw [h.length, k.length]; exact ho), k.length]
  exact ((h.take _).append k).append (h.drop _)
theorem LR.cut {c : Cx} {l l' : List Value} (h : LR c l l') (o n : Nat) : LR c (cut l o n) (cut l' o n) := (h.drop o).take n
theorem VR.undef (c : Cx) : VR c undef undef := .tuple .nil

/-! flat values stand for themselves -/
theorem flat_vr (c : Cx) : ∀ (n : Nat) (v : Value), flat n v = true → VR c v v ∧ ∀ v', VR c v v' → v' = v
  | 0, v, h => by cases h
  | n + 1, v, h => by
    have ih := flat_vr c n
    have hl : ∀ l : List Value, l.all (flat n) = true → LR c l l ∧ ∀ l', LR c l l' → l' = l := by
      intro l
      induction l with
      | nil => exact fun _ => ⟨.nil, fun l' h => by cases h; rfl⟩
      | cons x l ihl =>
        intro h
        simp only [List.all_cons, Bool.and_eq_true] at h
        obtain ⟨h1, h2⟩ := ih x h.1
        obtain ⟨h3, h4⟩ := ihl h.2
        exact ⟨.cons h1 h3, fun l' h => by cases h with | cons a b => rw [h2 _ a, h4 _ b]⟩
    unfold flat at h
    split at h
    case h_9 => exact ⟨.inil, fun v' h => by cases h; rfl⟩
    case h_1 => exact ⟨.bool _, fun v' h => by cases h; rfl⟩
    case h_2 => exact ⟨.int _ _, fun v' h => by cases h; rfl⟩
    case h_3 => exact ⟨.float _ _, fun v' h => by cases h; rfl⟩
    case h_4 => exact ⟨.complex _ _ _, fun v' h => by cases h; rfl⟩
    case h_5 => exact ⟨.string _, fun v' h => by cases h; rfl⟩
    case h_6 => exact ⟨.pnil, fun v' h => by cases h; rfl⟩
    case h_7 => exact ⟨.mnil, fun v' h => by cases h; rfl⟩
    case h_8 => exact ⟨.fnil, fun v' h => by cases h; rfl⟩
    case h_10 => exact ⟨.snil _ _, fun v' h => by cases h; rfl⟩
    case h_11 =>
      obtain ⟨h1, h2⟩ := hl _ h
      exact ⟨.agg h1, fun v' h => by cases h with | agg hx => rw [h2 _ hx]⟩
    case h_12 =>
      obtain ⟨h1, h2⟩ := hl _ h
      exact ⟨.tuple h1, fun v' h => by cases h with | tuple hx => rw [h2 _ hx]⟩
    case h_13 => exact ⟨.func _ .nil .nil, fun v' h => by cases h with | func f hx hy => cases hx; cases hy; rfl⟩
    case h_14 => cases h
theorem flats_lr (c : Cx) (l : List Value) (h : flats l = true) : LR c l l ∧ ∀ l', LR c l l' → l' = l := by
  induction l with
  | nil => exact ⟨.nil, fun l' h => by cases h; rfl⟩
  | cons x l ih =>
    simp only [flats, List.all_cons, Bool.and_eq_true] at h
    obtain ⟨h1, h2⟩ := flat_vr c 4 x h.1
    obtain ⟨h3, h4⟩ := ih h.2
    exact ⟨.cons h1 h3, fun l' h => by cases h with | cons a b => rw [h2 _ a, h4 _ b]⟩
theorem prog_run {α : Type} {P : Program} {s : Sem α} {v : α} (h : prog P s = some v) (w : World) : s.run P w = .ok v w := by
  induction s with
  | pure a => simp only [prog, Option.some.injEq] at h; subst h; rfl
  | program k ih => exact ih P h
  | mark m k ih => exact ih h
  | _ => cases h
theorem oneV_ok {c : Cx} {v v' : Value} (h : VR c v v') (h1 : oneV v = true) : v'.oneCell' = true := by
  cases h <;> first | rfl | cases h1
theorem LR.ones {c : Cx} {l l' : List Value} (h : LR c l l') (h1 : l.all oneV = true) : ∀ v ∈ l', v.oneCell' = true := by
  induction l generalizing l' with
  | nil => cases h; simp
  | cons x l ih => cases h with
    | cons h hl =>
      simp only [List.all_cons, Bool.and_eq_true] at h1
      intro v hv
      rcases List.mem_cons.1 hv with rfl | hv
      · exact oneV_ok h h1.1
      · exact ih hl h1.2 v hv
end Go.Eng
