/-
  PROVED HERE: rows of digits that are read and appended to: at and plus of the reference's numbers (ephemerisref01) return what the digits come to.
-/
import Derived.Test.YtigifoinejbnnaaA6
import Derived.LoopTactic
import Derived.OwnWalk
import Derived.Deep.AppendLies
namespace Go.Proofs.Ytigifoinejbnnaa
set_option linter.unusedVariables false
set_option linter.unusedSimpArgs false
open Go.RowKit
attribute [local go_sem] cellOf frozenOf heap_drew heap_drewN

theorem Fr.cell {S} {w w' : World} (h : Fr S w w') {b o : Nat} (hb : b < w.heap.size) (hn : b ∉ S) : w'.cell? ⟨b, o, none⟩ = w.cell? ⟨b, o, none⟩ :=
  World.cell?_of_block (w := w) (h.block b hb hn)
theorem lt_of_cell {w : World} {b o : Nat} {v : Value} (h : w.cell? ⟨b, o, none⟩ = some v) : b < w.heap.size := World.block_lt_of_cell? w _ h

/-- A slice of digits reads as l. -/
def Rd (w : World) (A : Option Addr) (n : Nat) (l : List Nat) : Prop :=
  l.length = n ∧ n ≤ 100000 ∧ (0 < n → ∃ g off, A = some ⟨g, off, none⟩ ∧ g < w.heap.size ∧ ∀ i, i < n → w.cell? ⟨g, off + i, none⟩ = some (.int .u32 (l.getD i 0 : Nat)))
theorem Rd.fr {w w' : World} {A n l} (h : Rd w A n l) (k : Fr [] w w') : Rd w' A n l := by
  obtain ⟨h1, h2, h3⟩ := h
  refine ⟨h1, h2, fun hn => ?_⟩
  obtain ⟨g, off, e, hg, hc⟩ := h3 hn
  exact ⟨g, off, e, Nat.lt_of_lt_of_le hg k.size, fun i hi => (k.cell hg (by simp)).trans (hc i hi)⟩
theorem Rd.nil (w : World) (A : Option Addr) : Rd w A 0 [] := ⟨rfl, by omega, fun h => absurd h (by omega)⟩

def Dg (l : List Nat) : Prop := ∀ x ∈ l, x < 65536
theorem Dg.getD {l : List Nat} (h : Dg l) (i : Nat) : l.getD i 0 < 65536 := by
  rw [List.getD_eq_getElem?_getD]
  by_cases hi : i < l.length
  · rw [List.getElem?_eq_getElem hi]; exact h _ (List.getElem_mem hi)
  · rw [List.getElem?_eq_none (by omega)]; simp

/-- What is owned by the call is read. -/
def U32 (l : List Nat) : List Value := l.map fun (x : Nat) => Value.int .u32 (x : Int)
theorem own_rd {w : World} {base n : Nat} {v : Value} {l : List Nat} (h : w.ownsRow base 23 1 v n (U32 l)) (hn : n ≤ 100000) : ∃ A c, v = .slice A n c ∧ Rd w A n l := by
  have hl : l.length = n := by have := h.1; simp [U32] at this; exact this
  rcases Nat.eq_zero_or_pos n with h0 | h0
  · rcases h.2 with ⟨rfl, rfl⟩ | ⟨g, cap, cur, rfl, _⟩
    · exact ⟨none, 0, rfl, hl, hn, fun hp => absurd hp (by omega)⟩
    · exact ⟨_, cap, rfl, hl, hn, fun hp => absurd hp (by omega)⟩
  · obtain ⟨g, cap, rfl, _, _⟩ := h.form h0
    have hc : ∀ i, i < n → w.cell? ⟨g, 0 + i, none⟩ = some (.int .u32 (l.getD i 0 : Nat)) := fun j hj => by
      have h1 := h.cells (g := g) rfl j (.int .u32 (l.getD j 0 : Nat)) (by simp [U32, List.getElem?_eq_getElem (show j < l.length by omega), List.getD_eq_getElem?_getD])
      have h2 : (⟨g, 0, none⟩ : Addr).add j = ⟨g, 0 + j, none⟩ := by unfold Addr.add; split <;> simp_all
      simpa [h2] using h1
    exact ⟨_, cap, rfl, hl, hn, fun _ => ⟨g, 0, rfl, lt_of_cell (hc 0 h0), hc⟩⟩

theorem at_in (A : Option Addr) (n c i : Nat) (l : List Nat) (w : World) (h : Rd w A n l) (hi : i < n) :
    Calls Try.prog 37 #[.slice A n c, .int .i64 i] w fun e w' => e = .returned (.int .u32 (l.getD i 0 : Nat)) ∧ w = w' := by
  obtain ⟨h1, h2, h3⟩ := h
  obtain ⟨g, off, rfl, hg, hc⟩ := h3 (by omega)
  have hci := hc i hi
  clear h3 hc
  generalize l.getD i 0 = d at *
  go_enter Try.func37, Try.ntmps37
  go_wp2
  go_ret
  exact ⟨rfl, rfl⟩
theorem at_out (A : Option Addr) (n c i : Nat) (l : List Nat) (w : World) (h : Rd w A n l) (hi : n ≤ i) :
    Calls Try.prog 37 #[.slice A n c, .int .i64 i] w fun e w' => e = .returned (.int .u32 (l.getD i 0 : Nat)) ∧ w = w' := by
  have hz : l.getD i 0 = 0 := by rw [List.getD_eq_getElem?_getD, List.getElem?_eq_none (by have := h.1; omega)]; rfl
  rw [hz]
  have hn := h.2.1
  clear h hz
  go_enter Try.func37, Try.ntmps37
  go_wp2
  go_ret
  exact ⟨rfl, rfl⟩
theorem at_any (A : Option Addr) (n c i : Nat) (l : List Nat) (w : World) (h : Rd w A n l) :
    Calls Try.prog 37 #[.slice A n c, .int .i64 i] w fun e w' => e = .returned (.int .u32 (l.getD i 0 : Nat)) ∧ w = w' := by
  by_cases hi : i < n
  · exact at_in A n c i l w h hi
  · exact at_out A n c i l w h (by omega)

/-- What a row of digits comes to. -/
def val : List Nat → Nat
  | [] => 0
  | x :: r => x + 65536 * val r
def vd (l : List Nat) (i : Nat) : Nat := val (l.drop i)
theorem vd_step (l : List Nat) (i : Nat) : vd l i = l.getD i 0 + 65536 * vd l (i + 1) := by
  unfold vd
  by_cases hi : i < l.length
  · rw [List.drop_eq_getElem_cons hi, val, List.getD_eq_getElem?_getD, List.getElem?_eq_getElem hi]; rfl
  · rw [List.drop_eq_nil_of_le (by omega), List.drop_eq_nil_of_le (by omega), List.getD_eq_getElem?_getD, List.getElem?_eq_none (by omega)]; simp [val]
theorem vd_end {l : List Nat} {i : Nat} (h : l.length ≤ i) : vd l i = 0 := by unfold vd; rw [List.drop_eq_nil_of_le h]; rfl
theorem val_append (a b : List Nat) : val (a ++ b) = val a + 65536 ^ a.length * val b := by
  induction a with
  | nil => simp [val]
  | cons x r ih =>
    simp only [List.cons_append, val, ih, List.length_cons, Nat.pow_succ]
    rw [Nat.mul_add, Nat.mul_comm (65536 ^ r.length) 65536, Nat.mul_assoc]; omega
theorem val_snoc (a : List Nat) (x : Nat) : val (a ++ [x]) = val a + 65536 ^ a.length * x := by rw [val_append]; simp [val]
theorem Dg.snoc {a : List Nat} {x : Nat} (h : Dg a) (hx : x < 65536) : Dg (a ++ [x]) := fun y hy => by
  rcases List.mem_append.1 hy with hy | hy
  · exact h y hy
  · rw [List.mem_singleton] at hy; omega
theorem Dg.nil : Dg [] := fun _ h => by cases h
theorem U32_snoc (l : List Nat) (x : Nat) : U32 l ++ [.int .u32 (x : Int)] = U32 (l ++ [x]) := by simp [U32]
theorem info23 : (Try.prog.info? 23).map (fun i => (i.zero, i.size, i.bytes)) = some (some (.int .u32 0), 1, 4) := by kernel_rfl

/-- A row of digits of the call's own is handed back. -/
def Row (w : World) (P : List Nat → Prop) (e : Ending) (w' : World) : Prop := ∃ v r, e = .returned v ∧ w'.ownsRow w.heap.size 23 1 v r.length (U32 r) ∧ Dg r ∧ P r ∧ Fr [] w w'

/-- A sum, a digit further. -/
theorem plus_step {a b out : List Nat} {c n i : Nat} (hi : out.length = i) (hn : n = a.getD i 0 + b.getD i 0 + c) :
    val (out ++ [n % 65536]) + 65536 ^ (i + 1) * (n / 65536 + vd a (i + 1) + vd b (i + 1)) = val out + 65536 ^ i * (c + vd a i + vd b i) := by
  subst hi
  rw [val_snoc, vd_step a out.length, vd_step b out.length, Nat.pow_succ, Nat.mul_assoc, Nat.add_assoc, ← Nat.mul_add]
  congr 2
  omega

/-- Behind an append to a row of the call's own: all that was there when the call began is as it was. -/
theorem Fr.grown {w0 w w' : World} {row : Option Nat} (h : Fr [] w0 w) (hg : w.grownBy w' row) (hr : ∀ k, row = some k → w0.heap.size ≤ k) : Fr [] w0 w' :=
  ⟨hg.os.trans h.os, hg.tape.trans h.tape, hg.output.trans h.output, Nat.le_trans h.size hg.size, fun k hk hn =>
    (hg.block k (Nat.lt_of_lt_of_le hk h.size) (fun e => by have := hr k e.symm; omega)).trans (h.block k hk hn)⟩
theorem own_base {w : World} {base : Nat} {e : TypeId} {size n : Nat} {v : Value} {xs : List Value} (h : w.ownsRow base e size v n xs) : ∀ k, v.ownBlock = some k → base ≤ k := fun k hk => (h.lt k hk).1

theorem hval_next {a b xs : List Nat} {n d q c k T : Nat} (h : val (xs ++ [n % 65536]) + 65536 ^ (k + 1) * (n / 65536 + vd a (k + 1) + vd b (k + 1)) = val xs + 65536 ^ k * (c + vd a k + vd b k)) (hd : n % 65536 = d) (hq : n / 65536 = q) (hv : val xs + 65536 ^ k * (c + vd a k + vd b k) = T) :
    val (xs ++ [d]) + 65536 ^ (k + 1) * (q + vd a (k + 1) + vd b (k + 1)) = T := by rw [← hd, ← hq, h]; exact hv
set_option maxHeartbeats 1000000 in
theorem plus_any (A B : Option Addr) (na ca nb cb : Nat) (a b : List Nat) (w : World) (ha : Rd w A na a) (hb : Rd w B nb b) (hda : Dg a) (hdb : Dg b) (hna : na < 50000) (hnb : nb < 50000) :
    Calls Try.prog 34 #[.slice A na ca, .slice B nb cb] w (Row w fun r => val r = val a + val b ∧ r.length ≤ max na nb + 1) := by
  obtain ⟨i0, hi, hz0, hz1, hz2⟩ := info_parts info23
  have hla := ha.1
  have hlb := hb.1
  have HLA := Lib.hid hla
  have HLB := Lib.hid hlb
  clear hla hlb
  go_enter Try.func34, Try.ntmps34
  go_wp2_with (fail)
  go_loopw [5, 6, 7] (fun out carry i wr => ∃ (k c : Nat) (xs : List Nat), i = .int .i64 k ∧ carry = .int .u32 c ∧ wr.ownsRow w.heap.size 23 1 out k (U32 xs) ∧ xs.length = k ∧ k ≤ max na nb + 1 ∧ c ≤ 1 ∧ (max na nb + 1 ≤ k → c = 0) ∧ Dg xs ∧ val xs + 65536 ^ k * (c + vd a k + vd b k) = val a + val b ∧ Fr [] w wr) (fun _ _ i _ => max na nb + 2 - (intOf i).toNat)
  case atStart => exact ⟨0, 0, [], rfl, rfl, ⟨rfl, .inl ⟨rfl, rfl⟩⟩, rfl, by omega, by omega, fun _ => rfl, Dg.nil, by simp [vd, val], Fr.refl _ _⟩
  case round =>
    obtain ⟨k, c, xs, rfl, rfl, hown, hxs, hk, hc, hcz, hdx, hval, hf⟩ := hrel
    have HX := Lib.hid hxs
    have HV := Lib.hid hval
    have HC := Lib.hid hcz
    clear hxs hval hcz
    have hda' := hda.getD k
    have hdb' := hdb.getD k
    have hcase : (k < na) ∨ ((na : Int) ≤ (k : Int) ∧ k < nb) ∨ ((na : Int) ≤ (k : Int) ∧ (nb : Int) ≤ (k : Int) ∧ 0 < c) ∨ ((na : Int) ≤ (k : Int) ∧ (nb : Int) ≤ (k : Int) ∧ c = 0) := by omega
    have hkm : (k < na) ∨ ((na : Int) ≤ (k : Int) ∧ k < nb) ∨ ((na : Int) ≤ (k : Int) ∧ (nb : Int) ≤ (k : Int) ∧ 0 < c) → k < max na nb + 1 := by
      have := HC.out
      omega
    have HK := Lib.hid hkm
    clear hkm
    obtain ⟨x, hx⟩ : ∃ x, a.getD k 0 = x := ⟨_, rfl⟩
    obtain ⟨y, hy⟩ : ∃ y, b.getD k 0 = y := ⟨_, rfl⟩
    rw [hx] at hda'
    rw [hy] at hdb'
    have HXX := Lib.hid hx
    have HYY := Lib.hid hy
    clear hx hy
    obtain ⟨n, hn⟩ : ∃ n, x + y + c = n := ⟨_, rfl⟩
    have n1 : (x : Int) + (y : Int) + (c : Int) = (n : Int) := by omega
    have hstep := Lib.hid (plus_step (a := a) (b := b) (out := xs) (c := c) (n := n) HX.out (by rw [HXX.out, HYY.out, hn]))
    have nb1 : n ≤ 131071 := by omega
    have hzero : Hid (max na nb + 1 ≤ k + 1 → n / 65536 = 0) := by
      intro h
      have e1 : a.getD k 0 = 0 := by rw [List.getD_eq_getElem?_getD, List.getElem?_eq_none (by have := HLA.out; omega)]; rfl
      have e2 : b.getD k 0 = 0 := by rw [List.getD_eq_getElem?_getD, List.getElem?_eq_none (by have := HLB.out; omega)]; rfl
      rw [HXX.out] at e1
      rw [HYY.out] at e2
      omega
    clear hn
    obtain ⟨d, n2⟩ : ∃ d : Nat, (n : Int) % 65536 = (d : Int) := ⟨n % 65536, by omega⟩
    obtain ⟨q, n3⟩ : ∃ q : Nat, (n : Int) / 65536 = (q : Int) := ⟨n / 65536, by omega⟩
    have nb2 : q ≤ 1 := by omega
    have nb3 : d < 65536 := by omega
    have HD := Lib.hid (show n % 65536 = d by omega)
    have HQ := Lib.hid (show n / 65536 = q by omega)
    rcases hcase with h1 | ⟨h0, h1⟩ | ⟨h0, h1, h2⟩ | ⟨h0, h1, h2⟩
    · have hkk := HK.out (.inl h1)
      go_wp2_with (fail)
      refine (at_any A na ca k a _ (ha.fr hf)).mono ?_
      rintro e wx ⟨rfl, rfl⟩
      rw [HXX.out]
      go_wp2_with (fail)
      refine (at_any B nb cb k b _ (hb.fr hf)).mono ?_
      rintro e wx ⟨rfl, rfl⟩
      rw [HYY.out]
      go_wp2_with (at_builtin; refine wpList_append_own _ rfl _ _ 46 rfl (w.heap.size) 23 i0 (.int .u32 0) 1 4 Try.underlying46 hi hz0 hz1 hz2 rfl (by decide) _ _ _ rfl (hown.alloc _) ⟨wr.heap.size, 0, none⟩ 1 1 [.int .u32 (d : Int)] rfl rfl (cell_one_new _ _ _) (by simp [Value.oneCell']) (by unfold maxLen; omega) (by omega) (by have := hf.size; simp; omega) ?_; intro v1 w1 hown1 hgrow hnil)
      rw [U32_snoc] at hown1
      have hf1 := (hf.alloc (.cells #[.int .u32 (d : Int)] 23)).grown hgrow (own_base hown)
      clear hown hgrow hf hnil
      go_wp2_with (fail)
      go_roundw
      case rel => exact ⟨k + 1, q, xs ++ [d], by go_num, rfl, hown1, by simp [HX.out], by omega, nb2, by rw [← HQ.out]; exact hzero.out, hdx.snoc nb3, hval_next hstep.out HD.out HQ.out HV.out, hf1⟩
      case measure => simp [intOf]; omega
    · have hkk := HK.out (.inr (.inl ⟨h0, h1⟩))
      go_wp2_with (fail)
      refine (at_any A na ca k a _ (ha.fr hf)).mono ?_
      rintro e wx ⟨rfl, rfl⟩
      rw [HXX.out]
      go_wp2_with (fail)
      refine (at_any B nb cb k b _ (hb.fr hf)).mono ?_
      rintro e wx ⟨rfl, rfl⟩
      rw [HYY.out]
      go_wp2_with (at_builtin; refine wpList_append_own _ rfl _ _ 46 rfl (w.heap.size) 23 i0 (.int .u32 0) 1 4 Try.underlying46 hi hz0 hz1 hz2 rfl (by decide) _ _ _ rfl (hown.alloc _) ⟨wr.heap.size, 0, none⟩ 1 1 [.int .u32 (d : Int)] rfl rfl (cell_one_new _ _ _) (by simp [Value.oneCell']) (by unfold maxLen; omega) (by omega) (by have := hf.size; simp; omega) ?_; intro v1 w1 hown1 hgrow hnil)
      rw [U32_snoc] at hown1
      have hf1 := (hf.alloc (.cells #[.int .u32 (d : Int)] 23)).grown hgrow (own_base hown)
      clear hown hgrow hf hnil
      go_wp2_with (fail)
      go_roundw
      case rel => exact ⟨k + 1, q, xs ++ [d], by go_num, rfl, hown1, by simp [HX.out], by omega, nb2, by rw [← HQ.out]; exact hzero.out, hdx.snoc nb3, hval_next hstep.out HD.out HQ.out HV.out, hf1⟩
      case measure => simp [intOf]; omega
    · have hkk := HK.out (.inr (.inr ⟨h0, h1, h2⟩))
      go_wp2_with (fail)
      refine (at_any A na ca k a _ (ha.fr hf)).mono ?_
      rintro e wx ⟨rfl, rfl⟩
      rw [HXX.out]
      go_wp2_with (fail)
      refine (at_any B nb cb k b _ (hb.fr hf)).mono ?_
      rintro e wx ⟨rfl, rfl⟩
      rw [HYY.out]
      go_wp2_with (at_builtin; refine wpList_append_own _ rfl _ _ 46 rfl (w.heap.size) 23 i0 (.int .u32 0) 1 4 Try.underlying46 hi hz0 hz1 hz2 rfl (by decide) _ _ _ rfl (hown.alloc _) ⟨wr.heap.size, 0, none⟩ 1 1 [.int .u32 (d : Int)] rfl rfl (cell_one_new _ _ _) (by simp [Value.oneCell']) (by unfold maxLen; omega) (by omega) (by have := hf.size; simp; omega) ?_; intro v1 w1 hown1 hgrow hnil)
      rw [U32_snoc] at hown1
      have hf1 := (hf.alloc (.cells #[.int .u32 (d : Int)] 23)).grown hgrow (own_base hown)
      clear hown hgrow hf hnil
      go_wp2_with (fail)
      go_roundw
      case rel => exact ⟨k + 1, q, xs ++ [d], by go_num, rfl, hown1, by simp [HX.out], by omega, nb2, by rw [← HQ.out]; exact hzero.out, hdx.snoc nb3, hval_next hstep.out HD.out HQ.out HV.out, hf1⟩
      case measure => simp [intOf]; omega
    · subst h2
      go_wp2_with (fail)
      go_ret
      refine ⟨_, xs, rfl, by rw [HX.out]; exact hown, hdx, ⟨?_, by rw [HX.out]; exact hk⟩, hf⟩
      have := HV.out
      rw [vd_end (by have := HLA.out; omega), vd_end (by have := HLB.out; omega)] at this
      simpa using this
end Go.Proofs.Ytigifoinejbnnaa
