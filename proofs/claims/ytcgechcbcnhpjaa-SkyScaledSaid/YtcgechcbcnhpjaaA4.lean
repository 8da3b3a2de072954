/-
  PROVED HERE: what (*Scale).To tells and leaves, of a scale that New made, for any number of ticks.
-/
import Derived.Test.YtcgechcbcnhpjaaA3
namespace Go.Proofs.Ytcgechcbcnhpjaa
set_option linter.unusedVariables false
set_option linter.unusedSimpArgs false
open Go.RowKit
attribute [local go_sem] cellOf frozenOf heap_drew heap_drewN

theorem heap_alloc_new (w : World) (o : Obj) : (w.alloc o).heap[w.heap.size]? = some o := by
  show (w.heap.push o)[w.heap.size]? = _
  simp
theorem heap_alloc_old {w : World} {b : Nat} {o : Obj} (x : Obj) (h : w.heap[b]? = some o) : (w.alloc x).heap[b]? = some o :=
  (Below.heap_alloc w x b (lt_of_block h)).trans h

/-- A scale's cells. -/
abbrev sc (h t o : Nat) : Obj := .cells #[.int .u64 (h : Int), .int .u64 (t : Int), .int .u64 (o : Int)] 44 (0, 0)

/-- What To tells, and what the scale is behind it. -/
def toMore (h o n : Nat) : Nat := (n * 1000000000 + o) / h
def toTold (h t o n : Nat) : Nat := min (toMore h o n) (4611686018427387904 - t)
def toTotal (h t o n : Nat) : Nat := t + toTold h t o n
def toOver (h t o n : Nat) : Nat := if toMore h o n < 4611686018427387904 - t then (n * 1000000000 + o) % h else o

theorem to_full {h t o n hi lo : Nat} (hh : 0 < h) (ht : t ≤ 4611686018427387904) (hP : hi * 18446744073709551616 + lo = n * 1000000000 + o) (hle : h ≤ hi) :
    toTold h t o n = 4611686018427387904 - t ∧ toTotal h t o n = 4611686018427387904 ∧ toOver h t o n = o := by
  have hm : 18446744073709551616 ≤ toMore h o n := by
    unfold toMore
    rw [← hP, Nat.le_div_iff_mul_le hh]
    exact Nat.le_trans (Nat.mul_le_mul_left _ hle) (by rw [Nat.mul_comm]; omega)
  unfold toTotal toOver toTold
  generalize toMore h o n = m at *
  refine ⟨by omega, by omega, if_neg (by omega)⟩

theorem more_lt {h o n hi lo : Nat} (hh : 0 < h) (hlo : lo < 18446744073709551616) (hP : hi * 18446744073709551616 + lo = n * 1000000000 + o) (hlt : hi < h) : toMore h o n < 18446744073709551616 := by
  unfold toMore
  rw [← hP, Nat.div_lt_iff_lt_mul hh]
  have : (hi + 1) * 18446744073709551616 ≤ h * 18446744073709551616 := Nat.mul_le_mul_right _ hlt
  rw [Nat.add_mul] at this
  rw [Nat.mul_comm _ h]
  exact Nat.lt_of_lt_of_le (Nat.add_lt_add_left hlo _) (by simpa using this)
theorem ret_int {k : IntKind} {a b : Int} (h : a = b) : Ending.returned (.int k a) = .returned (.int k b) := by rw [h]
theorem div_run (hi lo y : Nat) (hh : hi < y) (hl : lo < 18446744073709551616) (hy : y < 18446744073709551616) :
    ∃ q r : Nat, q = (hi * 18446744073709551616 + lo) / y ∧ r = (hi * 18446744073709551616 + lo) % y ∧ q < 18446744073709551616 ∧ r < y ∧
    ∀ w, Calls Try.prog 16 #[.int .u64 hi, .int .u64 lo, .int .u64 y] w fun e w' => e = .returned (.tuple #[.int .u64 q, .int .u64 r]) ∧ ∃ n, w' = w.drewN n := by
  refine ⟨_, _, rfl, rfl, ?_, Nat.mod_lt _ (by omega), fun w => div_any hi lo y hh hl hy w⟩
  rw [Nat.div_lt_iff_lt_mul (by omega), Nat.mul_comm _ y]
  have : (hi + 1) * 18446744073709551616 ≤ y * 18446744073709551616 := Nat.mul_le_mul_right _ hh
  rw [Nat.add_mul] at this
  exact Nat.lt_of_lt_of_le (Nat.add_lt_add_left hl _) (by simpa using this)
theorem Fr.mono {S T : List Nat} {a b : World} (h : Fr S a b) (hS : ∀ x, x ∈ S → x ∈ T) : Fr T a b := ⟨h.os, h.tape, h.output, h.size, fun k hk hn => h.block k hk (fun hx => hn (hS k hx))⟩

set_option maxHeartbeats 400000 in
theorem to_any (b h t o n : Nat) (w : World) (hs : w.heap[b]? = some (sc h t o)) (hh : 0 < h) (hh' : h ≤ 1000000000000) (ht : t ≤ 4611686018427387904) (ho : o < h) (hn : n < 18446744073709551616) :
    Calls Try.prog 7 #[.pointer (some ⟨b, 0, none⟩), .int .u64 n] w fun e w' => e = .returned (.int .i64 (toTold h t o n : Nat)) ∧ w'.heap[b]? = some (sc h (toTotal h t o n) (toOver h t o n)) ∧ Fr [b] w w' := by
  go_enter Try.func7, Try.ntmps7
  go_wp2_with (first 
    | (go_at_call 14; refine (made_yes b h t o _ hs (by omega)).mono ?_; rintro e w1 ⟨rfl, hf1⟩; have hs1 := hf1.heap hs (by simp))
    | (go_at_call 15; refine (product_any n 1000000000 o hn (by omega) (by omega) _).mono ?_; rintro e w2 ⟨hi, lo, rfl, hP, hlo, hhi, hf2⟩; have hs2 := hf2.heap hs1 (by simp); have HP := Lib.hid hP; clear hP))
  have hsW := heap_alloc_old (.cells #[.int .u64 (hi : Int), .int .u64 (lo : Int)] 48) hs2
  have hnW := heap_alloc_new w2 (.cells #[.int .u64 (hi : Int), .int .u64 (lo : Int)] 48)
  have hfW := ((hf1.then0 hf2).alloc (.cells #[.int .u64 (hi : Int), .int .u64 (lo : Int)] 48))
  generalize w2.alloc (.cells #[.int .u64 (hi : Int), .int .u64 (lo : Int)] 48) = W at *
  generalize w2.heap.size = bn at *
  clear hs1 hs2 hf1 hf2 w1 w2
  by_cases hle : (h : Int) ≤ (hi : Int)
  · obtain ⟨e1, e2, e3⟩ := to_full hh ht HP.out (by omega)
    have E1 := Lib.hid e1
    have E2 := Lib.hid e2
    have E3 := Lib.hid e3
    clear e1 e2 e3
    go_quiet (fail)
    go_wp2
    go_ret
    exact ⟨by rw [E1.out]; exact ret_int (by omega), by rw [E2.out, E3.out]; exact heap_set hsW _, ((hfW.mono (by simp)).drewN nq).setCell (.inl (by simp)) _⟩
  · have hlt : (hi : Int) < (h : Int) := by omega
    have hlt' : hi < h := by omega
    go_quiet (fail)
    have hsW : (W.drewN nq).heap[b]? = some (sc h t o) := hsW
    have hnW : (W.drewN nq).heap[bn]? = _ := hnW
    have hfW := hfW.drewN nq
    generalize W.drewN nq = W2 at *
    go_wp2_with (fail)
    obtain ⟨m, r, hm, hr, hmb, hrb, hdiv⟩ := div_run hi lo h hlt' hlo (Nat.lt_of_le_of_lt hh' (by decide))
    have Hd := Lib.hid hdiv
    rw [HP.out] at hm hr
    have hM : toMore h o n = m := hm.symm
    obtain ⟨e1, e2, e3⟩ : toTold h t o n = min m (4611686018427387904 - t) ∧ toTotal h t o n = t + min m (4611686018427387904 - t) ∧ toOver h t o n = if m < 4611686018427387904 - t then r else o := by
      unfold toTotal toOver toTold; rw [hM, hr]; exact ⟨rfl, rfl, rfl⟩
    clear hm hr hM hdiv
    by_cases hm : (4611686018427387904 : Int) - (t : Int) ≤ (m : Int)
    · rw [show min m (4611686018427387904 - t) = 4611686018427387904 - t by omega] at e1 e2
      rw [if_neg (by omega)] at e3
      rw [show t + (4611686018427387904 - t) = 4611686018427387904 by omega] at e2
      have E1 := Lib.hid e1
      have E2 := Lib.hid e2
      have E3 := Lib.hid e3
      clear e1 e2 e3
      go_quiet ((go_at_call 16; exact Calls.quiet_of (Hd.out _)))
      have hsW : (W2.drewN nq).heap[b]? = some (sc h t o) := hsW
      have hfW := hfW.drewN nq
      generalize W2.drewN nq = W3 at *
      clear hnW
      go_wp2_with (fail)
      go_ret
      exact ⟨by rw [E1.out]; exact ret_int (by omega), by rw [E2.out, E3.out]; exact heap_set hsW _, (hfW.mono (by simp)).setCell (.inl (by simp)) _⟩
    · rw [show min m (4611686018427387904 - t) = m by omega] at e1 e2
      rw [if_pos (by omega)] at e3
      have hm' : (m : Int) < (4611686018427387904 : Int) - (t : Int) := by omega
      have E1 := Lib.hid e1
      have E2 := Lib.hid e2
      have E3 := Lib.hid e3
      clear e1 e2 e3
      go_quiet ((go_at_call 16; exact Calls.quiet_of (Hd.out _)))
      have hsW : (W2.drewN nq).heap[b]? = some (sc h t o) := hsW
      have hfW := hfW.drewN nq
      generalize W2.drewN nq = W3 at *
      clear hnW
      go_wp2_with (fail)
      go_ret
      exact ⟨by rw [E1.out]; rfl, by rw [E2.out, E3.out]; exact heap_set (heap_set hsW _) _, ((hfW.mono (by simp)).setCell (.inl (by simp)) _).setCell (.inl (by simp)) _⟩
end Go.Proofs.Ytcgechcbcnhpjaa
