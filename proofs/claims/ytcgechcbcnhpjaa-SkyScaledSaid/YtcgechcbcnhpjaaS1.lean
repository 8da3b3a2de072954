/-
  PROVED HERE: the sky's leaves: Abs, Clamp, time, none, plus return what they come to.
-/
import Derived.Test.YtcgechcbcnhpjaaA6
import Derived.LoopTactic
import Derived.Deep.LoopGhost
import Derived.Deep.DeepCutAuto
import Derived.Deep.RegionLaw
import Derived.OwnWalk
import Derived.Deep.AppendLies
namespace Go.Proofs.Ytcgechcbcnhpjaa
set_option linter.unusedVariables false
set_option linter.unusedSimpArgs false
open Go.RowKit
attribute [local go_sem 10] cellOf frozenOf
attribute [local go_sem] heap_drew heap_drewN

theorem Fr.cell {S} {w w' : World} (h : Fr S w w') {b o : Nat} (hb : b < w.heap.size) (hn : b ∉ S) : w'.cell? ⟨b, o, none⟩ = w.cell? ⟨b, o, none⟩ :=
  World.cell?_of_block (w := w) (h.block b hb hn)
theorem lt_of_cell {w : World} {b o : Nat} {v : Value} (h : w.cell? ⟨b, o, none⟩ = some v) : b < w.heap.size := World.block_lt_of_cell? w _ h
theorem Fr.setNew {S} {a w : World} (h : Fr S a w) {b o : Nat} (hb : a.heap.size ≤ b) (u : Value) : Fr S a (w.setCell ⟨b, o, none⟩ u) := h.setCell (.inr hb) u
theorem heap_set_ne {w : World} {b p : Nat} {o : Nat} {ob : Obj} (h : w.heap[b]? = some ob) (hne : b ≠ p) (v : Value) : (w.setCell ⟨p, o, none⟩ v).heap[b]? = some ob :=
  (((Fr.refl [p] w).setCell (.inl (by simp)) v).heap h (by simp [hne]))

theorem abs_pos (x : Nat) (w : World) (hx : x ≤ 9223372036854775807) :
    Calls Try.prog 22 #[.int .i64 x] w fun e w' => e = .returned (.int .i64 x) ∧ w = w' := by
  have h1 : ((x : Int) == -9223372036854775808) = false := by simp
  have h2 : ((x : Int) < 0) = False := by simp
  go_enter Try.func22, Try.ntmps22
  go_wp2
  go_ret
  exact ⟨rfl, rfl⟩
theorem abs_neg (y : Int) (x : Nat) (w : World) (hx : x ≤ 9223372036854775807) (hy : y = -(x : Int)) (h0 : 0 < x) :
    Calls Try.prog 22 #[.int .i64 y] w fun e w' => e = .returned (.int .i64 x) ∧ w = w' := by
  have h1 : (y == -9223372036854775808) = false := by simp; omega
  have h2 : (y < 0) := by omega
  have h3 : -y = (x : Int) := by omega
  go_enter Try.func22, Try.ntmps22
  go_wp2
  go_ret
  exact ⟨rfl, rfl⟩
theorem time_any (t : Nat) (w : World) (ht : t ≤ 4503599627370496) :
    Calls Try.prog 25 #[.int .i64 t] w fun e w' => e = .returned (.int .i64 t) ∧ w = w' := by
  have h2 : ((t : Int) < 0) = False := by simp
  have h3 : ((4503599627370496 : Int) < (t : Int)) = False := by simp; omega
  have hc : ∀ w : World, Calls Try.prog 33 #[.int .i64 t, .int .i64 0, .int .i64 4503599627370496] w fun e w' => e = .returned (.int .i64 t) ∧ w = w' := by
    intro w
    go_enter Try.func33, Try.ntmps33
    go_wp2
    go_ret
    exact ⟨rfl, rfl⟩
  go_enter Try.func25, Try.ntmps25
  go_wp2_with (go_at_call 33; refine (hc _).mono ?_; rintro e w1 ⟨rfl, rfl⟩)
  go_ret
  exact ⟨rfl, rfl⟩

/-- A sky's cells. -/
abbrev sk (h m f : Nat) (A : Option Addr) (n c : Nat) : Obj := .cells #[.int .u64 (h : Int), .int .u64 (m : Int), .int .u64 (f : Int), .slice A n c] 46 (0, 0)

theorem none_no (b h m f : Nat) (A : Option Addr) (n c : Nat) (w : World) (hs : w.heap[b]? = some (sk h m f A n c)) (hh : 0 < h) :
    Calls Try.prog 12 #[.pointer (some ⟨b, 0, none⟩)] w fun e w' => e = .returned (.bool false) ∧ w = w' := by
  have h1 : ((h : Int) == 0) = false := by simp; omega
  go_enter Try.func12, Try.ntmps12
  go_wp2
  go_ret
  exact ⟨rfl, rfl⟩

theorem sum_fits {N p hi lo h l k s : Nat} (h0 : hi * 18446744073709551616 + lo = N) (h1 : h * 18446744073709551616 + l = p) (h2 : k * 18446744073709551616 + s = lo + l) (hb : N + p < 340282366920938463463374607431768211456) :
    hi + h < 18446744073709551616 ∧ hi + h + k < 18446744073709551616 ∧ (hi + h + k) * 18446744073709551616 + s = N + p := by omega

set_option maxHeartbeats 400000 in
theorem plus_any (hi lo N a b : Nat) (w : World) (h0 : hi * 18446744073709551616 + lo = N) (hlo : lo < 18446744073709551616) (ha : a < 18446744073709551616) (hb : b < 18446744073709551616) (hN : N + a * b < 340282366920938463463374607431768211456) :
    Calls Try.prog 26 #[.agg #[.int .u64 hi, .int .u64 lo], .int .u64 a, .int .u64 b] w fun e w' => ∃ h l : Nat, e = .returned (.agg #[.int .u64 h, .int .u64 l]) ∧ h * 18446744073709551616 + l = N + a * b ∧ l < 18446744073709551616 ∧ h < 18446744073709551616 ∧ Fr [] w w' := by
  go_enter Try.func26, Try.ntmps26
  go_wp2_with (fail)
  have hb0 := heap_alloc_old (.cells #[.int .u64 0, .int .u64 0] 59) (heap_alloc_new w (.cells #[.int .u64 hi, .int .u64 lo] 59))
  have hb1 := heap_alloc_new (w.alloc (.cells #[.int .u64 hi, .int .u64 lo] 59)) (.cells #[.int .u64 0, .int .u64 0] 59)
  simp only [World.size_alloc] at hb1
  have hf0 := ((Fr.refl [] w).alloc (.cells #[.int .u64 hi, .int .u64 lo] 59)).alloc (.cells #[.int .u64 0, .int .u64 0] 59)
  generalize (w.alloc (.cells #[.int .u64 hi, .int .u64 lo] 59)).alloc (.cells #[.int .u64 0, .int .u64 0] 59) = W at *
  have hM := Nat.le_refl w.heap.size
  generalize hMM : w.heap.size = M at hb0 hb1 ⊢
  have hne : M ≠ M + 1 := by omega
  refine (mul_any a b ha hb _).mono ?_
  rintro e w1 ⟨h, l, rfl, H1, hl, hh, rfl⟩
  obtain ⟨s, k, H2, hs, hk, hadd⟩ := add64_run lo l hlo hl
  obtain ⟨f1, f2, f3⟩ := sum_fits h0 H1 H2 hN
  have F3 := Lib.hid f3
  clear f3 h0 H1 H2 hN
  go_wp2_with (fail)
  refine bodyPost_ret (v := .agg #[.int .u64 ((hi + h + k : Nat) : Int), .int .u64 s]) (by simp [results, Try.results26, go_sem, hb1]) rfl ⟨hi + h + k, s, rfl, F3.out, hs, f2, (hf0.setNew (by omega) _).setNew (by omega) _⟩
end Go.Proofs.Ytcgechcbcnhpjaa
