/-
  PROVED HERE: bits.Mul64, bits.Add64 (carry 0) and the scale's product return the number of 128 bits in two words.
-/
import Derived.Test.YtcgechcbcnhpjaaA1
import Derived.Test.YtcgechcbcnhpjaaA2
import Derived.Laws.Externs
namespace Go.Proofs.Ytcgechcbcnhpjaa
set_option linter.unusedVariables false
set_option linter.unusedSimpArgs false
open Go.RowKit
attribute [local go_sem] cellOf frozenOf heap_drew heap_drewN

theorem carry_of (B : Nat) {h l k s P c : Nat} (h1 : h * B + l = P) (h2 : k * B + s = l + c) : (h + k) * B + s = P + c := by
  rw [Nat.add_mul]; omega

theorem mul_any (a b : Nat) (ha : a < 18446744073709551616) (hb : b < 18446744073709551616) (w : World) :
    Calls Try.prog 17 #[.int .u64 a, .int .u64 b] w fun e w' => ∃ h l : Nat, e = .returned (.tuple #[.int .u64 h, .int .u64 l]) ∧ h * 18446744073709551616 + l = a * b ∧ l < 18446744073709551616 ∧ h < 18446744073709551616 ∧ w = w' := by
  refine (Try.bits_Mul64 a b ha hb w).mono ?_
  rintro e w' ⟨rfl, rfl⟩
  refine ⟨_, _, rfl, ?_, Nat.mod_lt _ (by omega), ?_, rfl⟩
  · rw [Nat.mul_comm]; exact Nat.div_add_mod _ _
  · rw [Nat.div_lt_iff_lt_mul (by omega)]
    exact Nat.lt_of_le_of_lt (Nat.mul_le_mul_right b (Nat.le_of_lt ha)) (Nat.mul_lt_mul_of_pos_left hb (by omega))

theorem add64_run (x y : Nat) (hx : x < 18446744073709551616) (hy : y < 18446744073709551616) :
    ∃ s k : Nat, k * 18446744073709551616 + s = x + y ∧ s < 18446744073709551616 ∧ k ≤ 1 ∧
    ∀ w, (callFunc 28 #[.int .u64 x, .int .u64 y, .int .u64 0]).run Try.prog w = .ok (.value (.tuple #[.int .u64 s, .int .u64 k])) w := by
  refine ⟨(x + y) % 18446744073709551616, (x + y) / 18446744073709551616, ?_, Nat.mod_lt _ (by omega), by omega, fun w => ?_⟩
  · rw [Nat.mul_comm]; exact Nat.div_add_mod _ _
  · rw [run_callFunc_extern Try.func28 (by kernel_rfl) (by kernel_rfl) (by kernel_rfl) (e := add64Entry) (by kernel_rfl), run_add64 x y 0 (by omega) (by omega) (by omega) (by omega)]
    simp only [Result.andThen]
    congr 5 <;> omega

set_option maxHeartbeats 400000 in
theorem product_any (a b c : Nat) (ha : a < 18446744073709551616) (hb : b < 18446744073709551616) (hc : c < 18446744073709551616) (w : World) :
    Calls Try.prog 15 #[.int .u64 a, .int .u64 b, .int .u64 c] w fun e w' => ∃ h l : Nat, e = .returned (.agg #[.int .u64 h, .int .u64 l]) ∧ h * 18446744073709551616 + l = a * b + c ∧ l < 18446744073709551616 ∧ h < 18446744073709551616 ∧ Fr [] w w' := by
  go_enter Try.func15, Try.ntmps15
  go_wp2_with (first | (go_at_call 17; refine (mul_any a b ha hb _).mono ?_; rintro e w' ⟨h, l, rfl, H1, hl, hh, rfl⟩; have H := Lib.hid H1; clear H1; obtain ⟨s, k, H3, hs, hk, hadd⟩ := add64_run l c hl hc; have H2 := Lib.hid H3; clear H3))
  have hle : h + k < 18446744073709551616 := by
    have h1 := H.out
    have h2 := H2.out
    have : a * b ≤ 18446744073709551615 * 18446744073709551615 := Nat.mul_le_mul (by omega) (by omega)
    omega
  go_wp2_with (fail)
  refine bodyPost_ret (v := .agg #[.int .u64 ((h + k : Nat) : Int), .int .u64 s]) (by simp [results, Try.results15, go_sem, DivMath.wrapN _ hle, ← Int.natCast_add]) rfl ⟨h + k, s, rfl, carry_of _ H.out H2.out, hs, hle, ((Fr.refl _ _).alloc _)⟩
end Go.Proofs.Ytcgechcbcnhpjaa
