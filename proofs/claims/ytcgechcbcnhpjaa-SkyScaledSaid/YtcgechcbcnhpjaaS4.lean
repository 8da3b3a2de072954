/-
  PROVED HERE: plain laws of ticks: they never go back; the mask of all bits masks nothing.
-/
import Derived.Test.YtcgechcbcnhpjaaS3
namespace Go.Proofs.Ytcgechcbcnhpjaa
set_option linter.unusedVariables false
set_option linter.unusedSimpArgs false
open Go.RowKit

theorem ende_mono {n t t' f i} (h : t ≤ t') : ende n t f i ≤ ende n t' f i := by unfold ende; split <;> omega
theorem part_mono {n t t' f o i} (h : t ≤ t') : part n t f o i ≤ part n t' f o i := by
  unfold part
  exact Nat.mul_le_mul_right _ (Nat.sub_le_sub_right (ende_mono h) _)
theorem psum_mono {n t t' f o} (h : t ≤ t') : ∀ k, psum n t f o k ≤ psum n t' f o k
  | 0 => Nat.le_refl _
  | k + 1 => by
    have h1 := psum_mono (n := n) (f := f) (o := o) h k
    have h2 := part_mono (n := n) (f := f) (o := o) (i := k) h
    simp only [psum]
    omega
theorem ticks_mono {h n t t' f o} (ht : t ≤ t') : ticks h n t f o ≤ ticks h n t' f o := by
  unfold ticks
  exact Nat.div_le_div_right (Nat.mul_le_mul_right _ (psum_mono ht n))

theorem bits_all (x : Nat) (hx : x < 18446744073709551616) : bits BinOp.and IntKind.u64 (IntKind.u64.wrap ((0 : Nat) + (x : Int))) ((18446744073709551615 : Nat) : Int) = (x : Int) := by
  have h1 : IntKind.u64.wrap (((0 : Nat) : Int) + (x : Int)) = (x : Int) := by
    rw [IntKind.wrap_u64]
    omega
  rw [h1]
  show IntKind.u64.wrap (((BitVec.ofInt 64 (x : Int) &&& BitVec.ofInt 64 18446744073709551615).toNat : Nat) : Int) = (x : Int)
  rw [show BitVec.ofInt 64 18446744073709551615 = BitVec.allOnes 64 from by decide, BitVec.and_allOnes, BitVec.ofInt_natCast, BitVec.toNat_ofNat, Nat.mod_eq_of_lt hx, IntKind.wrap_u64]
  omega
end Go.Proofs.Ytcgechcbcnhpjaa
