/-
  PROVED HERE: the sky's Read and Raw return what its ticks come to.
-/
import Derived.Test.YtcgechcbcnhpjaaS2
namespace Go.Proofs.Ytcgechcbcnhpjaa
set_option linter.unusedVariables false
set_option linter.unusedSimpArgs false
open Go.RowKit
attribute [local go_sem 10] cellOf frozenOf
attribute [local go_sem] heap_drew heap_drewN

theorem ticks_le {h n t f o} (hf : Fits n f o) (hh' : h ≤ 1000000000) (ht : t ≤ 4503599627370496) : ticks h n t f o ≤ 288374491339787600 ∧ ticks h n t f o * 1000000000 ≤ h * 288374491339787600 := by
  have hmax := psum_max hf ht (Nat.le_refl n)
  unfold ticks
  generalize psum n t f o n = S at *
  have h1 : S * h ≤ 288374491339787599872000000 * h := Nat.mul_le_mul_right _ hmax
  constructor
  · have h2 : 288374491339787599872000000 * h ≤ 288374491339787599872000000 * 1000000000 := Nat.mul_le_mul_left _ hh'
    generalize S * h = X at *
    omega
  · generalize S * h = X at *
    omega

theorem read_any (b h m fi R : Nat) (A : Option Addr) (n c : Nat) (f : Nat → Nat) (o : Nat → Int) (t : Nat) (w : World) (hR : bits BinOp.and IntKind.u64 (IntKind.u64.wrap ((fi : Int) + (ticks h n t f o : Int))) (m : Int) = (R : Int)) (hs : w.heap[b]? = some (sk h m fi A n c)) (hp : Pcs w A n f o) (hf : Fits n f o) (hh : 0 < h) (hh' : h ≤ 1000000000) (ht : t ≤ 4503599627370496) :
    Calls Try.prog 6 #[.pointer (some ⟨b, 0, none⟩), .int .i64 t] w fun e w' => e = .returned (.int .u64 R) ∧ Fr [] w w' := by
  have HR := Lib.hid hR
  clear hR
  go_enter Try.func6, Try.ntmps6
  go_wp2_with (fail)
  refine (none_no b h m fi A n c _ hs hh).mono ?_
  rintro e w1 ⟨rfl, rfl⟩
  go_wp2_with (fail)
  have hsD : w.drew.heap[b]? = some (sk h m fi A n c) := hs
  have hpD : Pcs w.drew A n f o := hp
  go_region_held3 (fun w' => w'.heap[b]? = some (sk h m fi A n c))
    (first | exact hs | exact hp0)
    ((go_at_call 13; refine (ticks_any b h m fi A n c f o t _ hsD hpD hf hh hh' ht).mono ?_; rintro e w2 ⟨rfl, hf2⟩; have hp0 := hf2.heap hsD List.not_mem_nil))
  go_wp2_with (fail)
  go_ret
  exact ⟨by rw [← HR.out]; rfl, (Fr.refl [] w).drew.then0 hf2⟩

theorem raw_any (b h m fi : Nat) (A : Option Addr) (n c : Nat) (f : Nat → Nat) (o : Nat → Int) (t : Nat) (w : World) (hs : w.heap[b]? = some (sk h m fi A n c)) (hp : Pcs w A n f o) (hf : Fits n f o) (hh : 0 < h) (hh' : h ≤ 1000000000) (ht : t ≤ 4503599627370496) :
    Calls Try.prog 8 #[.pointer (some ⟨b, 0, none⟩), .int .i64 t] w fun e w' => e = .returned (.int .i64 (ticks h n t f o * 1000000000 / h : Nat)) ∧ Fr [] w w' := by
  obtain ⟨l1, l2⟩ := ticks_le (n := n) (t := t) (f := f) (o := o) hf hh' ht
  have HT := fun w => ticks_any b h m fi A n c f o t w
  generalize ticks h n t f o = N at *
  go_enter Try.func8, Try.ntmps8
  go_wp2_with (fail)
  refine (none_no b h m fi A n c _ hs hh).mono ?_
  rintro e w1 ⟨rfl, rfl⟩
  go_wp2_with (fail)
  refine (HT _ hs hp hf hh hh' ht).mono ?_
  rintro e w2 ⟨rfl, hf2⟩
  have hs2 := hf2.heap hs List.not_mem_nil
  clear HT
  go_wp2_with (fail)
  refine (mul_any N 1000000000 (by omega) (by omega) _).mono ?_
  rintro e w3 ⟨hi, lo, rfl, H1, hlo, hhi, rfl⟩
  have hlt : hi < h := by
    rcases Nat.lt_or_ge hi h with h1 | h1
    · exact h1
    · have := Nat.mul_le_mul_right 18446744073709551616 h1
      have := Nat.mul_le_mul_left h (show 288374491339787600 ≤ 18446744073709551615 by decide)
      omega
  obtain ⟨q, r, hq1, hr1, hq2, hr2, hrun⟩ := div_run hi lo h hlt hlo (by omega)
  have hq3 : q ≤ 288374491339787600 := by
    rw [hq1, H1]
    exact Nat.div_le_of_le_mul l2
  rw [H1] at hq1
  have HQ := Lib.hid hq1
  clear hq1 hr1 H1 l2
  go_wp2_with (fail)
  refine (hrun _).mono ?_
  rintro e w4 ⟨rfl, nd, rfl⟩
  go_wp2_with (fail)
  go_ret
  exact ⟨by rw [← HQ.out]; rfl, hf2.drewN _⟩
end Go.Proofs.Ytcgechcbcnhpjaa
