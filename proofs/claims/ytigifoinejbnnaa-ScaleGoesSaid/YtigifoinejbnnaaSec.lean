/-
  PROVED HERE: the walk of ephemerislaw10.ScaleSeconds: it returns true for every input.
-/
import Derived.Test.YtigifoinejbnnaaA6
import Derived.OpenShut
namespace Go.Proofs.Ytigifoinejbnnaa
set_option linter.unusedVariables false
set_option linter.unusedSimpArgs false
open Go.RowKit
attribute [local go_sem] cellOf frozenOf heap_drew heap_drewN

theorem Fr.below {w w' : World} (h : Fr [] w w') : Below w.heap.size w w' := ⟨h.os, h.tape, h.output, h.size, fun k hk => h.block k hk (by simp)⟩

/-- A whole number of ticks, as the law's own sums of them. -/
structure Tells (h t o n x t' o' : Nat) : Prop where
  out : toTold h t o n = x ∧ toTotal h t o n = t' ∧ toOver h t o n = o'
  over : o < h → o' < h

theorem over_lt {h t o n : Nat} (ho : o < h) : toOver h t o n < h := by
  unfold toOver
  split
  · exact Nat.mod_lt _ (by omega)
  · exact ho

/-- Ticks at which it doesn't come to be full. -/
theorem tells {h t o n : Nat} (hm : toMore h o n < 4611686018427387904 - t) : Tells h t o n (toMore h o n) (t + toMore h o n) ((n * 1000000000 + o) % h) := by
  refine ⟨?_, fun ho => Nat.mod_lt _ (by omega)⟩
  unfold toTotal toOver toTold
  rw [if_pos hm, Nat.min_eq_left (by omega)]
  exact ⟨rfl, rfl, rfl⟩
theorem more_le {h o n : Nat} (hh : 0 < h) (ho : o < h) : toMore h o n ≤ n * 1000000000 := by
  unfold toMore
  have h1 : (n * 1000000000 + o) / h < n * 1000000000 + 1 := by
    rw [Nat.div_lt_iff_lt_mul hh, Nat.add_mul]
    have := Nat.le_mul_of_pos_right (n * 1000000000) hh
    omega
  omega
theorem more_sec {h o n : Nat} (hh : 0 < h) (ho : o < h) : toMore h o (h * n) = n * 1000000000 ∧ (h * n * 1000000000 + o) % h = o := by
  unfold toMore
  rw [Nat.mul_assoc]
  exact ⟨by rw [Nat.mul_add_div hh, Nat.div_eq_of_lt ho, Nat.add_zero], by rw [Nat.mul_add_mod, Nat.mod_eq_of_lt ho]⟩

theorem to_tells (b h t o n x t' o' : Nat) (w : World) (hs : w.heap[b]? = some (sc h t o)) (hx : Tells h t o n x t' o') (hh : 0 < h) (hh' : h ≤ 1000000000000) (ht : t ≤ 4611686018427387904) (ho : o < h) (hn : n < 18446744073709551616) :
    Calls Try.prog 9 #[.pointer (some ⟨b, 0, none⟩), .int .u64 n] w fun e w' => e = .returned (.int .i64 x) ∧ w'.heap[b]? = some (sc h t' o') ∧ Fr [b] w w' :=
  to_lit b h t o n x t' o' w hs hx.out hh hh' ht ho hn

/-- What the law's calls tell. -/
theorem sec_all (h n A B : Nat) (hh : 0 < h) (hh' : h ≤ 1000000000000) (hn : n < 1000000) (hA : A < 1073741824) (hB : B < 1073741824) :
    ∃ X O Y Z P TA TB : Nat, Tells h 0 0 A X X O ∧ Tells h X O (h * n) Y (X + Y) O ∧ Tells h (X + Y) O B Z TA P ∧ Tells h X O B Z TB P ∧ Y = n * 1000000000 ∧ TA = TB + Y ∧ O < h ∧ X ≤ 1073741824000000000 ∧ Z ≤ 1073741824000000000 ∧ TB = X + Z := by
  have m1 := more_le (n := A) (o := 0) hh hh
  have t1 := tells (h := h) (t := 0) (o := 0) (n := A) (by omega)
  have hO : (A * 1000000000 + 0) % h < h := Nat.mod_lt _ hh
  generalize (A * 1000000000 + 0) % h = O at *
  obtain ⟨s1, s2⟩ := more_sec (n := n) hh hO
  have t2 := tells (h := h) (t := toMore h 0 A) (o := O) (n := h * n) (by omega)
  rw [s1, s2] at t2
  have m3 := more_le (n := B) hh hO
  have t3 := tells (h := h) (t := toMore h 0 A + n * 1000000000) (o := O) (n := B) (by omega)
  have t4 := tells (h := h) (t := toMore h 0 A) (o := O) (n := B) (by omega)
  rw [Nat.zero_add] at t1
  exact ⟨_, _, _, _, _, _, _, t1, t2, t3, t4, rfl, by omega, hO, by omega, by omega, rfl⟩

theorem sec_walk_nat (a0 a1 a2 a3 : Int) (w : World) (h n A B : Nat) (hh : 0 < h) (hh' : h ≤ 1000000000000) (hn : n < 1000000) (hA : A < 1073741824) (hB : B < 1073741824)
    (e0 : (1 : Int) + a0 % 1000000000000 = (h : Int)) (e1 : a1 % 1000000 = (n : Int)) (e2 : a2 % 1073741824 = (A : Int)) (e3 : a3 % 1073741824 = (B : Int))
    (b0 : 0 ≤ a0) (b1 : 0 ≤ a1) (b2 : 0 ≤ a2) (b3 : 0 ≤ a3) :
    Calls Try.prog 3 #[.int .u64 a0, .int .u32 a1, .int .u64 a2, .int .u64 a3] w fun e w' => e = .returned (.bool true) ∧ Below w.heap.size w w' := by
  obtain ⟨X, O, Y, Z, P, TA, TB, t1, t2, t3, t4, eY, eT, hO, hX, hZ, eTB⟩ := sec_all h n A B hh hh' hn hA hB
  have hY : Y ≤ 1000000000000000 := by omega
  have hTB : TB ≤ 4611686018427387903 := by omega
  have hTA : TA ≤ 4611686018427387903 := by omega
  have hHN : h * n ≤ 1000000000000 * 1000000 := Nat.mul_le_mul hh' (by omega)
  have f1 : (h : Int) * (n : Int) = ((h * n : Nat) : Int) := (Int.natCast_mul _ _).symm
  generalize h * n = hn' at *
  have f2 : (n : Int) * 1000000000 = (Y : Int) := by omega
  have f3 : (TB : Int) + (Y : Int) = (TA : Int) := by omega
  clear eY eT eTB
  go_enter Try.func3, Try.ntmps3
  go_wp2_with (fail)
  refine (new_any h _ hh hh').mono ?_
  rintro e w1 ⟨a, rfl, ha, hs1, hf1⟩
  go_wp2_with (fail)
  refine (new_any h _ hh hh').mono ?_
  rintro e w2 ⟨b, rfl, hb, hb1, hf2⟩
  have hs2 := hf2.heap hs1 (by simp)
  have hab : a ≠ b := by have := lt_of_block hs1; omega
  have hba : b ≠ a := Ne.symm hab
  go_wp2_with (fail)
  refine (to_tells a h 0 0 A _ _ _ _ hs2 t1 hh hh' (by omega) (by omega) (by omega)).mono ?_
  rintro e w3 ⟨rfl, hs3, hf3⟩
  have hb3 := hf3.heap hb1 (by simp [hba])
  go_wp2_with (fail)
  refine (to_tells a h _ _ hn' _ _ _ _ hs3 t2 hh hh' (by omega) hO (by omega)).mono ?_
  rintro e w4 ⟨rfl, hs4, hf4⟩
  have hb4 := hf4.heap hb3 (by simp [hba])
  go_wp2_with (fail)
  refine (to_tells a h _ _ B _ _ _ _ hs4 t3 hh hh' (by omega) hO (by omega)).mono ?_
  rintro e w5 ⟨rfl, hs5, hf5⟩
  have hb5 := hf5.heap hb4 (by simp [hba])
  go_wp2_with (fail)
  refine (to_tells b h 0 0 A _ _ _ _ hb5 t1 hh hh' (by omega) (by omega) (by omega)).mono ?_
  rintro e w6 ⟨rfl, hb6, hf6⟩
  have hs6 := hf6.heap hs5 (by simp [hab])
  go_wp2_with (fail)
  refine (to_tells b h _ _ B _ _ _ _ hb6 t4 hh hh' (by omega) hO (by omega)).mono ?_
  rintro e w7 ⟨rfl, hb7, hf7⟩
  have hs7 := hf7.heap hs6 (by simp [hab])
  go_wp2_with (fail)
  refine (total_any a h _ _ _ hs7 hh (by omega)).mono ?_
  rintro e w8 ⟨rfl, hf8⟩
  have hb8 := hf8.heap hb7 (by simp)
  go_wp2_with (fail)
  refine (total_any b h _ _ _ hb8 hh (by omega)).mono ?_
  rintro e w9 ⟨rfl, hf9⟩
  go_wp2_with (fail)
  refine (alive_any _).mono ?_
  rintro e w10 ⟨rfl, hf10⟩
  go_wp2_with (fail)
  go_ret
  exact ⟨rfl, Fr.below (((((((((hf1.then0 hf2).two ha hf3).two ha hf4).two ha hf5).two (Nat.le_trans hf1.size hb) hf6).two (Nat.le_trans hf1.size hb) hf7).then0 hf8).then0 hf9).then0 hf10)⟩

theorem nat_of {n : Int} (h : 0 ≤ n) : ∃ m : Nat, n = (m : Int) := ⟨n.toNat, by omega⟩

theorem sec_walk (a0 a1 a2 a3 : Int) (w0 : (Lit.int .u64 a0).wf = true) (w1 : (Lit.int .u32 a1).wf = true) (w2 : (Lit.int .u64 a2).wf = true) (w3 : (Lit.int .u64 a3).wf = true) (w : World) :
    Calls Try.prog 3 #[.int .u64 a0, .int .u32 a1, .int .u64 a2, .int .u64 a3] w fun e w' => e = .returned (.bool true) ∧ Below w.heap.size w w' := by
  have b0 := bounds_u64 w0
  have b1 := bounds_u32 w1
  have b2 := bounds_u64 w2
  have b3 := bounds_u64 w3
  obtain ⟨h, e0⟩ := nat_of (n := 1 + a0 % 1000000000000) (by omega)
  obtain ⟨n, e1⟩ := nat_of (n := a1 % 1000000) (by omega)
  obtain ⟨A, e2⟩ := nat_of (n := a2 % 1073741824) (by omega)
  obtain ⟨B, e3⟩ := nat_of (n := a3 % 1073741824) (by omega)
  exact sec_walk_nat a0 a1 a2 a3 w h n A B (by omega) (by omega) (by omega) (by omega) (by omega) e0 e1 e2 e3 (by omega) (by omega) (by omega) (by omega)
end Go.Proofs.Ytigifoinejbnnaa
