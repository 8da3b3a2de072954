/-
  PROVED HERE: the law's own "alive" returns true.
-/
import Derived.Test.YtigifoinejbnnaaA5
namespace Go.Proofs.Ytigifoinejbnnaa
set_option linter.unusedVariables false
set_option linter.unusedSimpArgs false
open Go.RowKit
attribute [local go_sem] cellOf frozenOf heap_drew heap_drewN

theorem told1 : toTold 3 0 0 1 = 333333333 ∧ toTotal 3 0 0 1 = 333333333 ∧ toOver 3 0 0 1 = 1 := by decide +kernel
theorem told2 : toTold 3 333333333 1 1 = 333333333 ∧ toTotal 3 333333333 1 1 = 666666666 ∧ toOver 3 333333333 1 1 = 2 := by decide +kernel
theorem told3 : toTold 3 666666666 2 1 = 333333334 ∧ toTotal 3 666666666 2 1 = 1000000000 ∧ toOver 3 666666666 2 1 = 0 := by decide +kernel
theorem to_lit (b h t o n x t' o' : Nat) (w : World) (hs : w.heap[b]? = some (sc h t o)) (hx : toTold h t o n = x ∧ toTotal h t o n = t' ∧ toOver h t o n = o') (hh : 0 < h) (hh' : h ≤ 1000000000000) (ht : t ≤ 4611686018427387904) (ho : o < h) (hn : n < 18446744073709551616) :
    Calls Try.prog 9 #[.pointer (some ⟨b, 0, none⟩), .int .u64 n] w fun e w' => e = .returned (.int .i64 x) ∧ w'.heap[b]? = some (sc h t' o') ∧ Fr [b] w w' := by
  obtain ⟨rfl, rfl, rfl⟩ := hx
  exact to_any b h t o n w hs hh hh' ht ho hn
theorem tick_lit (h x : Nat) (w : World) (h0 : 0 < h) (h1 : h ≤ 1000000000000) (hx : tickOf h = x) :
    Calls Try.prog 13 #[.int .u64 h] w fun e w' => e = .returned (.int .i64 x) ∧ w = w' := by
  subst hx
  exact tick_any h w h0 h1
theorem Fr.two {w w1 w2 : World} {b : Nat} (h : Fr [] w w1) (hb : w.heap.size ≤ b) (k : Fr [b] w1 w2) : Fr [] w w2 :=
  h.trans k (fun _ _ h => h) (fun x hx hm => by simp at hm; omega)

set_option maxHeartbeats 400000 in
theorem alive_any (w : World) :
    Calls Try.prog 11 #[] w fun e w' => e = .returned (.bool true) ∧ Fr [] w w' := by
  go_enter Try.func11, Try.ntmps11
  go_wp2_with (fail)
  refine (new_any 3 _ (by omega) (by omega)).mono ?_
  rintro e w1 ⟨b, rfl, hb, hs1, hf1⟩
  go_wp2_with (fail)
  refine (to_lit b 3 0 0 1 _ _ _ _ hs1 told1 (by omega) (by omega) (by omega) (by omega) (by omega)).mono ?_
  rintro e w2 ⟨rfl, hs2, hf2⟩
  go_wp2_with (fail)
  refine (to_lit b 3 _ _ 1 _ _ _ _ hs2 told2 (by omega) (by omega) (by omega) (by omega) (by omega)).mono ?_
  rintro e w3 ⟨rfl, hs3, hf3⟩
  go_wp2_with (fail)
  refine (to_lit b 3 _ _ 1 _ _ _ _ hs3 told3 (by omega) (by omega) (by omega) (by omega) (by omega)).mono ?_
  rintro e w4 ⟨rfl, hs4, hf4⟩
  go_wp2_with (fail)
  refine (tick_lit 3 333333334 _ (by omega) (by omega) (by decide +kernel)).mono ?_
  rintro e w5 ⟨rfl, rfl⟩
  go_wp2_with (fail)
  refine (tick_lit 1000000000000 1 _ (by omega) (by omega) (by decide +kernel)).mono ?_
  rintro e w5 ⟨rfl, rfl⟩
  go_wp2_with (fail)
  go_ret
  exact ⟨rfl, ((hf1.two hb hf2).two hb hf3).two hb hf4⟩
end Go.Proofs.Ytigifoinejbnnaa
