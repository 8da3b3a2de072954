/-
  PROVED HERE: the law's own "alive" returns true.
-/
import Derived.Test.YtcgechcbcnhpjaaA5
namespace Go.Proofs.Ytcgechcbcnhpjaa
set_option linter.unusedVariables false
set_option linter.unusedSimpArgs false
open Go.RowKit
attribute [local go_sem] cellOf frozenOf heap_drew heap_drewN

theorem told1 : toTold 3 0 0 1 = 333333333 ∧ toTotal 3 0 0 1 = 333333333 ∧ toOver 3 0 0 1 = 1 := by decide +kernel
theorem told2 : toTold 3 333333333 1 1 = 333333333 ∧ toTotal 3 333333333 1 1 = 666666666 ∧ toOver 3 333333333 1 1 = 2 := by decide +kernel
theorem told3 : toTold 3 666666666 2 1 = 333333334 ∧ toTotal 3 666666666 2 1 = 1000000000 ∧ toOver 3 666666666 2 1 = 0 := by decide +kernel
theorem to_lit (b h t o n x t' o' : Nat) (w : World) (hs : w.heap[b]? = some (sc h t o)) (hx : toTold h t o n = x ∧ toTotal h t o n = t' ∧ toOver h t o n = o') (hh : 0 < h) (hh' : h ≤ 1000000000000) (ht : t ≤ 4611686018427387904) (ho : o < h) (hn : n < 18446744073709551616) :
    Calls Try.prog 7 #[.pointer (some ⟨b, 0, none⟩), .int .u64 n] w fun e w' => e = .returned (.int .i64 x) ∧ w'.heap[b]? = some (sc h t' o') ∧ Fr [b] w w' := by
  obtain ⟨rfl, rfl, rfl⟩ := hx
  exact to_any b h t o n w hs hh hh' ht ho hn
theorem Fr.two {w w1 w2 : World} {b : Nat} (h : Fr [] w w1) (hb : w.heap.size ≤ b) (k : Fr [b] w1 w2) : Fr [] w w2 :=
  h.trans k (fun _ _ h => h) (fun x hx hm => by simp at hm; omega)

end Go.Proofs.Ytcgechcbcnhpjaa
