/-
  PROVED HERE: what New, Total, Tick, Full and Copy of package scale return, of a scale that New made.
-/
import Derived.Test.YtcgechcbcnhpjaaA4
namespace Go.Proofs.Ytcgechcbcnhpjaa
set_option linter.unusedVariables false
set_option linter.unusedSimpArgs false
open Go.RowKit
attribute [local go_sem] cellOf frozenOf heap_drew heap_drewN

theorem new_any (h : Nat) (w : World) (h0 : 0 < h) (h1 : h ≤ 1000000000000) :
    Calls Try.prog 5 #[.int .u64 h] w fun e w' => ∃ b, e = .returned (.tuple #[.pointer (some ⟨b, 0, none⟩), .int .i64 0]) ∧ w.heap.size ≤ b ∧ w'.heap[b]? = some (sc h 0 0) ∧ Fr [] w w' := by
  have hb : ((h : Int) == 0) = false := by simp; omega
  have hc : ((1000000000000 : Int) < (h : Int)) = False := by simp; omega
  go_enter Try.func5, Try.ntmps5
  go_wp2
  go_ret2
  exact ⟨_, rfl, Nat.le_refl _, heap_alloc_new _ _, (Fr.refl _ _).alloc _⟩

theorem new_bad (h : Nat) (w : World) (h0 : h = 0 ∨ 1000000000000 < h) :
    Calls Try.prog 5 #[.int .u64 h] w fun e w' => e = .returned (.tuple #[.pointer none, .int .i64 1]) ∧ w = w' := by
  rcases h0 with rfl | h0
  · go_enter Try.func5, Try.ntmps5
    go_wp2
    go_ret2
    exact ⟨rfl, rfl⟩
  · have hb : ((h : Int) == 0) = false := by simp; omega
    have hc : ((1000000000000 : Int) < (h : Int)) := by omega
    go_enter Try.func5, Try.ntmps5
    go_wp2
    go_ret2
    exact ⟨rfl, rfl⟩

theorem total_any (b h t o : Nat) (w : World) (hs : w.heap[b]? = some (sc h t o)) (hh : 0 < h) (ht : t ≤ 4611686018427387904) :
    Calls Try.prog 9 #[.pointer (some ⟨b, 0, none⟩)] w fun e w' => e = .returned (.int .i64 t) ∧ Fr [] w w' := by
  go_enter Try.func9, Try.ntmps9
  go_wp2_with (go_at_call 14; refine (made_yes b h t o _ hs (by omega)).mono ?_; rintro e w1 ⟨rfl, hf1⟩; have hs1 := hf1.heap hs (by simp))
  go_ret
  exact ⟨rfl, hf1⟩

def tickOf (h : Nat) : Nat := (1000000000 + h - 1) / h

end Go.Proofs.Ytcgechcbcnhpjaa
