/-
  PROVED HERE: what New, Total, Tick, Full and Copy of package scale return, of a scale that New made.
-/
import Derived.Test.YtigifoinejbnnaaA4
namespace Go.Proofs.Ytigifoinejbnnaa
set_option linter.unusedVariables false
set_option linter.unusedSimpArgs false
open Go.RowKit
attribute [local go_sem] cellOf frozenOf heap_drew heap_drewN

theorem new_any (h : Nat) (w : World) (h0 : 0 < h) (h1 : h ≤ 1000000000000) :
    Calls Try.prog 8 #[.int .u64 h] w fun e w' => ∃ b, e = .returned (.tuple #[.pointer (some ⟨b, 0, none⟩), .int .i64 0]) ∧ w.heap.size ≤ b ∧ w'.heap[b]? = some (sc h 0 0) ∧ Fr [] w w' := by
  have hb : ((h : Int) == 0) = false := by simp; omega
  have hc : ((1000000000000 : Int) < (h : Int)) = False := by simp; omega
  go_enter Try.func8, Try.ntmps8
  go_wp2
  go_ret2
  exact ⟨_, rfl, Nat.le_refl _, heap_alloc_new _ _, (Fr.refl _ _).alloc _⟩

theorem new_bad (h : Nat) (w : World) (h0 : h = 0 ∨ 1000000000000 < h) :
    Calls Try.prog 8 #[.int .u64 h] w fun e w' => e = .returned (.tuple #[.pointer none, .int .i64 1]) ∧ w = w' := by
  rcases h0 with rfl | h0
  · go_enter Try.func8, Try.ntmps8
    go_wp2
    go_ret2
    exact ⟨rfl, rfl⟩
  · have hb : ((h : Int) == 0) = false := by simp; omega
    have hc : ((1000000000000 : Int) < (h : Int)) := by omega
    go_enter Try.func8, Try.ntmps8
    go_wp2
    go_ret2
    exact ⟨rfl, rfl⟩

theorem total_any (b h t o : Nat) (w : World) (hs : w.heap[b]? = some (sc h t o)) (hh : 0 < h) (ht : t ≤ 4611686018427387904) :
    Calls Try.prog 10 #[.pointer (some ⟨b, 0, none⟩)] w fun e w' => e = .returned (.int .i64 t) ∧ Fr [] w w' := by
  go_enter Try.func10, Try.ntmps10
  go_wp2_with (go_at_call 20; refine (made_yes b h t o _ hs (by omega)).mono ?_; rintro e w1 ⟨rfl, hf1⟩; have hs1 := hf1.heap hs (by simp))
  go_ret
  exact ⟨rfl, hf1⟩

def tickOf (h : Nat) : Nat := (1000000000 + h - 1) / h

theorem tick_any (h : Nat) (w : World) (h0 : 0 < h) (h1 : h ≤ 1000000000000) :
    Calls Try.prog 13 #[.int .u64 h] w fun e w' => e = .returned (.int .i64 (tickOf h : Nat)) ∧ w = w' := by
  have hb : ((h : Int) == 0) = false := by simp; omega
  have hc : ((1000000000000 : Int) < (h : Int)) = False := by simp; omega
  have hq : ((1000000000 : Int) + (h : Int) - 1) / (h : Int) = (tickOf h : Int) := by
    unfold tickOf; rw [Int.natCast_ediv]; congr 1; omega
  have hq2 : tickOf h ≤ 1001000000000 := by
    unfold tickOf; exact Nat.le_trans (Nat.div_le_self _ _) (by omega)
  generalize tickOf h = q at *
  go_enter Try.func13, Try.ntmps13
  go_wp2
  go_ret
  exact ⟨rfl, rfl⟩

theorem tick_bad (h : Nat) (w : World) (h0 : h = 0 ∨ 1000000000000 < h) :
    Calls Try.prog 13 #[.int .u64 h] w fun e w' => e = .returned (.int .i64 0) ∧ w = w' := by
  rcases h0 with rfl | h0
  · go_enter Try.func13, Try.ntmps13
    go_wp2
    go_ret
    exact ⟨rfl, rfl⟩
  · have hb : ((h : Int) == 0) = false := by simp; omega
    have hc : ((1000000000000 : Int) < (h : Int)) := by omega
    go_enter Try.func13, Try.ntmps13
    go_wp2
    go_ret
    exact ⟨rfl, rfl⟩

theorem stick_any (b h t o : Nat) (w : World) (hs : w.heap[b]? = some (sc h t o)) (hh : 0 < h) (h1 : h ≤ 1000000000000) :
    Calls Try.prog 12 #[.pointer (some ⟨b, 0, none⟩)] w fun e w' => e = .returned (.int .i64 (tickOf h : Nat)) ∧ Fr [] w w' := by
  go_enter Try.func12, Try.ntmps12
  go_wp2_with (first | (go_at_call 20; refine (made_yes b h t o _ hs (by omega)).mono ?_; rintro e w1 ⟨rfl, hf1⟩; have hs1 := hf1.heap hs (by simp)) | (go_at_call 13; refine (tick_any h _ hh h1).mono ?_; rintro e w2 ⟨rfl, rfl⟩))
  go_ret
  exact ⟨rfl, hf1⟩

theorem copy_any (b h t o : Nat) (w : World) (hs : w.heap[b]? = some (sc h t o)) (hh : 0 < h) :
    Calls Try.prog 17 #[.pointer (some ⟨b, 0, none⟩)] w fun e w' => ∃ c, e = .returned (.pointer (some ⟨c, 0, none⟩)) ∧ w.heap.size ≤ c ∧ w'.heap[c]? = some (sc h t o) ∧ Fr [] w w' := by
  go_enter Try.func17, Try.ntmps17
  go_wp2_with (go_at_call 20; refine (made_yes b h t o _ hs (by omega)).mono ?_; rintro e w1 ⟨rfl, hf1⟩; have hs1 := hf1.heap hs (by simp))
  go_ret
  exact ⟨_, rfl, hf1.size, heap_alloc_new _ _, hf1.alloc _⟩

set_option maxHeartbeats 400000 in
theorem full_any (b h t o : Nat) (w : World) (hs : w.heap[b]? = some (sc h t o)) (hh : 0 < h) (ht : t ≤ 4611686018427387904) :
    Calls Try.prog 14 #[.pointer (some ⟨b, 0, none⟩)] w fun e w' => e = .returned (.bool (decide (t = 4611686018427387904))) ∧ Fr [] w w' := by
  have ht2 : (decide (t = 4611686018427387904)) = ((t : Int) == 4611686018427387904) := by
    rw [Bool.eq_iff_iff]; simp; omega
  have H := Lib.hid ht2
  clear ht2
  go_enter Try.func14, Try.ntmps14
  go_wp2_with (go_at_call 20; refine (made_yes b h t o _ hs (by omega)).mono ?_; rintro e w1 ⟨rfl, hf1⟩; have hs1 := hf1.heap hs (by simp))
  go_ret
  exact ⟨by rw [H.out]; rfl, hf1⟩
end Go.Proofs.Ytigifoinejbnnaa
