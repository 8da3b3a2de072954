/-
  PROVED HERE: the sky's New of pieces that fit: a sky of a copy of them.
-/
import Derived.Test.YtcgechcbcnhpjaaS6
namespace Go.Proofs.Ytcgechcbcnhpjaa
set_option linter.unusedVariables false
set_option linter.unusedSimpArgs false
open Go.RowKit
attribute [local go_sem 10] cellOf frozenOf
attribute [local go_sem] heap_drew heap_drewN

set_option maxHeartbeats 1000000 in
theorem new_sky (h bits m fi g off n c : Nat) (f : Nat → Nat) (o : Nat → Int) (w : World) (h1 : 1 ≤ h) (h2 : h ≤ 1000000000) (hb : 8 ≤ bits) (hb2 : bits ≤ 64) (hm : (18446744073709551615 : Int) / 2 ^ (64 - bits) = (m : Int)) (hmm : m < 18446744073709551616) (hfi : fi ≤ m)
    (hp : Pcs w (some ⟨g, off, none⟩) n f o) (hg : Good n f o) :
    Calls Try.prog 11 #[.int .u64 h, .int .i64 bits, .int .u64 fi, .slice (some ⟨g, off, none⟩) n c] w fun e w' => ∃ b g' c', e = .returned (.tuple #[.pointer (some ⟨b, 0, none⟩), .int .i64 0]) ∧ w.heap.size ≤ b ∧ w'.heap[b]? = some (sk h m fi (some ⟨g', 0, none⟩) n c') ∧ Pcs w' (some ⟨g', 0, none⟩) n f o ∧ Fr [] w w' := by
  have hn := hg.pos
  have hn64 := hg.fits.n_le
  have t1 : ((h : Int) < 1) = False := by simp; omega
  have t2 : ((1000000000 : Int) < (h : Int)) = False := by simp; omega
  have t3 : ((bits : Int) < 8) = False := by simp; omega
  have t4 : ((64 : Int) < (bits : Int)) = False := by simp; omega
  have t5 : ((n : Int) < 1) = False := by simp; omega
  have t6 : ((64 : Int) < (n : Int)) = False := by simp; omega
  have t7 : ((m : Int) < (fi : Int)) = False := by simp; omega
  obtain ⟨g0, off0, e0, hgl, _⟩ := hp (by omega)
  cases e0
  have hb0 := heap_alloc_new w (.cells #[.int .i64 (-1)] 2)
  have hF0 := (Fr.refl [] w).alloc (.cells #[.int .i64 (-1)] 2)
  have hne : g ≠ w.heap.size := by omega
  go_enter Try.func11, Try.ntmps11
  go_wp2_with (fail)
  refine (contains_any w.heap.size (some ⟨g, off, none⟩) n c f o _ (hp.fr hF0) hg hb0 (fun g' off' e => by cases e; exact hne)).mono ?_
  rintro e w1 ⟨rfl, hf1⟩
  have hF1 : Fr [] w w1 := hF0.trans hf1 (fun _ _ h => h) (fun x hx hm => by simp at hm; omega)
  go_wp2_with (fail)
  refine (clone_any g off n c f o _ (hp.fr hF1) (by omega) hn64).mono ?_
  rintro e w2 ⟨g2, c2, rfl, hg2, hp2, hf2⟩
  have hF2 := hF1.then0 hf2
  have hnew := heap_alloc_new w2 (sk h m fi (some ⟨g2, 0, none⟩) n c2)
  go_wp2_with (fail)
  go_ret2
  exact ⟨w2.heap.size, g2, c2, rfl, hF2.size, hnew, hp2.fr ((Fr.refl [] w2).alloc _), hF2.alloc _⟩
end Go.Proofs.Ytcgechcbcnhpjaa
