/-
  PROVED HERE: the sky's New of pieces that fit.
-/
import Derived.Test.YtcgechcbcnhpjaaS4
namespace Go.Proofs.Ytcgechcbcnhpjaa
set_option linter.unusedVariables false
set_option linter.unusedSimpArgs false
open Go.RowKit
attribute [local go_sem 10] cellOf frozenOf
attribute [local go_sem] heap_drew heap_drewN

theorem abs_any (O : Int) (w : World) (h1 : -500000 ≤ O) (h2 : O ≤ 500000) :
    Calls Try.prog 22 #[.int .i64 O] w fun e w' => (∃ x : Nat, e = .returned (.int .i64 x) ∧ x ≤ 500000) ∧ w = w' := by
  rcases Int.lt_or_le O 0 with h | h
  · exact (abs_neg O O.natAbs w (by omega) (by omega) (by omega)).mono fun e w' ⟨he, hw⟩ => ⟨⟨_, he, by omega⟩, hw⟩
  · obtain ⟨x, rfl⟩ : ∃ x : Nat, O = (x : Int) := ⟨O.toNat, by omega⟩
    exact (abs_pos x w (by omega)).mono fun e w' ⟨he, hw⟩ => ⟨⟨_, he, by omega⟩, hw⟩

set_option maxHeartbeats 1000000 in
theorem bad_no (N F : Nat) (B O : Int) (w : World) (hN : w.heap[N]? = some (.cells #[.int .i64 B] 2 (0, 0))) (h1 : B < (F : Int)) (h2 : B < 0 → F = 0) (h3 : F ≤ 4503599627370496) (h4 : -500000 ≤ O) (h5 : O ≤ 500000) :
    Calls Try.prog 21 #[.agg #[.int .i64 F, .int .i64 O], .pointer (some ⟨N, 0, none⟩)] w fun e w' => e = .returned (.bool false) ∧ w'.heap[N]? = some (.cells #[.int .i64 (F : Nat)] 2 (0, 0)) ∧ Fr [N] w w' := by
  have t1 : ((F : Int) ≤ B) = False := by simp; omega
  have t3 : ((4503599627370496 : Int) < (F : Int)) = False := by simp; omega
  have hal := heap_alloc_old (.cells #[.int .i64 F, .int .i64 O] 39) hN
  have hnw := heap_alloc_new w (.cells #[.int .i64 F, .int .i64 O] 39)
  have hF := (Fr.refl [N] w).alloc (.cells #[.int .i64 F, .int .i64 O] 39)
  have hne : N ≠ w.heap.size := by have := lt_of_block hN; omega
  rcases Int.lt_or_le B 0 with h | h
  · obtain rfl := h2 h
    have t1' : ((0 : Int) ≤ B) = False := by simp; omega
    have hal : (w.alloc (.cells #[.int .i64 0, .int .i64 O] 39)).heap[N]? = some (.cells #[.int .i64 B] 2 (0, 0)) := hal
    have hnw : (w.alloc (.cells #[.int .i64 0, .int .i64 O] 39)).heap[w.heap.size]? = some (.cells #[.int .i64 0, .int .i64 O] 39 (0, 0)) := hnw
    have hF : Fr [N] w (w.alloc (.cells #[.int .i64 0, .int .i64 O] 39)) := hF
    go_enter Try.func21, Try.ntmps21
    go_wp2_with (fail)
    refine (abs_any O _ h4 h5).mono ?_
    rintro e w1 ⟨⟨x, rfl, hx⟩, rfl⟩
    have t4 : ((500000 : Int) < (x : Int)) = False := by simp; omega
    go_wp2_with (fail)
    go_ret
    exact ⟨rfl, (heap_set hal _).trans (by simp), hF.setCell (.inl (by simp)) _⟩
  · have t2 : (B < 0) = False := by simp; omega
    go_enter Try.func21, Try.ntmps21
    go_wp2_with (fail)
    refine (abs_any O _ h4 h5).mono ?_
    rintro e w1 ⟨⟨x, rfl, hx⟩, rfl⟩
    have t4 : ((500000 : Int) < (x : Int)) = False := by simp; omega
    go_wp2_with (fail)
    go_ret
    exact ⟨rfl, (heap_set hal _).trans (by simp), hF.setCell (.inl (by simp)) _⟩

structure Good (n : Nat) (f : Nat → Nat) (o : Nat → Int) : Prop where
  fits : Fits n f o
  pos : 1 ≤ n
  zero : f 0 = 0
  rise : ∀ i, i + 1 < n → f i < f (i + 1)

/-- What the closure holds ahead of piece i. -/
def ahead (f : Nat → Nat) : Nat → Int
  | 0 => -1
  | i + 1 => (f i : Nat)

theorem index_any (N : Nat) (A : Option Addr) (n c : Nat) (f : Nat → Nat) (o : Nat → Int) (w : World) (hp : Pcs w A n f o) (hg : Good n f o) (hN : w.heap[N]? = some (.cells #[.int .i64 (-1)] 2 (0, 0))) (hA : ∀ g off, A = some ⟨g, off, none⟩ → g ≠ N) :
    Calls Try.prog 32 #[.slice A n c, .func (.func 21) #[] #[.pointer (some ⟨N, 0, none⟩)]] w fun e w' => e = .returned (.int .i64 (-1)) ∧ Fr [N] w w' := by
  go_enter Try.func32, Try.ntmps32
  go_wp2_with (fail)
  go_loopg [5, 8] n (fun g s5 s8 wr => ∃ i : Nat, i + g = n ∧ s8 = .int .i64 i ∧ wr.heap[N]? = some (.cells #[.int .i64 (ahead f i)] 2 (0, 0)) ∧ Fr [N] w wr)
  case atStart => exact ⟨0, by omega, rfl, hN, Fr.refl _ _⟩
  case round =>
    clear hN
    obtain ⟨i, hig, rfl, hN, hF⟩ := hrel
    rcases Nat.eq_zero_or_pos gk with rfl | hp0
    · obtain rfl : i = n := by omega
      go_wp2_with (fail)
      go_ret
      exact ⟨rfl, hF⟩
    · have hi1 : i < n := by omega
      have hn64 := hg.fits.n_le
      obtain ⟨gb, off, rfl, hgb, hcs⟩ := hp (by omega)
      obtain ⟨c0, c1⟩ := hcs i hi1
      have hgN := hA gb off rfl
      have c0' := (hF.cell hgb (by simp [hgN])).trans c0
      have c1' := (hF.cell hgb (by simp [hgN])).trans c1
      clear c0 c1 hcs
      have j1 : (i : Int) < (n : Int) := by omega
      have hlim := hg.fits.o_ge i hi1
      have hfl := hg.fits.f_le i hi1
      have hah : ahead f i < (f i : Int) ∧ (ahead f i < 0 → f i = 0) := by
        rcases i with _ | i
        · exact ⟨by have := hg.zero; simp [ahead]; omega, fun _ => hg.zero⟩
        · exact ⟨by have := hg.rise i hi1; simp [ahead]; omega, fun h => by simp [ahead] at h; omega⟩
      have HX : ahead f (i + 1) = (f i : Int) := rfl
      have HXH := Lib.hid HX
      clear HX
      generalize f i = F at *
      generalize o i = O at *
      generalize ahead f i = B at *
      have hfb := hF.size
      go_wp2_with (fail)
      refine (bad_no N F B O _ hN hah.1 hah.2 hfl hlim.1 hlim.2).mono ?_
      rintro e w1 ⟨rfl, hN1, hf1⟩
      have hF1 : Fr [N] w w1 := hF.trans hf1 (fun _ _ h => h) (fun _ _ h => h)
      clear hah hN
      go_wp2_with (fail)
      go_roundg (gk - 1)
      case measure => omega
      case rel => exact ⟨i + 1, by omega, by go_num, by rw [HXH.out]; exact hN1, hF1⟩

theorem contains_any (N : Nat) (A : Option Addr) (n c : Nat) (f : Nat → Nat) (o : Nat → Int) (w : World) (hp : Pcs w A n f o) (hg : Good n f o) (hN : w.heap[N]? = some (.cells #[.int .i64 (-1)] 2 (0, 0))) (hA : ∀ g off, A = some ⟨g, off, none⟩ → g ≠ N) :
    Calls Try.prog 23 #[.slice A n c, .func (.func 21) #[] #[.pointer (some ⟨N, 0, none⟩)]] w fun e w' => e = .returned (.bool false) ∧ Fr [N] w w' := by
  go_enter Try.func23, Try.ntmps23
  go_wp2_with (fail)
  refine (index_any N A n c f o _ hp hg hN hA).mono ?_
  rintro e w1 ⟨rfl, hf1⟩
  go_wp2_with (fail)
  go_ret
  exact ⟨rfl, hf1⟩
end Go.Proofs.Ytcgechcbcnhpjaa
