/-
  PROVED HERE: the walk of ephemerislaw10.ScaleKnown: it returns true.
-/
import Derived.Test.YtigifoinejbnnaaSec
namespace Go.Proofs.Ytigifoinejbnnaa
set_option linter.unusedVariables false
set_option linter.unusedSimpArgs false
open Go.RowKit
attribute [local go_sem] cellOf frozenOf heap_drew heap_drewN

theorem made_nil (w : World) :
    Calls Try.prog 20 #[.pointer none] w fun e w' => e = .returned (.bool false) ∧ Fr [] w w' := by
  go_enter Try.func20, Try.ntmps20
  go_wp2
  go_quiet (fail)
  go_wp2
  go_ret
  exact ⟨rfl, (Fr.refl _ _).drewN nq⟩

theorem made_zero (b : Nat) (w : World) (hs : w.heap[b]? = some (sc 0 0 0)) :
    Calls Try.prog 20 #[.pointer (some ⟨b, 0, none⟩)] w fun e w' => e = .returned (.bool false) ∧ Fr [] w w' := by
  go_enter Try.func20, Try.ntmps20
  go_wp2
  go_region_held3 (fun w' => Fr [] w w' ∧ w'.heap[b]? = some (sc 0 0 0))
    (first | exact ⟨(Fr.refl _ _).drew, hs⟩ | exact ⟨Fr.then0 (And.left (by assumption)) (by assumption), Fr.heap (by assumption) (And.right (by assumption)) (by simp)⟩) (first | (go_at_call 29; refine (none_any _).mono ?_; rintro e w1 ⟨rfl, hb1⟩))
  all_goals (have hx := And.left ‹Fr [] w _ ∧ _›)
  go_wp2
  go_ret
  exact ⟨rfl, hx⟩

/-- What New did not make: nil, or a scale of nothing. -/
def NoScale (w : World) (v : Value) : Prop := v = .pointer none ∨ ∃ b, v = .pointer (some ⟨b, 0, none⟩) ∧ w.heap[b]? = some (sc 0 0 0)
theorem NoScale.fr {w w' : World} {v : Value} (h : NoScale w v) (k : Fr [] w w') : NoScale w' v := by
  rcases h with rfl | ⟨b, rfl, hb⟩
  · exact .inl rfl
  · exact .inr ⟨b, rfl, k.heap hb (by simp)⟩
theorem made_no (v : Value) (w : World) (hs : NoScale w v) :
    Calls Try.prog 20 #[v] w fun e w' => e = .returned (.bool false) ∧ Fr [] w w' := by
  rcases hs with rfl | ⟨b, rfl, hb⟩
  · exact made_nil w
  · exact made_zero b w hb

theorem to_no (v : Value) (n : Int) (w : World) (hs : NoScale w v) :
    Calls Try.prog 9 #[v, .int .u64 n] w fun e w' => e = .returned (.int .i64 0) ∧ Fr [] w w' := by
  go_enter Try.func9, Try.ntmps9
  go_wp2_with (go_at_call 20; refine (made_no _ _ hs).mono ?_; rintro e w1 ⟨rfl, hf1⟩)
  go_ret
  exact ⟨rfl, hf1⟩
theorem total_no (v : Value) (w : World) (hs : NoScale w v) :
    Calls Try.prog 10 #[v] w fun e w' => e = .returned (.int .i64 0) ∧ Fr [] w w' := by
  go_enter Try.func10, Try.ntmps10
  go_wp2_with (go_at_call 20; refine (made_no _ _ hs).mono ?_; rintro e w1 ⟨rfl, hf1⟩)
  go_ret
  exact ⟨rfl, hf1⟩
theorem stick_no (v : Value) (w : World) (hs : NoScale w v) :
    Calls Try.prog 12 #[v] w fun e w' => e = .returned (.int .i64 0) ∧ Fr [] w w' := by
  go_enter Try.func12, Try.ntmps12
  go_wp2_with (go_at_call 20; refine (made_no _ _ hs).mono ?_; rintro e w1 ⟨rfl, hf1⟩)
  go_ret
  exact ⟨rfl, hf1⟩
theorem full_nothing (v : Value) (w : World) (hs : NoScale w v) :
    Calls Try.prog 14 #[v] w fun e w' => e = .returned (.bool false) ∧ Fr [] w w' := by
  go_enter Try.func14, Try.ntmps14
  go_wp2_with (go_at_call 20; refine (made_no _ _ hs).mono ?_; rintro e w1 ⟨rfl, hf1⟩)
  go_ret
  exact ⟨rfl, hf1⟩
theorem copy_no (v : Value) (w : World) (hs : NoScale w v) :
    Calls Try.prog 17 #[v] w fun e w' => e = .returned (.pointer none) ∧ Fr [] w w' := by
  go_enter Try.func17, Try.ntmps17
  go_wp2_with (go_at_call 20; refine (made_no _ _ hs).mono ?_; rintro e w1 ⟨rfl, hf1⟩)
  go_ret
  exact ⟨rfl, hf1⟩
theorem k_full_at (b h t o : Nat) (w : World) (hs : w.heap[b]? = some (sc h t o)) (hh : 0 < h) (ht : t = 4611686018427387904) :
    Calls Try.prog 14 #[.pointer (some ⟨b, 0, none⟩)] w fun e w' => e = .returned (.bool true) ∧ Fr [] w w' :=
  (full_any b h t o w hs hh (by omega)).mono fun e w' ⟨he, hf⟩ => ⟨by rw [he, decide_eq_true ht], hf⟩
theorem k_k1 : toTold 1 0 0 4611686018427387904 = 4611686018427387904 ∧ toTotal 1 0 0 4611686018427387904 = 4611686018427387904 ∧ toOver 1 0 0 4611686018427387904 = 0 := by decide +kernel
theorem k_k2 : toTold 1 4611686018427387904 0 1 = 0 ∧ toTotal 1 4611686018427387904 0 1 = 4611686018427387904 ∧ toOver 1 4611686018427387904 0 1 = 0 := by decide +kernel
theorem k_k3 : toTold 1000000000000 0 0 999 = 0 ∧ toTotal 1000000000000 0 0 999 = 0 ∧ toOver 1000000000000 0 0 999 = 999000000000 := by decide +kernel
theorem k_k4 : toTold 1000000000000 0 999000000000 1 = 1 ∧ toTotal 1000000000000 0 999000000000 1 = 1 ∧ toOver 1000000000000 0 999000000000 1 = 0 := by decide +kernel
theorem k_k5 : toTold 1 0 0 4611686018 = 4611686018000000000 ∧ toTotal 1 0 0 4611686018 = 4611686018000000000 ∧ toOver 1 0 0 4611686018 = 0 := by decide +kernel
theorem k_k6 : toTold 1 4611686018000000000 0 1 = 427387904 ∧ toTotal 1 4611686018000000000 0 1 = 4611686018427387904 ∧ toOver 1 4611686018000000000 0 1 = 0 := by decide +kernel

set_option maxHeartbeats 1000000 in
set_option maxRecDepth 100000 in
theorem kno_walk (w : World) :
    Calls Try.prog 7 #[] w fun e w' => e = .returned (.bool true) ∧ Below w.heap.size w w' := by
  go_enter Try.func7, Try.ntmps7
  go_wp2_with (fail)
  have hz : NoScale (w.alloc (sc 0 0 0)) (.pointer (some ⟨w.heap.size, 0, none⟩)) := .inr ⟨_, rfl, heap_alloc_new _ _⟩
  have hf0 : Fr [] w (w.alloc (sc 0 0 0)) := (Fr.refl _ _).alloc _
  refine (to_no _ 5 _ (.inl rfl)).mono ?_
  rintro e w1 ⟨rfl, hf1⟩
  have hz1 := hz.fr hf1
  have hF1 := hf0.then0 hf1
  go_wp2_with (fail)
  refine (to_no _ 5 _ hz1).mono ?_
  rintro e w2 ⟨rfl, hf2⟩
  have hz2 := hz1.fr hf2
  have hF2 := hF1.then0 hf2
  go_wp2_with (fail)
  refine (total_no _ _ (.inl rfl)).mono ?_
  rintro e w3 ⟨rfl, hf3⟩
  have hz3 := hz2.fr hf3
  have hF3 := hF2.then0 hf3
  go_wp2_with (fail)
  refine (stick_no _ _ hz3).mono ?_
  rintro e w4 ⟨rfl, hf4⟩
  have hz4 := hz3.fr hf4
  have hF4 := hF3.then0 hf4
  go_wp2_with (fail)
  refine (full_nothing _ _ (.inl rfl)).mono ?_
  rintro e w5 ⟨rfl, hf5⟩
  have hz5 := hz4.fr hf5
  have hF5 := hF4.then0 hf5
  go_wp2_with (fail)
  refine (copy_no _ _ hz5).mono ?_
  rintro e w6 ⟨rfl, hf6⟩
  have hz6 := hz5.fr hf6
  have hF6 := hF5.then0 hf6
  go_wp2_with (fail)
  refine (new_bad 0 _ (by omega)).mono ?_
  rintro e wx ⟨rfl, rfl⟩
  go_wp2_with (fail)
  refine (new_bad 1000000000001 _ (by omega)).mono ?_
  rintro e wx ⟨rfl, rfl⟩
  go_wp2_with (fail)
  refine (new_any 1 _ (by omega) (by omega)).mono ?_
  rintro e w7 ⟨a, rfl, la, ha7, hf7⟩
  have hF7 := hF6.then0 hf7
  have ga : w.heap.size ≤ a := Nat.le_trans hF6.size la
  clear la
  go_wp2_with (fail)
  refine (new_any 1000000000000 _ (by omega) (by omega)).mono ?_
  rintro e w8 ⟨b, rfl, lb, hb8, hf8⟩
  have ha8 := hf8.heap ha7 (by simp)
  have nab : a ≠ b := by have := lt_of_block ha7; omega
  have nba := Ne.symm nab
  have hF8 := hF7.then0 hf8
  have gb : w.heap.size ≤ b := Nat.le_trans hF7.size lb
  clear lb
  go_wp2_with (fail)
  refine (to_lit a 1 0 0 4611686018427387904 4611686018427387904 4611686018427387904 0 _ ha8 k_k1 (by omega) (by omega) (by omega) (by omega) (by omega)).mono ?_
  rintro e w9 ⟨rfl, ha9, hf9⟩
  have hb9 := hf9.heap hb8 (by simp [nba])
  have hF9 := hF8.two ga hf9
  go_wp2_with (fail)
  refine (to_lit a 1 4611686018427387904 0 1 0 4611686018427387904 0 _ ha9 k_k2 (by omega) (by omega) (by omega) (by omega) (by omega)).mono ?_
  rintro e w10 ⟨rfl, ha10, hf10⟩
  have hb10 := hf10.heap hb9 (by simp [nba])
  have hF10 := hF9.two ga hf10
  go_wp2_with (fail)
  refine (to_lit b 1000000000000 0 0 999 0 0 999000000000 _ hb10 k_k3 (by omega) (by omega) (by omega) (by omega) (by omega)).mono ?_
  rintro e w11 ⟨rfl, hb11, hf11⟩
  have ha11 := hf11.heap ha10 (by simp [nab])
  have hF11 := hF10.two gb hf11
  go_wp2_with (fail)
  refine (to_lit b 1000000000000 0 999000000000 1 1 1 0 _ hb11 k_k4 (by omega) (by omega) (by omega) (by omega) (by omega)).mono ?_
  rintro e w12 ⟨rfl, hb12, hf12⟩
  have ha12 := hf12.heap ha11 (by simp [nab])
  have hF12 := hF11.two gb hf12
  go_wp2_with (fail)
  refine (new_any 1 _ (by omega) (by omega)).mono ?_
  rintro e w13 ⟨c, rfl, lc, hc13, hf13⟩
  have ha13 := hf13.heap ha12 (by simp)
  have nac : a ≠ c := by have := lt_of_block ha12; omega
  have nca := Ne.symm nac
  have hb13 := hf13.heap hb12 (by simp)
  have nbc : b ≠ c := by have := lt_of_block hb12; omega
  have ncb := Ne.symm nbc
  have hF13 := hF12.then0 hf13
  have gc : w.heap.size ≤ c := Nat.le_trans hF12.size lc
  clear lc
  go_wp2_with (fail)
  refine (to_lit c 1 0 0 4611686018 4611686018000000000 4611686018000000000 0 _ hc13 k_k5 (by omega) (by omega) (by omega) (by omega) (by omega)).mono ?_
  rintro e w14 ⟨rfl, hc14, hf14⟩
  have ha14 := hf14.heap ha13 (by simp [nac])
  have hb14 := hf14.heap hb13 (by simp [nbc])
  have hF14 := hF13.two gc hf14
  go_wp2_with (fail)
  refine (to_lit c 1 4611686018000000000 0 1 427387904 4611686018427387904 0 _ hc14 k_k6 (by omega) (by omega) (by omega) (by omega) (by omega)).mono ?_
  rintro e w15 ⟨rfl, hc15, hf15⟩
  have ha15 := hf15.heap ha14 (by simp [nac])
  have hb15 := hf15.heap hb14 (by simp [nbc])
  have hF15 := hF14.two gc hf15
  go_wp2_with (fail)
  refine (k_full_at a 1 4611686018427387904 0 _ ha15 (by omega) rfl).mono ?_
  rintro e w16 ⟨rfl, hf16⟩
  have ha16 := hf16.heap ha15 (by simp)
  have hb16 := hf16.heap hb15 (by simp)
  have hc16 := hf16.heap hc15 (by simp)
  have hF16 := hF15.then0 hf16
  go_wp2_with (fail)
  refine (k_full_at c 1 4611686018427387904 0 _ hc16 (by omega) rfl).mono ?_
  rintro e w17 ⟨rfl, hf17⟩
  have ha17 := hf17.heap ha16 (by simp)
  have hb17 := hf17.heap hb16 (by simp)
  have hc17 := hf17.heap hc16 (by simp)
  have hF17 := hF16.then0 hf17
  go_wp2_with (fail)
  refine (tick_bad 0 _ (by omega)).mono ?_
  rintro e wx ⟨rfl, rfl⟩
  go_wp2_with (fail)
  refine (tick_lit 1 1000000000 _ (by omega) (by omega) (by decide +kernel)).mono ?_
  rintro e wx ⟨rfl, rfl⟩
  go_wp2_with (fail)
  refine (alive_any _).mono ?_
  rintro e wl ⟨rfl, hfl⟩
  go_wp2_with (fail)
  go_ret
  exact ⟨rfl, (hF17.then0 hfl).below⟩
end Go.Proofs.Ytigifoinejbnnaa
