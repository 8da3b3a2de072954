/-
  PROVED HERE: the sky's Worst; sort.Search over the sky's ticks; When.
-/
import Derived.Test.YtcgechcbcnhpjaaS7
namespace Go.Proofs.Ytcgechcbcnhpjaa
set_option linter.unusedVariables false
set_option linter.unusedSimpArgs false
open Go.RowKit
attribute [local go_sem 10] cellOf frozenOf
attribute [local go_sem] heap_drew heap_drewN

theorem abs_nat (O : Int) (w : World) (h1 : -500000 ≤ O) (h2 : O ≤ 500000) :
    Calls Try.prog 22 #[.int .i64 O] w fun e w' => e = .returned (.int .i64 (O.natAbs : Nat)) ∧ w = w' := by
  rcases Int.lt_or_le O 0 with h | h
  · exact abs_neg O O.natAbs w (by omega) (by omega) (by omega)
  · obtain ⟨x, rfl⟩ : ∃ x : Nat, O = (x : Int) := ⟨O.toNat, by omega⟩
    exact abs_pos x w (by omega)

/-- What the closure of When tells. -/
theorem when1_any (p q b h m fi K : Nat) (A : Option Addr) (n c : Nat) (f : Nat → Nat) (o : Nat → Int) (t : Nat) (w : World) (hq1 : w.heap[p]? = some (.cells #[.pointer (some ⟨b, 0, none⟩)] 25 (0, 0))) (hq2 : w.heap[q]? = some (.cells #[.int .u64 K] 31 (0, 0))) (hs : w.heap[b]? = some (sk h m fi A n c)) (hp : Pcs w A n f o) (hf : Fits n f o) (hh : 0 < h) (hh' : h ≤ 1000000000) (ht : t ≤ 4503599627370496) :
    Calls Try.prog 31 #[.int .i64 t, .pointer (some ⟨p, 0, none⟩), .pointer (some ⟨q, 0, none⟩)] w fun e w' => e = .returned (.bool (decide (K ≤ ticks h n t f o))) ∧ Fr [] w w' := by
  go_enter Try.func31, Try.ntmps31
  go_wp2_with (fail)
  have hsD : w.drew.heap[b]? = some (sk h m fi A n c) := hs
  have hpD : Pcs w.drew A n f o := hp
  go_region_held3 (fun w' => w'.heap[p]? = some (.cells #[.pointer (some ⟨b, 0, none⟩)] 25 (0, 0)) ∧ w'.heap[q]? = some (.cells #[.int .u64 K] 31 (0, 0)))
    (first | exact ⟨hq1, hq2⟩ | exact ⟨hp0, hp1⟩)
    ((go_at_call 13; refine (ticks_any b h m fi A n c f o t _ hsD hpD hf hh hh' ht).mono ?_; rintro e w2 ⟨rfl, hf2⟩; have hp0 := hf2.heap hq1 List.not_mem_nil; have hp1 := hf2.heap hq2 List.not_mem_nil))
  go_wp2_with (fail)
  go_ret
  exact ⟨by congr 2, (Fr.refl [] w).drew.then0 hf2⟩

theorem mid_of {i j : Nat} (h : i < j) : i ≤ (i + j) / 2 ∧ (i + j) / 2 < j := by omega

set_option maxHeartbeats 1000000 in
theorem search_any (p q b h m fi K : Nat) (A : Option Addr) (n c : Nat) (f : Nat → Nat) (o : Nat → Int) (w : World) (hq1 : w.heap[p]? = some (.cells #[.pointer (some ⟨b, 0, none⟩)] 25 (0, 0))) (hq2 : w.heap[q]? = some (.cells #[.int .u64 K] 31 (0, 0))) (hs : w.heap[b]? = some (sk h m fi A n c)) (hp : Pcs w A n f o) (hf : Fits n f o) (hh : 0 < h) (hh' : h ≤ 1000000000) (hK : K ≤ ticks h n 4503599627370496 f o) :
    Calls Try.prog 30 #[.int .i64 4503599627370496, .func (.func 31) #[] #[.pointer (some ⟨p, 0, none⟩), .pointer (some ⟨q, 0, none⟩)]] w fun e w' => (∃ r : Nat, e = .returned (.int .i64 r) ∧ r ≤ 4503599627370496 ∧ K ≤ ticks h n r f o ∧ ∀ x, x < r → ticks h n x f o < K) ∧ Fr [] w w' := by
  go_enter Try.func30, Try.ntmps30
  go_wp2_with (fail)
  go_loopg [5, 6, 7] 4503599627370496 (fun g s5 s6 s7 wr => ∃ i j : Nat, i + g = j ∧ s5 = .int .i64 i ∧ s6 = .int .i64 j ∧ j ≤ 4503599627370496 ∧ K ≤ ticks h n j f o ∧ (∀ x, x < i → ticks h n x f o < K) ∧ Fr [] w wr)
  case atStart => exact ⟨0, 4503599627370496, by omega, rfl, rfl, Nat.le_refl _, hK, fun x hx => by omega, Fr.refl _ _⟩
  case round =>
    clear hK
    obtain ⟨i, j, hij, rfl, rfl, hj, hjK, hiK, hF⟩ := hrel
    have HI := Lib.hid hiK
    have HJ := Lib.hid hjK
    clear hiK hjK
    rcases Nat.eq_zero_or_pos gk with rfl | hp0
    · obtain rfl : i = j := by omega
      go_wp2_with (fail)
      go_ret
      exact ⟨⟨i, rfl, hj, HJ.out, HI.out⟩, hF⟩
    · have hlt : i < j := by omega
      obtain ⟨m1, m2⟩ := mid_of hlt
      obtain ⟨y, hy⟩ : ∃ y, (i + j) / 2 = y := ⟨_, rfl⟩
      rw [hy] at m1 m2
      have hy2 : ((i : Int) + (j : Int)) / 2 = (y : Int) := by omega
      clear hy
      have HW := fun t w => when1_any p q b h m fi K A n c f o t w
      go_wp2_with (fail)
      refine (HW y _ (hF.heap hq1 List.not_mem_nil) (hF.heap hq2 List.not_mem_nil) (hF.heap hs List.not_mem_nil) (hp.fr hF) hf hh hh' (by omega)).mono ?_
      rintro e w2 ⟨rfl, hf2⟩
      have hF2 := hF.then0 hf2
      rcases Nat.lt_or_ge (ticks h n y f o) K with h1 | h1
      · rw [decide_eq_false (by omega)]
        have HL := Lib.hid h1
        clear h1
        go_wp2_with (fail)
        go_roundg (j - (y + 1))
        case measure => omega
        case rel => exact ⟨y + 1, j, by omega, by go_num, rfl, hj, HJ.out, fun x hx => Nat.lt_of_le_of_lt (ticks_mono (by omega)) HL.out, hF2⟩
      · rw [decide_eq_true h1]
        have HL := Lib.hid h1
        clear h1
        go_wp2_with (fail)
        go_roundg (y - i)
        case measure => omega
        case rel => exact ⟨i, y, by omega, rfl, rfl, by omega, HL.out, HI.out, hF2⟩

set_option maxHeartbeats 1000000 in
theorem when_any (b h m fi K r0 : Nat) (A : Option Addr) (n c : Nat) (f : Nat → Nat) (o : Nat → Int) (w : World) (hs : w.heap[b]? = some (sk h m fi A n c)) (hp : Pcs w A n f o) (hf : Fits n f o) (hh : 0 < h) (hh' : h ≤ 1000000000) (hK : K ≤ ticks h n 4503599627370496 f o)
    (hr0 : r0 + 1 ≤ 4503599627370496) (hr1 : ticks h n r0 f o < K) (hr2 : K ≤ ticks h n (r0 + 1) f o) :
    Calls Try.prog 19 #[.pointer (some ⟨b, 0, none⟩), .int .u64 K] w fun e w' => e = .returned (.tuple #[.int .i64 ((r0 : Int) + 1), .bool true]) ∧ Fr [] w w' := by
  have hq1 := heap_alloc_old (.cells #[.int .u64 K] 31) (heap_alloc_new w (.cells #[.pointer (some ⟨b, 0, none⟩)] 25))
  have hq2 := heap_alloc_new (w.alloc (.cells #[.pointer (some ⟨b, 0, none⟩)] 25)) (.cells #[.int .u64 K] 31)
  simp only [World.size_alloc] at hq2
  have hF0 := ((Fr.refl [] w).alloc (.cells #[.pointer (some ⟨b, 0, none⟩)] 25)).alloc (.cells #[.int .u64 K] 31)
  go_enter Try.func19, Try.ntmps19
  go_wp2_with (fail)
  generalize (w.alloc (.cells #[.pointer (some ⟨b, 0, none⟩)] 25)).alloc (.cells #[.int .u64 K] 31) = W at *
  have hs0 := hF0.heap hs List.not_mem_nil
  have hsD : W.drew.heap[b]? = some (sk h m fi A n c) := hs0
  have hpD : Pcs W.drew A n f o := hp.fr hF0.drew
  have HKK := Lib.hid hK
  obtain ⟨T, hT⟩ : ∃ T, ticks h n 4503599627370496 f o = T := ⟨_, rfl⟩
  have HTT := Lib.hid hT
  rw [hT] at hK
  have t1 : ((T : Int) < (K : Int)) = False := by simp; omega
  clear hT
  generalize hM : w.heap.size = M at *
  go_region_held3 (fun w' => w'.heap[M]? = some (.cells #[.pointer (some ⟨b, 0, none⟩)] 25 (0, 0)) ∧ w'.heap[M + 1]? = some (.cells #[.int .u64 K] 31 (0, 0)))
    (first | exact ⟨hq1, hq2⟩ | exact ⟨hp0, hp1⟩)
    (first
    | (go_at_call 13; refine (ticks_any b h m fi A n c f o 4503599627370496 _ hsD hpD hf hh hh' (by omega)).mono ?_; rw [HTT.out]; rintro e w2 ⟨rfl, hf2⟩; have hp0 := hf2.heap hq1 List.not_mem_nil; have hp1 := hf2.heap hq2 List.not_mem_nil)
    | (go_at_call 12; refine (none_no b h m fi A n c _ hsD hh).mono ?_; rintro e w1 ⟨rfl, rfl⟩))
  have hF2 := hF0.drew.then0 hf2
  go_wp2_with (fail)
  refine (search_any M (M + 1) b h m fi K A n c f o _ hp0 hp1 (hf2.heap hsD List.not_mem_nil) (hp.fr hF2) hf hh hh' HKK.out).mono ?_
  rintro e w3 ⟨⟨r, rfl, hr, hrK, hrx⟩, hf3⟩
  obtain rfl : r = r0 + 1 := by
    rcases Nat.lt_trichotomy r (r0 + 1) with h1 | h1 | h1
    · have := ticks_mono (h := h) (n := n) (f := f) (o := o) (show r ≤ r0 by omega)
      omega
    · exact h1
    · have := hrx (r0 + 1) h1
      omega
  clear hrK hrx hr1 hr2
  go_wp2_with (fail)
  go_ret2
  exact ⟨rfl, hF2.then0 hf3⟩
end Go.Proofs.Ytcgechcbcnhpjaa
