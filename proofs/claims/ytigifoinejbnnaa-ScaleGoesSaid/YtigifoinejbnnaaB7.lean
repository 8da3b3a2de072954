/-
  PROVED HERE: Int of the reference's numbers, of numbers that aren't below zero.
-/
import Derived.Test.YtigifoinejbnnaaB6
namespace Go.Proofs.Ytigifoinejbnnaa
set_option linter.unusedVariables false
set_option linter.unusedSimpArgs false
open Go.RowKit
attribute [local go_sem 10] cellOf frozenOf
attribute [local go_sem] heap_drew heap_drewN

theorem vd_zero (l : List Nat) : vd l 0 = val l := rfl
/-- What Int tells. -/
def Told (w : World) (v : Nat) (e : Ending) (w' : World) : Prop := ∃ (x : Int) (ok : Bool), e = .returned (.tuple #[.int .i64 x, .bool ok]) ∧ (v ≤ 9223372036854775807 → ok = true ∧ x = v) ∧ (9223372036854775807 < v → ok = false) ∧ Fr [] w w'

theorem vd_lt2 {l : List Nat} (h : Dg l) (i n : Nat) (hl : l.length ≤ i + n) : vd l i < 65536 ^ n := by
  have h1 : Dg (l.drop i) := fun y hy => h y (List.mem_of_mem_drop hy)
  exact Nat.lt_of_lt_of_le (val_lt h1) (Nat.pow_le_pow_right (by omega) (by simp; omega))

set_option maxHeartbeats 1000000 in
theorem int_any (A : Option Addr) (n c : Nat) (l : List Nat) (w : World) (h : Rd w A n l) (hnc : n ≤ c) (hc : c ≤ 9223372036854775807) (hd : Dg l) :
    Calls Try.prog 28 #[.agg #[.bool false, .slice A n c]] w (Told w (val l)) := by
  have hb0 := heap_alloc_new w (.cells #[.bool false, .slice A n c] 48)
  have hf0 : Fr [] w _ := (Fr.refl [] w).alloc (.cells #[.bool false, .slice A n c] 48)
  go_enter Try.func28, Try.ntmps28
  go_wp2_with (fail)
  generalize w.alloc (.cells #[.bool false, .slice A n c] 48) = W at *
  refine (trim_any false A n c l W (h.fr hf0) hnc hc).mono ?_
  rintro e w1 ⟨m', D, n', c', r, rfl, hr, hnc', hcm', ⟨hv, ht, hl, hmem, hm⟩, hf1⟩
  obtain rfl := hm rfl
  clear hm
  have hdr : Dg r := fun x hx => hd x (hmem x hx)
  have HV := Lib.hid hv
  have HR := Lib.hid hr
  have HL := Lib.hid hr.1
  have hn1 := hr.2.1
  have hb1 := hf1.heap hb0 (by simp)
  have hF1 := hf0.then0 hf1
  clear hv hr hmem hl hb0 hf0
  by_cases h4 : (4 : Int) < (n' : Int)
  · have hbig : 9223372036854775807 < val r := by
      obtain ⟨k, hk⟩ : ∃ k, r.length = k + 1 := ⟨r.length - 1, by have := HL.out; omega⟩
      have := val_ge ht hk
      have h5 : 65536 ^ 4 ≤ 65536 ^ k := Nat.pow_le_pow_right (by omega) (by have := HL.out; omega)
      have h6 : (65536 : Nat) ^ 4 = 18446744073709551616 := by decide
      omega
    have HB := Lib.hid hbig
    clear hbig
    go_wp2_with (fail)
    go_ret2
    refine ⟨_, _, rfl, fun hle => absurd hle (by rw [← HV.out]; exact Nat.not_le.2 HB.out), fun _ => rfl, ?_⟩
    exact (hF1.setNew (Nat.le_refl _) _).setNew (Nat.le_refl _) _
  · have h4' : (n' : Int) ≤ 4 := by omega
    go_wp2_with (fail)
    have hb2 := heap_set (o := 1) (heap_set (o := 0) hb1 (.bool false)) (.slice D n' c')
    have hF2 := (hF1.setNew (o := 0) (Nat.le_refl _) (.bool false)).setNew (o := 1) (Nat.le_refl _) (.slice D n' c')
    have hr2 := HR.out.fr3 hb1 (((Fr.refl [_] w1).setCell (p := ⟨w.heap.size, 0, none⟩) (.inl (by simp)) (.bool false)).setCell (p := ⟨w.heap.size, 1, none⟩) (.inl (by simp)) (.slice D n' c'))
    generalize (w1.setCell ⟨w.heap.size, 0, none⟩ (.bool false)).setCell ⟨w.heap.size, 1, none⟩ (.slice D n' c') = W2 at *
    simp only [List.setIfInBounds_toArray, List.set_cons_zero, List.set_cons_succ] at hb2
    clear hb1 hF1 hf1
    go_loopg [4, 5] n' (fun g n i wr => n = .int .u64 (vd r g : Nat) ∧ g ≤ n' ∧ i = .int .i64 ((g : Int) - 1) ∧ wr = W2)
    case atStart => exact ⟨by rw [vd_end (by have := HL.out; omega)]; rfl, Nat.le_refl _, rfl, rfl⟩
    case round =>
      obtain ⟨rfl, hg, rfl, rfl⟩ := hrel
      rcases Nat.eq_zero_or_pos gk with rfl | hp
      · have hval : vd r 0 = val l := by rw [vd_zero, HV.out]
        have hlt := vd_lt2 hdr 0 4 (by have := HL.out; omega)
        have h6 : (65536 : Nat) ^ 4 = 18446744073709551616 := by decide
        rw [h6] at hlt
        have HVV := Lib.hid hval
        clear hval h6
        generalize vd r 0 = v at *
        by_cases hle : (v : Int) ≤ 9223372036854775807
        · go_wp2_with (fail)
          go_ret2
          exact ⟨_, _, rfl, fun h => ⟨rfl, by rw [← HVV.out]⟩, fun h => absurd h (by rw [← HVV.out]; omega), hF2⟩
        · go_wp2_with (fail)
          go_ret2
          exact ⟨_, _, rfl, fun h => absurd h (by rw [← HVV.out]; omega), fun h => rfl, hF2⟩
      · obtain ⟨k, rfl⟩ : ∃ k, gk = k + 1 := ⟨gk - 1, by omega⟩
        obtain ⟨ga, oa, rfl, hga, hca⟩ := hr2.2.2 (by omega)
        have hcak := hca k (by omega)
        clear hca
        have hx1 := hdr.getD k
        have hst := vd_step r k
        have hlt := vd_lt2 hdr (k + 1) 3 (by have := HL.out; omega)
        have h6 : (65536 : Nat) ^ 3 = 281474976710656 := by decide
        rw [h6] at hlt
        have i1 : (0 : Int) ≤ (k : Int) := by omega
        have i2 : (k : Int) < (n' : Int) := by omega
        obtain ⟨x, hx⟩ : ∃ x, r.getD k 0 = x := ⟨_, rfl⟩
        obtain ⟨v, hv⟩ : ∃ v, vd r (k + 1) = v := ⟨_, rfl⟩
        obtain ⟨v', hv'⟩ : ∃ v', vd r k = v' := ⟨_, rfl⟩
        rw [hx] at hcak hx1 hst
        rw [hv] at hst hlt ⊢
        rw [hv'] at hst
        have e1 : (v : Int) * 65536 + (x : Int) = (v' : Int) := by omega
        have hvb : v' ≤ 18446744073709551615 := by omega
        have HV' := Lib.hid hv'
        clear hv hv' hx hst h6
        go_wp2_with (fail)
        go_roundg k
        case measure => omega
        case rel => exact ⟨by rw [HV'.out], by omega, by go_num, rfl⟩
end Go.Proofs.Ytigifoinejbnnaa
