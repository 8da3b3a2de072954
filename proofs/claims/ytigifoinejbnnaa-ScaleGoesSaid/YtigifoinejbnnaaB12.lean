/-
  PROVED HERE: ephemerisref10's To.
-/
import Derived.Test.YtigifoinejbnnaaB11
import Derived.Deep.AppendLies
import Derived.Deep.RegionLaw
namespace Go.Proofs.Ytigifoinejbnnaa
set_option linter.unusedVariables false
set_option linter.unusedSimpArgs false
open Go.RowKit
attribute [local go_sem 10] cellOf frozenOf
attribute [local go_sem] heap_drew heap_drewN

theorem Rd.fr4 {w w' : World} {A n l} {b q r : Nat} {i : Int} {x : Bool} {P : Option Addr} {t : TypeId} {f : Nat × Nat} (h : Rd w A n l) (hb : w.heap[b]? = some (.cells #[.int .i64 i, .bool x, .slice P q r] t f)) (k : Fr [b] w w') : Rd w' A n l := by
  obtain ⟨h1, h2, h3⟩ := h
  refine ⟨h1, h2, fun hn => ?_⟩
  obtain ⟨g, off, e, hg, hc⟩ := h3 hn
  have hne : g ≠ b := by
    rintro rfl
    have h4 := hc 0 hn
    rw [World.cell?, hb] at h4
    simp only [Option.isSome_none, Bool.false_eq_true, if_false] at h4
    rcases off with _ | _ | _ | off
    · simp at h4
    · simp at h4
    · simp at h4
    · simp at h4
  exact ⟨g, off, e, Nat.lt_of_lt_of_le hg k.size, fun i hi => (k.cell hg (by simp [hne])).trans (hc i hi)⟩

theorem rtot_mono {h a b : Nat} (hab : a ≤ b) : rtot h a ≤ rtot h b := by
  have := Nat.div_le_div_right (c := h) (Nat.mul_le_mul_right 1000000000 hab)
  unfold rtot
  omega

set_option maxHeartbeats 4000000 in
theorem rto_any (b h : Nat) (A : Option Addr) (n c : Nat) (l : List Nat) (v : Nat) (w : World) (hs : w.heap[b]? = some (rc h A n c)) (hr : Rd w A n l) (hd : Dg l) (hn : n ≤ 90) (hh : 0 < h) (hh' : h ≤ 1000000000000) (hv : v < 18446744073709551616) :
    Calls Try.prog 18 #[.pointer (some ⟨b, 0, none⟩), .int .u64 v] w fun e w' => ∃ A' n' c' l', e = .returned (.int .i64 (rtot h (val l + v) - rtot h (val l) : Nat)) ∧ w'.heap[b]? = some (rc h A' n' c') ∧ Rd w' A' n' l' ∧ Dg l' ∧ val l' = val l + v ∧ n' ≤ max n 20 + 1 ∧ Fr [b] w w' := by
  go_enter Try.func18, Try.ntmps18
  go_wp2_with (fail)
  refine (rtotal_any b h A n c l _ hs hr hd (by omega) hh hh').mono ?_
  rintro e w1 ⟨rfl, hf1⟩
  have hb1 := hf1.heap hs List.not_mem_nil
  have hr1 := hr.fr hf1
  have hF1 : Fr [b] w w1 := hf1.mono (fun x hx => by cases hx)
  clear hs hr
  go_upto_region 2 with fail
  go_cut [] (fun wx => ∃ A6 n6 c6 l6, wx.heap[b]? = some (rc h A6 n6 c6) ∧ Rd wx A6 n6 l6 ∧ n6 ≤ max n 20 + 1 ∧ Dg l6 ∧ val l6 = val l + v ∧ Fr [b] w wx)
  case first =>
    go_region_law (first
      | (go_simp; go_at_call 24; refine (whole_any v _ hv).mono ?_; rintro e w5 ⟨m5, A5, n5, c5, l5, rfl, hr5, hc5, hm5, ⟨rfl, hv5, ht5, hd5, hl5⟩, hf5⟩; have HV5 := Lib.hid hv5; clear hv5 ht5; have hb5 : w5.heap[b]? = some (rc h A n c) := hf5.heap hb1 List.not_mem_nil; have hF5 : Fr [b] w w5 := hF1.then0 ((Fr.refl [] w1).drew.then0 hf5))
      | (go_simp; go_at_call 23; refine (Plus_any A A5 n c n5 c5 l l5 _ (hr1.fr ((Fr.refl [] w1).drew.then0 hf5)) hr5 hd hd5 (by omega) (by have := hr5.1; omega)).mono ?_; rintro e w6 ⟨m6, A6, n6, c6, l6, rfl, hr6, hc6, hm6, ⟨rfl, hv6, ht6, hd6, hl6⟩, hf6⟩; have HV6 := Lib.hid hv6; clear hv6 ht6; have hb6 : w6.heap[b]? = some (rc h A n c) := hf6.heap hb5 List.not_mem_nil; have hF6 := hF5.then0 hf6))
    all_goals (go_wp2_with fail)
    all_goals go_meet
    all_goals exact ⟨A6, n6, c6, l6, (heap_set (heap_set hb6 _) _).trans (by simp), hr6.fr4 hb6 (((Fr.refl [_] w6).setCell (.inl (by simp)) _).setCell (.inl (by simp)) _), by have := hr5.1; have := hr6.1; have := hr1.1; omega, hd6, by rw [HV6.out, HV5.out], (hF6.setCell (.inl (by simp)) _).setCell (.inl (by simp)) _⟩
  case rest =>
    obtain ⟨A6, n6, c6, l6, hb, hr6, hn6, hd6, hv6, hF⟩ := hcut
    have hmono : rtot h (val l) ≤ rtot h (val l + v) := rtot_mono (Nat.le_add_right _ _)
    have hmax : rtot h (val l + v) ≤ 4611686018427387904 := Nat.min_le_right _ _
    have HT := rtotal_any b h A6 n6 c6 l6 wc hb hr6 hd6 (by omega) hh hh'
    rw [hv6] at HT
    have HV6 := Lib.hid hv6
    clear hv6
    obtain ⟨t1, ht1⟩ : ∃ t1, rtot h (val l + v) = t1 := ⟨_, rfl⟩
    obtain ⟨t0, ht0⟩ : ∃ t0, rtot h (val l) = t0 := ⟨_, rfl⟩
    rw [ht1, ht0] at hmono
    rw [ht1] at hmax HT
    obtain ⟨d, hd0⟩ : ∃ d : Nat, t1 - t0 = d := ⟨_, rfl⟩
    have hd1 : (t1 : Int) - (t0 : Int) = (d : Int) := by omega
    have HD : Hid (rtot h (val l + v) - rtot h (val l) = d) := by rw [ht1, ht0]; exact Lib.hid hd0
    have HT2 := Lib.hid HT
    clear HT hd0
    rw [ht0]
    have HT1 := Lib.hid ht1
    have HT0 := Lib.hid ht0
    clear ht1 ht0
    go_wp2_with (fail)
    refine HT2.out.mono ?_
    rintro e w9 ⟨rfl, hf9⟩
    go_wp2_with (fail)
    go_ret
    exact ⟨A6, n6, c6, l6, by rw [HD.out]; rfl, hf9.heap hb List.not_mem_nil, hr6.fr hf9, hd6, HV6.out, hn6, hF.then0 hf9⟩
end Go.Proofs.Ytigifoinejbnnaa
