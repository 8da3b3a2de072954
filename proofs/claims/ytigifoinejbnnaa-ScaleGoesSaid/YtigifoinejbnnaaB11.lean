/-
  PROVED HERE: ephemerisref10's Total and To.
-/
import Derived.Test.YtigifoinejbnnaaB10
import Derived.Deep.DeepCutAuto
namespace Go.Proofs.Ytigifoinejbnnaa
set_option linter.unusedVariables false
set_option linter.unusedSimpArgs false
open Go.RowKit
attribute [local go_sem 10] cellOf frozenOf
attribute [local go_sem] heap_drew heap_drewN

/-- A reference scale's cells. -/
abbrev rc (h : Nat) (A : Option Addr) (n c : Nat) : Obj := .cells #[.int .i64 (h : Int), .bool false, .slice A n c] 50 (0, 0)

def rtot (h S : Nat) : Nat := min (S * 1000000000 / h) 4611686018427387904

set_option maxHeartbeats 2000000 in
theorem rtotal_any (b h : Nat) (A : Option Addr) (n c : Nat) (l : List Nat) (w : World) (hs : w.heap[b]? = some (rc h A n c)) (hr : Rd w A n l) (hd : Dg l) (hn : n ≤ 100) (hh : 0 < h) (hh' : h ≤ 1000000000000) :
    Calls Try.prog 19 #[.pointer (some ⟨b, 0, none⟩)] w fun e w' => e = .returned (.int .i64 (rtot h (val l) : Nat)) ∧ Fr [] w w' := by
  have hfd := field48
  have hbl := lt_of_block hs
  go_enter Try.func19, Try.ntmps19
  go_upto_region 1 with fail
  go_cut [3] (fun s3 wx => ∃ N A6 n6 c6 l6, s3 = .pointer (some ⟨N, 0, none⟩) ∧ wx.heap[N]? = some (.cells #[.bool false, .slice A6 n6 c6] 48 (0, 0)) ∧ Rd wx A6 n6 l6 ∧ n6 ≤ 300 ∧ Dg l6 ∧ val l6 = val l * 1000000000 ∧ wx.heap[b]? = some (rc h A n c) ∧ Fr [] w wx)
  case first =>
    go_region_held3 (fun w' => w'.heap[b]? = some (rc h A n c))
      (first | exact hs | exact hp0 | exact hq0 | exact heap_alloc_old _ hs | exact heap_alloc_old _ hp0 | exact heap_alloc_old _ hq0 | exact heap_set_ne (heap_set_ne hq0 (Nat.ne_of_lt hbl) _) (Nat.ne_of_lt hbl) _ | exact heap_set_ne (heap_set_ne hq0 (Nat.ne_of_lt (Nat.lt_of_lt_of_le hbl hF5.size)) _) (Nat.ne_of_lt (Nat.lt_of_lt_of_le hbl hF5.size)) _ | exact heap_set_ne (heap_set_ne (heap_alloc_old _ hq0) (Nat.ne_of_lt (Nat.lt_of_lt_of_le hbl hF6.size)) _) (Nat.ne_of_lt (Nat.lt_of_lt_of_le hbl hF6.size)) _)
      (first
      | (go_at_call 26; refine (of_any 1000000000 _ (by omega)).mono ?_; rintro e w5 ⟨m5, A5, n5, c5, l5, rfl, hr5, hc5, hm5, ⟨rfl, hv5, ht5, hd5, hl5⟩, hf5⟩; have HV5 := Lib.hid hv5; clear hv5 ht5; have hp0 : w5.heap[b]? = some (rc h A n c) := (by first | exact hf5.heap hs List.not_mem_nil | exact hf5.heap (heap_alloc_old _ hs) List.not_mem_nil); have hF5 : Fr [] w w5 := (by first | exact (Fr.refl [] w).drew.then0 hf5 | exact ((Fr.refl [] w).drew.alloc _).then0 hf5); try (have hN5 : w5.heap[w.heap.size]? = some (.cells #[.bool false, .slice none 0 0] 48 (0, 0)) := hf5.heap (heap_alloc_new w.drew _) List.not_mem_nil))
      | (go_at_call 25; refine (times_any A A5 n c n5 c5 l l5 _ (by first | exact hr.fr hF5 | exact hr.fr (hF5.alloc _)) (by first | exact hr5 | exact hr5.fr ((Fr.refl [] w5).alloc _)) hd hd5 hn (by have := hr5.1; omega)).mono ?_; rintro e w6 ⟨m6, A6, n6, c6, l6, rfl, hr6, hc6, hm6, ⟨rfl, hv6, ht6, hd6, hl6⟩, hf6⟩; have HV6 := Lib.hid hv6; clear hv6 ht6; have hq0 : w6.heap[b]? = some (rc h A n c) := (by first | exact hf6.heap hp0 List.not_mem_nil | exact hf6.heap (heap_alloc_old _ hp0) List.not_mem_nil); have hF6 : Fr [] w w6 := (by first | exact hF5.then0 hf6 | exact (hF5.alloc _).then0 hf6); first | have hN6 := hf6.heap hN5 List.not_mem_nil | have hN6 := hf6.heap (heap_alloc_new w5 _) List.not_mem_nil | skip))
    all_goals (go_wp2_with fail)
    all_goals go_meet
    · exact ⟨_, A6, n6, c6, l6, rfl, heap_alloc_new w6 _, hr6.fr ((Fr.refl [] w6).alloc _), by have := hr5.1; have := hr6.1; omega, hd6, by rw [HV6.out, HV5.out], heap_alloc_old _ hq0, hF6.alloc _⟩
    · exact ⟨_, A6, n6, c6, l6, rfl, (heap_set (heap_set hN6 _) _).trans (by simp), hr6.fr3 hN6 (((Fr.refl [_] w6).setCell (.inl (by simp)) _).setCell (.inl (by simp)) _), by have := hr5.1; have := hr6.1; omega, hd6, by rw [HV6.out, HV5.out], by assumption, (hF6.setNew hF5.size _).setNew hF5.size _⟩
    · exact ⟨_, A6, n6, c6, l6, rfl, (heap_set (heap_set hN6 _) _).trans (by simp), hr6.fr3 hN6 (((Fr.refl [_] w6).setCell (.inl (by simp)) _).setCell (.inl (by simp)) _), by have := hr5.1; have := hr6.1; omega, hd6, by rw [HV6.out, HV5.out], by assumption, (hF6.setNew (Nat.le_refl _) _).setNew (Nat.le_refl _) _⟩
  case rest =>
    obtain ⟨N, A6, n6, c6, l6, rfl, hN, hr6, hn6, hd6, hv6, hb, hF⟩ := hcut
    have HV6 := Lib.hid hv6
    clear hv6 hs hr hbl
    go_wp2_with (fail)
    go_region_held3 (fun w' => w'.heap[b]? = some (rc h A n c) ∧ w'.heap[N]? = some (.cells #[.bool false, .slice A6 n6 c6] 48 (0, 0)))
      (first | exact ⟨hb, hN⟩ | exact ⟨hp0, hp1⟩ | exact ⟨hq0, hq1⟩)
      (first
      | (go_at_call 26; refine (of_any h _ (by omega)).mono ?_; rintro e w7 ⟨m7, A7, n7, c7, l7, rfl, hr7, hc7, hm7, ⟨rfl, hv7, ht7, hd7, hl7⟩, hf7⟩; have HV7 := Lib.hid hv7; have HT7 := Lib.hid ht7; clear hv7 ht7; have hp0 := hf7.heap hb List.not_mem_nil; have hp1 := hf7.heap hN List.not_mem_nil; have hF7 := hF.drew.then0 hf7; have hr6' := (hr6.fr (Fr.refl [] wc).drew).fr hf7)
      | (go_at_call 27; refine (over_any A6 A7 n6 c6 n7 c7 l6 l7 _ hr6' hr7 hd6 hd7 HT7.out (by rw [HV7.out]; exact hh) (by omega) (by have := hr7.1; omega)).mono ?_; rintro e w8 ⟨Q, nq, cq, q, rr, rfl, hr8, hc8, hm8, hd8, hv8, hf8⟩; have HV8 := Lib.hid hv8; clear hv8; have hq0 := hf8.heap hp0 List.not_mem_nil; have hq1 := hf8.heap hp1 List.not_mem_nil; have hF8 := hF7.then0 hf8))
    go_wp2_with (fail)
    refine (int_any Q nq cq q _ hr8 hc8 hm8 hd8).mono ?_
    rintro e w9 ⟨x, ok, rfl, hyes, hno, hf9⟩
    have hF9 := hF8.then0 hf9
    have hv : val q = val l * 1000000000 / h := by rw [HV8.out, HV6.out, HV7.out]
    generalize hz : val q = z at *
    have HZ := Lib.hid hv
    clear hv
    rcases Nat.lt_or_ge 9223372036854775807 z with h1 | h1
    · obtain rfl := hno h1
      clear hyes hno
      have hres : rtot h (val l) = 4611686018427387904 := by unfold rtot; rw [← HZ.out]; omega
      have HR := Lib.hid hres
      clear hres
      go_wp2_with (fail)
      go_ret
      exact ⟨by rw [HR.out]; rfl, hF9⟩
    · obtain ⟨rfl, rfl⟩ := hyes h1
      clear hyes hno
      rcases Nat.lt_or_ge 4611686018427387904 z with h2 | h2
      · have hres : rtot h (val l) = 4611686018427387904 := by unfold rtot; rw [← HZ.out]; omega
        have h3 : (4611686018427387904 : Int) < (z : Int) := by omega
        have HR := Lib.hid hres
        clear hres
        go_wp2_with (fail)
        go_ret
        exact ⟨by rw [HR.out]; rfl, hF9⟩
      · have hres : rtot h (val l) = z := by unfold rtot; rw [← HZ.out]; omega
        have h3 : ((4611686018427387904 : Int) < (z : Int)) = False := by simp; omega
        have HR := Lib.hid hres
        clear hres
        go_wp2_with (fail)
        go_ret
        exact ⟨by rw [HR.out]; rfl, hF9⟩
end Go.Proofs.Ytigifoinejbnnaa
