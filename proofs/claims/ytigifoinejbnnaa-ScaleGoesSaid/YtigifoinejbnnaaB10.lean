/-
  PROVED HERE: ephemerisref10's whole, New, Tick.
-/
import Derived.Test.YtigifoinejbnnaaB9
import Derived.Test.YtigifoinejbnnaaA5
namespace Go.Proofs.Ytigifoinejbnnaa
set_option linter.unusedVariables false
set_option linter.unusedSimpArgs false
open Go.RowKit
attribute [local go_sem 10] cellOf frozenOf
attribute [local go_sem] heap_drew heap_drewN

set_option maxHeartbeats 4000000 in
theorem whole_any (v : Nat) (w : World) (hv : v < 18446744073709551616) :
    Calls Try.prog 24 #[.int .u64 v] w (Num w fun m r => m = false ∧ val r = v ∧ Trim r ∧ Dg r ∧ r.length ≤ 20) := by
  obtain ⟨q, hq⟩ : ∃ q : Nat, (v : Int) / 4294967296 = (q : Int) := ⟨v / 4294967296, by omega⟩
  obtain ⟨d, hd⟩ : ∃ d : Nat, (v : Int) % 4294967296 = (d : Int) := ⟨v % 4294967296, by omega⟩
  have hq1 : q < 4294967296 := by omega
  have hd1 : d < 4294967296 := by omega
  have HV := Lib.hid (show q * 4294967296 + d = v from by omega)
  have hwrap : IntKind.i64.wrap ((v : Int).tmod 4294967296) = (d : Int) := by
    rw [Int.tmod_eq_emod_of_nonneg (Int.natCast_nonneg _), hd]
    rw [IntKind.wrap_i64]; omega
  go_enter Try.func24, Try.ntmps24
  have hb0 := heap_alloc_new w (.cells #[.bool false, .slice none 0 0] 48)
  have hF0 := (Fr.refl [] w).alloc (.cells #[.bool false, .slice none 0 0] 48)
  have hM := Nat.le_refl w.heap.size
  generalize hMM : w.heap.size = M at hb0
  go_wp2_with (fail)
  generalize w.alloc (.cells #[.bool false, .slice none 0 0] 48) = W at *
  refine (of_any q _ (by omega)).mono ?_
  rintro e w1 ⟨m1, A1, n1, c1, l1, rfl, hr1, hc1, hm1, ⟨rfl, hv1, ht1, hd1', hl1⟩, hf1⟩
  have HV1 := Lib.hid hv1
  have HT1 := Lib.hid ht1
  have hF1 := hF0.then0 hf1
  have hc0 := hf1.heap hb0 (by simp)
  clear hv1 ht1
  go_wp2_with (fail)
  refine (of_any 4294967296 _ (by omega)).mono ?_
  rintro e w2 ⟨m2, A2, n2, c2, l2, rfl, hr2, hc2, hm2, ⟨rfl, hv2, ht2, hd2, hl2⟩, hf2⟩
  have HV2 := Lib.hid hv2
  have hF2 := hF1.then0 hf2
  have hc0' := hf2.heap hc0 (by simp)
  clear hv2 ht2
  go_wp2_with (fail)
  refine (times_any A1 A2 n1 c1 n2 c2 l1 l2 _ (hr1.fr hf2) hr2 hd1' hd2 (by have := hr1.1; omega) (by have := hr2.1; omega)).mono ?_
  rintro e w3 ⟨m3, A3, n3, c3, l3, rfl, hr3, hc3, hm3, ⟨rfl, hv3, ht3, hd3, hl3⟩, hf3⟩
  have HV3 := Lib.hid (show val l3 = q * 4294967296 from by rw [hv3, HV1.out, HV2.out])
  have hF3 := hF2.then0 hf3
  have hg0 := hf3.heap hc0' (by simp)
  have hl3' : n3 ≤ 16 := by have := hr1.1; have := hr2.1; have := hr3.1; omega
  have hlt := lt_of_block hg0
  clear hv3 ht3 hc0 hc0' hb0 hl1 hl2 hl3
  have hn0 := heap_alloc_old (.cells #[.bool false, .slice A3 n3 c3] 48) hg0
  have hn1 := heap_alloc_new w3 (.cells #[.bool false, .slice A3 n3 c3] 48)
  have hal := (Fr.refl [] w3).alloc (.cells #[.bool false, .slice A3 n3 c3] 48)
  have hF4 := hF3.alloc (.cells #[.bool false, .slice A3 n3 c3] 48)
  have hr4 := hr3.fr hal
  have hne : M ≠ w3.heap.size := by omega
  generalize hN : w3.heap.size = N at hn1 hlt hne
  go_wp2_with (fail)
  clear hal hg0
  generalize w3.alloc (.cells #[.bool false, .slice A3 n3 c3] 48) = w4 at *
  go_region_held3 (fun w' => w'.heap[N]? = some (.cells #[.bool false, .slice A3 n3 c3] 48 (0, 0)))
    (first | exact hn1 | exact hp1 | exact hq1' | exact heap_set_ne (heap_set_ne hq1' (Ne.symm hne) _) (Ne.symm hne) _)
    (first
    | (go_at_call 23; refine (Plus_any A3 A5 n3 c3 n5 c5 l3 l5 _ hr6 hr5 hd3 hd5 (by omega) (by have := hr5.1; omega)).mono ?_; rintro e w6 ⟨m6, A6, n6, c6, l6, rfl, hr7, hc6, hm6, ⟨rfl, hv6, ht6, hd6, hl6⟩, hf6⟩; have HV6 := Lib.hid hv6; have HT6 := Lib.hid ht6; clear hv6 ht6; have hq0 := hf6.heap hp0 (by simp); have hq1' := hf6.heap hp1 (by simp); have hF6 := hF5.then0 hf6)
    | (go_at_call 26; generalize hz : IntKind.wrap _ _ = z; obtain rfl : z = (d : Int) := hz.symm.trans hwrap; refine (of_any d _ (by omega)).mono ?_; rintro e w5 ⟨m5, A5, n5, c5, l5, rfl, hr5, hc5, hm5, ⟨rfl, hv5, ht5, hd5, hl5⟩, hf5⟩; have HV5 := Lib.hid hv5; clear hv5 ht5; have hp0 := hf5.heap hn0 (by simp); have hp1 := hf5.heap hn1 (by simp); have hF5 := hF4.drew.then0 hf5; have hr6 := (hr4.fr (Fr.refl [] w4).drew).fr hf5))
  go_wp2_with (fail)
  refine bodyPost_ret (v := .agg #[.bool false, .slice A6 n6 c6]) (by simp [results, Try.results24, go_sem, hq0]) rfl ?_
  refine ⟨false, A6, n6, c6, l6, rfl, ?_, hc6, hm6, ⟨rfl, by rw [HV6.out, HV3.out, HV5.out]; exact HV.out, HT6.out, hd6, ?_⟩, ?_⟩
  · exact hr7.fr3 hq0 (((Fr.refl [_] w6).setCell (.inl (by simp)) _).setCell (.inl (by simp)) _)
  · have := hr5.1; omega
  · exact (hF6.setNew (by omega) _).setNew (by omega) _

theorem rnew_any (h : Nat) (w : World) (h0 : 0 < h) (h1 : h ≤ 1000000000000) :
    Calls Try.prog 15 #[.int .u64 h] w fun e w' => e = .returned (.tuple #[.pointer (some ⟨w.heap.size, 0, none⟩), .int .i64 0]) ∧ w'.heap[w.heap.size]? = some (.cells #[.int .i64 h, .bool false, .slice none 0 0] 50 (0, 0)) ∧ Fr [] w w' := by
  have hb : ((h : Int) == 0) = false := by simp; omega
  have hb2 : ((h : Int) < 1) = False := by simp; omega
  have hc : ((1000000000000 : Int) < (h : Int)) = False := by simp; omega
  have hn := heap_alloc_new w (.cells #[.int .i64 h, .bool false, .slice none 0 0] 50)
  go_enter Try.func15, Try.ntmps15
  go_wp2
  go_ret2
  exact ⟨rfl, hn, (Fr.refl [] w).alloc _⟩
theorem rnew_bad (h : Nat) (w : World) (h0 : h = 0 ∨ 1000000000000 < h) :
    Calls Try.prog 15 #[.int .u64 h] w fun e w' => e = .returned (.tuple #[.pointer none, .int .i64 1]) ∧ w = w' := by
  rcases h0 with rfl | h0
  · go_enter Try.func15, Try.ntmps15
    go_wp2
    go_ret2
    exact ⟨rfl, rfl⟩
  · have hb : ((h : Int) == 0) = false := by simp; omega
    have hb2 : ((h : Int) < 1) = False := by simp; omega
    have hc : ((1000000000000 : Int) < (h : Int)) := by omega
    go_enter Try.func15, Try.ntmps15
    go_wp2
    go_ret2
    exact ⟨rfl, rfl⟩
theorem rtick_any (h : Nat) (w : World) (h0 : 0 < h) (h1 : h ≤ 1000000000000) :
    Calls Try.prog 16 #[.int .u64 h] w fun e w' => e = .returned (.int .i64 (tickOf h : Nat)) ∧ w = w' := by
  have hb : ((h : Int) == 0) = false := by simp; omega
  have hb2 : ((h : Int) < 1) = False := by simp; omega
  have hc : ((1000000000000 : Int) < (h : Int)) = False := by simp; omega
  obtain ⟨q, hq⟩ : ∃ q : Nat, 1000000000 / h = q := ⟨_, rfl⟩
  have hq1 : (1000000000 : Int) / (h : Int) = (q : Int) := by rw [← hq]; rfl
  have hq2 : q ≤ 1000000000 := by rw [← hq]; exact Nat.div_le_self _ _
  have hd := Nat.div_add_mod 1000000000 h
  have hm := Nat.mod_lt 1000000000 h0
  rw [hq] at hd
  obtain ⟨p, hp⟩ : ∃ p : Nat, q * h = p := ⟨_, rfl⟩
  have hp1 : (q : Int) * (h : Int) = (p : Int) := by rw [← hp]; rfl
  rw [Nat.mul_comm, hp] at hd
  by_cases hz : p < 1000000000
  · have ht : tickOf h = q + 1 := by
      unfold tickOf
      rw [Nat.div_eq_iff h0]
      rw [Nat.add_mul q 1, hp]
      omega
    have hz' : (p : Int) < 1000000000 := by omega
    rw [ht]
    go_enter Try.func16, Try.ntmps16
    go_wp2
    go_ret
    exact ⟨by rw [Int.natCast_add]; rfl, rfl⟩
  · have ht : tickOf h = q := by
      unfold tickOf
      rw [Nat.div_eq_iff h0]
      rw [hp]
      omega
    have hz' : ((p : Int) < 1000000000) = False := by simp; omega
    rw [ht]
    go_enter Try.func16, Try.ntmps16
    go_wp2
    go_ret
    exact ⟨rfl, rfl⟩
theorem rtick_bad (h : Nat) (w : World) (h0 : h = 0 ∨ 1000000000000 < h) :
    Calls Try.prog 16 #[.int .u64 h] w fun e w' => e = .returned (.int .i64 0) ∧ w = w' := by
  rcases h0 with rfl | h0
  · go_enter Try.func16, Try.ntmps16
    go_wp2
    go_ret
    exact ⟨rfl, rfl⟩
  · have hb : ((h : Int) == 0) = false := by simp; omega
    have hb2 : ((h : Int) < 1) = False := by simp; omega
    have hc : ((1000000000000 : Int) < (h : Int)) := by omega
    go_enter Try.func16, Try.ntmps16
    go_wp2
    go_ret
    exact ⟨rfl, rfl⟩
end Go.Proofs.Ytigifoinejbnnaa
