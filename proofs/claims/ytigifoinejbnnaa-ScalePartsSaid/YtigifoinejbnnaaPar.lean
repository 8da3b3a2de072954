/-
  PROVED HERE: the walk of ephemerislaw10.ScaleParts: it returns true for every input.
-/
import Derived.Test.YtigifoinejbnnaaSec
import Derived.LoopTactic
namespace Go.Proofs.Ytigifoinejbnnaa
set_option linter.unusedVariables false
set_option linter.unusedSimpArgs false
open Go.RowKit
attribute [local go_sem] cellOf frozenOf heap_drew heap_drewN

/-- A scale to which N ticks came (M: where it is full). -/
structure Came (M h N t o : Nat) : Prop where
  o_lt : o < h
  t_le : t ≤ M
  low : t < M → t * h + o = N * 1000000000
  high : t = M → t * h ≤ N * 1000000000

theorem Fr.cell {S} {w w' : World} (h : Fr S w w') {b o : Nat} (hb : b < w.heap.size) (hn : b ∉ S) : w'.cell? ⟨b, o, none⟩ = w.cell? ⟨b, o, none⟩ :=
  World.cell?_of_block (w := w) (h.block b hb hn)

theorem Came.zero {M h : Nat} (hM : 0 < M) (hh : 0 < h) : Came M h 0 0 0 := ⟨hh, by omega, fun _ => by omega, fun h => by omega⟩

/-- What one row of ticks does. -/
structure Goes (M h n t o x t' o' : Nat) : Prop where
  tells : min ((n * 1000000000 + o) / h) (M - t) = x ∧ t + min ((n * 1000000000 + o) / h) (M - t) = t' ∧ (if (n * 1000000000 + o) / h < M - t then (n * 1000000000 + o) % h else o) = o'
  sum : t' = t + x
  full : t = M → x = 0
  near : t' < M → (n * 1000000000 + o) / h = x

theorem goes {M h N t o : Nat} (hh : 0 < h) (hc : Came M h N t o) (n : Nat) :
    ∃ x t' o', Goes M h n t o x t' o' ∧ Came M h (N + n) t' o' := by
  by_cases hf : t = M
  · subst hf
    refine ⟨0, t, o, ⟨?_, rfl, fun _ => rfl, fun h => absurd h (by omega)⟩, ⟨hc.o_lt, by omega, fun h => absurd h (by omega), fun _ => ?_⟩⟩
    · generalize (n * 1000000000 + o) / h = m
      rw [if_neg (by omega)]
      exact ⟨by omega, by omega, rfl⟩
    · exact Nat.le_trans (hc.high rfl) (Nat.mul_le_mul_right _ (Nat.le_add_right _ _))
  · have hlt : t < M := by have := hc.t_le; omega
    have hlow := hc.low hlt
    have hd := Nat.div_add_mod (n * 1000000000 + o) h
    have hr := Nat.mod_lt (n * 1000000000 + o) hh
    by_cases hm : (n * 1000000000 + o) / h < M - t
    · refine ⟨(n * 1000000000 + o) / h, t + (n * 1000000000 + o) / h, (n * 1000000000 + o) % h, ⟨?_, rfl, fun h => absurd h hf, fun _ => rfl⟩, ⟨hr, by omega, fun _ => ?_, fun h => absurd h (by omega)⟩⟩
      · rw [if_pos hm, Nat.min_eq_left (Nat.le_of_lt hm)]
        exact ⟨rfl, rfl, rfl⟩
      · generalize (n * 1000000000 + o) / h = m at *
        generalize (n * 1000000000 + o) % h = r at *
        rw [Nat.add_mul t m, Nat.add_mul N n, Nat.mul_comm m h]
        omega
    · refine ⟨M - t, M, o, ⟨?_, by omega, fun h => absurd h hf, fun h => absurd h (by omega)⟩, ⟨hc.o_lt, by omega, fun h => absurd h (by omega), fun _ => ?_⟩⟩
      · rw [if_neg hm, Nat.min_eq_right (by omega)]
        exact ⟨rfl, by omega, rfl⟩
      · have hge : (M - t) * h ≤ n * 1000000000 + o := by
          have : (M - t) ≤ (n * 1000000000 + o) / h := by omega
          rwa [Nat.le_div_iff_mul_le hh] at this
        rw [Nat.sub_mul] at hge
        have hth : t * h ≤ M * h := Nat.mul_le_mul_right _ (by omega)
        rw [Nat.add_mul N n]
        omega

/-- However ticks come, the total is the same. -/
theorem came_eq {M h N t o t' o' : Nat} (hh : 0 < h) (a : Came M h N t o) (b : Came M h N t' o') : t = t' := by
  have key : ∀ {t o t' o' : Nat}, Came M h N t o → Came M h N t' o' → t ≤ t' := by
    intro t o t' o' a b
    by_cases hb : t' = M
    · have := a.t_le; omega
    · have h2 := b.low (by have := b.t_le; omega)
      have h3 := b.o_lt
      have h1 : t * h ≤ N * 1000000000 := by
        by_cases ha : t = M
        · exact a.high ha
        · have := a.low (by have := a.t_le; omega); omega
      have h4 : t * h < (t' + 1) * h := by rw [Nat.add_mul t' 1]; omega
      have := Nat.lt_of_mul_lt_mul_right h4
      omega
  exact Nat.le_antisymm (key a b) (key b a)

/-- What a row alone tells. -/
theorem alone_near {h o n : Nat} (hh : 0 < h) (ho : o < h) : (n * 1000000000 + 0) / h ≤ (n * 1000000000 + o) / h ∧ (n * 1000000000 + o) / h ≤ (n * 1000000000 + 0) / h + 1 := by
  constructor
  · exact Nat.div_le_div_right (by omega)
  · have : (n * 1000000000 + o) / h < (n * 1000000000 + 0) / h + 1 + 1 := by
      rw [Nat.div_lt_iff_lt_mul hh, Nat.add_mul _ 1, Nat.add_mul _ 1]
      have h1 := Nat.div_add_mod (n * 1000000000 + 0) h
      have h2 := Nat.mod_lt (n * 1000000000 + 0) hh
      rw [Nat.mul_comm] at h1
      omega
    omega

theorem came_tells {h t o n x t' o' : Nat} (hg : Goes 4611686018427387904 h n t o x t' o') : Tells h t o n x t' o' := by
  refine ⟨hg.tells, fun ho => ?_⟩
  have := hg.tells.2.2
  rw [← this]
  split
  · exact Nat.mod_lt _ (by omega)
  · exact ho

theorem full_yes (b h t o : Nat) (w : World) (hs : w.heap[b]? = some (sc h t o)) (hh : 0 < h) (ht : t = 4611686018427387904) :
    Calls Try.prog 14 #[.pointer (some ⟨b, 0, none⟩)] w fun e w' => e = .returned (.bool true) ∧ Fr [] w w' :=
  (full_any b h t o w hs hh (by omega)).mono fun e w' ⟨he, hf⟩ => ⟨by rw [he, decide_eq_true ht], hf⟩
theorem full_no (b h t o : Nat) (w : World) (hs : w.heap[b]? = some (sc h t o)) (hh : 0 < h) (ht : t < 4611686018427387904) :
    Calls Try.prog 14 #[.pointer (some ⟨b, 0, none⟩)] w fun e w' => e = .returned (.bool false) ∧ Fr [] w w' :=
  (full_any b h t o w hs hh (by omega)).mono fun e w' ⟨he, hf⟩ => ⟨by rw [he, decide_eq_false (by omega)], hf⟩

theorem val_int {k : IntKind} {a b : Int} (h : a = b) : Value.int k a = Value.int k b := by rw [h]
set_option maxRecDepth 100000 in
theorem par_bad (h : Nat) (v : Value) (w : World) (hh : h = 0 ∨ 1000000000000 < h) :
    Calls Try.prog 5 #[.int .u64 h, v] w fun e w' => e = .returned (.bool true) ∧ Fr [] w w' := by
  have HB := Lib.hid (fun w => new_bad h w hh)
  have hd : (h = 0) ∨ (1000000000000 : Int) < (h : Int) := by omega
  clear hh
  rcases hd with rfl | hd
  · go_enter Try.func5, Try.ntmps5
    go_wp2_with (fail)
    refine (HB.out _).mono ?_
    rintro e w1 ⟨rfl, rfl⟩
    go_wp2_with (fail)
    refine (HB.out _).mono ?_
    rintro e w1 ⟨rfl, rfl⟩
    go_wp2_with (fail)
    refine (alive_any _).mono ?_
    rintro e w6 ⟨rfl, hf6⟩
    go_wp2_with (fail)
    go_ret
    exact ⟨rfl, hf6⟩
  · have g1 : ((1 : Int) ≤ (h : Int)) := by omega
    have g2 : ((h : Int) ≤ 1000000000000) = False := by simp; omega
    go_enter Try.func5, Try.ntmps5
    go_wp2_with (fail)
    refine (HB.out _).mono ?_
    rintro e w1 ⟨rfl, rfl⟩
    go_wp2_with (fail)
    refine (HB.out _).mono ?_
    rintro e w1 ⟨rfl, rfl⟩
    go_wp2_with (fail)
    refine (alive_any _).mono ?_
    rintro e w6 ⟨rfl, hf6⟩
    go_wp2_with (fail)
    go_ret
    exact ⟨rfl, hf6⟩

theorem near_of {g x xa M : Nat} (h4 : g ≤ x) (h5 : x ≤ g + 1) (h6 : min g (M - 0) = xa) (hx : x < M) : xa ≤ x ∧ x ≤ xa + 1 := by omega
/-- The three ways of a round. -/
theorem par_cases {M h t o n x t' o' xa ta oa : Nat} (hh : 0 < h) (ho : o < h) (ht : t ≤ M) (hg : Goes M h n t o x t' o') (hga : Goes M h n 0 0 xa ta oa) (ht' : t' ≤ M) :
    (t = M ∧ x = 0) ∨ (t < M ∧ t' = M) ∨ (t < M ∧ t' < M ∧ xa ≤ x ∧ x ≤ xa + 1) := by
  by_cases h1 : t = M
  · exact .inl ⟨h1, hg.full h1⟩
  · by_cases h2 : t' = M
    · exact .inr (.inl ⟨by omega, h2⟩)
    · have h3 := hg.near (by omega)
      obtain ⟨h4, h5⟩ := alone_near (n := n) hh ho
      have h6 := hga.tells.1
      have h7 := hg.sum
      rw [h3] at h4 h5
      have h8 := near_of h4 h5 h6 (show x < M by omega)
      exact .inr (.inr ⟨by omega, by omega, h8.1, h8.2⟩)

theorem full_fl (fl : Bool) (b h t o : Nat) (w : World) (hfl : Hid (decide (t = 4611686018427387904) = fl)) (hs : w.heap[b]? = some (sc h t o)) (hh : 0 < h) (ht : t ≤ 4611686018427387904) :
    Calls Try.prog 14 #[.pointer (some ⟨b, 0, none⟩)] w fun e w' => e = .returned (.bool fl) ∧ Fr [] w w' :=
  (full_any b h t o w hs hh ht).mono fun e w' ⟨he, hf⟩ => ⟨by rw [he, hfl.out], hf⟩

set_option maxHeartbeats 2000000 in
set_option maxRecDepth 100000 in
theorem par_good (h bl off len cap : Nat) (zs : Nat → Nat) (w : World) (hh : 0 < h) (hh' : h ≤ 1000000000000) (hbl : 0 < len → bl < w.heap.size) (hlen : len ≤ 9223372036854775807)
    (hz : ∀ k, k < len → zs k < 18446744073709551616 ∧ w.cell? ⟨bl, off + k, none⟩ = some (.int .u64 (zs k : Nat))) :
    Calls Try.prog 5 #[.int .u64 h, .slice (some ⟨bl, off, none⟩) len cap] w fun e w' => e = .returned (.bool true) ∧ Fr [] w w' := by
  have Hz := Lib.hid hz
  have Hb := Lib.hid hbl
  clear hz hbl
  have g1 : ((1 : Int) ≤ (h : Int)) := by omega
  have g2 : ((h : Int) ≤ 1000000000000) := by omega
  go_enter Try.func5, Try.ntmps5
  go_wp2_with (fail)
  refine (new_any h _ hh hh').mono ?_
  rintro e w1 ⟨a, rfl, ha, hs1, hf1⟩
  go_wp2_with (fail)
  refine (new_any h _ hh hh').mono ?_
  rintro e w2 ⟨b, rfl, hb, hb2, hf2⟩
  have hs2 := hf2.heap hs1 (by simp)
  have hab : a ≠ b := by have := lt_of_block hs1; omega
  have hba : b ≠ a := Ne.symm hab
  have hf0 := hf1.then0 hf2
  have hb' : w.heap.size ≤ b := Nat.le_trans hf1.size hb
  clear hs1 hf1 hf2 hb
  go_wp2_with (fail)
  go_loopw [11, 9, 10] (fun i sum told wr => ∃ k N t o : Nat, i = .int .i64 k ∧ k ≤ len ∧ k ≤ 60 ∧ sum = .int .u64 N ∧ N ≤ k * 1125899906842624 ∧ told = .int .i64 t ∧ Came 4611686018427387904 h N t o ∧ wr.heap[a]? = some (sc h t o) ∧ wr.heap[b]? = some (sc h 0 0) ∧ Fr [] w wr) (fun i _ _ _ => 60 - (intOf i).toNat)
  case atStart => exact ⟨0, 0, 0, 0, rfl, by omega, by omega, rfl, by omega, rfl, Came.zero (by omega) hh, hs2, hb2, hf0⟩
  case round =>
    clear hs2 hb2 hf0 w1 w2
    obtain ⟨k, N, t, o, rfl, hk, hk6, rfl, hN, rfl, hc, hsa, hsb, hf⟩ := hrel
    have hol := hc.o_lt
    have htl := hc.t_le
    by_cases hlt : k < len ∧ k < 60
    · obtain ⟨hkl, hk60⟩ := hlt
      obtain ⟨hzb, hzc⟩ := Hz.out k hkl
      have hcell : wr.cell? ⟨bl, off + k, none⟩ = some (.int .u64 (zs k : Nat)) := (hf.cell (Hb.out (by omega)) (by simp)).trans hzc
      clear hzc
      generalize zs k = z at *
      obtain ⟨n, hn⟩ := nat_of (n := (z : Int) % 1125899906842624) (by omega)
      have hnb : n < 1125899906842624 := by omega
      obtain ⟨x, t', o', hg, hc'⟩ := goes hh hc n
      obtain ⟨xa, ta, oa, hga, hca⟩ := goes (M := 4611686018427387904) hh (Came.zero (by omega) hh) n
      have htl' := hc'.t_le
      have hxal : xa ≤ 4611686018427387904 := by have := hca.t_le; have := hga.sum; omega
      have hsum : (t : Int) + (x : Int) = (t' : Int) := by have := hg.sum; omega
      rcases par_cases hh hol htl hg hga htl' with ⟨p1, p2⟩ | ⟨p1, p2⟩ | ⟨p1, p2, p3, p4⟩
      · have P1 := Lib.hid p1
        subst p2
        clear p1
        go_wp2_with (fail)
        refine (new_any h _ hh hh').mono ?_
        rintro e w1 ⟨c, rfl, hcb, hsc, hf1⟩
        have hsa1 := hf1.heap hsa (by simp)
        have hsb1 := hf1.heap hsb (by simp)
        have hac : a ≠ c := by have := lt_of_block hsa; omega
        have hbc : b ≠ c := by have := lt_of_block hsb; omega
        go_wp2_with (fail)
        refine (to_tells c h 0 0 n _ _ _ _ hsc (came_tells hga) hh hh' (by omega) (by omega) (by omega)).mono ?_
        rintro e w2 ⟨rfl, hsc2, hf2⟩
        have hsa2 := hf2.heap hsa1 (by simp [hac])
        have hsb2 := hf2.heap hsb1 (by simp [hbc])
        have hff := hf1.two hcb hf2
        clear hf1 hf2 hsc hsc2 hsa1 hsb1 hcb
        go_wp2_with (fail)
        refine (full_yes a h _ _ _ hsa2 hh P1.out).mono ?_
        rintro e w3 ⟨rfl, hf3⟩
        have hsa3 := hf3.heap hsa2 (by simp)
        have hsb3 := hf3.heap hsb2 (by simp)
        go_wp2_with (fail)
        refine (to_tells a h _ _ n _ _ _ _ hsa3 (came_tells hg) hh hh' (by omega) (by omega) (by omega)).mono ?_
        rintro e w4 ⟨rfl, hsa4, hf4⟩
        have hsb4 := hf4.heap hsb3 (by simp [hba])
        have hf' := (((hf.then0 hff).then0 hf3).two ha hf4)
        clear hsa hsb hsa2 hsb2 hsa3 hsb3 hff hf3 hf4 hf hac hbc
        go_wp2_with (fail)
        refine (total_any a h _ _ _ hsa4 hh (by omega)).mono ?_
        rintro e w5 ⟨rfl, hf5⟩
        have hsa5 := hf5.heap hsa4 (by simp)
        have hsb5 := hf5.heap hsb4 (by simp)
        go_wp2_with (fail)
        go_roundw
        case rel => exact ⟨k + 1, N + n, t', o', by go_num, by omega, by omega, by go_num, by omega, val_int (by omega), hc', hsa5, hsb5, hf'.then0 hf5⟩
        case measure => simp [intOf]; omega
      · have P2 := Lib.hid p2
        clear p2
        go_wp2_with (fail)
        refine (new_any h _ hh hh').mono ?_
        rintro e w1 ⟨c, rfl, hcb, hsc, hf1⟩
        have hsa1 := hf1.heap hsa (by simp)
        have hsb1 := hf1.heap hsb (by simp)
        have hac : a ≠ c := by have := lt_of_block hsa; omega
        have hbc : b ≠ c := by have := lt_of_block hsb; omega
        go_wp2_with (fail)
        refine (to_tells c h 0 0 n _ _ _ _ hsc (came_tells hga) hh hh' (by omega) (by omega) (by omega)).mono ?_
        rintro e w2 ⟨rfl, hsc2, hf2⟩
        have hsa2 := hf2.heap hsa1 (by simp [hac])
        have hsb2 := hf2.heap hsb1 (by simp [hbc])
        have hff := hf1.two hcb hf2
        clear hf1 hf2 hsc hsc2 hsa1 hsb1 hcb
        go_wp2_with (fail)
        refine (full_no a h _ _ _ hsa2 hh (by omega)).mono ?_
        rintro e w3 ⟨rfl, hf3⟩
        have hsa3 := hf3.heap hsa2 (by simp)
        have hsb3 := hf3.heap hsb2 (by simp)
        go_wp2_with (fail)
        refine (to_tells a h _ _ n _ _ _ _ hsa3 (came_tells hg) hh hh' (by omega) (by omega) (by omega)).mono ?_
        rintro e w4 ⟨rfl, hsa4, hf4⟩
        have hsb4 := hf4.heap hsb3 (by simp [hba])
        have hf' := (((hf.then0 hff).then0 hf3).two ha hf4)
        clear hsa hsb hsa2 hsb2 hsa3 hsb3 hff hf3 hf4 hf hac hbc
        go_wp2_with (fail)
        refine (total_any a h _ _ _ hsa4 hh (by omega)).mono ?_
        rintro e w5 ⟨rfl, hf5⟩
        have hsa5 := hf5.heap hsa4 (by simp)
        have hsb5 := hf5.heap hsb4 (by simp)
        go_wp2_with (fail)
        refine (full_yes a h _ _ _ hsa5 hh P2.out).mono ?_
        rintro e w6 ⟨rfl, hf6⟩
        have hsa6 := hf6.heap hsa5 (by simp)
        have hsb6 := hf6.heap hsb5 (by simp)
        go_wp2_with (fail)
        go_roundw
        case rel => exact ⟨k + 1, N + n, t', o', by go_num, by omega, by omega, by go_num, by omega, val_int (by omega), hc', hsa6, hsb6, (hf'.then0 hf5).then0 hf6⟩
        case measure => simp [intOf]; omega
      · have p5 : ((x : Int) < (xa : Int)) = False := by simp; omega
        have p6 : ((xa : Int) + 1 < (x : Int)) = False := by simp; omega
        clear p3 p4
        go_wp2_with (fail)
        refine (new_any h _ hh hh').mono ?_
        rintro e w1 ⟨c, rfl, hcb, hsc, hf1⟩
        have hsa1 := hf1.heap hsa (by simp)
        have hsb1 := hf1.heap hsb (by simp)
        have hac : a ≠ c := by have := lt_of_block hsa; omega
        have hbc : b ≠ c := by have := lt_of_block hsb; omega
        go_wp2_with (fail)
        refine (to_tells c h 0 0 n _ _ _ _ hsc (came_tells hga) hh hh' (by omega) (by omega) (by omega)).mono ?_
        rintro e w2 ⟨rfl, hsc2, hf2⟩
        have hsa2 := hf2.heap hsa1 (by simp [hac])
        have hsb2 := hf2.heap hsb1 (by simp [hbc])
        have hff := hf1.two hcb hf2
        clear hf1 hf2 hsc hsc2 hsa1 hsb1 hcb
        go_wp2_with (fail)
        refine (full_no a h _ _ _ hsa2 hh (by omega)).mono ?_
        rintro e w3 ⟨rfl, hf3⟩
        have hsa3 := hf3.heap hsa2 (by simp)
        have hsb3 := hf3.heap hsb2 (by simp)
        go_wp2_with (fail)
        refine (to_tells a h _ _ n _ _ _ _ hsa3 (came_tells hg) hh hh' (by omega) (by omega) (by omega)).mono ?_
        rintro e w4 ⟨rfl, hsa4, hf4⟩
        have hsb4 := hf4.heap hsb3 (by simp [hba])
        have hf' := (((hf.then0 hff).then0 hf3).two ha hf4)
        clear hsa hsb hsa2 hsb2 hsa3 hsb3 hff hf3 hf4 hf hac hbc
        go_wp2_with (fail)
        refine (total_any a h _ _ _ hsa4 hh (by omega)).mono ?_
        rintro e w5 ⟨rfl, hf5⟩
        have hsa5 := hf5.heap hsa4 (by simp)
        have hsb5 := hf5.heap hsb4 (by simp)
        go_wp2_with (fail)
        refine (full_no a h _ _ _ hsa5 hh (by omega)).mono ?_
        rintro e w6 ⟨rfl, hf6⟩
        have hsa6 := hf6.heap hsa5 (by simp)
        have hsb6 := hf6.heap hsb5 (by simp)
        go_wp2_with (fail)
        go_roundw
        case rel => exact ⟨k + 1, N + n, t', o', by go_num, by omega, by omega, by go_num, by omega, val_int (by omega), hc', hsa6, hsb6, (hf'.then0 hf5).then0 hf6⟩
        case measure => simp [intOf]; omega
    · have hsum : N ≤ 67553994410557440 := by omega
      obtain ⟨x, t', o', hg, hc'⟩ := goes (M := 4611686018427387904) hh (Came.zero (by omega) hh) N
      rw [Nat.zero_add] at hc'
      have htt := came_eq hh hc hc'
      subst htt
      have hxt : x = t := by have := hg.sum; omega
      subst hxt
      have hkk : k = len ∨ ((60 : Int) ≤ (k : Int) ∧ (k : Int) < (len : Int)) := by omega
      clear hlt
      rcases hkk with rfl | ⟨hkk, hkl⟩
      · go_wp2_with (fail)
        refine (to_tells b h 0 0 N _ _ _ _ hsb (came_tells hg) hh hh' (by omega) (by omega) (by omega)).mono ?_
        rintro e w2 ⟨rfl, hsb2, hf2⟩
        have hsa2 := hf2.heap hsa (by simp [hab])
        go_wp2_with (fail)
        refine (total_any b h _ _ _ hsb2 hh (by omega)).mono ?_
        rintro e w3 ⟨rfl, hf3⟩
        have hsa3 := hf3.heap hsa2 (by simp)
        have hsb3 := hf3.heap hsb2 (by simp)
        go_wp2_with (fail)
        refine (total_any a h _ _ _ hsa3 hh (by omega)).mono ?_
        rintro e w4 ⟨rfl, hf4⟩
        have hsa4 := hf4.heap hsa3 (by simp)
        have hsb4 := hf4.heap hsb3 (by simp)
        go_wp2_with (fail)
        obtain ⟨fl, Hfl⟩ : ∃ fl, Hid (decide (x = 4611686018427387904) = fl) := ⟨_, rfl⟩
        have hfl : (fl == fl) = true := by cases fl <;> rfl
        refine (full_fl fl a h _ _ _ Hfl hsa4 hh (by omega)).mono ?_
        rintro e w5 ⟨rfl, hf5⟩
        have hsb5 := hf5.heap hsb4 (by simp)
        go_wp2_with (fail)
        refine (full_fl fl b h _ _ _ Hfl hsb5 hh (by omega)).mono ?_
        rintro e w6 ⟨rfl, hf6⟩
        go_wp2_with (fail)
        refine (alive_any _).mono ?_
        rintro e w7 ⟨rfl, hf7⟩
        go_wp2_with (fail)
        go_ret
        exact ⟨rfl, (((((hf.two hb' hf2).then0 hf3).then0 hf4).then0 hf5).then0 hf6).then0 hf7⟩
      · go_wp2_with (fail)
        refine (to_tells b h 0 0 N _ _ _ _ hsb (came_tells hg) hh hh' (by omega) (by omega) (by omega)).mono ?_
        rintro e w2 ⟨rfl, hsb2, hf2⟩
        have hsa2 := hf2.heap hsa (by simp [hab])
        go_wp2_with (fail)
        refine (total_any b h _ _ _ hsb2 hh (by omega)).mono ?_
        rintro e w3 ⟨rfl, hf3⟩
        have hsa3 := hf3.heap hsa2 (by simp)
        have hsb3 := hf3.heap hsb2 (by simp)
        go_wp2_with (fail)
        refine (total_any a h _ _ _ hsa3 hh (by omega)).mono ?_
        rintro e w4 ⟨rfl, hf4⟩
        have hsa4 := hf4.heap hsa3 (by simp)
        have hsb4 := hf4.heap hsb3 (by simp)
        go_wp2_with (fail)
        obtain ⟨fl, Hfl⟩ : ∃ fl, Hid (decide (x = 4611686018427387904) = fl) := ⟨_, rfl⟩
        have hfl : (fl == fl) = true := by cases fl <;> rfl
        refine (full_fl fl a h _ _ _ Hfl hsa4 hh (by omega)).mono ?_
        rintro e w5 ⟨rfl, hf5⟩
        have hsb5 := hf5.heap hsb4 (by simp)
        go_wp2_with (fail)
        refine (full_fl fl b h _ _ _ Hfl hsb5 hh (by omega)).mono ?_
        rintro e w6 ⟨rfl, hf6⟩
        go_wp2_with (fail)
        refine (alive_any _).mono ?_
        rintro e w7 ⟨rfl, hf7⟩
        go_wp2_with (fail)
        go_ret
        exact ⟨rfl, (((((hf.two hb' hf2).then0 hf3).then0 hf4).then0 hf5).then0 hf6).then0 hf7⟩
set_option maxHeartbeats 2000000 in
set_option maxRecDepth 100000 in
theorem par_nil (h : Nat) (w : World) (hh : 0 < h) (hh' : h ≤ 1000000000000) :
    Calls Try.prog 5 #[.int .u64 h, .slice none 0 0] w fun e w' => e = .returned (.bool true) ∧ Fr [] w w' := by
  have g1 : ((1 : Int) ≤ (h : Int)) := by omega
  have g2 : ((h : Int) ≤ 1000000000000) := by omega
  go_enter Try.func5, Try.ntmps5
  go_wp2_with (fail)
  refine (new_any h _ hh hh').mono ?_
  rintro e w1 ⟨a, rfl, ha, hs1, hf1⟩
  go_wp2_with (fail)
  refine (new_any h _ hh hh').mono ?_
  rintro e w2 ⟨b, rfl, hb, hb2, hf2⟩
  have hs2 := hf2.heap hs1 (by simp)
  have hab : a ≠ b := by have := lt_of_block hs1; omega
  have hba : b ≠ a := Ne.symm hab
  have hf0 := hf1.then0 hf2
  have hb' : w.heap.size ≤ b := Nat.le_trans hf1.size hb
  clear hs1 hf1 hf2 hb
  go_wp2_with (fail)
  go_loopw [11, 9, 10] (fun i sum told wr => ∃ k N t o : Nat, i = .int .i64 k ∧ k ≤ 0 ∧ k ≤ 60 ∧ sum = .int .u64 N ∧ N ≤ k * 1125899906842624 ∧ told = .int .i64 t ∧ Came 4611686018427387904 h N t o ∧ wr.heap[a]? = some (sc h t o) ∧ wr.heap[b]? = some (sc h 0 0) ∧ Fr [] w wr) (fun i _ _ _ => 60 - (intOf i).toNat)
  case atStart => exact ⟨0, 0, 0, 0, rfl, by omega, by omega, rfl, by omega, rfl, Came.zero (by omega) hh, hs2, hb2, hf0⟩
  case round =>
    clear hs2 hb2 hf0 w1 w2
    obtain ⟨k, N, t, o, rfl, hk, hk6, rfl, hN, rfl, hc, hsa, hsb, hf⟩ := hrel
    have hol := hc.o_lt
    have htl := hc.t_le
    obtain rfl : k = 0 := by omega
    have hsum : N ≤ 67553994410557440 := by omega
    obtain ⟨x, t', o', hg, hc'⟩ := goes (M := 4611686018427387904) hh (Came.zero (by omega) hh) N
    rw [Nat.zero_add] at hc'
    have htt := came_eq hh hc hc'
    subst htt
    have hxt : x = t := by have := hg.sum; omega
    subst hxt
    go_wp2_with (fail)
    refine (to_tells b h 0 0 N _ _ _ _ hsb (came_tells hg) hh hh' (by omega) (by omega) (by omega)).mono ?_
    rintro e w2 ⟨rfl, hsb2, hf2⟩
    have hsa2 := hf2.heap hsa (by simp [hab])
    go_wp2_with (fail)
    refine (total_any b h _ _ _ hsb2 hh (by omega)).mono ?_
    rintro e w3 ⟨rfl, hf3⟩
    have hsa3 := hf3.heap hsa2 (by simp)
    have hsb3 := hf3.heap hsb2 (by simp)
    go_wp2_with (fail)
    refine (total_any a h _ _ _ hsa3 hh (by omega)).mono ?_
    rintro e w4 ⟨rfl, hf4⟩
    have hsa4 := hf4.heap hsa3 (by simp)
    have hsb4 := hf4.heap hsb3 (by simp)
    go_wp2_with (fail)
    obtain ⟨fl, Hfl⟩ : ∃ fl, Hid (decide (x = 4611686018427387904) = fl) := ⟨_, rfl⟩
    have hfl : (fl == fl) = true := by cases fl <;> rfl
    refine (full_fl fl a h _ _ _ Hfl hsa4 hh (by omega)).mono ?_
    rintro e w5 ⟨rfl, hf5⟩
    have hsb5 := hf5.heap hsb4 (by simp)
    go_wp2_with (fail)
    refine (full_fl fl b h _ _ _ Hfl hsb5 hh (by omega)).mono ?_
    rintro e w6 ⟨rfl, hf6⟩
    go_wp2_with (fail)
    refine (alive_any _).mono ?_
    rintro e w7 ⟨rfl, hf7⟩
    go_wp2_with (fail)
    go_ret
    exact ⟨rfl, (((((hf.two hb' hf2).then0 hf3).then0 hf4).then0 hf5).then0 hf6).then0 hf7⟩

set_option maxHeartbeats 2000000 in
set_option maxRecDepth 100000 in
theorem par_zero (h : Nat) (x : Addr) (cap : Nat) (w : World) (hh : 0 < h) (hh' : h ≤ 1000000000000) :
    Calls Try.prog 5 #[.int .u64 h, .slice (some x) 0 cap] w fun e w' => e = .returned (.bool true) ∧ Fr [] w w' := by
  have g1 : ((1 : Int) ≤ (h : Int)) := by omega
  have g2 : ((h : Int) ≤ 1000000000000) := by omega
  go_enter Try.func5, Try.ntmps5
  go_wp2_with (fail)
  refine (new_any h _ hh hh').mono ?_
  rintro e w1 ⟨a, rfl, ha, hs1, hf1⟩
  go_wp2_with (fail)
  refine (new_any h _ hh hh').mono ?_
  rintro e w2 ⟨b, rfl, hb, hb2, hf2⟩
  have hs2 := hf2.heap hs1 (by simp)
  have hab : a ≠ b := by have := lt_of_block hs1; omega
  have hba : b ≠ a := Ne.symm hab
  have hf0 := hf1.then0 hf2
  have hb' : w.heap.size ≤ b := Nat.le_trans hf1.size hb
  clear hs1 hf1 hf2 hb
  go_wp2_with (fail)
  go_loopw [11, 9, 10] (fun i sum told wr => ∃ k N t o : Nat, i = .int .i64 k ∧ k ≤ 0 ∧ k ≤ 60 ∧ sum = .int .u64 N ∧ N ≤ k * 1125899906842624 ∧ told = .int .i64 t ∧ Came 4611686018427387904 h N t o ∧ wr.heap[a]? = some (sc h t o) ∧ wr.heap[b]? = some (sc h 0 0) ∧ Fr [] w wr) (fun i _ _ _ => 60 - (intOf i).toNat)
  case atStart => exact ⟨0, 0, 0, 0, rfl, by omega, by omega, rfl, by omega, rfl, Came.zero (by omega) hh, hs2, hb2, hf0⟩
  case round =>
    clear hs2 hb2 hf0 w1 w2
    obtain ⟨k, N, t, o, rfl, hk, hk6, rfl, hN, rfl, hc, hsa, hsb, hf⟩ := hrel
    have hol := hc.o_lt
    have htl := hc.t_le
    obtain rfl : k = 0 := by omega
    have hsum : N ≤ 67553994410557440 := by omega
    obtain ⟨x, t', o', hg, hc'⟩ := goes (M := 4611686018427387904) hh (Came.zero (by omega) hh) N
    rw [Nat.zero_add] at hc'
    have htt := came_eq hh hc hc'
    subst htt
    have hxt : x = t := by have := hg.sum; omega
    subst hxt
    go_wp2_with (fail)
    refine (to_tells b h 0 0 N _ _ _ _ hsb (came_tells hg) hh hh' (by omega) (by omega) (by omega)).mono ?_
    rintro e w2 ⟨rfl, hsb2, hf2⟩
    have hsa2 := hf2.heap hsa (by simp [hab])
    go_wp2_with (fail)
    refine (total_any b h _ _ _ hsb2 hh (by omega)).mono ?_
    rintro e w3 ⟨rfl, hf3⟩
    have hsa3 := hf3.heap hsa2 (by simp)
    have hsb3 := hf3.heap hsb2 (by simp)
    go_wp2_with (fail)
    refine (total_any a h _ _ _ hsa3 hh (by omega)).mono ?_
    rintro e w4 ⟨rfl, hf4⟩
    have hsa4 := hf4.heap hsa3 (by simp)
    have hsb4 := hf4.heap hsb3 (by simp)
    go_wp2_with (fail)
    obtain ⟨fl, Hfl⟩ : ∃ fl, Hid (decide (x = 4611686018427387904) = fl) := ⟨_, rfl⟩
    have hfl : (fl == fl) = true := by cases fl <;> rfl
    refine (full_fl fl a h _ _ _ Hfl hsa4 hh (by omega)).mono ?_
    rintro e w5 ⟨rfl, hf5⟩
    have hsb5 := hf5.heap hsb4 (by simp)
    go_wp2_with (fail)
    refine (full_fl fl b h _ _ _ Hfl hsb5 hh (by omega)).mono ?_
    rintro e w6 ⟨rfl, hf6⟩
    go_wp2_with (fail)
    refine (alive_any _).mono ?_
    rintro e w7 ⟨rfl, hf7⟩
    go_wp2_with (fail)
    go_ret
    exact ⟨rfl, (((((hf.two hb' hf2).then0 hf3).then0 hf4).then0 hf5).then0 hf6).then0 hf7⟩


theorem lt_of_cell {w : World} {b o : Nat} {v : Value} (h : w.cell? ⟨b, o, none⟩ = some v) : b < w.heap.size := World.block_lt_of_cell? w _ h
/-- WHAT THE WALK IS TOLD OF A .slice (some ⟨bl, off, none⟩) len cap OF INTEGERS THAT CAME IN. -/
def IsRow (k : IntKind) (w : World) (a : Option Addr) (len cap : Nat) (zs : List Int) : Prop :=
  (a = none ∧ len = 0 ∧ cap = 0 ∧ zs = []) ∨
  ∃ x, a = some x ∧ len ≤ cap ∧ cap ≤ maxLen ∧ zs.length = cap ∧ (∀ i, i < zs.length → w.cell? (x.add i) = some (.int k (zs.getD i 0))) ∧ ∀ n ∈ zs, (Lit.int k n).wf = true

theorem par_walk (a0 : Int) (a1 : Option Addr) (len1 cap1 : Nat) (z1 : List Int) (w : World) (w0 : (Lit.int .u64 a0).wf = true) (w1 : IsRow .u64 w a1 len1 cap1 z1) :
    Calls Try.prog 5 #[.int .u64 a0, .slice a1 len1 cap1] w fun e w' => e = .returned (.bool true) ∧ Below w.heap.size w w' := by
  have b0 := bounds_u64 w0
  obtain ⟨h, rfl⟩ := nat_of (n := a0) (by omega)
  by_cases hh : h = 0 ∨ 1000000000000 < h
  · exact (par_bad h _ w hh).mono fun e w' ⟨he, hf⟩ => ⟨he, hf.below⟩
  · rcases w1 with ⟨rfl, rfl, rfl, rfl⟩ | ⟨x, rfl, hl, hm, hz, hcell, hwz⟩
    · exact (par_nil h w (by omega) (by omega)).mono fun e w' ⟨he, hf⟩ => ⟨he, hf.below⟩
    · unfold maxLen at hm
      rcases Nat.eq_zero_or_pos len1 with rfl | hp
      · obtain ⟨bl, off, spot⟩ := x
        cases spot with
        | none => exact (par_good h bl off 0 cap1 (fun _ => 0) w (by omega) (by omega) (fun h => absurd h (by omega)) (by omega) (fun k hk => absurd hk (by omega))).mono fun e w' ⟨he, hf⟩ => ⟨he, hf.below⟩
        | some p => exact (par_zero h _ cap1 w (by omega) (by omega)).mono fun e w' ⟨he, hf⟩ => ⟨he, hf.below⟩
      · obtain ⟨bl, off, rfl, hc⟩ := ints_at hcell (by omega)
        have hnn : ∀ k, k < len1 → 0 ≤ z1.getD k 0 ∧ z1.getD k 0 ≤ 18446744073709551615 := fun k hk => by
          have hk' : k < z1.length := by omega
          have : z1.getD k 0 ∈ z1 := by
            rw [List.getD_eq_getElem?_getD, List.getElem?_eq_getElem hk']
            exact List.getElem_mem hk'
          exact bounds_u64 (hwz _ this)
        refine (par_good h bl off len1 cap1 (fun k => (z1.getD k 0).toNat) w (by omega) (by omega) (fun _ => lt_of_cell (hc 0 (by omega))) (by omega) (fun k hk => ?_)).mono fun e w' ⟨he, hf⟩ => ⟨he, hf.below⟩
        have h1 := hnn k hk
        refine ⟨by omega, ?_⟩
        rw [hc k (by omega)]
        congr 2
        omega
end Go.Proofs.Ytigifoinejbnnaa
