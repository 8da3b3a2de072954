/-
  PROVED HERE: the walk of ephemerislaw10.ScaleGoes: it returns true for every input.
-/
import Derived.Test.YtigifoinejbnnaaB12
import Derived.Test.YtigifoinejbnnaaSec
import Derived.Deep.DeepCutAuto
import Derived.OpenShut
namespace Go.Proofs.Ytigifoinejbnnaa
namespace goe
set_option linter.unusedVariables false
set_option linter.unusedSimpArgs false
open Go.RowKit
attribute [local go_sem 10] cellOf frozenOf
attribute [local go_sem] heap_drew heap_drewN

/-- A scale to which N ticks came (M: where it is full). -/
structure Came (M h N t o : Nat) : Prop where
  o_lt : o < h
  t_le : t ≤ M
  low : t < M → t * h + o = N * 1000000000
  high : t = M → t * h ≤ N * 1000000000

theorem Came.zero {M h : Nat} (hM : 0 < M) (hh : 0 < h) : Came M h 0 0 0 := ⟨hh, by omega, fun _ => by omega, fun h => by omega⟩

/-- What one row of ticks does. -/
structure Goes (M h n t o x t' o' : Nat) : Prop where
  tells : min ((n * 1000000000 + o) / h) (M - t) = x ∧ t + min ((n * 1000000000 + o) / h) (M - t) = t' ∧ (if (n * 1000000000 + o) / h < M - t then (n * 1000000000 + o) % h else o) = o'
  sum : t' = t + x
  full : t = M → x = 0
  near : t' < M → (n * 1000000000 + o) / h = x

theorem goes {M h N t o : Nat} (hh : 0 < h) (hc : Came M h N t o) (n : Nat) :
    ∃ x t' o', Goes M h n t o x t' o' ∧ Came M h (N + n) t' o' := by
  by_cases hf : t = M
  · subst hf
    refine ⟨0, t, o, ⟨?_, rfl, fun _ => rfl, fun h => absurd h (by omega)⟩, ⟨hc.o_lt, by omega, fun h => absurd h (by omega), fun _ => ?_⟩⟩
    · generalize (n * 1000000000 + o) / h = m
      rw [if_neg (by omega)]
      exact ⟨by omega, by omega, rfl⟩
    · exact Nat.le_trans (hc.high rfl) (Nat.mul_le_mul_right _ (Nat.le_add_right _ _))
  · have hlt : t < M := by have := hc.t_le; omega
    have hlow := hc.low hlt
    have hd := Nat.div_add_mod (n * 1000000000 + o) h
    have hr := Nat.mod_lt (n * 1000000000 + o) hh
    by_cases hm : (n * 1000000000 + o) / h < M - t
    · refine ⟨(n * 1000000000 + o) / h, t + (n * 1000000000 + o) / h, (n * 1000000000 + o) % h, ⟨?_, rfl, fun h => absurd h hf, fun _ => rfl⟩, ⟨hr, by omega, fun _ => ?_, fun h => absurd h (by omega)⟩⟩
      · rw [if_pos hm, Nat.min_eq_left (Nat.le_of_lt hm)]
        exact ⟨rfl, rfl, rfl⟩
      · generalize (n * 1000000000 + o) / h = m at *
        generalize (n * 1000000000 + o) % h = r at *
        rw [Nat.add_mul t m, Nat.add_mul N n, Nat.mul_comm m h]
        omega
    · refine ⟨M - t, M, o, ⟨?_, by omega, fun h => absurd h hf, fun h => absurd h (by omega)⟩, ⟨hc.o_lt, by omega, fun h => absurd h (by omega), fun _ => ?_⟩⟩
      · rw [if_neg hm, Nat.min_eq_right (by omega)]
        exact ⟨rfl, by omega, rfl⟩
      · have hge : (M - t) * h ≤ n * 1000000000 + o := by
          have : (M - t) ≤ (n * 1000000000 + o) / h := by omega
          rwa [Nat.le_div_iff_mul_le hh] at this
        rw [Nat.sub_mul] at hge
        have hth : t * h ≤ M * h := Nat.mul_le_mul_right _ (by omega)
        rw [Nat.add_mul N n]
        omega

theorem came_tells {h t o n x t' o' : Nat} (hg : Goes 4611686018427387904 h n t o x t' o') : Tells h t o n x t' o' := by
  refine ⟨hg.tells, fun ho => ?_⟩
  have := hg.tells.2.2
  rw [← this]
  split
  · exact Nat.mod_lt _ (by omega)
  · exact ho

theorem full_yes (b h t o : Nat) (w : World) (hs : w.heap[b]? = some (sc h t o)) (hh : 0 < h) (ht : t = 4611686018427387904) :
    Calls Try.prog 14 #[.pointer (some ⟨b, 0, none⟩)] w fun e w' => e = .returned (.bool true) ∧ Fr [] w w' :=
  (full_any b h t o w hs hh (by omega)).mono fun e w' ⟨he, hf⟩ => ⟨by rw [he, decide_eq_true ht], hf⟩
theorem full_no (b h t o : Nat) (w : World) (hs : w.heap[b]? = some (sc h t o)) (hh : 0 < h) (ht : t < 4611686018427387904) :
    Calls Try.prog 14 #[.pointer (some ⟨b, 0, none⟩)] w fun e w' => e = .returned (.bool false) ∧ Fr [] w w' :=
  (full_any b h t o w hs hh (by omega)).mono fun e w' ⟨he, hf⟩ => ⟨by rw [he, decide_eq_false (by omega)], hf⟩

theorem val_int {k : IntKind} {a b : Int} (h : a = b) : Value.int k a = Value.int k b := by rw [h]
set_option maxRecDepth 100000 in
theorem full_fl (fl : Bool) (b h t o : Nat) (w : World) (hfl : Hid (decide (t = 4611686018427387904) = fl)) (hs : w.heap[b]? = some (sc h t o)) (hh : 0 < h) (ht : t ≤ 4611686018427387904) :
    Calls Try.prog 14 #[.pointer (some ⟨b, 0, none⟩)] w fun e w' => e = .returned (.bool fl) ∧ Fr [] w w' :=
  (full_any b h t o w hs hh ht).mono fun e w' ⟨he, hf⟩ => ⟨by rw [he, hfl.out], hf⟩

/-- WHAT THE WALK IS TOLD OF A .slice (some ⟨bl, off, none⟩) len cap OF INTEGERS THAT CAME IN. -/
def IsRow (k : IntKind) (w : World) (a : Option Addr) (len cap : Nat) (zs : List Int) : Prop :=
  (a = none ∧ len = 0 ∧ cap = 0 ∧ zs = []) ∨
  ∃ x, a = some x ∧ len ≤ cap ∧ cap ≤ maxLen ∧ zs.length = cap ∧ (∀ i, i < zs.length → w.cell? (x.add i) = some (.int k (zs.getD i 0))) ∧ ∀ n ∈ zs, (Lit.int k n).wf = true


theorem _root_.Go.Proofs.Ytigifoinejbnnaa.Rd.fr5 {w w' : World} {A n l} {b h t o : Nat} (hr : Rd w A n l) (hb : w.heap[b]? = some (sc h t o)) (k : Fr [b] w w') : Rd w' A n l := by
  obtain ⟨h1, h2, h3⟩ := hr
  refine ⟨h1, h2, fun hn => ?_⟩
  obtain ⟨g, off, e, hg, hc⟩ := h3 hn
  have hne : g ≠ b := by
    rintro rfl
    have h4 := hc 0 hn
    rw [World.cell?, hb] at h4
    simp only [Option.isSome_none, Bool.false_eq_true, if_false] at h4
    rcases off with _ | _ | _ | off
    · simp at h4
    · simp at h4
    · simp at h4
    · simp at h4
  exact ⟨g, off, e, Nat.lt_of_lt_of_le hg k.size, fun i hi => (k.cell hg (by simp [hne])).trans (hc i hi)⟩

/-- What the reference tells of the ticks that came. -/
theorem came_rtot {h N t o : Nat} (hh : 0 < h) (hc : Came 4611686018427387904 h N t o) : rtot h N = t := by
  unfold rtot
  by_cases hf : t = 4611686018427387904
  · have h1 := hc.high hf
    have : t ≤ N * 1000000000 / h := by rw [Nat.le_div_iff_mul_le hh]; exact h1
    omega
  · have h1 := hc.low (by have := hc.t_le; omega)
    have h2 : N * 1000000000 / h = t := by
      rw [Nat.div_eq_iff hh, ← h1]
      have := hc.o_lt
      omega
    have := hc.t_le
    omega

set_option maxRecDepth 100000 in
theorem goe_bad (h : Nat) (v : Value) (w : World) (hh : h = 0 ∨ 1000000000000 < h) :
    Calls Try.prog 6 #[.int .u64 h, v] w fun e w' => e = .returned (.bool true) ∧ Fr [] w w' := by
  go_enter Try.func6, Try.ntmps6
  go_wp2_with (first
    | (go_at_call 8; refine (new_bad h _ hh).mono ?_; rintro e w1 ⟨rfl, rfl⟩)
    | (go_at_call 15; refine (rnew_bad h _ hh).mono ?_; rintro e w2 ⟨rfl, rfl⟩)
    | (go_at_call 13; refine (tick_bad h _ hh).mono ?_; rintro e w3 ⟨rfl, rfl⟩)
    | (go_at_call 16; refine (rtick_bad h _ hh).mono ?_; rintro e w4 ⟨rfl, rfl⟩)
    | (go_at_call 11; refine (alive_any _).mono ?_; rintro e w5 ⟨rfl, hf5⟩))
  go_ret
  exact ⟨rfl, hf5⟩

set_option maxHeartbeats 4000000 in
set_option maxRecDepth 100000 in
theorem goe_good (h : Nat) (A : Option Addr) (len cap : Nat) (zs : Nat → Nat) (w : World) (hh : 0 < h) (hh' : h ≤ 1000000000000) (hlen : len ≤ 9223372036854775807)
    (hz : 0 < len → ∃ bl off, A = some ⟨bl, off, none⟩ ∧ bl < w.heap.size ∧ ∀ k, k < len → zs k < 18446744073709551616 ∧ w.cell? ⟨bl, off + k, none⟩ = some (.int .u64 (zs k : Nat))) :
    Calls Try.prog 6 #[.int .u64 h, .slice A len cap] w fun e w' => e = .returned (.bool true) ∧ Fr [] w w' := by
  go_enter Try.func6, Try.ntmps6
  go_wp2_with (fail)
  refine (new_any h _ hh hh').mono ?_
  rintro e w1 ⟨a, rfl, ha, hs1, hf1⟩
  go_wp2_with (fail)
  refine (rnew_any h _ hh hh').mono ?_
  rintro e w2 ⟨rfl, hb2, hf2⟩
  have hs2 := hf2.heap hs1 (by simp)
  have hab : a ≠ w1.heap.size := by have := lt_of_block hs1; omega
  have hf0 := hf1.then0 hf2
  have hbw : w.heap.size ≤ w1.heap.size := hf1.size
  clear hs1 hf1 hf2
  generalize w1.heap.size = b at *
  go_wp2_with (fail)
  refine (tick_any h _ hh hh').mono ?_
  rintro e w3 ⟨rfl, rfl⟩
  go_wp2_with (fail)
  refine (rtick_any h _ hh hh').mono ?_
  rintro e w3 ⟨rfl, rfl⟩
  go_wp2_with (fail)
  go_loopg [5, 9, 10] 60 (fun g s i alone wr => ∃ (k N t o a n c : Nat) (B : Option Addr) (l : List Nat), k + g = 60 ∧ i = .int .i64 k ∧ k ≤ len ∧ s = .pointer (some ⟨a, 0, none⟩) ∧ w.heap.size ≤ a ∧ a ≠ b ∧ Came 4611686018427387904 h N t o ∧ wr.heap[a]? = some (sc h t o) ∧ wr.heap[b]? = some (rc h B n c) ∧ Rd wr B n l ∧ Dg l ∧ val l = N ∧ n ≤ 20 + k ∧ Fr [] w wr)
  case atStart => exact ⟨0, 0, 0, 0, a, 0, 0, none, [], by omega, rfl, by omega, rfl, ha, hab, Came.zero (by omega) hh, hs2, hb2, Rd.nil _ _, Dg.nil, rfl, by omega, hf0⟩
  case round =>
    have HZZ := Lib.hid hz
    clear hz
    have hz := HZZ.out
    clear hs2 hb2 hf0 hab ha
    obtain ⟨k, N, t, o, a, n, c, B, l, hkg, rfl, hkl, rfl, ha, hab, hc, hsa, hsb, hr, hd, hv, hn, hf⟩ := hrel
    have htl := hc.t_le
    have hol := hc.o_lt
    by_cases hlt : k < len ∧ k < 60
    · obtain ⟨hkl1, hk60⟩ := hlt
      obtain ⟨bl, off, rfl, hbl, hzz⟩ := hz (by omega)
      obtain ⟨hzb, hzc⟩ := hzz k hkl1
      clear hzz
      have hcell : wr.cell? ⟨bl, off + k, none⟩ = some (.int .u64 (zs k : Nat)) := (hf.cell hbl (by simp)).trans hzc
      clear hzc
      generalize zs k = z at *
      obtain ⟨y, ty, oy, hgy, _⟩ := goes hh hc 1099511627776
      obtain ⟨x, t', o', hg, hc'⟩ := goes hh hc z
      have hrN := came_rtot hh hc
      have hrN' := came_rtot hh hc'
      have htl' := hc'.t_le
      have hx : rtot h (N + z) - rtot h N = x := by rw [hrN, hrN']; have := hg.sum; omega
      go_wp2_with (fail)
      refine (copy_any a h t o _ hsa hh).mono ?_
      rintro e w1 ⟨d, rfl, hdb, hsd, hf1⟩
      have hsa1 := hf1.heap hsa (by simp)
      have hsb1 := hf1.heap hsb (by simp)
      have had : a ≠ d := by have := lt_of_block hsa; omega
      have hbd : b ≠ d := by have := lt_of_block hsb; omega
      go_wp2_with (fail)
      refine (to_tells d h t o 1099511627776 _ _ _ _ hsd (came_tells hgy) hh hh' htl hol (by omega)).mono ?_
      rintro e w2 ⟨rfl, hsd2, hf2⟩
      have hff := hf1.two hdb hf2
      have hsa2 := hff.heap hsa (by simp)
      have hsb2 := hff.heap hsb (by simp)
      have hr2 := hr.fr hff
      have hF2 := hf.then0 hff
      have hcell2 := (hff.cell (lt_of_cell hcell) (by simp)).trans hcell
      clear hsa1 hsb1 hsd2 hsd hf1 hf2 hsa hsb hr hf hcell hff
      obtain ⟨m3, hm3⟩ : ∃ m3 : Nat, (k : Int) % 3 = (m3 : Int) := ⟨k % 3, by omega⟩
      go_upto_if 57 with (fail)
      go_cut [5] (fun s5 wx => ∃ a', s5 = .pointer (some ⟨a', 0, none⟩) ∧ w.heap.size ≤ a' ∧ a' ≠ b ∧ wx.heap[a']? = some (sc h t o) ∧ wx.heap[b]? = some (rc h B n c) ∧ Rd wx B n l ∧ wx.cell? ⟨bl, off + k, none⟩ = some (.int .u64 (z : Nat)) ∧ Fr [] w wx)
      case first =>
        by_cases hm1 : m3 = 1
        · subst hm1
          go_wp2_with (fail)
          refine (copy_any a h t o _ hsa2 hh).mono ?_
          rintro e w3 ⟨d2, rfl, hdb2, hsd3, hf3⟩
          have hbd2 : d2 ≠ b := by have := lt_of_block hsb2; omega
          go_wp2_with (fail)
          go_meet
          exact ⟨d2, rfl, Nat.le_trans hF2.size hdb2, hbd2, hsd3, hf3.heap hsb2 (by simp), hr2.fr hf3, (hf3.cell (lt_of_cell hcell2) (by simp)).trans hcell2, hF2.then0 hf3⟩
        · have hm2 : ((m3 : Int) == 1) = false := by simp; omega
          go_wp2_with (fail)
          go_meet
          exact ⟨a, rfl, ha, hab, hsa2, hsb2, hr2, hcell2, hF2⟩
      case rest =>
        clear hsa2 hsb2 hr2 hF2 hcell2
        obtain ⟨a', rfl, ha', hab', hsa, hsb, hr, hcell, hf⟩ := hcut
        clear hab ha had hbd hdb
        subst hv
        have htmax := hc'.t_le
        obtain ⟨fl, hfl⟩ : ∃ fl, decide (t' = 4611686018427387904) = fl := ⟨_, rfl⟩
        have hfl2 : ((t' : Int) == 4611686018427387904) = fl := by
          rw [← hfl]
          by_cases hq : t' = 4611686018427387904
          · subst hq; rfl
          · rw [decide_eq_false hq]; simp; omega
        have HFL := Lib.hid hfl
        have HX := Lib.hid hx
        have HG := Lib.hid (came_tells hg)
        have HC := Lib.hid hc'
        have HT := Lib.hid hrN'
        have HO := Lib.hid ((came_tells hg).over hol)
        have HZ := Lib.hid hz
        clear hz hx hg hc' hrN hrN' hgy hfl hm3
        have j1 : (0 : Int) ≤ (k : Int) := by omega
        have j2 : (k : Int) < (len : Int) := by omega
        go_wp2_with (fail)
        have hsaD : wc.drew.heap[a']? = some (sc h t o) := hsa
        have hsbD : wc.drew.heap[b]? = some (rc h B n c) := hsb
        have hrD : Rd wc.drew B n l := hr
        have hcellD : wc.drew.cell? ⟨bl, off + k, none⟩ = some (.int .u64 (z : Nat)) := hcell
        go_region_held3 (fun w' => w'.cell? ⟨bl, off + k, none⟩ = some (.int .u64 (z : Nat)))
          (first | exact hcell | exact hcell9 | exact hcell18 | exact hcell10 | exact hcell19 | exact hcell14 | exact hcell20 | exact hcell12)
          (first
          | (go_at_call 9; refine (to_tells a' h t o z x t' o' _ hsaD HG.out hh hh' htl hol hzb).mono ?_; rintro e w9 ⟨rfl, hsa9, hf9⟩; have hsb9 := hf9.heap hsbD (by simp [Ne.symm hab']); have hr9 := hrD.fr5 hsaD hf9; have hF9 := hf.drew.two ha' hf9; have hcell9 := (hf9.cell (lt_of_cell hcellD) (by simp; omega)).trans hcellD)
          | (go_at_call 18; refine (rto_any b h B n c l z _ hsb9 hr9 hd (by omega) hh hh' hzb).mono ?_; rw [HX.out]; rintro e w18 ⟨B', n', c', l', rfl, hsb18, hr18, hd18, hv18, hn18, hf18⟩; have HV18 := Lib.hid hv18; clear hv18; have hsa18 := hf18.heap hsa9 (by simp [hab']); have hF18 := hF9.two hbw hf18; have hcell18 := (hf18.cell (lt_of_cell hcell9) (by simp; omega)).trans hcell9; have HTT : Hid (rtot h (val l') = t') := by rw [HV18.out]; exact HT)
          | (go_at_call 10; refine (total_any a' h t' o' _ hsa18 hh htmax).mono ?_; rintro e w10 ⟨rfl, hf10⟩; have hsa10 := hf10.heap hsa18 List.not_mem_nil; have hsb10 := hf10.heap hsb18 List.not_mem_nil; have hr10 := hr18.fr hf10; have hF10 := hF18.then0 hf10; have hcell10 := (hf10.cell (lt_of_cell hcell18) List.not_mem_nil).trans hcell18)
          | (go_at_call 19; refine (rtotal_any b h B' n' c' l' _ hsb14 hr14 hd18 (by omega) hh hh').mono ?_; rw [HTT.out]; rintro e w20 ⟨rfl, hf20⟩; have hsa20 := hf20.heap hsa14 List.not_mem_nil; have hsb20 := hf20.heap hsb14 List.not_mem_nil; have hr20 := hr14.fr hf20; have hF20 := hF14.then0 hf20; have hcell20 := (hf20.cell (lt_of_cell hcell14) List.not_mem_nil).trans hcell14)
          | (go_at_call 19; refine (rtotal_any b h B' n' c' l' _ hsb10 hr10 hd18 (by omega) hh hh').mono ?_; rw [HTT.out]; rintro e w19 ⟨rfl, hf19⟩; have hsa19 := hf19.heap hsa10 List.not_mem_nil; have hsb19 := hf19.heap hsb10 List.not_mem_nil; have hr19 := hr10.fr hf19; have hF19 := hF10.then0 hf19; have hcell19 := (hf19.cell (lt_of_cell hcell10) List.not_mem_nil).trans hcell10)
          | (go_at_call 14; refine (full_fl fl a' h t' o' _ HFL hsa19 hh htmax).mono ?_; rintro e w14 ⟨rfl, hf14⟩; have hsa14 := hf14.heap hsa19 List.not_mem_nil; have hsb14 := hf14.heap hsb19 List.not_mem_nil; have hr14 := hr19.fr hf14; have hF14 := hF19.then0 hf14; have hcell14 := (hf14.cell (lt_of_cell hcell19) List.not_mem_nil).trans hcell19)
          | (go_at_call 12; refine (stick_any a' h t' o' _ hsa20 hh hh').mono ?_; rintro e w12 ⟨rfl, hf12⟩; have hsa12 := hf12.heap hsa20 List.not_mem_nil; have hsb12 := hf12.heap hsb20 List.not_mem_nil; have hr12 := hr20.fr hf12; have hF12 := hF20.then0 hf12; have hcell12 := (hf12.cell (lt_of_cell hcell20) List.not_mem_nil).trans hcell20)
          | (go_at_call 13; refine (tick_any h _ hh hh').mono ?_; rintro e w13 ⟨rfl, rfl⟩))
        go_wp2_with (fail)
        go_roundg (gk - 1)
        case measure => omega
        case rel => exact ⟨k + 1, val l + z, t', o', a', n', c', B', l', by omega, by go_num, by omega, rfl, ha', hab', HC.out, hsa12, hsb12, hr12, hd18, HV18.out, by omega, hF12⟩
    · clear hz
      rcases Nat.lt_or_ge k len with h1 | h1
      · obtain rfl : k = 60 := by omega
        go_wp2_with (fail)
        refine (alive_any _).mono ?_
        rintro e w5 ⟨rfl, hf5⟩
        go_wp2_with (fail)
        go_ret
        exact ⟨rfl, hf.then0 hf5⟩
      · obtain rfl : k = len := by omega
        go_wp2_with (fail)
        refine (alive_any _).mono ?_
        rintro e w5 ⟨rfl, hf5⟩
        go_wp2_with (fail)
        go_ret
        exact ⟨rfl, hf.then0 hf5⟩

theorem goe_walk (a0 : Int) (a1 : Option Addr) (len1 cap1 : Nat) (z1 : List Int) (w : World) (w0 : (Lit.int .u64 a0).wf = true) (w1 : IsRow .u64 w a1 len1 cap1 z1) :
    Calls Try.prog 6 #[.int .u64 a0, .slice a1 len1 cap1] w fun e w' => e = .returned (.bool true) ∧ Below w.heap.size w w' := by
  have b0 := bounds_u64 w0
  obtain ⟨h, rfl⟩ := nat_of (n := a0) (by omega)
  by_cases hh : h = 0 ∨ 1000000000000 < h
  · exact (goe_bad h _ w hh).mono fun e w' ⟨he, hf⟩ => ⟨he, hf.below⟩
  · rcases w1 with ⟨rfl, rfl, rfl, rfl⟩ | ⟨x, rfl, hl, hm, hz, hcell, hwz⟩
    · exact (goe_good h none 0 0 (fun _ => 0) w (by omega) (by omega) (by omega) (fun h => absurd h (by omega))).mono fun e w' ⟨he, hf⟩ => ⟨he, hf.below⟩
    · unfold maxLen at hm
      refine (goe_good h (some x) len1 cap1 (fun k => (z1.getD k 0).toNat) w (by omega) (by omega) (by omega) (fun hp => ?_)).mono fun e w' ⟨he, hf⟩ => ⟨he, hf.below⟩
      obtain ⟨bl, off, rfl, hc⟩ := ints_at hcell (by omega)
      have hnn : ∀ k, k < len1 → 0 ≤ z1.getD k 0 ∧ z1.getD k 0 ≤ 18446744073709551615 := fun k hk => by
        have hk' : k < z1.length := by omega
        have : z1.getD k 0 ∈ z1 := by
          rw [List.getD_eq_getElem?_getD, List.getElem?_eq_getElem hk']
          exact List.getElem_mem hk'
        exact bounds_u64 (hwz _ this)
      refine ⟨bl, off, rfl, lt_of_cell (hc 0 (by omega)), fun k hk => ?_⟩
      have h1 := hnn k hk
      refine ⟨by omega, ?_⟩
      rw [hc k (by omega)]
      congr 2
      omega
end goe
end Go.Proofs.Ytigifoinejbnnaa
