/-
  PROVED HERE: made: a sky of pieces that fit.
-/
import Derived.Test.YtcgechcbcnhpjaaS11
import Derived.IntWalk
namespace Go.Proofs.Ytcgechcbcnhpjaa
set_option linter.unusedVariables false
set_option linter.unusedSimpArgs false
open Go.RowKit
attribute [local go_sem 10] cellOf frozenOf
attribute [local go_sem] heap_drew heap_drewN

def Made (h : Nat) (w : World) (e : Ending) (w' : World) : Prop := ∃ b g c n f o, e = .returned (.pointer (some ⟨b, 0, none⟩)) ∧ w.heap.size ≤ b ∧ w'.heap[b]? = some (sk h 18446744073709551615 0 (some ⟨g, 0, none⟩) n c) ∧ Pcs w' (some ⟨g, 0, none⟩) n f o ∧ Good n f o ∧ Fr [] w w'

theorem tmod_b (O : Int) : -500000 ≤ O.tmod 500001 ∧ O.tmod 500001 ≤ 500000 := by
  rcases Int.lt_or_le O 0 with h | h
  · have h1 : O.tmod 500001 = -((-O).tmod 500001) := by rw [Int.neg_tmod]; omega
    rw [h1, Int.tmod_eq_emod_of_nonneg (by omega)]
    omega
  · rw [Int.tmod_eq_emod_of_nonneg h]
    omega

theorem prow_snoc (f : Nat → Nat) (o : Nat → Int) (n F : Nat) (O : Int) : prow f o n ++ [.int .i64 (F : Nat), .int .i64 O] = prow (upd f n F) (upd o n O) (n + 1) := by
  rw [prow, upd, if_pos rfl, upd, if_pos rfl, prow_congr n (f := upd f n F) (f' := f) (o := upd o n O) (o' := o) (fun k hk => ⟨by rw [upd, if_neg (by omega)], by rw [upd, if_neg (by omega)]⟩)]
theorem good_step {i N : Nat} {f : Nat → Nat} {o : Nat → Int} {X : Int} (hg : Good (i + 1) f o) (h : f i < N) (hN : N ≤ 4503599627370496) (hX : -500000 ≤ X ∧ X ≤ 500000) (hi : i + 2 ≤ 64) : Good (i + 1 + 1) (upd f (i + 1) N) (upd (upd o i X) (i + 1) 0) := by
  refine ⟨⟨by omega, fun k hk => ?_, fun k hk => ?_⟩, by omega, ?_, fun k hk => ?_⟩
  · unfold upd; split
    · exact hN
    · exact hg.fits.f_le k (by omega)
  · unfold upd; split
    · omega
    · split
      · exact hX
      · exact hg.fits.o_ge k (by omega)
  · rw [upd, if_neg (by omega)]; exact hg.zero
  · unfold upd
    rw [if_neg (by omega)]
    split
    · rename_i h1
      obtain rfl : k = i := by omega
      exact h
    · exact hg.rise k (by omega)

set_option maxHeartbeats 2000000 in
set_option maxRecDepth 20000 in
theorem made_any (hz : Nat) (A B : Option Addr) (la ca lb cb : Nat) (zl : Nat → Nat) (zo : Nat → Int) (w : World) (hh : hz < 4294967296) (hla : la ≤ 9223372036854775807) (hlb : lb ≤ 9223372036854775807)
    (hA : 0 < la → ∃ bl off, A = some ⟨bl, off, none⟩ ∧ bl < w.heap.size ∧ ∀ k, k < la → zl k < 18446744073709551616 ∧ w.cell? ⟨bl, off + k, none⟩ = some (.int .u64 (zl k : Nat)))
    (hB : 0 < lb → ∃ bl off, B = some ⟨bl, off, none⟩ ∧ bl < w.heap.size ∧ ∀ k, k < lb → (-2147483648 ≤ zo k ∧ zo k ≤ 2147483647) ∧ w.cell? ⟨bl, off + k, none⟩ = some (.int .i32 (zo k))) :
    Calls Try.prog 4 #[.int .u32 hz, .slice A la ca, .slice B lb cb] w (Made (1000 + hz % 999999001) w) := by
  obtain ⟨i0, hi, hz0, hz1, hz2⟩ := info_parts info39
  have hb0 := heap_alloc_new w (.cells #[.int .i64 0, .int .i64 0] 39)
  have hF0 := (Fr.refl [] w).alloc (.cells #[.int .i64 0, .int .i64 0] 39)
  have hown0 : (w.alloc (.cells #[.int .i64 0, .int .i64 0] 39)).ownsRow w.heap.size 39 2 (.slice (some ⟨w.heap.size, 0, none⟩) 1 1) 1 (prow (fun _ => 0) (fun _ => 0) 1) := ⟨rfl, .inr ⟨w.heap.size, 1, _, rfl, Nat.le_refl _, hb0, Nat.le_refl _, by decide, rfl, rfl⟩⟩
  have HAA := Lib.hid hA
  have HBB := Lib.hid hB
  clear hA hB
  go_enter Try.func4, Try.ntmps4
  go_wp2_with (fail)
  generalize w.alloc (.cells #[.int .i64 0, .int .i64 0] 39) = W at *
  go_loopg [7, 8, 9] 10 (fun g s7 s8 s9 wr => ∃ (i gl c : Nat) (f : Nat → Nat) (o : Nat → Int), i + g = 10 ∧ i ≤ la ∧ i ≤ lb ∧ s8 = .int .i64 i ∧ s7 = .slice (some ⟨gl, 0, none⟩) (i + 1) c ∧ wr.ownsRow w.heap.size 39 2 (.slice (some ⟨gl, 0, none⟩) (i + 1) c) (i + 1) (prow f o (i + 1)) ∧ Good (i + 1) f o ∧ f i ≤ i * 70368744177664 ∧ o i = 0 ∧ Fr [] w wr)
  case atStart => exact ⟨0, w.heap.size, 1, _, _, by omega, by omega, by omega, rfl, rfl, hown0, ⟨⟨by omega, fun i hi => by omega, fun i hi => by omega⟩, by omega, rfl, fun i hi => by omega⟩, by omega, rfl, hF0⟩
  case round =>
    clear hb0 hF0 hown0
    obtain ⟨i, gl, c, f, o, hig, hila, hilb, rfl, rfl, hown, hg, hfi, hoi, hF⟩ := hrel
    have HOWN := Lib.hid hown
    have HG := Lib.hid hg
    have HFI := Lib.hid hfi
    have HOI := Lib.hid hoi
    obtain ⟨cur, hgl, hcur0, hcur1, hglw⟩ : ∃ cur, wr.heap[gl]? = some (.cells cur 39 (0, 0)) ∧ cur[i * 2]? = some (.int .i64 (f i : Nat)) ∧ cur[i * 2 + 1]? = some (.int .i64 0) ∧ w.heap.size ≤ gl := by
      rcases hown.2 with ⟨h0, _⟩ | ⟨g', cap, cur, e, hb, hg', hc, hm, hs, ht⟩
      · cases h0
      · cases e
        obtain ⟨p0, p1⟩ := prow_at f o (i + 1) i (by omega)
        rw [← ht, List.getElem?_take_of_lt (by omega)] at p0 p1
        rw [hoi] at p1
        exact ⟨cur, hg', by simpa using p0, by simpa using p1, hb⟩
    clear hown hg hfi hoi
    by_cases hc : i < la ∧ i < lb ∧ i < 10
    · obtain ⟨x1, x2, x3⟩ := hc
      obtain ⟨bl, off, rfl, hbl, hcs⟩ := HAA.out (by omega)
      obtain ⟨bl2, off2, rfl, hbl2, hcs2⟩ := HBB.out (by omega)
      obtain ⟨y1, y2⟩ := hcs i x1
      obtain ⟨y3, y4⟩ := hcs2 i x2
      have y2' := (hF.cell hbl (by simp)).trans y2
      have y4' := (hF.cell hbl2 (by simp)).trans y4
      clear y2 y4 hcs hcs2
      obtain ⟨F, hFF⟩ : ∃ F, f i = F := ⟨_, rfl⟩
      rw [hFF] at hcur0
      obtain ⟨O, hO⟩ : ∃ O, zo i = O := ⟨_, rfl⟩
      rw [hO] at y3 y4'
      obtain ⟨Z, hZ⟩ : ∃ Z, zl i = Z := ⟨_, rfl⟩
      rw [hZ] at y1 y2'
      have HFF := Lib.hid hFF
      clear hFF hO hZ
      obtain ⟨X, hX⟩ : ∃ X, O.tmod 500001 = X := ⟨_, rfl⟩
      have hXb := tmod_b O
      rw [hX] at hXb
      have j1 : (i : Int) < (la : Int) := by omega
      have j2 : (i : Int) < (lb : Int) := by omega
      have j3 : (i : Int) < 10 := by omega
      go_upto_region 7 with fail
      have hown1 := own_set (i := i) (x := X) HOWN.out (by omega)
      have hF1 : Fr [] w (wr.setCell ⟨gl, i * 2 + 1, none⟩ (.int .i64 X)) := hF.setNew hglw _
      have hs1 := heap_set (o := i * 2 + 1) hgl (.int .i64 X)
      have y2'' := (hF1.cell hbl (by simp)).trans ((hF.cell hbl (by simp)).symm.trans y2')
      have hcur0' : (cur.setIfInBounds (i * 2 + 1) (.int .i64 X))[i * 2]? = some (.int .i64 F) := by rw [Array.getElem?_setIfInBounds_ne (by omega)]; exact hcur0
      have hc0 : (wr.setCell ⟨gl, i * 2 + 1, none⟩ (.int .i64 X)).cell? ⟨gl, i * 2, none⟩ = some (.int .i64 F) := (cellOf hs1).trans hcur0'
      generalize wr.setCell ⟨gl, i * 2 + 1, none⟩ (.int .i64 X) = W1 at *
      have hglsz : gl < W1.heap.size := lt_of_block hs1
      have hblsz : bl < W1.heap.size := Nat.lt_of_lt_of_le hbl hF1.size
      have hbsz : w.heap.size ≤ W1.heap.size := hF1.size
      have hcA : ∀ X, (W1.alloc X).drew.cell? ⟨gl, i * 2, none⟩ = some (.int .i64 F) := fun X => by
        show (W1.alloc X).cell? ⟨gl, i * 2, none⟩ = _
        rw [World.cell?, Below.heap_alloc _ _ _ hglsz]; exact hc0
      have hcZ : ∀ X, (W1.alloc X).drew.cell? ⟨bl, off + i, none⟩ = some (.int .u64 Z) := fun X => by
        show (W1.alloc X).cell? ⟨bl, off + i, none⟩ = _
        rw [World.cell?, Below.heap_alloc _ _ _ hblsz]; exact y2''
      have HOW := Lib.hid hown1
      have HHH := Lib.hid (And.intro hcA hcZ)
      clear hown1 hcA hcZ
      have j4 : (i : Int) < ((i + 1 : Nat) : Int) := by omega
      have j5 : (i : Int) < (i : Int) + 1 := by omega
      have hFb : F ≤ 703687441776640 := by have := HFI.out; rw [HFF.out] at this; omega
      have j6 : IntKind.i64.wrap ((F : Int) + 1) = (F : Int) + 1 := IntWalk.i64_in _ (by omega)
      have j7 : (Z : Int).tmod 70368744177664 = ((Z % 70368744177664 : Nat) : Int) := rfl
      obtain ⟨R, hR⟩ : ∃ R, Z % 70368744177664 = R := ⟨_, rfl⟩
      have hRb : R < 70368744177664 := by omega
      rw [hR] at j7
      have HR := Lib.hid hR
      clear hR
      have j9 : IntKind.i64.wrap (R : Int) = (R : Int) := IntWalk.i64_in _ (by omega)
      have j8 : IntKind.i64.wrap ((F : Int) + 1 + (R : Int)) = (F : Int) + 1 + (R : Int) := IntWalk.i64_in _ (by omega)
      have hbA : ∀ X, w.heap.size ≤ (W1.alloc X).heap.size := fun X => Nat.le_trans hbsz (by rw [World.size_alloc]; omega)
      have HBA := Lib.hid hbA
      clear hbA
      go_region_law ((refine step_append_lies _ rfl _ _ 40 rfl w.heap.size 39 i0 (.agg #[.int .i64 0, .int .i64 0]) 2 16 Try.underlying40 hi hz0 hz1 hz2 rfl (by decide) (.slice (some ⟨gl, 0, none⟩) (i + 1) c) (i + 1) (prow f (upd o i X) (i + 1)) rfl (HOW.out.alloc _) ⟨W1.heap.size, 0, none⟩ 1 1 [.int .i64 ((F : Int) + 1 + (R : Int)), .int .i64 0] rfl rfl (World.news_of_block (heap_alloc_new W1 _)) (by intro u hu; rcases List.mem_cons.1 hu with rfl | hu; rfl; rcases List.mem_cons.1 hu with rfl | hu; rfl; cases hu) (by decide) (by unfold maxLen; omega) (by omega) (HBA.out _) _ rfl ?_; intro g1 c1 w1 hown1 hgrow1 hor1 hlt1))
      all_goals go_wp2_with (fail)
      all_goals
        go_roundg (gk - 1)
        case measure => omega
        case rel =>
          refine ⟨i + 1, g1, c1, upd f (i + 1) (F + 1 + R), upd (upd o i X) (i + 1) 0, by omega, by omega, by omega, by go_num, rfl, ?_, good_step HG.out (by rw [HFF.out]; omega) (by omega) hXb (by omega), by rw [upd, if_pos rfl]; have := HFI.out; rw [HFF.out] at this; omega, by rw [upd, if_pos rfl], ?_⟩
          · rw [← prow_snoc]; simpa using hown1
          · first
              | exact (hF1.alloc _).grown hgrow1 (fun k hk => by cases hk; exact hglw)
              | exact (hF1.alloc _).drew.grown hgrow1 (fun k hk => by cases hk; exact hglw)
              | exact (hF1.alloc _).drew.drew.grown hgrow1 (fun k hk => by cases hk; exact hglw)
              | exact (hF1.alloc _).drew.drew.drew.grown hgrow1 (fun k hk => by cases hk; exact hglw)
    · obtain ⟨g2, c2, he, _, _, hpc, _⟩ := own_pcs HOWN.out (by omega)
      cases he
      have hGG := HG.out
      clear hgl hcur0 hcur1
      obtain ⟨q, hq⟩ : ∃ q, hz % 999999001 = q := ⟨_, rfl⟩
      have hqb : q < 999999001 := by omega
      rw [hq]
      have e1 : (hz : Int) % 999999001 = (q : Int) := by omega
      have e2 : (hz : Int).tmod 999999001 = (q : Int) := e1
      obtain ⟨h, hh2⟩ : ∃ h, 1000 + q = h := ⟨_, rfl⟩
      have e3 : (1000 + (q : Int)) = (h : Int) := by omega
      rw [hh2]
      have HQ := Lib.hid hq
      have HH2 := Lib.hid hh2
      clear hq hh2
      have hb1 : 1 ≤ h := by omega
      have hb2 : h ≤ 1000000000 := by omega
      have HN := Lib.hid (fun wx => new_sky h 64 18446744073709551615 0 gl 0 (i + 1) c f o wx hb1 hb2 (by omega) (by omega) (by decide) (by omega) (by omega))
      by_cases x1 : i < la
      · by_cases x2 : i < lb
        · obtain rfl : i = 10 := by omega
          have j1 : ((10 : Int) < (la : Int)) := by omega
          have j2 : ((10 : Int) < (lb : Int)) := by omega
          go_wp2_with (fail)
          refine (HN.out _ hpc hGG).mono ?_
          rintro e w1 ⟨b, g', c', rfl, hb, hsk, hpc', hf'⟩
          go_wp2_with (fail)
          go_ret
          exact ⟨b, g', c', _, _, _, rfl, Nat.le_trans hF.size hb, (by rw [HQ.out, HH2.out]; exact hsk), hpc', hGG, hF.then0 hf'⟩
        · have j1 : ((i : Int) < (la : Int)) := by omega
          have j2 : ((i : Int) < (lb : Int)) = False := by simp; omega
          go_wp2_with (fail)
          refine (HN.out _ hpc hGG).mono ?_
          rintro e w1 ⟨b, g', c', rfl, hb, hsk, hpc', hf'⟩
          go_wp2_with (fail)
          go_ret
          exact ⟨b, g', c', _, _, _, rfl, Nat.le_trans hF.size hb, (by rw [HQ.out, HH2.out]; exact hsk), hpc', hGG, hF.then0 hf'⟩
      · have j1 : ((i : Int) < (la : Int)) = False := by simp; omega
        go_wp2_with (fail)
        refine (HN.out _ hpc hGG).mono ?_
        rintro e w1 ⟨b, g', c', rfl, hb, hsk, hpc', hf'⟩
        go_wp2_with (fail)
        go_ret
        exact ⟨b, g', c', _, _, _, rfl, Nat.le_trans hF.size hb, (by rw [HQ.out, HH2.out]; exact hsk), hpc', hGG, hF.then0 hf'⟩
end Go.Proofs.Ytcgechcbcnhpjaa
