/-
  PROVED HERE: the law SkyScaled answers true: what a scale makes of the readings, followed one by one, is raw time.
-/
import Derived.Test.YtcgechcbcnhpjaaS12
namespace Go.Proofs.Ytcgechcbcnhpjaa
set_option linter.unusedVariables false
set_option linter.unusedSimpArgs false
open Go.RowKit
attribute [local go_sem 10] cellOf frozenOf
attribute [local go_sem] heap_drew heap_drewN

theorem follow_div {h P Q : Nat} (hh : 0 < h) (hPQ : P ≤ Q) : (Q - P + P % h) / h = Q / h - P / h ∧ (Q - P + P % h) % h = Q % h := by
  have e1 : h * (P / h) + P % h = P := Nat.div_add_mod P h
  have e2 : Q = (Q - P + P % h) + h * (P / h) := by omega
  have e3 : Q / h = (Q - P + P % h) / h + P / h := by
    conv => lhs; rw [e2]
    rw [Nat.add_mul_div_left _ _ hh]
  have e4 : Q % h = (Q - P + P % h) % h := by
    conv => lhs; rw [e2]
    rw [Nat.add_mul_mod_self_left]
  exact ⟨by rw [e3, Nat.add_sub_cancel], e4.symm⟩
theorem follow_min {a b x y : Nat} (hle : b ≤ a) (hmax : a ≤ 288374491339787600) : min (a - b) (4611686018427387904 - b) = a - b ∧ b + min (a - b) (4611686018427387904 - b) = a ∧ (if a - b < 4611686018427387904 - b then x else y) = x ∧ b ≤ a ∧ a ≤ 288374491339787600 := by
  have h1 : a < 4611686018427387904 := Nat.lt_of_le_of_lt hmax (by decide)
  generalize 4611686018427387904 = K at *
  refine ⟨by omega, by omega, if_pos (by omega), hle, hmax⟩
/-- What To makes of the ticks from N to M. -/
theorem to_follow {h N M : Nat} (hh : 0 < h) (hNM : N ≤ M) (hM : M * 1000000000 ≤ h * 288374491339787600) :
    toTold h (N * 1000000000 / h) (N * 1000000000 % h) (M - N) = M * 1000000000 / h - N * 1000000000 / h ∧
    toTotal h (N * 1000000000 / h) (N * 1000000000 % h) (M - N) = M * 1000000000 / h ∧
    toOver h (N * 1000000000 / h) (N * 1000000000 % h) (M - N) = M * 1000000000 % h ∧ N * 1000000000 / h ≤ M * 1000000000 / h ∧ M * 1000000000 / h ≤ 288374491339787600 := by
  have h1 : (M - N) * 1000000000 + N * 1000000000 % h = M * 1000000000 - N * 1000000000 + N * 1000000000 % h := by rw [Nat.sub_mul]
  have hPQ : N * 1000000000 ≤ M * 1000000000 := Nat.mul_le_mul_right _ hNM
  obtain ⟨d1, d2⟩ := follow_div hh hPQ
  have hle : N * 1000000000 / h ≤ M * 1000000000 / h := Nat.div_le_div_right hPQ
  have hmax : M * 1000000000 / h ≤ 288374491339787600 := Nat.div_le_of_le_mul hM
  have hm : toMore h (N * 1000000000 % h) (M - N) = M * 1000000000 / h - N * 1000000000 / h := by unfold toMore; rw [h1, d1]
  have hk := follow_min (x := M * 1000000000 % h) (y := N * 1000000000 % h) hle hmax
  refine ⟨?_, ?_, ?_, hle, hmax⟩
  · unfold toTold; rw [hm]; exact hk.1
  · unfold toTotal toTold; rw [hm]; exact hk.2.1
  · unfold toOver; rw [hm, h1, d2]; exact hk.2.2.1

theorem Pcs.fr2 {w w' : World} {g n a : Nat} {h t o' : Int} {f o} (hp : Pcs w (some ⟨g, 0, none⟩) n f o) (hs : w.heap[a]? = some (.cells #[.int .u64 h, .int .u64 t, .int .u64 o'] 44 (0, 0))) (k : Fr [a] w w') : Pcs w' (some ⟨g, 0, none⟩) n f o := fun hn => by
  obtain ⟨g', off, e, hg, hc⟩ := hp hn
  cases e
  have hne : g ≠ a := by
    rintro rfl
    have h1 := (hc 0 hn).1
    rw [World.cell?, hs] at h1
    simp at h1
  exact ⟨g, 0, rfl, Nat.lt_of_lt_of_le hg k.size, fun i hi => ⟨(k.cell hg (by simpa using hne)).trans (hc i hi).1, (k.cell hg (by simpa using hne)).trans (hc i hi).2⟩⟩

set_option maxHeartbeats 2000000 in
set_option maxRecDepth 20000 in
theorem scaled_any (hz : Nat) (A B D : Option Addr) (la ca lb cb ld cd : Nat) (zl : Nat → Nat) (zo : Nat → Int) (zg : Nat → Nat) (w : World) (hh : hz < 4294967296) (hla : la ≤ 9223372036854775807) (hlb : lb ≤ 9223372036854775807) (hld : ld ≤ 9223372036854775807)
    (hA : 0 < la → ∃ bl off, A = some ⟨bl, off, none⟩ ∧ bl < w.heap.size ∧ ∀ k, k < la → zl k < 18446744073709551616 ∧ w.cell? ⟨bl, off + k, none⟩ = some (.int .u64 (zl k : Nat)))
    (hB : 0 < lb → ∃ bl off, B = some ⟨bl, off, none⟩ ∧ bl < w.heap.size ∧ ∀ k, k < lb → (-2147483648 ≤ zo k ∧ zo k ≤ 2147483647) ∧ w.cell? ⟨bl, off + k, none⟩ = some (.int .i32 (zo k)))
    (hD : 0 < ld → ∃ bl off, D = some ⟨bl, off, none⟩ ∧ bl < w.heap.size ∧ ∀ k, k < ld → zg k < 18446744073709551616 ∧ w.cell? ⟨bl, off + k, none⟩ = some (.int .u64 (zg k : Nat))) :
    Calls Try.prog 3 #[.int .u32 hz, .slice A la ca, .slice B lb cb, .slice D ld cd] w fun e w' => e = .returned (.bool true) ∧ Fr [] w w' := by
  have HM := Lib.hid (made_any hz A B la ca lb cb zl zo w hh hla hlb hA hB)
  have HDD := Lib.hid hD
  clear hA hB hD
  obtain ⟨q, hq⟩ : ∃ q, hz % 999999001 = q := ⟨_, rfl⟩
  have hqb : q < 999999001 := by omega
  rw [hq] at HM
  have e1 : (hz : Int) % 999999001 = (q : Int) := by omega
  have e2 : (hz : Int).tmod 999999001 = (q : Int) := e1
  obtain ⟨h, hh2⟩ : ∃ h, 1000 + q = h := ⟨_, rfl⟩
  have e3 : (1000 + (q : Int)) = (h : Int) := by omega
  rw [hh2] at HM
  have hb1 : 1 ≤ h := by omega
  have hb2 : h ≤ 1000000000 := by omega
  have HQ := Lib.hid hq
  have HH2 := Lib.hid hh2
  clear hq hh2
  go_enter Try.func3, Try.ntmps3
  go_wp2_with (fail)
  refine HM.out.mono ?_
  rintro e w1 ⟨b, g, c, n, f, o, rfl, hbw, hsk, hpc, hg, hf1⟩
  go_wp2_with (fail)
  refine (new_any h _ (by omega) (by omega)).mono ?_
  rintro e w2 ⟨a, rfl, haw, hsa, hf2⟩
  have hab : b ≠ a := by have := lt_of_block hsk; omega
  have hsk2 := hf2.heap hsk List.not_mem_nil
  have hpc2 := hpc.fr hf2
  have hF2 := hf1.then0 hf2
  have haw' : w.heap.size ≤ a := Nat.le_trans hf1.size haw
  clear hsk hpc hf1 hf2 haw
  have hsa' : w2.heap[a]? = some (sc h (0 * 1000000000 / h) (0 * 1000000000 % h)) := by simpa using hsa
  clear hsa
  go_wp2_with (fail)
  go_loopg [12, 13, 14, 15] 30 (fun k s12 s13 s14 s15 wr => ∃ (i tt N T : Nat), i + k = 30 ∧ s15 = .int .i64 i ∧ i ≤ ld ∧ s12 = .int .i64 tt ∧ tt ≤ i * 35184372088832 ∧ s13 = .int .u64 N ∧ N ≤ ticks h n tt f o ∧ s14 = .int .i64 T ∧ T = N * 1000000000 / h ∧ wr.heap[a]? = some (sc h T (N * 1000000000 % h)) ∧ wr.heap[b]? = some (sk h 18446744073709551615 0 (some ⟨g, 0, none⟩) n c) ∧ Pcs wr (some ⟨g, 0, none⟩) n f o ∧ Fr [] w wr)
  case atStart => exact ⟨0, 0, 0, 0, by omega, rfl, by omega, rfl, by omega, rfl, by omega, rfl, by simp, by simpa using hsa', hsk2, hpc2, hF2⟩
  case round =>
    clear hsk2 hpc2 hF2 hsa'
    obtain ⟨i, tt, N, T, hik, rfl, hild, rfl, htt, rfl, hN, rfl, hT, hsa, hsk, hpc, hF⟩ := hrel
    have HT := Lib.hid hT
    have HN := Lib.hid hN
    clear hT hN
    by_cases hc : i < ld ∧ i < 30
    · obtain ⟨x1, x2⟩ := hc
      obtain ⟨bl, off, rfl, hbl, hcs⟩ := HDD.out (by omega)
      obtain ⟨y1, y2⟩ := hcs i x1
      have y2' := (hF.cell hbl (by simp)).trans y2
      clear y2 hcs
      obtain ⟨Z, hZ⟩ : ∃ Z, zg i = Z := ⟨_, rfl⟩
      rw [hZ] at y1 y2'
      clear hZ
      obtain ⟨R, hR⟩ : ∃ R, Z % 35184372088832 = R := ⟨_, rfl⟩
      have hRb : R < 35184372088832 := by omega
      have j0 : (Z : Int) % 35184372088832 = (R : Int) := by omega
      have j0' : (Z : Int).tmod 35184372088832 = (R : Int) := j0
      clear hR
      have htt2 : tt + R ≤ (i + 1) * 35184372088832 := by omega
      have htt3 : tt + R ≤ 4503599627370496 := by omega
      have hNM : N ≤ ticks h n (tt + R) f o := Nat.le_trans HN.out (ticks_mono (by omega))
      obtain ⟨l1, l2⟩ := ticks_le (n := n) (t := tt + R) (f := f) (o := o) hg.fits hb2 htt3
      have HRead := Lib.hid (fun wx => read_any b h 18446744073709551615 0 (ticks h n (tt + R) f o) (some ⟨g, 0, none⟩) n c f o (tt + R) wx (bits_all _ (by omega)))
      have HRaw := Lib.hid (fun wx => raw_any b h 18446744073709551615 0 (some ⟨g, 0, none⟩) n c f o (tt + R) wx)
      have hMM : ticks h n (tt + R) f o ≤ ticks h n (tt + R) f o := Nat.le_refl _
      obtain ⟨M, hM⟩ : ∃ M, ticks h n (tt + R) f o = M := ⟨_, rfl⟩
      have HMM := Lib.hid hM
      rw [hM] at HRead HRaw hNM l1 l2
      clear hM hMM
      obtain ⟨f1, f2, f3, f4, f5⟩ := to_follow (by omega) hNM l2
      rw [← HT.out] at f1 f2 f3 f4
      obtain ⟨T2, hT2⟩ : ∃ T2, M * 1000000000 / h = T2 := ⟨_, rfl⟩
      rw [hT2] at f1 f2 f4 f5 HRaw
      obtain ⟨O2, hO2⟩ : ∃ O2, M * 1000000000 % h = O2 := ⟨_, rfl⟩
      rw [hO2] at f3
      obtain ⟨O, hO⟩ : ∃ O, N * 1000000000 % h = O := ⟨_, rfl⟩
      have hOh : O < h := by rw [← hO]; exact Nat.mod_lt _ (by omega)
      rw [hO] at f1 f2 f3 hsa
      obtain ⟨X, hX⟩ : ∃ X, T2 - T = X := ⟨_, rfl⟩
      rw [hX] at f1
      obtain ⟨d, hd⟩ : ∃ d, M - N = d := ⟨_, rfl⟩
      rw [hd] at f1 f2 f3
      obtain ⟨t2, ht2⟩ : ∃ t2, tt + R = t2 := ⟨_, rfl⟩
      have HTT := Lib.hid ht2
      rw [ht2] at HRead HRaw htt2 htt3
      have m1 : (M : Int) - (N : Int) = (d : Int) := by omega
      have m2 : (T : Int) + (X : Int) = (T2 : Int) := by omega
      have m3 : (tt : Int) + (R : Int) = (t2 : Int) := by omega
      have m4 : (T2 : Int) ≤ 288374491339787600 := by omega
      have m5 : (d : Int) ≤ 288374491339787600 := by omega
      have m6 : (t2 : Int) ≤ 4503599627370496 := by omega
      have HTo := Lib.hid (fun wx hs => to_lit a h T O d X T2 O2 wx hs ⟨f1, f2, f3⟩ (by omega) (by omega) (by omega) hOh (by omega))
      have HT2 := Lib.hid hT2
      have HO2 := Lib.hid hO2
      have HLE : Hid (N ≤ M ∧ T ≤ T2) := Lib.hid ⟨hNM, f4⟩
      clear hT2 hO2 hO hX hd ht2 f1 f2 f3 l2
      have j1 : (i : Int) < (ld : Int) := by omega
      have j2 : (i : Int) < 30 := by omega
      have HG := Lib.hid hg
      clear hg
      go_wp2_with (fail)
      refine (HRead.out _ hsk hpc HG.out.fits (by omega) hb2 htt3).mono ?_
      rintro e w3 ⟨rfl, hf3⟩
      have hsa3 := hf3.heap hsa List.not_mem_nil
      have hsk3 := hf3.heap hsk List.not_mem_nil
      have hpc3 := hpc.fr hf3
      have hF3 := hF.then0 hf3
      clear hsa hsk hpc hF hf3 y2'
      go_wp2_with (fail)
      refine (HTo.out _ hsa3).mono ?_
      rintro e w4 ⟨rfl, hsa4, hf4⟩
      have hsk4 := hf4.heap hsk3 (by simp [hab])
      have hpc4 := hpc3.fr2 hsa3 hf4
      have hF4 := hF3.two haw' hf4
      clear hsa3 hsk3 hpc3 hF3 hf4
      go_wp2_with (fail)
      refine (HRaw.out _ hsk4 hpc4 HG.out.fits (by omega) hb2 htt3).mono ?_
      rintro e w5 ⟨rfl, hf5⟩
      have hsa5 := hf5.heap hsa4 List.not_mem_nil
      have hsk5 := hf5.heap hsk4 List.not_mem_nil
      have hpc5 := hpc4.fr hf5
      have hF5 := hF4.then0 hf5
      clear hsa4 hsk4 hpc4 hF4 hf5
      go_wp2_with (fail)
      refine (total_any a h T2 O2 _ hsa5 (by omega) (by omega)).mono ?_
      rintro e w6 ⟨rfl, hf6⟩
      have hsa6 := hf6.heap hsa5 List.not_mem_nil
      have hsk6 := hf6.heap hsk5 List.not_mem_nil
      have hpc6 := hpc5.fr hf6
      have hF6 := hF5.then0 hf6
      clear hsa5 hsk5 hpc5 hF5 hf6
      go_wp2_with (fail)
      go_roundg (gk - 1)
      case measure => omega
      case rel => exact ⟨i + 1, t2, M, T2, by omega, by go_num, by omega, rfl, by omega, rfl, by rw [← HTT.out, HMM.out]; exact Nat.le_refl _, rfl, HT2.out.symm, by rw [HO2.out]; exact hsa6, hsk6, hpc6, hF6⟩
    · have HAL := Lib.hid alive_any
      by_cases x1 : i < ld
      · obtain rfl : i = 30 := by omega
        have j1 : ((30 : Int) < (ld : Int)) := by omega
        go_wp2_with (fail)
        refine (HAL.out _).mono ?_
        rintro e w5 ⟨rfl, hf5⟩
        go_wp2_with (fail)
        go_ret
        exact ⟨rfl, hF.then0 hf5⟩
      · have j1 : ((i : Int) < (ld : Int)) = False := by simp; omega
        go_wp2_with (fail)
        refine (HAL.out _).mono ?_
        rintro e w5 ⟨rfl, hf5⟩
        go_wp2_with (fail)
        go_ret
        exact ⟨rfl, hF.then0 hf5⟩
end Go.Proofs.Ytcgechcbcnhpjaa
