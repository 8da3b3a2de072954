/-
  PROVED HERE: Times of the reference's numbers, of numbers that aren't below zero.
-/
import Derived.Test.YtigifoinejbnnaaB7
namespace Go.Proofs.Ytigifoinejbnnaa
set_option linter.unusedVariables false
set_option linter.unusedSimpArgs false
open Go.RowKit
attribute [local go_sem 10] cellOf frozenOf
attribute [local go_sem] heap_drew heap_drewN

theorem times_step {ds : List Nat} {k n x y c vb T : Nat} (hl : ds.length = k) (hn : n = x * y + c) (h : val ds + 65536 ^ k * (c + x * (y + 65536 * vb)) = T) :
    val (ds ++ [n % 65536]) + 65536 ^ (k + 1) * (n / 65536 + x * vb) = T := by
  subst hl
  rw [val_snoc, Nat.pow_succ, Nat.mul_assoc, Nat.add_assoc, ← Nat.mul_add, Nat.mul_add 65536, ← h]
  congr 2
  have e1 : x * (y + 65536 * vb) = x * y + 65536 * (x * vb) := by rw [Nat.mul_add, Nat.mul_left_comm]
  rw [e1]
  generalize x * vb = z
  generalize x * y = u at *
  omega
theorem val_zeros (i : Nat) (l : List Nat) : val (List.replicate i 0 ++ l) = 65536 ^ i * val l := by
  rw [val_append, List.length_replicate]
  have : val (List.replicate i 0) = 0 := by
    induction i with
    | zero => rfl
    | succ i ih => rw [List.replicate_succ, val, ih]
  omega
theorem Dg.zeros (i : Nat) : Dg (List.replicate i 0) := fun x hx => by rw [(List.mem_replicate.1 hx).2]; omega
theorem Dg.app {a b : List Nat} (ha : Dg a) (hb : Dg b) : Dg (a ++ b) := fun y hy => by
  rcases List.mem_append.1 hy with hy | hy
  · exact ha y hy
  · exact hb y hy
theorem outer_step {a : List Nat} {i vo vr vb T : Nat} (hr : vr = 65536 ^ i * (a.getD i 0 * vb)) (h : vo + 65536 ^ i * (vd a i * vb) = T) : vo + vr + 65536 ^ (i + 1) * (vd a (i + 1) * vb) = T := by
  rw [vd_step a i] at h
  rw [hr, ← h, Nat.add_mul, Nat.mul_add, Nat.pow_succ]
  generalize 65536 ^ i = p
  generalize vd a (i + 1) = z
  generalize a.getD i 0 = x
  rw [Nat.mul_assoc p 65536, Nat.mul_assoc 65536 z]
  omega
theorem prod16 {x y c : Nat} (hx : x < 65536) (hy : y < 65536) (hc : c < 65536) : x * y + c < 4294967296 := by
  have := Nat.mul_le_mul (show x ≤ 65535 by omega) (show y ≤ 65535 by omega)
  omega

theorem Rd.grown {w w' : World} {A n l} {row : Option Nat} (h : Rd w A n l) (hg : w.grownBy w' row) (hr : ∀ g off, 0 < n → A = some ⟨g, off, none⟩ → row ≠ some g) : Rd w' A n l := by
  obtain ⟨h1, h2, h3⟩ := h
  refine ⟨h1, h2, fun hn => ?_⟩
  obtain ⟨g, off, e, hgl, hc⟩ := h3 hn
  exact ⟨g, off, e, Nat.lt_of_lt_of_le hgl hg.size, fun i hi => (World.cell?_of_block (w := w) (hg.block g hgl (Ne.symm (hr g off hn e)))).trans (hc i hi)⟩

set_option maxHeartbeats 2000000 in
set_option maxRecDepth 20000 in
theorem times_any (A B : Option Addr) (na ca nb cb : Nat) (a b : List Nat) (w : World) (ha : Rd w A na a) (hb : Rd w B nb b) (hda : Dg a) (hdb : Dg b) (hna : na ≤ 100) (hnb : nb ≤ 100) :
    Calls Try.prog 25 #[.agg #[.bool false, .slice A na ca], .agg #[.bool false, .slice B nb cb]] w (Num w fun m r => m = false ∧ val r = val a * val b ∧ Trim r ∧ Dg r ∧ r.length ≤ na + nb + na + 4) := by
  obtain ⟨i0, hi, hz0, hz1, hz2⟩ := info_parts info23
  have HLA := Lib.hid ha.1
  have HLB := Lib.hid hb.1
  go_enter Try.func25, Try.ntmps25
  go_wp2_with (fail)
  have hb0 := heap_alloc_old (.cells #[.bool false, .slice none 0 0] 48) (heap_alloc_old (.cells #[.bool false, .slice none 0 0] 48) (heap_alloc_old (.cells #[.bool false, .slice B nb cb] 48) (heap_alloc_new w (.cells #[.bool false, .slice A na ca] 48))))
  have hb1 := heap_alloc_old (.cells #[.bool false, .slice none 0 0] 48) (heap_alloc_old (.cells #[.bool false, .slice none 0 0] 48) (heap_alloc_new (w.alloc (.cells #[.bool false, .slice A na ca] 48)) (.cells #[.bool false, .slice B nb cb] 48)))
  have hb2 := heap_alloc_old (.cells #[.bool false, .slice none 0 0] 48) (heap_alloc_new ((w.alloc (.cells #[.bool false, .slice A na ca] 48)).alloc (.cells #[.bool false, .slice B nb cb] 48)) (.cells #[.bool false, .slice none 0 0] 48))
  have hb3 := heap_alloc_new (((w.alloc (.cells #[.bool false, .slice A na ca] 48)).alloc (.cells #[.bool false, .slice B nb cb] 48)).alloc (.cells #[.bool false, .slice none 0 0] 48)) (.cells #[.bool false, .slice none 0 0] 48)
  have hsz : (((((w.alloc (.cells #[.bool false, .slice A na ca] 48)).alloc (.cells #[.bool false, .slice B nb cb] 48)).alloc (.cells #[.bool false, .slice none 0 0] 48)).alloc (.cells #[.bool false, .slice none 0 0] 48))).heap.size = w.heap.size + 1 + 1 + 1 + 1 := by simp only [World.size_alloc]
  simp only [World.size_alloc] at hb1 hb2 hb3
  have hf0 : Fr [] w _ := ((((Fr.refl [] w).alloc (.cells #[.bool false, .slice A na ca] 48)).alloc (.cells #[.bool false, .slice B nb cb] 48)).alloc (.cells #[.bool false, .slice none 0 0] 48)).alloc (.cells #[.bool false, .slice none 0 0] 48)
  generalize (((w.alloc (.cells #[.bool false, .slice A na ca] 48)).alloc (.cells #[.bool false, .slice B nb cb] 48)).alloc (.cells #[.bool false, .slice none 0 0] 48)).alloc (.cells #[.bool false, .slice none 0 0] 48) = W at *
  generalize hB : w.heap.size = M at *
  have HM := Lib.hid hB
  clear hB
  go_loopg [6] na (fun g i wr => ∃ (k no co : Nat) (O : Option Addr) (xs : List Nat), k + g = na ∧ i = .int .i64 k ∧ wr.heap[M]? = some (.cells #[.bool false, .slice A na ca] 48 (0, 0)) ∧ wr.heap[M + 1]? = some (.cells #[.bool false, .slice B nb cb] 48 (0, 0)) ∧ wr.heap[M + 1 + 1]? = some (.cells #[.bool false, .slice none 0 0] 48 (0, 0)) ∧ wr.heap[M + 1 + 1 + 1]? = some (.cells #[.bool false, .slice O no co] 48 (0, 0)) ∧ Rd wr O no xs ∧ no ≤ co ∧ co ≤ 9223372036854775807 ∧ Dg xs ∧ val xs + 65536 ^ k * (vd a k * val b) = val a * val b ∧ no ≤ na + nb + k + 2 ∧ M + 4 ≤ wr.heap.size ∧ Fr [] w wr)
  case atStart => exact ⟨0, 0, 0, none, [], by omega, rfl, hb0, hb1, hb2, hb3, Rd.nil _ _, by omega, by omega, Dg.nil, by simp [vd, val], by omega, by omega, hf0⟩
  case round =>
    clear hb0 hb1 hb2 hb3 hf0 hsz
    obtain ⟨k, no, co, O, xs, hkg, rfl, hb0, hb1, hb2, hb3, hro, hnc, hcm, hdx, hval, hno, hsz, hf⟩ := hrel
    have HV := Lib.hid hval
    have HG := Lib.hid hkg
    clear hval
    rcases Nat.eq_zero_or_pos gk with rfl | hp
    · obtain rfl : k = na := by omega
      have hv0 : val xs = val a * val b := by
        have h3 := HV.out
        rw [vd_end (by have := HLA.out; omega)] at h3
        simpa using h3
      have HV0 := Lib.hid hv0
      clear hv0
      go_wp2_with (fail)
      refine (trim_any false O no co xs _ (hro.fr3 hb3 ((Fr.refl [_] wr).setCell (.inl (by simp)) _)) hnc hcm).mono ?_
      rintro e w2 ⟨m', D, n', c', r', rfl, hr', hnc', hcm', ⟨hv', ht', hl', hmem, hm⟩, hf2⟩
      have hd2 := hf2.heap (heap_set_ne hb2 (by omega) _) (by simp)
      have hfr := (hf.setNew (b := M + 1 + 1 + 1) (o := 0) (by have := HM.out; omega) (.bool false)).then0 hf2
      obtain rfl := hm rfl
      have HV' := Lib.hid hv'
      have HMM := Lib.hid hmem
      clear hv' hmem hm hb0 hb1 hb2 hb3
      go_wp2_with (fail)
      refine bodyPost_ret (v := .agg #[.bool false, .slice D n' c']) (by simp [results, Try.results25, go_sem, hd2]) rfl ?_
      refine ⟨false, D, n', c', r', rfl, ?_, hnc', hcm', ⟨rfl, by rw [HV'.out, HV0.out], ht', fun x hx => hdx x (HMM.out x hx), by omega⟩, ?_⟩
      · exact hr'.fr3 hd2 (((Fr.refl [_] w2).setCell (.inl (by simp)) _).setCell (.inl (by simp)) _)
      · exact (hfr.setNew (by have := HM.out; omega) _).setNew (by have := HM.out; omega) _
    · have hlt : k < na := by omega
      clear hkg
      have hOb : ∀ g off, 0 < no → O = some ⟨g, off, none⟩ → g < wr.heap.size := fun g off hn e => by
        obtain ⟨g', off', e', hg', _⟩ := hro.2.2 hn
        rw [e] at e'
        cases e'
        exact hg'
      have HOB := Lib.hid hOb
      clear hOb
      go_wp2_with (at_make; refine wpList_make_full _ rfl _ _ 46 rfl wr.heap.size 23 i0 (.int .u32 0) 1 Try.underlying46 hi hz0 hz1 _ _ _ _ k rfl rfl rfl rfl (by rw [hz2]; omega) (by unfold maxLen; omega) (Nat.le_refl _) ?_; intro w1 hown1 hgrow1)
      have hown2 : w1.ownsRow wr.heap.size 23 1 (.slice (some ⟨wr.heap.size, 0, none⟩) k k) k (U32 (List.replicate k 0 ++ [])) := by
        have e : U32 (List.replicate k 0 ++ []) = (madeCells (Value.int IntKind.u32 0).cells (k * 1)).toList := by
          rw [show (Value.int IntKind.u32 0).cells = #[Value.int IntKind.u32 0] from rfl, toList_madeCells_one]
          simp [U32]
        rw [e]; exact hown1
      have hc0 := grown_old hgrow1 hb0 (fun k hk => by cases hk)
      have hc1 := grown_old hgrow1 hb1 (fun k hk => by cases hk)
      have hc2 := grown_old hgrow1 hb2 (fun k hk => by cases hk)
      have hc3 := grown_old hgrow1 hb3 (fun k hk => by cases hk)
      have hro1 : Rd w1 O no xs := hro.grown hgrow1 (by simp)
      have hsz1 := hgrow1.size
      have hf1 := hf.grown hgrow1 (fun k hk => by cases hk)
      clear hb0 hb1 hb2 hb3 hro hown1 hgrow1 hf
      have hMN : M + 4 ≤ wr.heap.size := hsz
      have hwN := Lib.hid (show w.heap.size ≤ wr.heap.size from by have := HM.out; omega)
      generalize hN : wr.heap.size = N at *
      have hda' := hda.getD k
      obtain ⟨x, hx⟩ : ∃ x, a.getD k 0 = x := ⟨_, rfl⟩
      rw [hx] at hda'
      have HXX := Lib.hid hx
      clear hx
      go_loopg [7, 8, 9] (nb + 2) (fun g row carry kk wq => ∃ (j c cr : Nat) (R : Option Addr) (ds : List Nat), row = .slice R (k + j) cr ∧ carry = .int .u64 c ∧ kk = .int .i64 j ∧ j ≤ nb + 1 ∧ j + g = nb + 2 ∧ c < 65536 ∧ (nb + 1 ≤ j → c = 0) ∧ wq.ownsRow N 23 1 (.slice R (k + j) cr) (k + j) (U32 (List.replicate k 0 ++ ds)) ∧ ds.length = j ∧ Dg ds ∧ val ds + 65536 ^ j * (c + x * vd b j) = x * val b ∧ wq.heap[M]? = some (.cells #[.bool false, .slice A na ca] 48 (0, 0)) ∧ wq.heap[M + 1]? = some (.cells #[.bool false, .slice B nb cb] 48 (0, 0)) ∧ wq.heap[M + 1 + 1]? = some (.cells #[.bool false, .slice none 0 0] 48 (0, 0)) ∧ wq.heap[M + 1 + 1 + 1]? = some (.cells #[.bool false, .slice O no co] 48 (0, 0)) ∧ Rd wq O no xs ∧ N ≤ wq.heap.size ∧ Fr [] w wq)
      case atStart => exact ⟨0, 0, k, _, [], rfl, rfl, rfl, by omega, by omega, by omega, fun _ => rfl, hown2, rfl, Dg.nil, by simp [vd, val], hc0, hc1, hc2, hc3, hro1, hsz1, hf1⟩
      case round =>
        clear hown2 hc0 hc1 hc2 hc3 hro1 hsz1 hf1
        obtain ⟨j, c, cr, R, ds, rfl, rfl, rfl, hj, hjg, hcb, hcz, hown, hds, hdd, hval2, hb0, hb1, hb2, hb3, hro, hszq, hfq⟩ := hrel
        have HV2 := Lib.hid hval2
        have HD := Lib.hid hds
        have HC := Lib.hid hcz
        have HJ := Lib.hid hjg
        clear hval2 hds hcz
        have hcase : (j < nb) ∨ ((nb : Int) ≤ (j : Int) ∧ (0 : Int) < (c : Int)) ∨ ((nb : Int) ≤ (j : Int) ∧ c = 0) := by omega
        rcases hcase with h1 | ⟨h1, h2⟩ | ⟨h1, h2⟩
        · have hjj : j < nb + 1 := by omega
          obtain ⟨ga, oa, rfl, hga, hca⟩ := (ha.fr hfq).2.2 (by omega)
          have hcak := hca k hlt
          clear hca
          rw [HXX.out] at hcak
          obtain ⟨y, hy⟩ : ∃ y, b.getD j 0 = y := ⟨_, rfl⟩
          have hyb := hdb.getD j
          rw [hy] at hyb
          have hp0 : 0 ≤ (x : Int) * (y : Int) := by rw [← Int.natCast_mul]; omega
          have hp1 : (x : Int) * (y : Int) ≤ 4294836225 := by
            have := Nat.mul_le_mul (show x ≤ 65535 by omega) (show y ≤ 65535 by omega)
            rw [← Int.natCast_mul]; omega
          obtain ⟨n, hn⟩ : ∃ n, n = x * y + c := ⟨_, rfl⟩
          have e1 : (x : Int) * (y : Int) + (c : Int) = (n : Int) := by rw [hn, Int.natCast_add, Int.natCast_mul]
          have hnb2 : n < 4294967296 := by rw [hn]; exact prod16 hda' hyb hcb
          have hst := times_step (vb := vd b (j + 1)) (T := x * val b) HD.out hn (by have := HV2.out; rw [vd_step b j, hy] at this; exact this)
          obtain ⟨d, n2⟩ : ∃ d : Nat, (n : Int) % 65536 = (d : Int) := ⟨n % 65536, by omega⟩
          obtain ⟨q, n3⟩ : ∃ q : Nat, (n : Int) / 65536 = (q : Int) := ⟨n / 65536, by omega⟩
          have hd1 : d < 65536 := by omega
          have hq1 : q < 65536 := by omega
          rw [show n % 65536 = d by omega, show n / 65536 = q by omega] at hst
          have hq0 : nb + 1 ≤ j + 1 → q = 0 := fun h => by
            have e0 : b.getD j 0 = 0 := by rw [List.getD_eq_getElem?_getD, List.getElem?_eq_none (by have := HLB.out; omega)]; rfl
            have : y = 0 := by rw [← hy]; exact e0
            subst this
            rw [Nat.mul_zero] at hn
            omega
          have HQ0 := Lib.hid hq0
          have HST := Lib.hid hst
          have HAT : Hid (∀ W : World, Rd W B nb b → Calls Try.prog 37 #[.slice B nb cb, .int .i64 j] W fun e w' => e = .returned (.int .u32 (y : Nat)) ∧ w' = W) := fun W hW => by rw [← hy]; exact at_q B nb cb j b W hW
          have hbr := Lib.hid (hb.fr hfq)
          have i1 : (0 : Int) ≤ (k : Int) := by omega
          have i2 : (k : Int) < (na : Int) := by omega
          clear hn hst hq0 hy
          go_wp2_with (fail)
          go_quiet ((go_at_call 37; exact Calls.quiet_of_same (HAT.out _ (hbr.out.drewN _))))
          have hfq2 := hfq.drewN nq
          have hown2 : (wr.drewN nq).ownsRow _ _ _ _ _ _ := hown
          have hb0' : (wr.drewN nq).heap[M]? = _ := hb0
          have hb1' : (wr.drewN nq).heap[M + 1]? = _ := hb1
          have hb2' : (wr.drewN nq).heap[M + 1 + 1]? = _ := hb2
          have hb3' : (wr.drewN nq).heap[M + 1 + 1 + 1]? = _ := hb3
          have hro' : Rd (wr.drewN nq) O no xs := hro
          have hszq' : N ≤ (wr.drewN nq).heap.size := hszq
          generalize wr.drewN nq = w2 at *
          clear hfq hown hb0 hb1 hb2 hb3 hro hbr hcak hszq
          go_wp2_with (at_builtin; refine wpList_append_own _ rfl _ _ 46 rfl N 23 i0 (.int .u32 0) 1 4 Try.underlying46 hi hz0 hz1 hz2 rfl (by decide) _ _ _ rfl (hown2.alloc _) ⟨w2.heap.size, 0, none⟩ 1 1 [.int .u32 (d : Int)] rfl rfl (cell_one_new _ _ _) (by simp [Value.oneCell']) (by unfold maxLen; omega) (by omega) (by simp only [World.size_alloc]; omega) ?_; intro v1 w1 hown1 hgrow hnil; obtain ⟨A1, c1, hv1⟩ := own_form hown1; subst hv1)
          rw [U32_snoc, List.append_assoc] at hown1
          have hnr : ∀ g, (Value.slice R (k + j) cr).ownBlock = some g → N ≤ g := fun g hg => own_base hown2 g hg
          have hf1 := (hfq2.alloc (.cells #[.int .u32 (d : Int)] 23)).grown hgrow (fun g hg => by have := hnr g hg; have := hwN.out; omega)
          have hc0 := grown_old hgrow (heap_alloc_old _ hb0') (fun g hg => by have := hnr g hg; omega)
          have hc1 := grown_old hgrow (heap_alloc_old _ hb1') (fun g hg => by have := hnr g hg; omega)
          have hc2 := grown_old hgrow (heap_alloc_old _ hb2') (fun g hg => by have := hnr g hg; omega)
          have hc3 := grown_old hgrow (heap_alloc_old _ hb3') (fun g hg => by have := hnr g hg; omega)
          have hro1 : Rd w1 O no xs := (hro'.fr ((Fr.refl [] w2).alloc (.cells #[.int .u32 (d : Int)] 23))).grown hgrow (fun g off hn e hr => by have := hnr g hr; have := HOB.out g off hn e; omega)
          have hsz1 : N ≤ w1.heap.size := by have := hgrow.size; simp only [World.size_alloc] at this; omega
          clear hown2 hgrow hfq2 hb0' hb1' hb2' hb3' hro' hszq' hnil
          go_wp2_with (fail)
          go_roundg (gk - 1)
          case measure => omega
          case rel => exact ⟨j + 1, q, c1, A1, ds ++ [d], rfl, rfl, by go_num, by omega, by have := HJ.out; omega, hq1, HQ0.out, hown1, by simp [HD.out], hdd.snoc hd1, HST.out, hc0, hc1, hc2, hc3, hro1, hsz1, hf1⟩
        · have hjj : j < nb + 1 := by have := HC.out; omega
          obtain ⟨ga, oa, rfl, hga, hca⟩ := (ha.fr hfq).2.2 (by omega)
          have hcak := hca k hlt
          clear hca
          rw [HXX.out] at hcak
          obtain ⟨y, hy⟩ : ∃ y, b.getD j 0 = y := ⟨_, rfl⟩
          have hyb := hdb.getD j
          rw [hy] at hyb
          have hp0 : 0 ≤ (x : Int) * (y : Int) := by rw [← Int.natCast_mul]; omega
          have hp1 : (x : Int) * (y : Int) ≤ 4294836225 := by
            have := Nat.mul_le_mul (show x ≤ 65535 by omega) (show y ≤ 65535 by omega)
            rw [← Int.natCast_mul]; omega
          obtain ⟨n, hn⟩ : ∃ n, n = x * y + c := ⟨_, rfl⟩
          have e1 : (x : Int) * (y : Int) + (c : Int) = (n : Int) := by rw [hn, Int.natCast_add, Int.natCast_mul]
          have hnb2 : n < 4294967296 := by rw [hn]; exact prod16 hda' hyb hcb
          have hst := times_step (vb := vd b (j + 1)) (T := x * val b) HD.out hn (by have := HV2.out; rw [vd_step b j, hy] at this; exact this)
          obtain ⟨d, n2⟩ : ∃ d : Nat, (n : Int) % 65536 = (d : Int) := ⟨n % 65536, by omega⟩
          obtain ⟨q, n3⟩ : ∃ q : Nat, (n : Int) / 65536 = (q : Int) := ⟨n / 65536, by omega⟩
          have hd1 : d < 65536 := by omega
          have hq1 : q < 65536 := by omega
          rw [show n % 65536 = d by omega, show n / 65536 = q by omega] at hst
          have hq0 : nb + 1 ≤ j + 1 → q = 0 := fun h => by
            have e0 : b.getD j 0 = 0 := by rw [List.getD_eq_getElem?_getD, List.getElem?_eq_none (by have := HLB.out; omega)]; rfl
            have : y = 0 := by rw [← hy]; exact e0
            subst this
            rw [Nat.mul_zero] at hn
            omega
          have HQ0 := Lib.hid hq0
          have HST := Lib.hid hst
          have HAT : Hid (∀ W : World, Rd W B nb b → Calls Try.prog 37 #[.slice B nb cb, .int .i64 j] W fun e w' => e = .returned (.int .u32 (y : Nat)) ∧ w' = W) := fun W hW => by rw [← hy]; exact at_q B nb cb j b W hW
          have hbr := Lib.hid (hb.fr hfq)
          have i1 : (0 : Int) ≤ (k : Int) := by omega
          have i2 : (k : Int) < (na : Int) := by omega
          clear hn hst hq0 hy
          go_wp2_with (fail)
          go_quiet ((go_at_call 37; exact Calls.quiet_of_same (HAT.out _ (hbr.out.drewN _))))
          have hfq2 := hfq.drewN nq
          have hown2 : (wr.drewN nq).ownsRow _ _ _ _ _ _ := hown
          have hb0' : (wr.drewN nq).heap[M]? = _ := hb0
          have hb1' : (wr.drewN nq).heap[M + 1]? = _ := hb1
          have hb2' : (wr.drewN nq).heap[M + 1 + 1]? = _ := hb2
          have hb3' : (wr.drewN nq).heap[M + 1 + 1 + 1]? = _ := hb3
          have hro' : Rd (wr.drewN nq) O no xs := hro
          have hszq' : N ≤ (wr.drewN nq).heap.size := hszq
          generalize wr.drewN nq = w2 at *
          clear hfq hown hb0 hb1 hb2 hb3 hro hbr hcak hszq
          go_wp2_with (at_builtin; refine wpList_append_own _ rfl _ _ 46 rfl N 23 i0 (.int .u32 0) 1 4 Try.underlying46 hi hz0 hz1 hz2 rfl (by decide) _ _ _ rfl (hown2.alloc _) ⟨w2.heap.size, 0, none⟩ 1 1 [.int .u32 (d : Int)] rfl rfl (cell_one_new _ _ _) (by simp [Value.oneCell']) (by unfold maxLen; omega) (by omega) (by simp only [World.size_alloc]; omega) ?_; intro v1 w1 hown1 hgrow hnil; obtain ⟨A1, c1, hv1⟩ := own_form hown1; subst hv1)
          rw [U32_snoc, List.append_assoc] at hown1
          have hnr : ∀ g, (Value.slice R (k + j) cr).ownBlock = some g → N ≤ g := fun g hg => own_base hown2 g hg
          have hf1 := (hfq2.alloc (.cells #[.int .u32 (d : Int)] 23)).grown hgrow (fun g hg => by have := hnr g hg; have := hwN.out; omega)
          have hc0 := grown_old hgrow (heap_alloc_old _ hb0') (fun g hg => by have := hnr g hg; omega)
          have hc1 := grown_old hgrow (heap_alloc_old _ hb1') (fun g hg => by have := hnr g hg; omega)
          have hc2 := grown_old hgrow (heap_alloc_old _ hb2') (fun g hg => by have := hnr g hg; omega)
          have hc3 := grown_old hgrow (heap_alloc_old _ hb3') (fun g hg => by have := hnr g hg; omega)
          have hro1 : Rd w1 O no xs := (hro'.fr ((Fr.refl [] w2).alloc (.cells #[.int .u32 (d : Int)] 23))).grown hgrow (fun g off hn e hr => by have := hnr g hr; have := HOB.out g off hn e; omega)
          have hsz1 : N ≤ w1.heap.size := by have := hgrow.size; simp only [World.size_alloc] at this; omega
          clear hown2 hgrow hfq2 hb0' hb1' hb2' hb3' hro' hszq' hnil
          go_wp2_with (fail)
          go_roundg (gk - 1)
          case measure => omega
          case rel => exact ⟨j + 1, q, c1, A1, ds ++ [d], rfl, rfl, by go_num, by omega, by have := HJ.out; omega, hq1, HQ0.out, hown1, by simp [HD.out], hdd.snoc hd1, HST.out, hc0, hc1, hc2, hc3, hro1, hsz1, hf1⟩
        · subst h2
          obtain ⟨A1, c1, e1, hrow⟩ := own_rd hown (by omega)
          cases e1
          have hdr : Dg (List.replicate k 0 ++ ds) := (Dg.zeros k).app hdd
          have hvr : val (List.replicate k 0 ++ ds) = 65536 ^ k * (a.getD k 0 * val b) := by
            have h3 := HV2.out
            rw [vd_end (by have := HLB.out; omega)] at h3
            rw [val_zeros, HXX.out, ← h3]
            simp
          have HVR := Lib.hid (outer_step hvr HV.out)
          have HVS := Lib.hid hvr
          clear hvr
          go_wp2_with (fail)
          refine (plus_sl O R no co (k + j) cr xs (List.replicate k 0 ++ ds) _ hro hrow hdx hdr (by omega) (by omega)).mono ?_
          rintro e w3 ⟨C, n, cc, r, rfl, hrr, hnc3, hcm3, hdr3, hvr3, hnr3, hf3⟩
          have hc0 := hf3.heap hb0 (by simp)
          have hc1 := hf3.heap hb1 (by simp)
          have hc2 := hf3.heap hb2 (by simp)
          have hc3 := hf3.heap hb3 (by simp)
          clear hb0 hb1 hb2 hb3
          have HV3 := Lib.hid hvr3
          clear hvr3
          go_wp2_with (fail)
          go_roundg (na - (k + 1))
          case measure => have := HG.out; omega
          case rel =>
            exact ⟨k + 1, n, cc, C, r, by omega, by go_num, heap_set_ne hc0 (by omega) _, heap_set_ne hc1 (by omega) _, heap_set_ne hc2 (by omega) _, (heap_set hc3 _).trans (by simp), hrr.fr3 hc3 ((Fr.refl [_] w3).setCell (.inl (by simp)) _), hnc3, hcm3, hdr3, by rw [HV3.out]; exact HVR.out, by omega, by rw [World.size_setCell]; have := hf3.size; omega, (hfq.then0 hf3).setNew (by have := HM.out; omega) _⟩
end Go.Proofs.Ytigifoinejbnnaa
