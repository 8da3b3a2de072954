/-
  PROVED HERE: Over of the reference's rows of digits: the quotient, by shift and subtract.
-/
import Derived.Test.YtigifoinejbnnaaB8
import Derived.Laws.AppendOwnNone
namespace Go.Proofs.Ytigifoinejbnnaa
set_option linter.unusedVariables false
set_option linter.unusedSimpArgs false
open Go.RowKit
attribute [local go_sem 10] cellOf frozenOf
attribute [local go_sem] heap_drew heap_drewN

theorem bit_step {V0 x D vr vb m : Nat} (hm : m < 16) (h : D * vb + vr = V0 * 2 ^ (16 - (m + 1)) + x / 2 ^ (m + 1)) : 2 * D * vb + (2 * vr + x / 2 ^ m % 2) = V0 * 2 ^ (16 - m) + x / 2 ^ m := by
  rw [show 16 - m = (16 - (m + 1)) + 1 by omega, Nat.pow_succ 2 (16 - (m + 1)), ← Nat.mul_assoc, Nat.mul_comm _ 2, Nat.mul_assoc 2 D vb]
  rw [Nat.pow_succ 2 m, ← Nat.div_div_eq_div_mul] at h
  generalize D * vb = u at *
  generalize V0 * 2 ^ (16 - (m + 1)) = z at *
  generalize x / 2 ^ m = y at *
  omega
theorem bit_int {x m y : Nat} (h : x / 2 ^ m % 2 = y) : ((x : Int) / 2 ^ m).tmod 2 = (y : Int) := by
  have h1 : (x : Int) / 2 ^ m = ((x / 2 ^ m : Nat) : Int) := by rw [Int.natCast_ediv, Int.natCast_pow]; rfl
  rw [h1]
  clear h1
  generalize x / 2 ^ m = z at *
  rw [Int.tmod_eq_emod_of_nonneg (Int.natCast_nonneg _)]
  omega
theorem bit_more {D m : Nat} (hm : m < 16) (h : D < 2 ^ (16 - (m + 1))) : 2 * D + 1 < 2 ^ (16 - m) := by
  rw [show 16 - m = (16 - (m + 1)) + 1 by omega, Nat.pow_succ 2 (16 - (m + 1))]
  omega
theorem bit_top {D m : Nat} (h : D < 2 ^ (16 - (m + 1))) : D < 32768 := by
  refine Nat.lt_of_lt_of_le h ?_
  exact Nat.le_trans (Nat.pow_le_pow_right (by omega) (show 16 - (m + 1) ≤ 15 by omega)) (by decide)
theorem sub_step {D vb z T : Nat} (h : 2 * D * vb + z = T) (hz : vb ≤ z) : (2 * D + 1) * vb + (z - vb) = T := by
  rw [Nat.add_mul, Nat.one_mul, ← h]
  generalize 2 * D * vb = u
  omega
theorem sub_big {D2 vb z T : Nat} (h : D2 * vb + z = T) (hz : vb ≤ z) : (D2 + 1) * vb + (z - vb) = T := by
  rw [Nat.add_mul, Nat.one_mul, ← h]
  generalize D2 * vb = u
  omega
theorem quo_step {q : List Nat} {d v0 vr vb va x : Nat} (h0 : val q * vb + v0 = va) (h : d * vb + vr = v0 * 65536 + x) : val (d :: q) * vb + vr = x + 65536 * va := by
  rw [val, ← h0, Nat.add_mul, Nat.mul_assoc, Nat.mul_add]
  generalize val q * vb = u at *
  generalize d * vb = v at *
  omega
theorem short_of {r b : List Nat} (hb : Dg b) (hr : Trim r) (h : val r < val b) : r.length ≤ b.length := by
  rcases Nat.lt_or_ge b.length r.length with h1 | h1
  · have := less_len hb hr h1; omega
  · exact h1
theorem own_form0 {w : World} {base n : Nat} {e : TypeId} {size : Nat} {v : Value} {xs : List Value} (h : w.ownsRow base e size v n xs) (hn : 0 < n) : ∃ g c, v = .slice (some ⟨g, 0, none⟩) n c := by
  rcases h.2 with ⟨_, h0⟩ | ⟨g, cap, _, hv, _⟩
  · omega
  · exact ⟨g, cap, hv⟩
theorem own_one (w : World) (x : Nat) : (w.alloc (.cells #[.int .u32 (x : Int)] 23)).ownsRow w.heap.size 23 1 (.slice (some ⟨w.heap.size, 0, none⟩) 1 1) 1 (U32 [x]) :=
  ⟨rfl, .inr ⟨w.heap.size, 1, _, rfl, Nat.le_refl _, heap_alloc_new w _, Nat.le_refl _, by decide, rfl, rfl⟩⟩
theorem Rd.one (w : World) (x : Nat) : Rd (w.alloc (.cells #[.int .u32 (x : Int)] 23)) (some ⟨w.heap.size, 0, none⟩) 1 [x] := by
  obtain ⟨A, c, e, h⟩ := own_rd (own_one w x) (by omega)
  cases e
  exact h

theorem Rd.news {w : World} {g n : Nat} {l : List Nat} (h : Rd w (some ⟨g, 0, none⟩) n l) : ∀ j u, (U32 l)[j]? = some u → w.cell? ((⟨g, 0, none⟩ : Addr).add j) = some u := by
  intro j u hj
  have hjl : j < n := by
    rcases Nat.lt_or_ge j n with h1 | h1
    · exact h1
    · rw [List.getElem?_eq_none (by rw [U32, List.length_map, h.1]; exact h1)] at hj; cases hj
  obtain ⟨g', off, e, hg, hc⟩ := h.2.2 (by omega)
  cases e
  have h2 := hc j hjl
  rw [U32, List.getElem?_map, List.getElem?_eq_getElem (by rw [h.1]; exact hjl)] at hj
  rw [List.getD_eq_getElem?_getD, List.getElem?_eq_getElem (by rw [h.1]; exact hjl)] at h2
  simp only [Option.map_some, Option.some.injEq] at hj
  rw [← hj]
  rcases j with _ | j
  · simpa [Addr.add] using h2
  · simpa [Addr.add] using h2
theorem U32_app (a b : List Nat) : U32 a ++ U32 b = U32 (a ++ b) := by simp [U32]

theorem field48 (m : Bool) (A : Option Addr) (n c : Nat) (w : World) : (Instr.field 48 (.agg #[.bool m, .slice A n c]) 1).run Try.prog w = .ok (.slice A n c) w := by kernel_rfl

def Quo (w : World) (v : Nat) (e : Ending) (w' : World) : Prop := ∃ Q nq cq q r, e = .returned (.tuple #[.slice Q nq cq, r]) ∧ Rd w' Q nq q ∧ nq ≤ cq ∧ cq ≤ 9223372036854775807 ∧ Dg q ∧ val q = v ∧ Fr [] w w'

set_option maxHeartbeats 2000000 in
set_option maxRecDepth 20000 in
theorem over_any (A B : Option Addr) (na ca nb cb : Nat) (a b : List Nat) (w : World) (ha : Rd w A na a) (hb : Rd w B nb b) (hda : Dg a) (hdb : Dg b) (htb : Trim b) (hvb : 0 < val b) (hna : na ≤ 1000) (hnb : nb ≤ 1000) :
    Calls Try.prog 27 #[.slice A na ca, .slice B nb cb] w (Quo w (val a / val b)) := by
  obtain ⟨i0, hi, hz0, hz1, hz2⟩ := info_parts info23
  have HLA := Lib.hid ha.1
  have HLB := Lib.hid hb.1
  have hfd := field48
  go_enter Try.func27, Try.ntmps27
  go_wp2_with (fail)
  go_loopg [6, 7, 8] na (fun g quot rest i wr => ∃ (ii : Int) (Q R : Option Addr) (nq cq nr cr : Nat) (q r : List Nat), ii = (g : Int) - 1 ∧ g ≤ na ∧ i = .int .i64 ii ∧ quot = .slice Q nq cq ∧ rest = .slice R nr cr ∧ (Q = none ∧ nq = 0 ∧ cq = 0 ∨ ∃ gq, Q = some ⟨gq, 0, none⟩) ∧ nq ≤ cq ∧ cq ≤ 9223372036854775807 ∧ Rd wr Q nq q ∧ Rd wr R nr r ∧ Dg q ∧ Dg r ∧ Trim r ∧ val r < val b ∧ val q * val b + val r = vd a g ∧ nq ≤ na ∧ nq + g = na ∧ Fr [] w wr)
  case atStart => exact ⟨_, none, none, 0, 0, 0, 0, [], [], rfl, Nat.le_refl _, rfl, rfl, rfl, .inl ⟨rfl, rfl, rfl⟩, by omega, by omega, Rd.nil _ _, Rd.nil _ _, Dg.nil, Dg.nil, fun k hk => by simp at hk, by simpa [val] using hvb, by rw [vd_end (by have := HLA.out; omega)]; simp [val], by omega, by omega, Fr.refl [] w⟩
  case round =>
    obtain ⟨ii, Q, R, nq, cq, nr, cr, q, r, hii, hgn, rfl, rfl, rfl, hQ, hqc, hqm, hrq, hrr, hdq, hdr, htr, hlt, hval, hnq, hng, hf⟩ := hrel
    have HV := Lib.hid hval
    have HQ := Lib.hid hQ
    have HT := Lib.hid htr
    clear hval hQ htr
    rcases gk with _ | m
    · have hi1 : ii = -1 := by omega
      subst hi1
      clear hii
      go_wp2_with (fail)
      refine (trim_any false Q nq cq q _ hrq hqc hqm).mono ?_
      rintro e w2 ⟨m', D, n', c', r', rfl, hr', hnc', hcm', ⟨hv', ht', hl', hmem, hm⟩, hf2⟩
      have HM := Lib.hid hmem
      have HW := Lib.hid hv'
      clear hmem hv' hm
      go_wp2_with (fail)
      go_ret2
      refine ⟨D, n', c', r', _, rfl, hr', hnc', hcm', fun x hx => hdq x (HM.out x hx), ?_, hf.then0 hf2⟩
      have h3 := HV.out
      rw [HW.out, ← vd_zero a, ← h3, Nat.mul_comm, Nat.mul_add_div hvb, Nat.div_eq_of_lt hlt, Nat.add_zero]
    · have hi1 : ii = (m : Int) := by omega
      subst hi1
      clear hii
      generalize hN : wr.heap.size = N at *
      obtain ⟨x, hx⟩ : ∃ x, a.getD m 0 = x := ⟨_, rfl⟩
      have hxb := hda.getD m
      rw [hx] at hxb
      have HXX := Lib.hid hx
      clear hx
      obtain ⟨V0, hV0⟩ : ∃ V0, val r = V0 := ⟨_, rfl⟩
      have HV0 := Lib.hid hV0
      have i1 : (0 : Int) ≤ (m : Int) := by omega
      have i2 : (m : Int) < (na : Int) := by omega
      go_wp2_with (fail)
      go_loopg [7, 9, 10] 16 (fun g rest digit bit wr => ∃ (ib : Int) (R : Option Addr) (nr cr D : Nat) (r : List Nat), ib = (g : Int) - 1 ∧ g ≤ 16 ∧ rest = .slice R nr cr ∧ digit = .int .u32 D ∧ bit = .int .i64 ib ∧ Rd wr R nr r ∧ Dg r ∧ Trim r ∧ val r < val b ∧ D < 2 ^ (16 - g) ∧ D * val b + val r = V0 * 2 ^ (16 - g) + x / 2 ^ g ∧ Rd wr Q nq q ∧ N ≤ wr.heap.size ∧ Fr [] w wr)
      case atStart => exact ⟨15, R, nr, cr, 0, r, rfl, by omega, rfl, rfl, rfl, hrr, hdr, HT.out, hlt, by decide, by rw [HV0.out, Nat.zero_mul, Nat.zero_add, Nat.sub_self, Nat.pow_zero, Nat.mul_one, Nat.div_eq_of_lt hxb, Nat.add_zero], hrq, by omega, hf⟩
      case round =>
        clear hrr hdr hlt hrq hf
        obtain ⟨ib, R2, nr, cr, D, r, hib, hg16, rfl, rfl, rfl, hrr, hdr, htr, hlt, hD, hval, hrq, hsz, hf⟩ := hrel
        have HVI := Lib.hid hval
        have HDI := Lib.hid hD
        have HTI := Lib.hid htr
        clear hval hD htr
        rcases gk with _ | m2
        · have hi1 : ib = -1 := by omega
          subst hi1
          clear hib
          have hD16 : D < 65536 := HDI.out
          have hqs : D * val b + val r = V0 * 65536 + x := by have := HVI.out; rwa [Nat.pow_zero, Nat.div_one] at this
          have hv1 := HV.out
          rw [HV0.out] at hv1
          have HQS := Lib.hid (show val ([D] ++ q) * val b + val r = vd a m from by rw [vd_step a m, HXX.out]; exact quo_step hv1 hqs)
          have hDd : Dg ([D] ++ q) := Dg.app (fun y hy => by rw [List.mem_singleton.1 hy]; exact hD16) hdq
          clear hqs hv1
          rcases HQ.out with ⟨rfl, rfl, rfl⟩ | ⟨gq, rfl⟩
          · clear HQ
            obtain rfl : q = [] := List.eq_nil_of_length_eq_zero hrq.1
            go_wp2_with (at_builtin; (refine wpList_append_own_none rfl _ _ 46 rfl wr.heap.size 23 i0 1 Try.underlying46 hi _ 1 (U32 [D]) rfl (own_one wr D) rfl ?_))
            have hown1 := own_one wr D
            have hrd1 := Rd.one wr D
            have hf1 := (hf.alloc (.cells #[.int .u32 (D : Int)] 23))
            have hr1 := hrr.fr ((Fr.refl [] wr).alloc (.cells #[.int .u32 (D : Int)] 23))
            go_wp2_with (fail)
            go_roundg m
            case measure => omega
            case rel => exact ⟨_, _, R2, 1, 1, nr, cr, [D] ++ [], r, rfl, by omega, by go_num, rfl, rfl, .inr ⟨_, rfl⟩, own_cap hown1, own_max hown1, hrd1, hr1, hDd, hdr, HTI.out, hlt, HQS.out, by omega, by omega, hf1⟩
          · clear HQ
            go_wp2_with (at_builtin; (refine wpList_append_own _ rfl _ _ 46 rfl wr.heap.size 23 i0 (.int .u32 0) 1 4 Try.underlying46 hi hz0 hz1 hz2 rfl (by decide) _ 1 (U32 [D]) rfl (own_one wr D) ⟨gq, 0, none⟩ nq cq (U32 q) rfl (by rw [U32, List.length_map, hrq.1, Nat.mul_one]) ((hrq.fr ((Fr.refl [] wr).alloc (.cells #[.int .u32 (D : Int)] 23))).news) (by simp [U32, Value.oneCell']) (by unfold maxLen; omega) (by omega) (by simp only [World.size_alloc]; omega) ?_); intro v1 w1 hown1 hgrow hnil; obtain ⟨g1, c1, hv1⟩ := own_form0 hown1 (by omega); subst hv1)
            rw [U32_app] at hown1
            obtain ⟨A1, c2, e1, hrd1⟩ := own_rd hown1 (by omega)
            cases e1
            have hf1 := (hf.alloc (.cells #[.int .u32 (D : Int)] 23)).grown hgrow (fun g hg => by cases hg; exact hf.size)
            have hr1 := (hrr.fr ((Fr.refl [] wr).alloc (.cells #[.int .u32 (D : Int)] 23))).grown hgrow (fun g off hn e hr => by cases hr; obtain ⟨g', off', e', hg', _⟩ := hrr.2.2 hn; rw [e] at e'; cases e'; exact Nat.lt_irrefl _ hg')
            clear hgrow hnil
            go_wp2_with (fail)
            go_roundg m
            case measure => omega
            case rel => exact ⟨_, _, R2, 1 + nq, c1, nr, cr, [D] ++ q, r, rfl, by omega, by go_num, rfl, rfl, .inr ⟨g1, rfl⟩, own_cap hown1, own_max hown1, hrd1, hr1, hDd, hdr, HTI.out, hlt, HQS.out, by omega, by omega, hf1⟩
        · have hi1 : ib = (m2 : Int) := by omega
          subst hi1
          clear hib
          have hm16 : m2 < 16 := by omega
          have hnr : nr ≤ nb := by rw [← hrr.1, ← HLB.out]; exact short_of hdb HTI.out hlt
          have hD15 : D < 32768 := bit_top HDI.out
          obtain ⟨D2, hD2⟩ : ∃ D2 : Nat, D2 = 2 * D := ⟨_, rfl⟩
          have d1 : (D : Int) * 2 = (D2 : Int) := by omega
          have hD2b : D2 ≤ 65534 := by omega
          have hmn : m < na := by omega
          obtain ⟨y, hy⟩ : ∃ y, x / 2 ^ m2 % 2 = y := ⟨_, rfl⟩
          have hst := bit_step hm16 HVI.out
          rw [hy, ← hD2] at hst
          have hmore := bit_more hm16 HDI.out
          rw [← hD2] at hmore
          have HMO := Lib.hid hmore
          have HST := Lib.hid hst
          have hyb : y = 0 ∨ y = 1 := by omega
          clear hst hmore hD2
          have hlb : (2 * val r + y < val b) ∨ val b ≤ 2 * val r + y := by omega
          rcases hyb with rfl | rfl <;> rcases hlb with hl | hl
          · -- bit 0, less 1
            have tb : ((x : Int) / 2 ^ m2).tmod 2 = 0 := bit_int hy
            go_wp2_with (fail)
            refine (plus_sl R2 R2 nr cr nr cr r r _ hrr hrr hdr hdr (by omega) (by omega)).mono ?_
            rintro e w1 ⟨C1, n1, c1, r1, rfl, hr1, hc1, hm1, hd1, hv1, hn1, hf1⟩
            have HV1 := Lib.hid hv1
            clear hv1
            have hF1 := hf.then0 hf1
            obtain ⟨ga, oa, rfl, hga, hca⟩ := (ha.fr hF1).2.2 (by omega)
            have hcak := hca m hmn
            clear hca
            rw [HXX.out] at hcak
            go_wp2_with (fail)
            have HV2 := Lib.hid (show val r1 = 2 * val r + 0 from by rw [HV1.out]; omega)
            have hF2 := hF1
            have hn2' : n1 ≤ nr + 2 := by omega
            have hr2 := hr1
            have hc2 := hc1
            have hm2 := hm1
            have hd2 := hd1
            refine (trim_any false C1 n1 c1 r1 _ hr2 hc2 hm2).mono ?_
            rintro e w3 ⟨m', C3, n3, c3, r3, rfl, hr3, hc3, hm3, ⟨hv3, ht3, hl3, hmem, hm'⟩, hf3⟩
            have hd3 : Dg r3 := fun y hy => hd2 y (hmem y hy)
            have HV3 := Lib.hid (hv3.trans HV2.out)
            have HT3 := Lib.hid ht3
            have hn3 : n3 ≤ nr + 2 := by have := hr3.1; omega
            have hF3 := hF2.then0 hf3
            clear hv3 ht3 hmem hm'
            go_wp2_with (fail)
            refine (less_any C3 B n3 c3 nb cb r3 b _ hr3 (hb.fr hF3) hd3 hdb HT3.out htb).mono ?_
            rintro e w4 ⟨rfl, hf4⟩
            have hlt4 : decide (val r3 < val b) = true := decide_eq_true (by rw [HV3.out]; exact hl)
            rw [hlt4]
            have hF4 := hF3.then0 hf4
            have hr4 := hr3.fr hf4
            go_wp2_with (fail)
            go_roundg m2
            case measure => omega
            case rel => exact ⟨_, C3, n3, c3, D2, r3, rfl, by omega, rfl, rfl, by go_num, hr4, hd3, HT3.out, by rw [HV3.out]; exact hl, Nat.lt_of_succ_lt HMO.out, by rw [HV3.out]; exact HST.out, hrq.fr ((hf1.then0 hf3).then0 hf4), (Nat.le_trans hsz ((hf1.then0 hf3).then0 hf4).size), hF4⟩
          · -- bit 0, less 0
            have tb : ((x : Int) / 2 ^ m2).tmod 2 = 0 := bit_int hy
            go_wp2_with (fail)
            refine (plus_sl R2 R2 nr cr nr cr r r _ hrr hrr hdr hdr (by omega) (by omega)).mono ?_
            rintro e w1 ⟨C1, n1, c1, r1, rfl, hr1, hc1, hm1, hd1, hv1, hn1, hf1⟩
            have HV1 := Lib.hid hv1
            clear hv1
            have hF1 := hf.then0 hf1
            obtain ⟨ga, oa, rfl, hga, hca⟩ := (ha.fr hF1).2.2 (by omega)
            have hcak := hca m hmn
            clear hca
            rw [HXX.out] at hcak
            go_wp2_with (fail)
            have HV2 := Lib.hid (show val r1 = 2 * val r + 0 from by rw [HV1.out]; omega)
            have hF2 := hF1
            have hn2' : n1 ≤ nr + 2 := by omega
            have hr2 := hr1
            have hc2 := hc1
            have hm2 := hm1
            have hd2 := hd1
            refine (trim_any false C1 n1 c1 r1 _ hr2 hc2 hm2).mono ?_
            rintro e w3 ⟨m', C3, n3, c3, r3, rfl, hr3, hc3, hm3, ⟨hv3, ht3, hl3, hmem, hm'⟩, hf3⟩
            have hd3 : Dg r3 := fun y hy => hd2 y (hmem y hy)
            have HV3 := Lib.hid (hv3.trans HV2.out)
            have HT3 := Lib.hid ht3
            have hn3 : n3 ≤ nr + 2 := by have := hr3.1; omega
            have hF3 := hF2.then0 hf3
            clear hv3 ht3 hmem hm'
            go_wp2_with (fail)
            refine (less_any C3 B n3 c3 nb cb r3 b _ hr3 (hb.fr hF3) hd3 hdb HT3.out htb).mono ?_
            rintro e w4 ⟨rfl, hf4⟩
            have hlt4 : decide (val r3 < val b) = false := decide_eq_false (by rw [HV3.out]; omega)
            rw [hlt4]
            have hF4 := hF3.then0 hf4
            have hr4 := hr3.fr hf4
            go_wp2_with (fail)
            have hlong : nb ≤ n3 := by
              have h1 := hr4.1
              have h2 := HLB.out
              have h3 := HV3.out
              rcases Nat.lt_or_ge r3.length b.length with h4 | h4
              · have := less_len hd3 htb h4; omega
              · omega
            refine (minus_any C3 B n3 c3 nb cb r3 b _ hr4 (hb.fr hF4) hd3 hdb hlong (by rw [HV3.out]; exact hl) (by omega)).mono ?_
            rintro e w5 ⟨v5, r5, rfl, hown5, hd5, ⟨hv5, hl5⟩, hf5⟩
            obtain ⟨C5, c5, rfl, hr5⟩ := own_rd hown5 (by omega)
            have HV5 := Lib.hid hv5
            have HL5 := Lib.hid hl5
            clear hv5 hl5
            have hF5 := hF4.then0 hf5
            have hc5 := own_cap hown5
            have hm5 := own_max hown5
            go_wp2_with (fail)
            refine (trim_any false C5 r5.length c5 r5 _ hr5 hc5 hm5).mono ?_
            rintro e w6 ⟨m', C6, n6, c6, r6, rfl, hr6, hc6, hm6, ⟨hv6, ht6, hl6, hmem, hm'⟩, hf6⟩
            have hd6 : Dg r6 := fun y hy => hd5 y (hmem y hy)
            have HV6 := Lib.hid (show val r6 = 2 * val r + 0 - val b from by rw [hv6, HV5.out, HV3.out])
            have HT6 := Lib.hid ht6
            have hF6 := hF5.then0 hf6
            obtain ⟨D3, hD3⟩ : ∃ D3 : Nat, D3 = D2 + 1 := ⟨_, rfl⟩
            have d2 : (D2 : Int) + 1 = (D3 : Int) := by omega
            have hD3b : D3 ≤ 65535 := by omega
            have HDM : Hid (D3 < 2 ^ (16 - m2)) := Lib.hid (by rw [hD3]; exact HMO.out)
            have HSB := Lib.hid (sub_big HST.out hl)
            rw [← hD3] at HSB
            clear hD3
            clear hv6 ht6 hmem hm'
            go_wp2_with (fail)
            go_roundg m2
            case measure => omega
            case rel => exact ⟨_, C6, n6, c6, D3, r6, rfl, by omega, rfl, rfl, by go_num, hr6, hd6, HT6.out, by rw [HV6.out]; omega, HDM.out, by rw [HV6.out]; exact HSB.out, hrq.fr ((((hf1.then0 hf3).then0 hf4).then0 hf5).then0 hf6), (Nat.le_trans hsz ((((hf1.then0 hf3).then0 hf4).then0 hf5).then0 hf6).size), hF6⟩
          · -- bit 1, less 1
            have tb : ((x : Int) / 2 ^ m2).tmod 2 = 1 := bit_int hy
            go_wp2_with (fail)
            refine (plus_sl R2 R2 nr cr nr cr r r _ hrr hrr hdr hdr (by omega) (by omega)).mono ?_
            rintro e w1 ⟨C1, n1, c1, r1, rfl, hr1, hc1, hm1, hd1, hv1, hn1, hf1⟩
            have HV1 := Lib.hid hv1
            clear hv1
            have hF1 := hf.then0 hf1
            obtain ⟨ga, oa, rfl, hga, hca⟩ := (ha.fr hF1).2.2 (by omega)
            have hcak := hca m hmn
            clear hca
            rw [HXX.out] at hcak
            go_wp2_with (fail)
            have hal := (Fr.refl [] w1).alloc (.cells #[.int .u32 ((1 : Nat) : Int)] 23)
            refine (plus_sl C1 (some ⟨w1.heap.size, 0, none⟩) n1 c1 1 1 r1 [1] _ (hr1.fr hal) (Rd.one w1 1) hd1 (fun y hy => by rw [List.mem_singleton.1 hy]; decide) (by omega) (by omega)).mono ?_
            rintro e w2 ⟨C2, n2, c2, r2, rfl, hr2, hc2, hm2, hd2, hv2, hn2, hf2⟩
            have HV2 := Lib.hid (show val r2 = 2 * val r + 1 from by rw [hv2, HV1.out]; simp [val]; omega)
            have hF2 := (hF1.alloc (.cells #[.int .u32 ((1 : Nat) : Int)] 23)).then0 hf2
            have hn2' : n2 ≤ nr + 2 := by omega
            clear hv2
            go_wp2_with (fail)
            refine (trim_any false C2 n2 c2 r2 _ hr2 hc2 hm2).mono ?_
            rintro e w3 ⟨m', C3, n3, c3, r3, rfl, hr3, hc3, hm3, ⟨hv3, ht3, hl3, hmem, hm'⟩, hf3⟩
            have hd3 : Dg r3 := fun y hy => hd2 y (hmem y hy)
            have HV3 := Lib.hid (hv3.trans HV2.out)
            have HT3 := Lib.hid ht3
            have hn3 : n3 ≤ nr + 2 := by have := hr3.1; omega
            have hF3 := hF2.then0 hf3
            clear hv3 ht3 hmem hm'
            go_wp2_with (fail)
            refine (less_any C3 B n3 c3 nb cb r3 b _ hr3 (hb.fr hF3) hd3 hdb HT3.out htb).mono ?_
            rintro e w4 ⟨rfl, hf4⟩
            have hlt4 : decide (val r3 < val b) = true := decide_eq_true (by rw [HV3.out]; exact hl)
            rw [hlt4]
            have hF4 := hF3.then0 hf4
            have hr4 := hr3.fr hf4
            go_wp2_with (fail)
            go_roundg m2
            case measure => omega
            case rel => exact ⟨_, C3, n3, c3, D2, r3, rfl, by omega, rfl, rfl, by go_num, hr4, hd3, HT3.out, by rw [HV3.out]; exact hl, Nat.lt_of_succ_lt HMO.out, by rw [HV3.out]; exact HST.out, hrq.fr (((((hf1).alloc (.cells #[.int .u32 ((1 : Nat) : Int)] 23)).then0 hf2).then0 hf3).then0 hf4), (Nat.le_trans hsz (((((hf1).alloc (.cells #[.int .u32 ((1 : Nat) : Int)] 23)).then0 hf2).then0 hf3).then0 hf4).size), hF4⟩
          · -- bit 1, less 0
            have tb : ((x : Int) / 2 ^ m2).tmod 2 = 1 := bit_int hy
            go_wp2_with (fail)
            refine (plus_sl R2 R2 nr cr nr cr r r _ hrr hrr hdr hdr (by omega) (by omega)).mono ?_
            rintro e w1 ⟨C1, n1, c1, r1, rfl, hr1, hc1, hm1, hd1, hv1, hn1, hf1⟩
            have HV1 := Lib.hid hv1
            clear hv1
            have hF1 := hf.then0 hf1
            obtain ⟨ga, oa, rfl, hga, hca⟩ := (ha.fr hF1).2.2 (by omega)
            have hcak := hca m hmn
            clear hca
            rw [HXX.out] at hcak
            go_wp2_with (fail)
            have hal := (Fr.refl [] w1).alloc (.cells #[.int .u32 ((1 : Nat) : Int)] 23)
            refine (plus_sl C1 (some ⟨w1.heap.size, 0, none⟩) n1 c1 1 1 r1 [1] _ (hr1.fr hal) (Rd.one w1 1) hd1 (fun y hy => by rw [List.mem_singleton.1 hy]; decide) (by omega) (by omega)).mono ?_
            rintro e w2 ⟨C2, n2, c2, r2, rfl, hr2, hc2, hm2, hd2, hv2, hn2, hf2⟩
            have HV2 := Lib.hid (show val r2 = 2 * val r + 1 from by rw [hv2, HV1.out]; simp [val]; omega)
            have hF2 := (hF1.alloc (.cells #[.int .u32 ((1 : Nat) : Int)] 23)).then0 hf2
            have hn2' : n2 ≤ nr + 2 := by omega
            clear hv2
            go_wp2_with (fail)
            refine (trim_any false C2 n2 c2 r2 _ hr2 hc2 hm2).mono ?_
            rintro e w3 ⟨m', C3, n3, c3, r3, rfl, hr3, hc3, hm3, ⟨hv3, ht3, hl3, hmem, hm'⟩, hf3⟩
            have hd3 : Dg r3 := fun y hy => hd2 y (hmem y hy)
            have HV3 := Lib.hid (hv3.trans HV2.out)
            have HT3 := Lib.hid ht3
            have hn3 : n3 ≤ nr + 2 := by have := hr3.1; omega
            have hF3 := hF2.then0 hf3
            clear hv3 ht3 hmem hm'
            go_wp2_with (fail)
            refine (less_any C3 B n3 c3 nb cb r3 b _ hr3 (hb.fr hF3) hd3 hdb HT3.out htb).mono ?_
            rintro e w4 ⟨rfl, hf4⟩
            have hlt4 : decide (val r3 < val b) = false := decide_eq_false (by rw [HV3.out]; omega)
            rw [hlt4]
            have hF4 := hF3.then0 hf4
            have hr4 := hr3.fr hf4
            go_wp2_with (fail)
            have hlong : nb ≤ n3 := by
              have h1 := hr4.1
              have h2 := HLB.out
              have h3 := HV3.out
              rcases Nat.lt_or_ge r3.length b.length with h4 | h4
              · have := less_len hd3 htb h4; omega
              · omega
            refine (minus_any C3 B n3 c3 nb cb r3 b _ hr4 (hb.fr hF4) hd3 hdb hlong (by rw [HV3.out]; exact hl) (by omega)).mono ?_
            rintro e w5 ⟨v5, r5, rfl, hown5, hd5, ⟨hv5, hl5⟩, hf5⟩
            obtain ⟨C5, c5, rfl, hr5⟩ := own_rd hown5 (by omega)
            have HV5 := Lib.hid hv5
            have HL5 := Lib.hid hl5
            clear hv5 hl5
            have hF5 := hF4.then0 hf5
            have hc5 := own_cap hown5
            have hm5 := own_max hown5
            go_wp2_with (fail)
            refine (trim_any false C5 r5.length c5 r5 _ hr5 hc5 hm5).mono ?_
            rintro e w6 ⟨m', C6, n6, c6, r6, rfl, hr6, hc6, hm6, ⟨hv6, ht6, hl6, hmem, hm'⟩, hf6⟩
            have hd6 : Dg r6 := fun y hy => hd5 y (hmem y hy)
            have HV6 := Lib.hid (show val r6 = 2 * val r + 1 - val b from by rw [hv6, HV5.out, HV3.out])
            have HT6 := Lib.hid ht6
            have hF6 := hF5.then0 hf6
            obtain ⟨D3, hD3⟩ : ∃ D3 : Nat, D3 = D2 + 1 := ⟨_, rfl⟩
            have d2 : (D2 : Int) + 1 = (D3 : Int) := by omega
            have hD3b : D3 ≤ 65535 := by omega
            have HDM : Hid (D3 < 2 ^ (16 - m2)) := Lib.hid (by rw [hD3]; exact HMO.out)
            have HSB := Lib.hid (sub_big HST.out hl)
            rw [← hD3] at HSB
            clear hD3
            clear hv6 ht6 hmem hm'
            go_wp2_with (fail)
            go_roundg m2
            case measure => omega
            case rel => exact ⟨_, C6, n6, c6, D3, r6, rfl, by omega, rfl, rfl, by go_num, hr6, hd6, HT6.out, by rw [HV6.out]; omega, HDM.out, by rw [HV6.out]; exact HSB.out, hrq.fr (((((((hf1).alloc (.cells #[.int .u32 ((1 : Nat) : Int)] 23)).then0 hf2).then0 hf3).then0 hf4).then0 hf5).then0 hf6), (Nat.le_trans hsz (((((((hf1).alloc (.cells #[.int .u32 ((1 : Nat) : Int)] 23)).then0 hf2).then0 hf3).then0 hf4).then0 hf5).then0 hf6).size), hF6⟩
end Go.Proofs.Ytigifoinejbnnaa
