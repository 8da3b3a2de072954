/-
  PROVED HERE: less and Of of the reference's numbers return what their digits come to.
-/
import Derived.Test.YtigifoinejbnnaaB3
namespace Go.Proofs.Ytigifoinejbnnaa
set_option linter.unusedVariables false
set_option linter.unusedSimpArgs false
open Go.RowKit
attribute [local go_sem] cellOf frozenOf heap_drew heap_drewN

theorem at_q (A : Option Addr) (n c i : Nat) (l : List Nat) (w : World) (h : Rd w A n l) :
    Calls Try.prog 37 #[.slice A n c, .int .i64 i] w fun e w' => e = .returned (.int .u32 (l.getD i 0 : Nat)) ∧ w' = w :=
  (at_any A n c i l w h).mono fun _ _ ⟨a, b⟩ => ⟨a, b.symm⟩
theorem Rd.drewN {w : World} {A n l} (h : Rd w A n l) (m : Nat) : Rd (w.drewN m) A n l := h

theorem minus_step {xs : List Nat} {k d x y o o' va' vb' a b : Nat} (hl : xs.length = k) (hd : d + y + o = x + 65536 * o')
    (h : val xs + 65536 ^ k * (x + 65536 * va') + b = a + 65536 ^ k * (y + 65536 * vb' + o)) :
    val (xs ++ [d]) + 65536 ^ (k + 1) * va' + b = a + 65536 ^ (k + 1) * (vb' + o') := by
  subst hl
  rw [val_snoc, Nat.pow_succ]
  generalize 65536 ^ xs.length = p at *
  have e1 : p * (d + y + o) = p * (x + 65536 * o') := by rw [hd]
  simp only [Nat.mul_add, Nat.mul_assoc] at *
  omega

set_option maxHeartbeats 1000000 in
theorem minus_any (A B : Option Addr) (na ca nb cb : Nat) (a b : List Nat) (w : World) (ha : Rd w A na a) (hb : Rd w B nb b) (hda : Dg a) (hdb : Dg b) (hba : nb ≤ na) (hle : val b ≤ val a) (hna : na < 50000) :
    Calls Try.prog 36 #[.slice A na ca, .slice B nb cb] w (Row w fun r => val r = val a - val b ∧ r.length = na) := by
  obtain ⟨i0, hi, hz0, hz1, hz2⟩ := info_parts info23
  have HLA := Lib.hid ha.1
  have HLB := Lib.hid hb.1
  have HLE := Lib.hid hle
  clear hle
  go_enter Try.func36, Try.ntmps36
  go_wp2_with (fail)
  go_loopg [5, 6, 7] na (fun g out owed i wr => ∃ (k o : Nat) (xs : List Nat), k + g = na ∧ i = .int .i64 k ∧ owed = .int .u32 o ∧ wr.ownsRow w.heap.size 23 1 out k (U32 xs) ∧ xs.length = k ∧ o ≤ 1 ∧ Dg xs ∧ val xs + 65536 ^ k * vd a k + val b = val a + 65536 ^ k * (vd b k + o) ∧ Fr [] w wr)
  case atStart => exact ⟨0, 0, [], by omega, rfl, rfl, ⟨rfl, .inl ⟨rfl, rfl⟩⟩, rfl, by omega, Dg.nil, by simp [vd, val], Fr.refl _ _⟩
  case round =>
    obtain ⟨k, o, xs, hkg, rfl, rfl, hown, hxs, ho, hdx, hval, hf⟩ := hrel
    have HX := Lib.hid hxs
    have HV := Lib.hid hval
    have HG := Lib.hid hkg
    clear hxs hval
    rcases Nat.eq_zero_or_pos gk with rfl | hp
    · obtain rfl : k = na := by omega
      go_wp2_with (fail)
      go_ret
      refine ⟨_, xs, rfl, by rw [HX.out]; exact hown, hdx, ⟨?_, HX.out⟩, hf⟩
      have h1 := HV.out
      rw [vd_end (by have := HLA.out; omega), vd_end (by have := HLB.out; omega)] at h1
      have h2 := val_lt hdx
      rw [HX.out] at h2
      have h3 := HLE.out
      rcases Nat.eq_zero_or_pos o with rfl | ho1
      · simp at h1; omega
      · obtain rfl : o = 1 := by omega
        simp at h1; omega
    · have hlt : k < na := by omega
      clear hkg
      obtain ⟨ga, oa, rfl, hga, hca⟩ := (ha.fr hf).2.2 (by omega)
      have hcak := hca k (by omega)
      clear hca
      have hbr := Lib.hid (hb.fr hf)
      have hda' := hda.getD k
      have hdb' := hdb.getD k
      obtain ⟨x, hx⟩ : ∃ x, a.getD k 0 = x := ⟨_, rfl⟩
      obtain ⟨y, hy⟩ : ∃ y, b.getD k 0 = y := ⟨_, rfl⟩
      rw [hx] at hcak hda'
      rw [hy] at hdb'
      have hstep := HV.out
      rw [vd_step a k, vd_step b k, hx, hy] at hstep
      have HXX := Lib.hid hx
      have HYY := Lib.hid hy
      clear hx hy
      obtain ⟨n, hn⟩ : ∃ n, 65536 + x - y - o = n := ⟨_, rfl⟩
      have n1 : (65536 : Int) + (x : Int) - (y : Int) - (o : Int) = (n : Int) := by omega
      obtain ⟨d, n2⟩ : ∃ d : Nat, (n : Int) % 65536 = (d : Int) := ⟨n % 65536, by omega⟩
      obtain ⟨q, n3⟩ : ∃ q : Nat, (n : Int) / 65536 = (q : Int) := ⟨n / 65536, by omega⟩
      have hq1 : q ≤ 1 := by omega
      have hd1 : d < 65536 := by omega
      obtain ⟨o', n4⟩ : ∃ o' : Nat, (1 : Int) - (q : Int) = (o' : Int) := ⟨1 - q, by omega⟩
      have ho1 : o' ≤ 1 := by omega
      have hdd : d + y + o = x + 65536 * o' := by omega
      have HST := Lib.hid (minus_step HX.out hdd hstep)
      have hnb : n ≤ 131071 := by omega
      have i2 : (k : Int) < (na : Int) := by omega
      clear hn hstep hdd
      have HAT : Hid (∀ W : World, Rd W B nb b → Calls Try.prog 37 #[.slice B nb cb, .int .i64 k] W fun e w' => e = .returned (.int .u32 (y : Nat)) ∧ w' = W) := fun W hW => by rw [← HYY.out]; exact at_q B nb cb k b W hW
      go_wp2_with (fail)
      go_quiet ((go_at_call 37; exact Calls.quiet_of_same (HAT.out _ (hbr.out.drewN _))))
      have hf2 := hf.drewN nq
      have hown2 : (wr.drewN nq).ownsRow _ _ _ _ _ _ := hown
      generalize wr.drewN nq = w2 at *
      clear hf hown hbr hcak
      go_wp2_with (at_builtin; refine wpList_append_own _ rfl _ _ 46 rfl (w.heap.size) 23 i0 (.int .u32 0) 1 4 Try.underlying46 hi hz0 hz1 hz2 rfl (by decide) _ _ _ rfl (hown2.alloc _) ⟨w2.heap.size, 0, none⟩ 1 1 [.int .u32 (d : Int)] rfl rfl (cell_one_new _ _ _) (by simp [Value.oneCell']) (by unfold maxLen; omega) (by omega) (by have := hf2.size; simp; omega) ?_; intro v1 w1 hown1 hgrow hnil)
      rw [U32_snoc] at hown1
      have hf1 := (hf2.alloc (.cells #[.int .u32 (d : Int)] 23)).grown hgrow (own_base hown2)
      clear hown2 hgrow hf2 hnil
      go_wp2_with (fail)
      go_roundg (gk - 1)
      case measure => omega
      case rel => exact ⟨k + 1, o', xs ++ [d], by have := HG.out; omega, by go_num, rfl, hown1, by simp [HX.out], ho1, hdx.snoc hd1, HST.out, hf1⟩
end Go.Proofs.Ytigifoinejbnnaa
