/-
  PROVED HERE: Less, less and Of of the reference's numbers return what their digits come to.
-/
import Derived.Test.YtigifoinejbnnaaB2
namespace Go.Proofs.Ytigifoinejbnnaa
set_option linter.unusedVariables false
set_option linter.unusedSimpArgs false
open Go.RowKit
attribute [local go_sem] cellOf frozenOf heap_drew heap_drewN

theorem val_lt {l : List Nat} (h : Dg l) : val l < 65536 ^ l.length := by
  induction l with
  | nil => simp [val]
  | cons x r ih =>
    have h1 := h x (by simp)
    have h2 := ih (fun y hy => h y (List.mem_cons_of_mem _ hy))
    simp only [val, List.length_cons, Nat.pow_succ]; omega
theorem vd_lt {l : List Nat} (h : Dg l) (i : Nat) : val (l.take i) < 65536 ^ i := by
  have h1 : Dg (l.take i) := fun y hy => h y (List.mem_of_mem_take hy)
  exact Nat.lt_of_lt_of_le (val_lt h1) (Nat.pow_le_pow_right (by omega) (by simp; omega))
theorem val_split (l : List Nat) (i : Nat) (hi : i ≤ l.length) : val l = val (l.take i) + 65536 ^ i * vd l i := by
  have := val_append (l.take i) (l.drop i)
  rw [List.take_append_drop] at this
  rw [this]
  simp [vd, List.length_take, Nat.min_eq_left hi]
/-- A trimmed row of digits is at least as great as its length says. -/
theorem val_ge {l : List Nat} (h : Trim l) {k : Nat} (hl : l.length = k + 1) : 65536 ^ k ≤ val l := by
  rw [val_split l k (by omega), vd_step, vd_end (by omega)]
  have := h k hl
  have h2 : 65536 ^ k * 1 ≤ 65536 ^ k * (l.getD k 0 + 65536 * 0) := Nat.mul_le_mul_left _ (by omega)
  omega
theorem less_len {a b : List Nat} (ha : Dg a) (hb : Trim b) (h : a.length < b.length) : val a < val b := by
  obtain ⟨k, hk⟩ : ∃ k, b.length = k + 1 := ⟨b.length - 1, by omega⟩
  exact Nat.lt_of_lt_of_le (val_lt ha) (Nat.le_trans (Nat.pow_le_pow_right (by omega) (by omega)) (val_ge hb hk))
/-- Two rows that are alike from place k + 1 on, and part there. -/
theorem less_at {a b : List Nat} (ha : Dg a) (hb : Dg b) {k : Nat} (hka : k < a.length) (hkb : k < b.length) (hv : vd a (k + 1) = vd b (k + 1)) (hlt : a.getD k 0 < b.getD k 0) : val a < val b := by
  rw [val_split a k (by omega), val_split b k (by omega), vd_step a k, vd_step b k, hv]
  have h1 := vd_lt ha k
  have h2 : 65536 ^ k * (a.getD k 0 + 1 + 65536 * vd b (k + 1)) ≤ 65536 ^ k * (b.getD k 0 + 65536 * vd b (k + 1)) := Nat.mul_le_mul_left _ (by omega)
  have h3 : 65536 ^ k * (a.getD k 0 + 1 + 65536 * vd b (k + 1)) = 65536 ^ k * (a.getD k 0 + 65536 * vd b (k + 1)) + 65536 ^ k := by
    rw [show a.getD k 0 + 1 + 65536 * vd b (k + 1) = a.getD k 0 + 65536 * vd b (k + 1) + 1 by omega, Nat.mul_add, Nat.mul_one]
  omega

set_option maxHeartbeats 1000000 in
theorem less_any (A B : Option Addr) (na ca nb cb : Nat) (a b : List Nat) (w : World) (ha : Rd w A na a) (hb : Rd w B nb b) (hda : Dg a) (hdb : Dg b) (hta : Trim a) (htb : Trim b) :
    Calls Try.prog 35 #[.slice A na ca, .slice B nb cb] w fun e w' => e = .returned (.bool (decide (val a < val b))) ∧ Fr [] w w' := by
  have HLA := Lib.hid ha.1
  have HLB := Lib.hid hb.1
  have hna := ha.2.1
  have hnb := hb.2.1
  rcases Nat.lt_trichotomy na nb with hlt | heq | hgt
  · have hr := Lib.hid (show decide (val a < val b) = true from decide_eq_true (less_len hda htb (by rw [HLA.out, HLB.out]; exact hlt)))
    have h1 : (na : Int) < (nb : Int) := by omega
    have h2 : ((na : Int) == (nb : Int)) = false := by simp; omega
    go_enter Try.func35, Try.ntmps35
    go_wp2_with (fail)
    go_ret
    exact ⟨by rw [hr.out]; rfl, Fr.refl _ _⟩
  · subst heq
    go_enter Try.func35, Try.ntmps35
    go_wp2_with (fail)
    go_loopg [5] na (fun k i wr => i = .int .i64 ((k : Int) - 1) ∧ k ≤ na ∧ vd a k = vd b k ∧ Fr [] w wr)
    case atStart => exact ⟨rfl, Nat.le_refl _, by rw [vd_end (by have := HLA.out; omega), vd_end (by have := HLB.out; omega)], Fr.refl _ _⟩
    case round =>
      obtain ⟨rfl, hk, hv, hf⟩ := hrel
      have HV := Lib.hid hv
      clear hv
      rcases Nat.eq_zero_or_pos gk with rfl | hp
      · have hr := Lib.hid (show decide (val a < val b) = false from decide_eq_false (by have := HV.out; simp only [vd, List.drop_zero] at this; omega))
        go_wp2_with (fail)
        go_ret
        exact ⟨by rw [hr.out]; rfl, hf⟩
      · obtain ⟨k, rfl⟩ : ∃ k, gk = k + 1 := ⟨gk - 1, by omega⟩
        obtain ⟨ga, oa, rfl, hga, hca⟩ := (ha.fr hf).2.2 (by omega)
        obtain ⟨gb, ob, rfl, hgb, hcb⟩ := (hb.fr hf).2.2 (by omega)
        have hcak := hca k (by omega)
        have hcbk := hcb k (by omega)
        clear hca hcb
        have hda' := hda.getD k
        have hdb' := hdb.getD k
        obtain ⟨x, hx⟩ : ∃ x, a.getD k 0 = x := ⟨_, rfl⟩
        obtain ⟨y, hy⟩ : ∃ y, b.getD k 0 = y := ⟨_, rfl⟩
        rw [hx] at hcak hda'
        rw [hy] at hcbk hdb'
        have HXX := Lib.hid hx
        have HYY := Lib.hid hy
        clear hx hy
        have i1 : (0 : Int) ≤ (k : Int) := by omega
        have i2 : (k : Int) < (na : Int) := by omega
        rcases Nat.lt_trichotomy x y with hlt | heq | hgt
        · have hr := Lib.hid (show decide (val a < val b) = true from decide_eq_true (less_at hda hdb (by have := HLA.out; omega) (by have := HLB.out; omega) HV.out (by rw [HXX.out, HYY.out]; exact hlt)))
          have h1 : (x : Int) < (y : Int) := by omega
          have h2 : ((x : Int) == (y : Int)) = false := by simp; omega
          go_wp2_with (fail)
          go_quiet (fail)
          go_wp2_with (fail)
          go_quiet (fail)
          go_wp2_with (fail)
          go_ret
          exact ⟨by rw [hr.out]; rfl, (hf.drewN _).drewN _⟩
        · subst heq
          go_wp2_with (fail)
          go_quiet (fail)
          go_wp2_with (fail)
          go_roundg k
          case measure => omega
          case rel => exact ⟨by go_num, by omega, by rw [vd_step a k, vd_step b k, HV.out, HXX.out, HYY.out], hf.drewN _⟩
        · have hr := Lib.hid (show decide (val a < val b) = false from decide_eq_false (Nat.not_lt.2 (Nat.le_of_lt (less_at hdb hda (by have := HLB.out; omega) (by have := HLA.out; omega) HV.out.symm (by rw [HXX.out, HYY.out]; exact hgt)))))
          have h1 : ((x : Int) < (y : Int)) = False := by simp; omega
          have h2 : ((x : Int) == (y : Int)) = false := by simp; omega
          go_wp2_with (fail)
          go_quiet (fail)
          go_wp2_with (fail)
          go_quiet (fail)
          go_wp2_with (fail)
          go_ret
          exact ⟨by rw [hr.out]; rfl, (hf.drewN _).drewN _⟩
  · have hr := Lib.hid (show decide (val a < val b) = false from decide_eq_false (Nat.not_lt.2 (Nat.le_of_lt (less_len hdb hta (by rw [HLA.out, HLB.out]; exact hgt)))))
    have h1 : ((na : Int) < (nb : Int)) = False := by simp; omega
    have h2 : ((na : Int) == (nb : Int)) = false := by simp; omega
    go_enter Try.func35, Try.ntmps35
    go_wp2_with (fail)
    go_ret
    exact ⟨by rw [hr.out]; rfl, Fr.refl _ _⟩
end Go.Proofs.Ytigifoinejbnnaa
