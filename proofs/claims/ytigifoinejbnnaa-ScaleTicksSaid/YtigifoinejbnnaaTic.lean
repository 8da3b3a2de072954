/-
  PROVED HERE: the walk of ephemerislaw10.ScaleTicks: it returns true for every input.
-/
import Derived.Test.YtigifoinejbnnaaSec
namespace Go.Proofs.Ytigifoinejbnnaa
set_option linter.unusedVariables false
set_option linter.unusedSimpArgs false
open Go.RowKit
attribute [local go_sem] cellOf frozenOf heap_drew heap_drewN

theorem tick_cases (h O : Nat) (hh : 0 < h) (hO : O < h) :
    (1000000000 % h = 0 ∧ tickOf h = 1000000000 / h ∧ toMore h O 1 = 1000000000 / h) ∨
    (1000000000 % h ≠ 0 ∧ tickOf h = 1000000000 / h + 1 ∧ (toMore h O 1 = 1000000000 / h ∨ toMore h O 1 = 1000000000 / h + 1)) := by
  have hd := Nat.div_add_mod 1000000000 h
  have hr := Nat.mod_lt 1000000000 hh
  unfold tickOf toMore
  generalize 1000000000 / h = m at *
  generalize 1000000000 % h = r at *
  have e1 : 1 * 1000000000 + O = h * m + (r + O) := by omega
  have e2 : 1000000000 + h - 1 = h * m + (r + h - 1) := by omega
  rw [e1, e2, Nat.mul_add_div hh, Nat.mul_add_div hh]
  rcases Nat.eq_zero_or_pos r with h0 | h0
  · left
    subst h0
    rw [Nat.div_eq_of_lt (show 0 + h - 1 < h by omega), Nat.div_eq_of_lt (show 0 + O < h by omega)]
    exact ⟨rfl, rfl, rfl⟩
  · right
    have e3 : (r + h - 1) / h = 1 := by
      rw [show r + h - 1 = (r - 1) + h by omega, Nat.add_div_right _ hh, Nat.div_eq_of_lt (by omega)]
    rw [e3]
    refine ⟨by omega, rfl, ?_⟩
    by_cases hc : r + O < h
    · left; rw [Nat.div_eq_of_lt hc]; rfl
    · right
      rw [show r + O = (r + O - h) + h by omega, Nat.add_div_right _ hh, Nat.div_eq_of_lt (by omega)]

theorem tic_nat (a0 a1 : Int) (w : World) (h A m r one tick X O T P : Nat) (hh : 0 < h) (hh' : h ≤ 1000000000000) (hA : A < 1073741824)
    (e0 : (1 : Int) + a0 % 1000000000000 = (h : Int)) (e1 : a1 % 1073741824 = (A : Int)) (b0 : 0 ≤ a0) (b1 : 0 ≤ a1)
    (t1 : Tells h 0 0 A X X O) (t2 : Tells h X O 1 one T P) (hO : O < h) (hX : X ≤ 1073741824000000000) (hone : one ≤ 1000000001) (hm : m ≤ 1000000000) (ht : tickOf h = tick)
    (em : (1000000000 : Int) / (h : Int) = (m : Int)) (er : (1000000000 : Int) % (h : Int) = (r : Int))
    (hc : (r = 0 ∧ tick = m ∧ one = m) ∨ (0 < r ∧ tick = m + 1 ∧ (one = m ∨ one = m + 1))) :
    Calls Try.prog 4 #[.int .u64 a0, .int .u64 a1] w fun e w' => e = .returned (.bool true) ∧ Below w.heap.size w w' := by
  have HT := Lib.hid ht
  clear ht
  rcases hc with ⟨rfl, rfl, rfl⟩ | ⟨hr, ht, hc⟩
  · go_enter Try.func4, Try.ntmps4
    go_wp2_with (fail)
    refine (new_any h _ hh hh').mono ?_
    rintro e w1 ⟨a, rfl, ha, hs1, hf1⟩
    go_wp2_with (fail)
    refine (to_tells a h 0 0 A _ _ _ _ hs1 t1 hh hh' (by omega) (by omega) (by omega)).mono ?_
    rintro e w2 ⟨rfl, hs2, hf2⟩
    go_wp2_with (fail)
    refine (stick_any a h _ _ _ hs2 hh hh').mono ?_
    rintro e w3 ⟨rfl, hf3⟩
    have hs3 := hf3.heap hs2 (by simp)
    rw [HT.out]
    go_wp2_with (fail)
    refine (to_tells a h _ _ 1 _ _ _ _ hs3 t2 hh hh' (by omega) (by omega) (by omega)).mono ?_
    rintro e w4 ⟨rfl, hs4, hf4⟩
    go_wp2_with (fail)
    refine (tick_any h _ hh hh').mono ?_
    rintro e w5 ⟨rfl, rfl⟩
    rw [HT.out]
    go_wp2_with (fail)
    refine (alive_any _).mono ?_
    rintro e w6 ⟨rfl, hf6⟩
    go_wp2_with (fail)
    go_ret
    exact ⟨rfl, Fr.below ((((hf1.two ha hf2).then0 hf3).two ha hf4).then0 hf6)⟩
  · subst ht
    obtain ⟨k, hk⟩ : ∃ k, k = m + 1 := ⟨_, rfl⟩
    rw [← hk] at HT hc
    have k1 : (m : Int) + 1 = (k : Int) := by omega
    have k2 : (k : Int) - 1 = (m : Int) := by omega
    have k3 : ((k : Int) == (m : Int)) = false := by simp; omega
    have k4 : ((r : Int) == 0) = false := by simp; omega
    have k5 : ((m : Int) == (k : Int)) = false := by simp; omega
    have hkk : k ≤ 1000000001 := by omega
    clear hk
    rcases hc with rfl | rfl
    all_goals
      go_enter Try.func4, Try.ntmps4
      go_wp2_with (fail)
      refine (new_any h _ hh hh').mono ?_
      rintro e w1 ⟨a, rfl, ha, hs1, hf1⟩
      go_wp2_with (fail)
      refine (to_tells a h 0 0 A _ _ _ _ hs1 t1 hh hh' (by omega) (by omega) (by omega)).mono ?_
      rintro e w2 ⟨rfl, hs2, hf2⟩
      go_wp2_with (fail)
      refine (stick_any a h _ _ _ hs2 hh hh').mono ?_
      rintro e w3 ⟨rfl, hf3⟩
      have hs3 := hf3.heap hs2 (by simp)
      rw [HT.out]
      go_wp2_with (fail)
      refine (to_tells a h _ _ 1 _ _ _ _ hs3 t2 hh hh' (by omega) (by omega) (by omega)).mono ?_
      rintro e w4 ⟨rfl, hs4, hf4⟩
      go_wp2_with (fail)
      refine (tick_any h _ hh hh').mono ?_
      rintro e w5 ⟨rfl, rfl⟩
      rw [HT.out]
      go_wp2_with (fail)
      refine (alive_any _).mono ?_
      rintro e w6 ⟨rfl, hf6⟩
      go_wp2_with (fail)
      go_ret
      exact ⟨rfl, Fr.below ((((hf1.two ha hf2).then0 hf3).two ha hf4).then0 hf6)⟩

theorem tic_walk (a0 a1 : Int) (w0 : (Lit.int .u64 a0).wf = true) (w1 : (Lit.int .u64 a1).wf = true) (w : World) :
    Calls Try.prog 4 #[.int .u64 a0, .int .u64 a1] w fun e w' => e = .returned (.bool true) ∧ Below w.heap.size w w' := by
  have b0 := bounds_u64 w0
  have b1 := bounds_u64 w1
  obtain ⟨h, e0⟩ := nat_of (n := 1 + a0 % 1000000000000) (by omega)
  obtain ⟨A, e1⟩ := nat_of (n := a1 % 1073741824) (by omega)
  have hh : 0 < h := by omega
  have hA : A < 1073741824 := by omega
  have m1 := more_le (n := A) (o := 0) hh hh
  have t1 := tells (h := h) (t := 0) (o := 0) (n := A) (by omega)
  have hO : (A * 1000000000 + 0) % h < h := Nat.mod_lt _ hh
  generalize (A * 1000000000 + 0) % h = O at *
  rw [Nat.zero_add] at t1
  have m2 := more_le (n := 1) hh hO
  have t2 := tells (h := h) (t := toMore h 0 A) (o := O) (n := 1) (by omega)
  have hc := tick_cases h O hh hO
  have hd := Nat.div_le_self 1000000000 h
  refine tic_nat a0 a1 w h A (1000000000 / h) (1000000000 % h) _ _ _ O _ _ hh (by omega) hA e0 e1 (by omega) (by omega) t1 t2 hO (by omega) (by omega) hd rfl rfl rfl ?_
  rcases hc with ⟨p, q, r⟩ | ⟨p, q, r⟩
  · exact .inl ⟨p, q, r⟩
  · exact .inr ⟨Nat.pos_of_ne_zero p, q, r⟩
end Go.Proofs.Ytigifoinejbnnaa
