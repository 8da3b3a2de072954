/-
  PROVED HERE: the sky's Worst; the law's own "one" and "alive".
-/
import Derived.Test.YtcgechcbcnhpjaaS8
namespace Go.Proofs.Ytcgechcbcnhpjaa
set_option linter.unusedVariables false
set_option linter.unusedSimpArgs false
open Go.RowKit
attribute [local go_sem 10] cellOf frozenOf
attribute [local go_sem] heap_drew heap_drewN

def wst (o : Nat → Int) : Nat → Nat
  | 0 => 0
  | k + 1 => max (wst o k) (o k).natAbs
theorem wst_le {n f o} (hf : Fits n f o) : ∀ k, k ≤ n → wst o k ≤ 500000
  | 0, _ => by simp [wst]
  | k + 1, h => by
    have := wst_le hf k (by omega)
    have := hf.o_ge k h
    simp only [wst]
    omega

set_option maxHeartbeats 1000000 in
theorem worst_any (b h m fi : Nat) (A : Option Addr) (n c : Nat) (f : Nat → Nat) (o : Nat → Int) (w : World) (hs : w.heap[b]? = some (sk h m fi A n c)) (hp : Pcs w A n f o) (hf : Fits n f o) (hh : 0 < h) :
    Calls Try.prog 20 #[.pointer (some ⟨b, 0, none⟩)] w fun e w' => e = .returned (.int .i64 (wst o n : Nat)) ∧ Fr [] w w' := by
  go_enter Try.func20, Try.ntmps20
  go_wp2_with (fail)
  refine (none_no b h m fi A n c _ hs hh).mono ?_
  rintro e w1 ⟨rfl, rfl⟩
  go_wp2_with (fail)
  go_loopg [3, 5, 13] n (fun g s3 s5 s13 wr => ∃ i x : Nat, i + g = n ∧ s13 = .int .i64 i ∧ s3 = .int .i64 x ∧ x = wst o i ∧ Fr [] w wr)
  case atStart => exact ⟨0, 0, by omega, rfl, rfl, rfl, Fr.refl _ _⟩
  case round =>
    obtain ⟨i, x, hig, rfl, rfl, hx, hF⟩ := hrel
    have HX := Lib.hid hx
    clear hx
    rcases Nat.eq_zero_or_pos gk with rfl | hp0
    · obtain rfl : i = n := by omega
      go_wp2_with (fail)
      go_ret
      exact ⟨by rw [← HX.out]; rfl, hF⟩
    · have hi1 : i < n := by omega
      have hn64 := hf.n_le
      obtain ⟨gb, off, rfl, hgb, hcs⟩ := (hp.fr hF) (by omega)
      obtain ⟨c0, c1⟩ := hcs i hi1
      have hlim := hf.o_ge i hi1
      have j1 : (i : Int) < (n : Int) := by omega
      obtain ⟨y, hy⟩ : ∃ y, max x (o i).natAbs = y := ⟨_, rfl⟩
      obtain ⟨z, hz⟩ : ∃ z, (o i).natAbs = z := ⟨_, rfl⟩
      rw [hz] at hy
      have hy2 : max (x : Int) (z : Int) = (y : Int) := by omega
      have HY : Hid (y = wst o (i + 1)) := by rw [wst, hz, ← HX.out, hy]; exact Lib.hid rfl
      have HA := Lib.hid (fun w => abs_nat (o i) w hlim.1 hlim.2)
      rw [hz] at HA
      clear hy hz
      have hal := (Fr.refl [] wr).alloc (.cells #[.int .i64 (f i : Nat), .int .i64 (o i)] 39)
      go_wp2_with (fail)
      refine (HA.out _).mono ?_
      rintro e w2 ⟨rfl, rfl⟩
      go_wp2_with (fail)
      go_roundg (gk - 1)
      case measure => omega
      case rel => exact ⟨i + 1, y, by omega, by go_num, rfl, HY.out, hF.then0 hal⟩

/-- The chapter's sky. -/
def onef : Nat → Nat
  | 0 => 0
  | _ => 2000000000
def oneo : Nat → Int
  | 0 => 0
  | _ => 500000
theorem one_good : Good 2 onef oneo where
  fits := ⟨by decide, fun i hi => by rcases i with _ | i <;> simp [onef], fun i hi => by rcases i with _ | i <;> simp [oneo]⟩
  pos := by decide
  zero := rfl
  rise := fun i hi => by obtain rfl : i = 0 := by omega
                         decide
theorem one_ticks : ticks 1000 2 999999 onef oneo = 0 ∧ ticks 1000 2 1000000 onef oneo = 1 ∧ ticks 1000 2 2000000000 onef oneo = 2000 ∧ ticks 1000 2 4000000000 onef oneo = 4001 ∧ ticks 1000 2 10000000 onef oneo = 10 ∧ ticks 1000 2 3999999999 onef oneo = 4000 ∧ 4001 ≤ ticks 1000 2 4503599627370496 onef oneo ∧ wst oneo 2 = 500000 := by decide +kernel

theorem one_any (w : World) :
    Calls Try.prog 18 #[] w fun e w' => ∃ b g' c', e = .returned (.tuple #[.pointer (some ⟨b, 0, none⟩), .int .i64 0]) ∧ w'.heap[b]? = some (sk 1000 65535 65530 (some ⟨g', 0, none⟩) 2 c') ∧ Pcs w' (some ⟨g', 0, none⟩) 2 onef oneo ∧ Fr [] w w' := by
  have hb := heap_alloc_new w (.cells #[.int .i64 0, .int .i64 0, .int .i64 2000000000, .int .i64 500000] 39)
  have hF := (Fr.refl [] w).alloc (.cells #[.int .i64 0, .int .i64 0, .int .i64 2000000000, .int .i64 500000] 39)
  have hp : Pcs (w.alloc (.cells #[.int .i64 0, .int .i64 0, .int .i64 2000000000, .int .i64 500000] 39)) (some ⟨w.heap.size, 0, none⟩) 2 onef oneo := fun _ => by
    refine ⟨w.heap.size, 0, rfl, lt_of_block hb, fun i hi => ?_⟩
    rcases i with _ | _ | i
    · exact ⟨(cellOf hb).trans rfl, (cellOf hb).trans rfl⟩
    · exact ⟨(cellOf hb).trans rfl, (cellOf hb).trans rfl⟩
    · omega
  go_enter Try.func18, Try.ntmps18
  go_wp2_with (fail)
  refine (new_sky 1000 16 65535 65530 w.heap.size 0 2 2 onef oneo _ (by decide) (by decide) (by decide) (by decide) (by decide) (by decide) (by decide) hp one_good).mono ?_
  rintro e w1 ⟨b, g', c', rfl, hbl, hs, hp1, hf1⟩
  go_wp2_with (fail)
  go_ret2
  exact ⟨b, g', c', rfl, hs, hp1, hF.then0 hf1⟩
end Go.Proofs.Ytcgechcbcnhpjaa
