/-
  PROVED HERE: Of and Int of the reference's numbers take numbers that aren't below zero there and back.
-/
import Derived.Test.YtigifoinejbnnaaB4
namespace Go.Proofs.Ytigifoinejbnnaa
set_option linter.unusedVariables false
set_option linter.unusedSimpArgs false
open Go.RowKit
attribute [local go_sem] cellOf frozenOf heap_drew heap_drewN

theorem of_step {xs : List Nat} {k n a : Nat} (hl : xs.length = k) (h : val xs + 65536 ^ k * n = a) : val (xs ++ [n % 65536]) + 65536 ^ (k + 1) * (n / 65536) = a := by
  subst hl
  rw [val_snoc, Nat.pow_succ, Nat.mul_assoc, Nat.add_assoc, ← Nat.mul_add, show n % 65536 + 65536 * (n / 65536) = n by omega]
  exact h
theorem trim_snoc {xs : List Nat} {d : Nat} (hd : d ≠ 0) : Trim (xs ++ [d]) := by
  intro j hj
  simp at hj
  subst hj
  simpa [List.getD_eq_getElem?_getD] using hd

theorem own_cap {w : World} {base n c : Nat} {e : TypeId} {size : Nat} {A : Option Addr} {xs : List Value} (h : w.ownsRow base e size (.slice A n c) n xs) : n ≤ c := by
  rcases h.2 with ⟨h1, h2⟩ | ⟨g, cap, cur, h1, _, _, h2, _⟩
  · cases h1; omega
  · cases h1; exact h2
theorem own_max {w : World} {base n c : Nat} {e : TypeId} {size : Nat} {A : Option Addr} {xs : List Value} (h : w.ownsRow base e size (.slice A n c) n xs) : c ≤ 9223372036854775807 := by
  rcases h.2 with ⟨h1, h2⟩ | ⟨g, cap, cur, h1, _, _, _, h2, _⟩
  · cases h1; omega
  · cases h1; exact h2
theorem own_form {w : World} {base n : Nat} {e : TypeId} {size : Nat} {v : Value} {xs : List Value} (h : w.ownsRow base e size v n xs) : ∃ A c, v = .slice A n c := by
  rcases h.2 with ⟨rfl, rfl⟩ | ⟨g, cap, cur, rfl, _⟩
  · exact ⟨none, 0, rfl⟩
  · exact ⟨_, cap, rfl⟩
theorem Rd.fr2 {S : List Nat} {w w' : World} {A n l} (h : Rd w A n l) (k : Fr S w w') (hS : ∀ g off, A = some ⟨g, off, none⟩ → g ∉ S) : Rd w' A n l := by
  obtain ⟨h1, h2, h3⟩ := h
  refine ⟨h1, h2, fun hn => ?_⟩
  obtain ⟨g, off, e, hg, hc⟩ := h3 hn
  exact ⟨g, off, e, Nat.lt_of_lt_of_le hg k.size, fun i hi => (k.cell hg (hS g off e)).trans (hc i hi)⟩
theorem grown_old {w w' : World} {row : Option Nat} {b : Nat} {ob : Obj} (hg : w.grownBy w' row) (hb : w.heap[b]? = some ob) (hr : ∀ k, row = some k → b < k) : w'.heap[b]? = some ob :=
  (hg.block b (lt_of_block hb) (fun e => by have := hr b e.symm; omega)).trans hb

set_option maxHeartbeats 1000000 in
theorem of_any (a : Nat) (w : World) (ha : a ≤ 9223372036854775807) :
    Calls Try.prog 26 #[.int .i64 a] w (Num w fun m r => m = false ∧ val r = a ∧ Trim r ∧ Dg r ∧ r.length ≤ 4) := by
  obtain ⟨i0, hi, hz0, hz1, hz2⟩ := info_parts info23
  have hneg : ((a : Int) < 0) = False := by simp
  have hb0 := heap_alloc_old (.cells #[.bool false, .slice none 0 0] 48) (heap_alloc_new w (.cells #[.bool false, .slice none 0 0] 48))
  have hb1 := heap_alloc_new (w.alloc (.cells #[.bool false, .slice none 0 0] 48)) (.cells #[.bool false, .slice none 0 0] 48)
  rw [World.size_alloc] at hb1
  have hf0 : Fr [] w _ := ((Fr.refl [] w).alloc (.cells #[.bool false, .slice none 0 0] 48)).alloc (.cells #[.bool false, .slice none 0 0] 48)
  have hs0 : w.heap.size + 2 ≤ ((w.alloc (.cells #[.bool false, .slice none 0 0] 48)).alloc (.cells #[.bool false, .slice none 0 0] 48)).heap.size := by simp only [World.size_alloc]; omega
  go_enter Try.func26, Try.ntmps26
  go_wp2_with (fail)
  go_loopg [3] 4 (fun g n wr => ∃ (n' c : Nat) (A : Option Addr) (xs : List Nat), xs.length + g = 4 ∧ n = .int .u64 n' ∧ n' < 65536 ^ g ∧ wr.heap[w.heap.size]? = some (.cells #[.bool false, .slice none 0 0] 48 (0, 0)) ∧ wr.heap[w.heap.size + 1]? = some (.cells #[.bool false, .slice A xs.length c] 48 (0, 0)) ∧ wr.ownsRow (w.heap.size + 2) 23 1 (.slice A xs.length c) xs.length (U32 xs) ∧ Dg xs ∧ (n' = 0 → Trim xs) ∧ val xs + 65536 ^ xs.length * n' = a ∧ w.heap.size + 2 ≤ wr.heap.size ∧ Fr [] w wr)
  case atStart => exact ⟨a, 0, none, [], rfl, rfl, by omega, hb0, hb1, ⟨rfl, .inl ⟨rfl, rfl⟩⟩, Dg.nil, fun _ k hk => by simp at hk, by simp [val], hs0, hf0⟩
  case round =>
    clear hb0 hb1 hf0 hs0
    obtain ⟨n, c, A, xs, hkg, rfl, hnb, hb0, hb1, hown, hdx, htr, hval, hsz, hf⟩ := hrel
    have hlen : xs.length ≤ 4 := by omega
    have HV := Lib.hid hval
    have HT := Lib.hid htr
    have HN := Lib.hid hnb
    have HG := Lib.hid hkg
    have hn1 : n < 18446744073709551616 := Nat.lt_of_lt_of_le hnb (Nat.le_trans (Nat.pow_le_pow_right (by omega) (show gk ≤ 4 by omega)) (by decide))
    clear hval htr hnb hkg
    rcases Nat.eq_zero_or_pos n with rfl | hp
    · obtain ⟨A', c', hv, hrd⟩ := own_rd hown (by omega)
      cases hv
      go_wp2_with (fail)
      refine bodyPost_ret (v := .agg #[.bool false, .slice A xs.length c]) (by simp [results, Try.results26, go_sem, hb0, hb1]) rfl ?_
      refine ⟨false, A, xs.length, c, xs, rfl, ?_, own_cap hown, own_max hown, ⟨rfl, by have := HV.out; simpa using this, by simpa using HT.out, hdx, by omega⟩, ?_⟩
      · exact hrd.fr2 (((Fr.refl [w.heap.size] wr).setCell (.inl (by simp)) _).setCell (.inl (by simp)) _) (fun g off e => by have := (hown.lt g (by rw [e]; rfl)).1; simp; omega)
      · exact (hf.setNew (Nat.le_refl _) _).setNew (Nat.le_refl _) _
    · obtain ⟨d, n2⟩ : ∃ d : Nat, (n : Int) % 65536 = (d : Int) := ⟨n % 65536, by omega⟩
      obtain ⟨q, n3⟩ : ∃ q : Nat, (n : Int) / 65536 = (q : Int) := ⟨n / 65536, by omega⟩
      have hpi : (0 : Int) < (n : Int) := by omega
      have hd1 : d < 65536 := by omega
      have hq1 : q < 281474976710656 := by omega
      have hdz : q = 0 → d ≠ 0 := by omega
      have hqd : n % 65536 = d ∧ n / 65536 = q := by omega
      have HST := Lib.hid (of_step rfl HV.out)
      rw [hqd.1, hqd.2] at HST
      have HDZ := Lib.hid hdz
      have HQD := Lib.hid hqd
      clear hdz hqd
      go_wp2_with (at_builtin; refine wpList_append_own _ rfl _ _ 46 rfl (w.heap.size + 2) 23 i0 (.int .u32 0) 1 4 Try.underlying46 hi hz0 hz1 hz2 rfl (by decide) _ _ _ rfl (hown.alloc _) ⟨wr.heap.size, 0, none⟩ 1 1 [.int .u32 (d : Int)] rfl rfl (cell_one_new _ _ _) (by simp [Value.oneCell']) (by unfold maxLen; omega) (by omega) (by simp; omega) ?_; intro v1 w1 hown1 hgrow hnil; have hc0 := grown_old hgrow (heap_alloc_old _ hb0) (fun k hk => by have := own_base hown k hk; omega); have hc1 := grown_old hgrow (heap_alloc_old _ hb1) (fun k hk => by have := own_base hown k hk; omega); have hsz1 := hgrow.size; simp only [World.size_alloc] at hsz1; obtain ⟨A1, c1, hv1⟩ := own_form hown1; subst hv1)
      obtain ⟨g, rfl⟩ : ∃ g, gk = g + 1 := ⟨gk - 1, by have := HN.out; rcases Nat.eq_zero_or_pos gk with h | h; (subst h; simp at this; omega); omega⟩
      go_roundg g
      case measure => omega
      case rel =>
        rw [U32_snoc] at hown1
        have hqb : q < 65536 ^ g := by
          rw [← HQD.out.2]
          exact Nat.div_lt_of_lt_mul (by have := HN.out; rw [Nat.pow_succ, Nat.mul_comm] at this; exact this)
        refine ⟨q, c1, A1, xs ++ [d], by simp; have := HG.out; omega, rfl, hqb, heap_set_ne hc0 (by omega) _, ?_, ?_, hdx.snoc hd1, fun h => trim_snoc (HDZ.out h), by simpa using HST.out, ?_, ?_⟩
        · have := heap_set (o := 1) hc1 (.slice A1 (xs.length + 1) c1)
          simpa using this
        · have := ownsRow_setCell_below hown1 (a := ⟨w.heap.size + 1, 1, none⟩) (by show w.heap.size + 1 < w.heap.size + 2; omega) (.slice A1 (xs.length + 1) c1)
          simpa using this
        · simp only [World.setCell, Array.size_modify]; omega
        · exact ((hf.alloc _).grown hgrow (fun k hk => by have := own_base hown k hk; omega)).setNew (by omega) _
end Go.Proofs.Ytigifoinejbnnaa
