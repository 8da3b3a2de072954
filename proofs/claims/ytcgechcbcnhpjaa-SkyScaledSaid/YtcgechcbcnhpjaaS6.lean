/-
  PROVED HERE: rows of pieces, as the call's own; Clone.
-/
import Derived.Test.YtcgechcbcnhpjaaS5
namespace Go.Proofs.Ytcgechcbcnhpjaa
set_option linter.unusedVariables false
set_option linter.unusedSimpArgs false
open Go.RowKit
attribute [local go_sem 10] cellOf frozenOf
attribute [local go_sem] heap_drew heap_drewN

def prow (f : Nat → Nat) (o : Nat → Int) : Nat → List Value
  | 0 => []
  | k + 1 => prow f o k ++ [.int .i64 (f k : Nat), .int .i64 (o k)]
theorem prow_len (f o) : ∀ n, (prow f o n).length = n * 2
  | 0 => rfl
  | n + 1 => by rw [prow, List.length_append, prow_len f o n]; simp; omega
theorem prow_at (f o) : ∀ n i, i < n → (prow f o n)[i * 2]? = some (.int .i64 (f i : Nat)) ∧ (prow f o n)[i * 2 + 1]? = some (.int .i64 (o i))
  | 0, i, h => by omega
  | n + 1, i, h => by
    have hl := prow_len f o n
    rcases Nat.lt_or_ge i n with h1 | h1
    · have ih := prow_at f o n i h1
      rw [prow, List.getElem?_append_left (by omega), List.getElem?_append_left (by omega)]
      exact ih
    · obtain rfl : i = n := by omega
      rw [prow, List.getElem?_append_right (by omega), List.getElem?_append_right (by omega), hl]
      simp
theorem prow_one (f o n) : ∀ u ∈ prow f o n, u.oneCell' = true := by
  induction n with
  | zero => intro u hu; cases hu
  | succ n ih =>
    intro u hu
    rw [prow, List.mem_append] at hu
    rcases hu with hu | hu
    · exact ih u hu
    · rcases List.mem_cons.1 hu with rfl | hu
      · rfl
      · rcases List.mem_cons.1 hu with rfl | hu
        · rfl
        · cases hu
theorem prow_congr {f f' o o'} : ∀ n, (∀ i, i < n → f i = f' i ∧ o i = o' i) → prow f o n = prow f' o' n
  | 0, _ => rfl
  | n + 1, h => by rw [prow, prow, prow_congr n (fun i hi => h i (by omega)), (h n (by omega)).1, (h n (by omega)).2]
theorem Pcs.news {w : World} {g off n : Nat} {f o} (h : Pcs w (some ⟨g, off, none⟩) n f o) : ∀ j u, (prow f o n)[j]? = some u → w.cell? ((⟨g, off, none⟩ : Addr).add j) = some u := by
  intro j u hj
  have hjl : j < n * 2 := by
    rcases Nat.lt_or_ge j (n * 2) with h1 | h1
    · exact h1
    · rw [List.getElem?_eq_none (by rw [prow_len]; exact h1)] at hj; cases hj
  obtain ⟨g', off', e, _, hc⟩ := h (by omega)
  cases e
  have hi : j / 2 < n := by omega
  obtain ⟨c0, c1⟩ := hc (j / 2) hi
  obtain ⟨p0, p1⟩ := prow_at f o n (j / 2) hi
  have hadd : (⟨g, off, none⟩ : Addr).add j = ⟨g, off + j, none⟩ := by cases j <;> simp [Addr.add]
  rw [hadd]
  rcases Nat.mod_two_eq_zero_or_one j with h2 | h2
  · rw [show j / 2 * 2 = j by omega] at c0 p0
    rw [hj] at p0
    cases p0
    exact c0
  · rw [Nat.add_assoc, show j / 2 * 2 + 1 = j by omega] at c1
    rw [show j / 2 * 2 + 1 = j by omega] at p1
    rw [hj] at p1
    cases p1
    exact c1
theorem own_pcs {w : World} {base n : Nat} {v : Value} {f o} (h : w.ownsRow base 39 2 v n (prow f o n)) (hn : 0 < n) : ∃ g c, v = .slice (some ⟨g, 0, none⟩) n c ∧ base ≤ g ∧ g < w.heap.size ∧ Pcs w (some ⟨g, 0, none⟩) n f o ∧ n ≤ c := by
  rcases h.2 with ⟨_, h0⟩ | ⟨g, cap, cur, rfl, hb, hg, hc, hm, hs, ht⟩
  · omega
  · have hlt := lt_of_block hg
    refine ⟨g, cap, rfl, hb, hlt, fun _ => ⟨g, 0, rfl, hlt, fun i hi => ?_⟩, hc⟩
    obtain ⟨p0, p1⟩ := prow_at f o n i hi
    rw [← ht, List.getElem?_take_of_lt (by omega)] at p0 p1
    rw [World.cell?, hg]
    rw [World.cell?, hg]
    simp only [Option.isSome_none, Bool.false_eq_true, if_false, Nat.zero_add]
    exact ⟨by simpa using p0, by simpa using p1⟩
theorem info39 : (Try.prog.info? 39).map (fun i => (i.zero, i.size, i.bytes)) = some (some (.agg #[.int .i64 0, .int .i64 0]), 2, 16) := by kernel_rfl

theorem not_nil (g off n c : Nat) (w : World) : (binOp BinOp.eql 40 (.slice (some ⟨g, off, none⟩) n c) (.slice none 0 0)).run Try.prog w = .ok (.bool false) w := by kernel_rfl
theorem Fr.grown {w0 w w' : World} {row : Option Nat} (h : Fr [] w0 w) (hg : w.grownBy w' row) (hr : ∀ k, row = some k → w0.heap.size ≤ k) : Fr [] w0 w' :=
  ⟨hg.os.trans h.os, hg.tape.trans h.tape, hg.output.trans h.output, Nat.le_trans h.size hg.size, fun k hk hn =>
    (hg.block k (Nat.lt_of_lt_of_le hk h.size) (fun e => by have := hr k e.symm; omega)).trans (h.block k hk hn)⟩
theorem own_base {w : World} {base : Nat} {e : TypeId} {size n : Nat} {v : Value} {xs : List Value} (h : w.ownsRow base e size v n xs) : ∀ k, v.ownBlock = some k → base ≤ k := fun k hk => (h.lt k hk).1
theorem clone_any (g off n c : Nat) (f : Nat → Nat) (o : Nat → Int) (w : World) (hp : Pcs w (some ⟨g, off, none⟩) n f o) (hn : 0 < n) (hn64 : n ≤ 64) :
    Calls Try.prog 24 #[.slice (some ⟨g, off, none⟩) n c] w fun e w' => ∃ g' c', e = .returned (.slice (some ⟨g', 0, none⟩) n c') ∧ w.heap.size ≤ g' ∧ Pcs w' (some ⟨g', 0, none⟩) n f o ∧ Fr [] w w' := by
  obtain ⟨i0, hi, hz0, hz1, hz2⟩ := info_parts info39
  have hnil := fun w => not_nil g off n c w
  have hb0 := heap_alloc_new w (.cells #[] 39)
  have hF0 := (Fr.refl [] w).alloc (.cells #[] 39)
  have hown0 : (w.alloc (.cells #[] 39)).ownsRow w.heap.size 39 2 (.slice (some ⟨w.heap.size, 0, none⟩) 0 0) 0 [] := ⟨rfl, .inr ⟨w.heap.size, 0, #[], rfl, Nat.le_refl _, hb0, Nat.le_refl _, by decide, rfl, rfl⟩⟩
  go_enter Try.func24, Try.ntmps24
  go_wp2_with (at_builtin; refine wpList_append_own _ rfl _ _ 40 rfl w.heap.size 39 i0 (.agg #[.int .i64 0, .int .i64 0]) 2 16 Try.underlying40 hi hz0 hz1 hz2 rfl (by decide) _ 0 [] rfl hown0 ⟨g, off, none⟩ n c (prow f o n) rfl (prow_len f o n) (hp.fr hF0).news (prow_one f o n) (by unfold maxLen; omega) (by omega) (by simp only [World.size_alloc]; omega) ?_; intro v1 w1 hown1 hgrow hnil2; rw [Nat.zero_add, List.nil_append] at hown1; obtain ⟨g1, c1, hv1, hg1, hg2, hp1, hc1⟩ := own_pcs hown1 hn; subst hv1)
  go_wp2_with (fail)
  go_ret
  exact ⟨g1, c1, rfl, hg1, hp1, hF0.grown hgrow (fun k hk => by cases hk; exact Nat.le_refl _)⟩
end Go.Proofs.Ytcgechcbcnhpjaa
