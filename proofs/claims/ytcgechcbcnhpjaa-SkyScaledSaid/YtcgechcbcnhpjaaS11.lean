/-
  PROVED HERE: a piece's Off is stored into a row of pieces of the call's own.
-/
import Derived.Test.YtcgechcbcnhpjaaS10
namespace Go.Proofs.Ytcgechcbcnhpjaa
set_option linter.unusedVariables false
set_option linter.unusedSimpArgs false
open Go.RowKit

def upd {α : Type} (f : Nat → α) (i : Nat) (x : α) (k : Nat) : α := if k = i then x else f k
theorem prow_set (f o) (x : Int) : ∀ n i, i < n → (prow f o n).set (i * 2 + 1) (.int .i64 x) = prow f (upd o i x) n
  | 0, i, h => by omega
  | n + 1, i, h => by
    have hl := prow_len f o n
    rcases Nat.lt_or_ge i n with h1 | h1
    · rw [prow, prow, List.set_append_left _ _ (by omega), prow_set f o x n i h1, upd, if_neg (by omega)]
    · obtain rfl : i = n := by omega
      rw [prow, prow, List.set_append_right _ _ (by omega), hl, show i * 2 + 1 - i * 2 = 1 by omega, upd, if_pos rfl]
      rw [prow_congr i (f := f) (f' := f) (o := upd o i x) (o' := o) (fun k hk => ⟨rfl, by rw [upd, if_neg (by omega)]⟩)]
      rfl
theorem own_set {w : World} {base n g c i : Nat} {f o} {x : Int} (h : w.ownsRow base 39 2 (.slice (some ⟨g, 0, none⟩) n c) n (prow f o n)) (hi : i < n) : (w.setCell ⟨g, i * 2 + 1, none⟩ (.int .i64 x)).ownsRow base 39 2 (.slice (some ⟨g, 0, none⟩) n c) n (prow f (upd o i x) n) := by
  rcases h.2 with ⟨h0, _⟩ | ⟨g', cap, cur, e, hb, hg, hc, hm, hs, ht⟩
  · cases h0
  · cases e
    refine ⟨by rw [prow_len], .inr ⟨g, c, cur.setIfInBounds (i * 2 + 1) (.int .i64 x), rfl, hb, heap_set hg _, hc, hm, by simpa using hs, ?_⟩⟩
    rw [Array.toList_setIfInBounds, List.take_set, ht, prow_set f o x n i hi]
end Go.Proofs.Ytcgechcbcnhpjaa
