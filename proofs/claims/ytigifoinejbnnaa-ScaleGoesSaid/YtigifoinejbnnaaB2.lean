/-
  PROVED HERE: trim of the reference's numbers takes the zeros at a row's end away.
-/
import Derived.Test.YtigifoinejbnnaaB1
import Derived.Deep.LoopGhost
namespace Go.Proofs.Ytigifoinejbnnaa
set_option linter.unusedVariables false
set_option linter.unusedSimpArgs false
open Go.RowKit
attribute [local go_sem] cellOf frozenOf heap_drew heap_drewN

/-- No zero at the end. -/
def Trim (l : List Nat) : Prop := ∀ k, l.length = k + 1 → l.getD k 0 ≠ 0

/-- A number whose row reads so is handed back. -/
def Num (w : World) (P : Bool → List Nat → Prop) (e : Ending) (w' : World) : Prop := ∃ m A n c l, e = .returned (.agg #[.bool m, .slice A n c]) ∧ Rd w' A n l ∧ n ≤ c ∧ c ≤ 9223372036854775807 ∧ P m l ∧ Fr [] w w'

theorem val_take {l : List Nat} {k : Nat} (hk : k < l.length) (hz : l.getD k 0 = 0) : val (l.take (k + 1)) = val (l.take k) := by
  rw [List.take_add_one, List.getElem?_eq_getElem hk]
  rw [List.getD_eq_getElem?_getD, List.getElem?_eq_getElem hk] at hz
  simp only [Option.getD_some] at hz
  simp only [Option.toList_some]
  rw [val_snoc, hz]; simp
theorem Rd.take {w : World} {A : Option Addr} {n : Nat} {l : List Nat} (h : Rd w A n l) {k : Nat} (hk : k ≤ n) : Rd w A k (l.take k) := by
  obtain ⟨h1, h2, h3⟩ := h
  refine ⟨by simp; omega, by omega, fun hp => ?_⟩
  obtain ⟨g, off, e, hg, hc⟩ := h3 (by omega)
  refine ⟨g, off, e, hg, fun i hi => ?_⟩
  rw [hc i (by omega)]
  simp [List.getD_eq_getElem?_getD, List.getElem?_take, hi]
theorem trim_of {l : List Nat} {k n : Nat} (hl : l.length = n) (hk : k + 1 ≤ n) (h : l.getD k 0 ≠ 0) : Trim (l.take (k + 1)) := by
  intro j hj
  simp at hj
  have : j = k := by omega
  subst this
  simpa [List.getD_eq_getElem?_getD, List.getElem?_take] using h
theorem trim_nil (l : List Nat) : Trim (l.take 0) := fun k hk => by simp at hk

theorem Fr.setNew {S} {a w : World} (h : Fr S a w) {b o : Nat} (hb : a.heap.size ≤ b) (u : Value) : Fr S a (w.setCell ⟨b, o, none⟩ u) := h.setCell (.inr hb) u
theorem heap_set_ne {w : World} {b p : Nat} {o : Nat} {ob : Obj} (h : w.heap[b]? = some ob) (hne : b ≠ p) (v : Value) : (w.setCell ⟨p, o, none⟩ v).heap[b]? = some ob :=
  (Below.heap_setCell w _ v b hne).trans h

set_option maxHeartbeats 1000000 in
theorem trim_any (m : Bool) (A : Option Addr) (n c : Nat) (l : List Nat) (w : World) (h : Rd w A n l) (hnc : n ≤ c) (hc : c ≤ 9223372036854775807) :
    Calls Try.prog 33 #[.agg #[.bool m, .slice A n c]] w (Num w fun m' r => val r = val l ∧ Trim r ∧ r.length ≤ n ∧ (∀ x, x ∈ r → x ∈ l) ∧ (m = false → m' = false)) := by
  have HL := Lib.hid h.1
  have hn1 := h.2.1
  have hb0 := heap_alloc_old (.cells #[.bool false, .slice none 0 0] 48) (heap_alloc_new w (.cells #[.bool m, .slice A n c] 48))
  have hb1 := heap_alloc_new (w.alloc (.cells #[.bool m, .slice A n c] 48)) (.cells #[.bool false, .slice none 0 0] 48)
  rw [World.size_alloc] at hb1
  have hf0 : Fr [] w _ := ((Fr.refl [] w).alloc (.cells #[.bool m, .slice A n c] 48)).alloc (.cells #[.bool false, .slice none 0 0] 48)
  go_enter Try.func33, Try.ntmps33
  go_wp2_with (fail)
  go_loopg [] n (fun k wr => k ≤ n ∧ val (l.take k) = val l ∧ wr.heap[w.heap.size]? = some (.cells #[.bool m, .slice A k c] 48 (0, 0)) ∧ wr.heap[w.heap.size + 1]? = some (.cells #[.bool false, .slice none 0 0] 48 (0, 0)) ∧ Fr [] w wr)
  case atStart => exact ⟨Nat.le_refl _, by rw [List.take_of_length_le (by have := HL.out; omega)], hb0, hb1, hf0⟩
  case round =>
    clear hb0 hb1 hf0
    obtain ⟨hk, hv, hb0, hb1, hf⟩ := hrel
    have HV := Lib.hid hv
    clear hv
    generalize hB : w.heap.size = B at *
    have HB := Lib.hid hB
    clear hB
    rcases Nat.eq_zero_or_pos gk with rfl | hp
    · go_wp2_with (fail)
      refine bodyPost_ret (v := .agg #[.bool false, .slice A 0 c]) (by simp [results, Try.results33, go_sem, hb0, hb1]) rfl ?_
      refine ⟨false, A, 0, c, l.take 0, rfl, ?_, by omega, hc, ⟨HV.out, trim_nil l, by simp, fun x hx => by simp at hx, fun _ => rfl⟩, ?_⟩
      · exact ⟨by simp, by omega, fun hp => absurd hp (by omega)⟩
      · exact ((hf.setNew (Nat.le_of_eq HB.out) _).setNew (by have := HB.out; omega) _).setNew (by have := HB.out; omega) _
    · obtain ⟨k, rfl⟩ : ∃ k, gk = k + 1 := ⟨gk - 1, by omega⟩
      have hrd := (h.fr hf).2.2 (by omega)
      obtain ⟨g, off, rfl, hg, hcell⟩ := hrd
      have hck := hcell k (by omega)
      clear hcell
      have e1 : ((k + 1 : Nat) : Int) - 1 = (k : Int) := by omega
      by_cases hz : l.getD k 0 = 0
      · rw [hz] at hck
        have HZ := Lib.hid hz
        clear hz
        go_wp2_with (fail)
        go_roundg k
        case measure => omega
        case rel => exact ⟨by omega, by rw [← val_take (by have := HL.out; omega) HZ.out]; exact HV.out, heap_set hb0 _, heap_set_ne hb1 (by omega) _, hf.setNew (Nat.le_of_eq HB.out) _⟩
      · obtain ⟨x, hx⟩ : ∃ x, l.getD k 0 = x := ⟨_, rfl⟩
        have hne := Lib.hid hz
        clear hz
        rw [hx] at hck
        have hxz : ((x : Int) == 0) = false := by have := hne.out; simp; omega
        have HXX := Lib.hid hx
        clear hx
        go_wp2_with (fail)
        refine bodyPost_ret (v := .agg #[.bool m, .slice (some ⟨g, off, none⟩) (k + 1) c]) (by simp [results, Try.results33, go_sem, hb0, hb1]) rfl ?_
        refine ⟨m, _, k + 1, c, l.take (k + 1), rfl, ?_, by omega, hc, ⟨HV.out, trim_of HL.out hk hne.out, by simp; omega, fun x hx => List.mem_of_mem_take hx, fun h => h⟩, ?_⟩
        · exact (h.take hk).fr ((hf.setNew (by have := HB.out; omega) _).setNew (by have := HB.out; omega) _)
        · exact (hf.setNew (by have := HB.out; omega) _).setNew (by have := HB.out; omega) _
end Go.Proofs.Ytigifoinejbnnaa
