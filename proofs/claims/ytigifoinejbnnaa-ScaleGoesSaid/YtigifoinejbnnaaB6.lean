/-
  PROVED HERE: Plus and Int of the reference's numbers, of numbers that aren't below zero.
-/
import Derived.Test.YtigifoinejbnnaaB5
namespace Go.Proofs.Ytigifoinejbnnaa
set_option linter.unusedVariables false
set_option linter.unusedSimpArgs false
open Go.RowKit
attribute [local go_sem 10] cellOf frozenOf
attribute [local go_sem] heap_drew heap_drewN

/-- A row of digits is no number's own block. -/
theorem Rd.fr3 {w w' : World} {A n l} {b q r : Nat} {x : Bool} {P : Option Addr} {t : TypeId} {f : Nat × Nat} (h : Rd w A n l) (hb : w.heap[b]? = some (.cells #[.bool x, .slice P q r] t f)) (k : Fr [b] w w') : Rd w' A n l := by
  obtain ⟨h1, h2, h3⟩ := h
  refine ⟨h1, h2, fun hn => ?_⟩
  obtain ⟨g, off, e, hg, hc⟩ := h3 hn
  have hne : g ≠ b := by
    rintro rfl
    have h4 := hc 0 hn
    rw [World.cell?, hb] at h4
    simp only [Option.isSome_none, Bool.false_eq_true, if_false] at h4
    rcases off with _ | _ | off
    · simp at h4
    · simp at h4
    · simp at h4
  exact ⟨g, off, e, Nat.lt_of_lt_of_le hg k.size, fun i hi => (k.cell hg (by simp [hne])).trans (hc i hi)⟩

def Sum (a b : List Nat) (n : Nat) (m : Bool) (r : List Nat) : Prop := m = false ∧ val r = val a + val b ∧ Trim r ∧ Dg r ∧ r.length ≤ n

theorem plus_sl (A B : Option Addr) (na ca nb cb : Nat) (a b : List Nat) (w : World) (ha : Rd w A na a) (hb : Rd w B nb b) (hda : Dg a) (hdb : Dg b) (hna : na < 50000) (hnb : nb < 50000) :
    Calls Try.prog 34 #[.slice A na ca, .slice B nb cb] w fun e w' => ∃ C n c r, e = .returned (.slice C n c) ∧ Rd w' C n r ∧ n ≤ c ∧ c ≤ 9223372036854775807 ∧ Dg r ∧ val r = val a + val b ∧ n ≤ max na nb + 1 ∧ Fr [] w w' := by
  refine (plus_any A B na ca nb cb a b w ha hb hda hdb hna hnb).mono ?_
  rintro e w1 ⟨v, r, rfl, hown, hd, ⟨hv, hl⟩, hf⟩
  obtain ⟨C, c, rfl, hrd⟩ := own_rd hown (by omega)
  exact ⟨C, r.length, c, r, rfl, hrd, own_cap hown, own_max hown, hd, hv, hl, hf⟩

set_option maxHeartbeats 1000000 in
set_option maxRecDepth 20000 in
theorem Plus_any (A B : Option Addr) (na ca nb cb : Nat) (a b : List Nat) (w : World) (ha : Rd w A na a) (hb : Rd w B nb b) (hda : Dg a) (hdb : Dg b) (hna : na < 40000) (hnb : nb < 40000) :
    Calls Try.prog 23 #[.agg #[.bool false, .slice A na ca], .agg #[.bool false, .slice B nb cb]] w (Num w (Sum a b (max na nb + 1))) := by
  have hb0 := heap_alloc_old (.cells #[.bool false, .slice none 0 0] 48) (heap_alloc_old (.cells #[.bool false, .slice B nb cb] 48) (heap_alloc_new w (.cells #[.bool false, .slice A na ca] 48)))
  have hb1 := heap_alloc_old (.cells #[.bool false, .slice none 0 0] 48) (heap_alloc_new (w.alloc (.cells #[.bool false, .slice A na ca] 48)) (.cells #[.bool false, .slice B nb cb] 48))
  have hb2 := heap_alloc_new ((w.alloc (.cells #[.bool false, .slice A na ca] 48)).alloc (.cells #[.bool false, .slice B nb cb] 48)) (.cells #[.bool false, .slice none 0 0] 48)
  simp only [World.size_alloc] at hb1 hb2
  have hf0 : Fr [] w _ := (((Fr.refl [] w).alloc (.cells #[.bool false, .slice A na ca] 48)).alloc (.cells #[.bool false, .slice B nb cb] 48)).alloc (.cells #[.bool false, .slice none 0 0] 48)
  go_enter Try.func23, Try.ntmps23

  go_wp2_with (fail)

  generalize ((w.alloc (.cells #[.bool false, .slice A na ca] 48)).alloc (.cells #[.bool false, .slice B nb cb] 48)).alloc (.cells #[.bool false, .slice none 0 0] 48) = W at *
  have hbb : w.heap.size ≠ w.heap.size + 1 + 1 ∧ w.heap.size + 1 ≠ w.heap.size + 1 + 1 := by omega
  go_region_held3 (fun w' => w'.heap[w.heap.size]? = some (.cells #[.bool false, .slice A na ca] 48 (0, 0)) ∧ w'.heap[w.heap.size + 1]? = some (.cells #[.bool false, .slice B nb cb] 48 (0, 0)))
    (first | exact ⟨hb0, hb1⟩ | exact ⟨hc0, hc1⟩ | exact ⟨hd0, hd1⟩ | exact ⟨heap_set_ne (heap_set_ne hd0 hbb.1 _) hbb.1 _, heap_set_ne (heap_set_ne hd1 hbb.2 _) hbb.2 _⟩)
    (first
    | (go_at_call 34; refine (plus_sl A B na ca nb cb a b _ (ha.fr hf0.drew) (hb.fr hf0.drew) hda hdb (by omega) (by omega)).mono ?_; rintro e w1 ⟨C, n, c, r, rfl, hr, hnc, hcm, hdr, hvr, hnr, hf1⟩; have hc0 := hf1.heap hb0 (by simp); have hc1 := hf1.heap hb1 (by simp); have hc2 := hf1.heap hb2 (by simp); have hF1 := hf0.drew.then0 hf1; have HVR := Lib.hid hvr; clear hvr)
    | (go_at_call 33; refine (trim_any _ _ _ _ _ _ hr hnc hcm).mono ?_; rintro e w2 ⟨m', D, n', c', r', rfl, hr', hnc', hcm', ⟨hv', ht', hl', hmem, hm⟩, hf2⟩; have hd0 := hf2.heap hc0 (by simp); have hd1 := hf2.heap hc1 (by simp); have hd2 := hf2.heap hc2 (by simp); have HV' := Lib.hid hv'; clear hv'; have HM := Lib.hid hmem; clear hmem; obtain rfl := hm rfl; clear hm))
  go_wp2_with (fail)
  refine bodyPost_ret (v := .agg #[.bool false, .slice D n' c']) (by simp [results, Try.results23, go_sem, hd2]) rfl ?_
  refine ⟨false, D, n', c', r', rfl, ?_, hnc', hcm', ⟨rfl, by rw [HV'.out, HVR.out], ht', fun x hx => hdr x (HM.out x hx), by omega⟩, ?_⟩
  · exact hr'.fr3 hd2 (((Fr.refl [_] w2).setCell (.inl (by simp)) _).setCell (.inl (by simp)) _)
  · exact ((hF1.then0 hf2).setNew (by omega) _).setNew (by omega) _
end Go.Proofs.Ytigifoinejbnnaa
