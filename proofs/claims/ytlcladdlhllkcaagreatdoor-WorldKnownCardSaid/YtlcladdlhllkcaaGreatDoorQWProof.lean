/-
  PROVED HERE: ephemerislaw31.WorldKnown returns true: the row (with what it lists as laid) and the card, tied to the program's text.
-/
import Derived.Test.YtlcladdlhllkcaaGreatDoorQWC
import Derived.Test.YtlcladdlhllkcaaGreatDoorQWF3
import Derived.Test.YtlcladdlhllkcaaGreatDoorQWF4
import Derived.Test.YtlcladdlhllkcaaGreatDoorQWF5
import Derived.Test.YtlcladdlhllkcaaGreatDoorRows
import Derived.Test.YtlcladdlhllkcaaGreatDoorTie
import Derived.Test.YtlcladdlhllkcaaGreatDoorCards
import Derived.ProofKit
import Derived.OpenShut
import Derived.LaidMore
import Derived.Lay
import Derived.SevenTiedAt
import Derived.Stop.Joined
namespace Go.Proofs.YtlcladdlhllkcaaGreatDoor.known
open Go Go.Eng Go.ChangeShapes Go.WideShapes Go.ChangeAt Go.RowKit
set_option linter.unusedVariables false
/-- WHAT THE CONDITION GIVES: the table's block. -/
theorem table_of_laid {W : World} (h : laidMetH Tryz.prog Rows.worldKnownRow.laid W) : ∃ ty fr, W.heap[0]? = some (.cells ⟨sizes ++ []⟩ ty fr) := by
  rw [MakeChecks.laidMetH_plain _ _ _ (by kernel_rfl)] at h
  obtain ⟨ps, ⟨_, _, _, _, _, _, _, _, _, _, ⟨g, t, cs, fuel, p, q, hg, ht, hv, hd, _, _⟩, _⟩, _, _⟩ := h
  obtain rfl := Option.some.inj ((show Tryz.prog.globalNamed "ephemeris/head.sizes" = some 0 by kernel_rfl).symm.trans hg)
  obtain rfl := Option.some.inj ((show (Tryz.prog.globals[0]?).map (·.type) = some 302 by kernel_rfl).symm.trans ht)
  obtain ⟨xs, m, _, ex, hcl, hl, hel⟩ := DataW.trod_array Tryz.underlying302 hd
  have c3 : Tryz.prog.cellsOf 3 = 1 := by kernel_rfl
  have c11 : Tryz.prog.cellsOf 302 = 11 := by kernel_rfl
  rw [c11] at hcl
  have hxs : xs.map (·.1) = sizes.map fun v => match v with | .int k n => (DataW.lit (.int k n) : DataW Unit) | _ => .nil := (DataW.agg.inj (Prod.mk.inj ex).1).symm
  have hcs : cs.toList = sizes := by
    apply List.ext_getElem?
    intro r
    by_cases hr : r < 11
    · have hE := hel r hr
      rw [c3, Nat.mul_one, List.getElem?_eq_getElem (by omega)] at hE
      obtain ⟨z, e1, e2, _⟩ := DataW.trod_int Tryz.underlying3 hE
      have h0 : cs.toList[r]? = some (.int .i64 z) := by
        have h0 : ((cs.toList.drop r).take 1)[0]? = some (.int .i64 z) := by rw [e1]; rfl
        simpa using h0
      have h1 : (xs.map (·.1))[r]? = some (.lit (.int .i64 z)) := by
        rw [List.getElem?_map, List.getElem?_eq_getElem (by omega : r < xs.length), e2]; rfl
      rw [hxs, List.getElem?_map] at h1
      rw [h0]
      have hs : ∃ n, sizes[r]? = some (.int .i64 n) := by
        have : r = 0 ∨ r = 1 ∨ r = 2 ∨ r = 3 ∨ r = 4 ∨ r = 5 ∨ r = 6 ∨ r = 7 ∨ r = 8 ∨ r = 9 ∨ r = 10 := by omega
        rcases this with rfl | rfl | rfl | rfl | rfl | rfl | rfl | rfl | rfl | rfl | rfl <;> exact ⟨_, rfl⟩
      obtain ⟨n, hs⟩ := hs
      rw [hs] at h1 ⊢
      simp only [Option.map_some, Option.some.injEq, DataW.lit.injEq, Lit.int.injEq, true_and] at h1
      rw [h1]
    · rw [List.getElem?_eq_none (by omega), List.getElem?_eq_none (by show 11 ≤ r; omega)]
  simp only [World.var?, hg, Option.bind_some] at hv
  split at hv
  · rename_i cs' ty fr hw
    cases hv
    refine ⟨ty, fr, ?_⟩
    rw [hw, List.append_nil, ← hcs]
  · cases hv

set_option maxRecDepth 100000 in
theorem lifted (os : Os) (started : os.Started) (H : Type) (enc : TypeId × Value → H) :
    ReturnsInHanded {} Tryz.checked os 3 .any (fun w args => (Rows.worldKnownSpec.pre enc Tryz.prog Tryz.f3 Rows.worldKnownRow.domain false w args ∧ laidMetH Tryz.prog Rows.worldKnownRow.laid w) ∧ sizedMet enc Tryz.prog Tryz.f3 (OpenSpec.ofChange Rows.worldKnownSpec) false w args)
      (Rows.worldKnownSpec.post enc Tryz.prog Tryz.f3 false true false false) := by
  refine returnsInHanded_of_change_and (C := Tryz.checked) (X := fun w _ => laidMetH Tryz.prog Rows.worldKnownRow.laid w) (fun _ _ _ hh h => h.of_heap hh) own started noInit Tryz.func3
    (ChangeSpec.witness_shaped (enc := enc) (C := Tryz.checked) (os := os) (X := fun w _ => laidMetH Tryz.prog Rows.worldKnownRow.laid w) false (World.laidAll Tryz.prog os Rows.worldKnownRow.laid) #[] 8 (World.laidAll_os _ _ _)
      (World.shaped_of_ZipB (w1 os) (w2 os)) (w3 os) (w4 enc os) (w5 enc os)
      (by rw [MakeChecks.laidMetH_plain _ _ _ (by kernel_rfl)]; exact laidMet_laidAll _ (w6 os) (w7 os))) ?_
  intro W base args ds gs before hval0 hW hc _ hL _
  have hW' := hW
  obtain ⟨p, q, hA0, hV, rfl, _, _⟩ := hW
  have hA : DataW.TrodAll enc Tryz.prog W 0 (fun _ => true) true Tryz.f3.params.toList args.toList ds p := hA0
  rw [Tryz.params3] at hA
  obtain ⟨rfl, rfl, rfl⟩ := trodAll_none hA
  obtain ⟨rfl, rfl⟩ := trodVars_none hV
  clear hA0 hval0
  simp only [List.append_nil] at hW'
  obtain ⟨ty, fr, hw⟩ := table_of_laid hL
  refine (call hw).mono fun e W' ⟨he, hg⟩ => ?_
  subst he
  exact ⟨_, rfl, _, _, _, [], [], [], hW', (trodAll_cons_mk (shut_bool Tryz.underlying4 _) trodAll_mk0), rfl, rfl, hg.frame _, fun h => by cases h⟩

theorem holds : Rows.WorldKnownSaid :=
  OpenClaim.holds_of_wide 3 Tryz.f3 rfl rfl rfl rfl rfl rfl rfl ⟨rfl, rfl, rfl, rfl, rfl⟩ rfl rfl rfl rfl rfl theFunc Tryz.func3 facts
    (of_decide_eq_true (by kernel_rfl)) (by unfold Func.isWrapper; first | (rw [if_pos (by decide +kernel)]; kernel_rfl) | (rw [if_neg (by decide +kernel)]; exact ⟨rfl, rfl⟩))
    (fun os started H enc _ => lifted os started H enc)
/-- THE STATEMENT. -/
theorem proved : Rows.WorldKnownCardSaid :=
  Claim7.holds_tied_plain_at .later [] [.data, .widerDeep, .pinned] true (true, "a4645eb8fd7ee213ea83f2d860b3b8a1e252b0656ca3b95ab937caad522a0e4e") false holds (fun _ h => by cases h) byText (fun _ h => by cases h) worldKnown_row_tie rfl ⟨rfl, rfl⟩ mainIs rfl
    (fun f fn hf hfn => by
      obtain rfl : f = 3 := Option.some.inj (theFunc.symm.trans hf) |>.symm
      obtain rfl : fn = Tryz.f3 := (Option.some.inj (Tryz.func3.symm.trans hfn)).symm
      exact ⟨looks, fun j t ht => by
        rw [Tryz.params3] at ht
        simp at ht⟩)
    goes
end Go.Proofs.YtlcladdlhllkcaaGreatDoor.known
