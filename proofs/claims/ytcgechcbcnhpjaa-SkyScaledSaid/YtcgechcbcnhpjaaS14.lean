/-
  PROVED HERE: the walk of ephemerislaw30.SkyScaled over whatever the arguments are: it returns true.
-/
import Derived.Test.YtcgechcbcnhpjaaS13
import Derived.OpenShut
namespace Go.Proofs.Ytcgechcbcnhpjaa
set_option linter.unusedVariables false
set_option linter.unusedSimpArgs false
open Go.RowKit

theorem Fr.below {w w' : World} (h : Fr [] w w') : Below w.heap.size w w' := ⟨h.os, h.tape, h.output, h.size, fun k hk => h.block k hk (by simp)⟩
theorem nat_of {n : Int} (h : 0 ≤ n) : ∃ m : Nat, n = (m : Int) := ⟨n.toNat, by omega⟩

/-- What the walk is told of a row of integers that came in. -/
def IsRow (k : IntKind) (w : World) (a : Option Addr) (len cap : Nat) (zs : List Int) : Prop :=
  (a = none ∧ len = 0 ∧ cap = 0 ∧ zs = []) ∨
  ∃ x, a = some x ∧ len ≤ cap ∧ cap ≤ maxLen ∧ zs.length = cap ∧ (∀ i, i < zs.length → w.cell? (x.add i) = some (.int k (zs.getD i 0))) ∧ ∀ n ∈ zs, (Lit.int k n).wf = true

theorem IsRow.len {k w a len cap zs} (h : IsRow k w a len cap zs) : len ≤ 9223372036854775807 := by
  rcases h with ⟨_, rfl, _, _⟩ | ⟨x, _, hl, hm, _⟩
  · exact Nat.zero_le _
  · unfold maxLen at hm; omega
theorem IsRow.at_ {k w a len cap zs} (h : IsRow k w a len cap zs) (hp : 0 < len) : ∃ bl off, a = some ⟨bl, off, none⟩ ∧ bl < w.heap.size ∧ ∀ i, i < len → (Lit.int k (zs.getD i 0)).wf = true ∧ w.cell? ⟨bl, off + i, none⟩ = some (.int k (zs.getD i 0)) := by
  rcases h with ⟨_, rfl, _, _⟩ | ⟨x, rfl, hl, hm, hz, hcell, hwz⟩
  · omega
  · obtain ⟨bl, off, rfl, hc⟩ := ints_at hcell (by omega)
    refine ⟨bl, off, rfl, lt_of_cell (hc 0 (by omega)), fun i hi => ⟨hwz _ ?_, hc i (by omega)⟩⟩
    have hk' : i < zs.length := by omega
    rw [List.getD_eq_getElem?_getD, List.getElem?_eq_getElem hk']
    exact List.getElem_mem hk'
theorem IsRow.u64 {w a len cap zs} (h : IsRow .u64 w a len cap zs) (hp : 0 < len) : ∃ bl off, a = some ⟨bl, off, none⟩ ∧ bl < w.heap.size ∧ ∀ k, k < len → (zs.getD k 0).toNat < 18446744073709551616 ∧ w.cell? ⟨bl, off + k, none⟩ = some (.int .u64 ((zs.getD k 0).toNat : Nat)) := by
  obtain ⟨bl, off, e, hb, hc⟩ := h.at_ hp
  refine ⟨bl, off, e, hb, fun k hk => ?_⟩
  obtain ⟨h1, h2⟩ := hc k hk
  have h3 := bounds_u64 h1
  refine ⟨by omega, ?_⟩
  rw [h2]
  congr 2
  omega

theorem scaled_walk (a0 : Int) (a1 a2 a3 : Option Addr) (len1 cap1 len2 cap2 len3 cap3 : Nat) (z1 z2 z3 : List Int) (w : World) (w0 : (Lit.int .u32 a0).wf = true) (w1 : IsRow .u64 w a1 len1 cap1 z1) (w2 : IsRow .i32 w a2 len2 cap2 z2) (w3 : IsRow .u64 w a3 len3 cap3 z3) :
    Calls Try.prog 3 #[.int .u32 a0, .slice a1 len1 cap1, .slice a2 len2 cap2, .slice a3 len3 cap3] w fun e w' => e = .returned (.bool true) ∧ Below w.heap.size w w' := by
  have b0 := bounds_u32 w0
  obtain ⟨h, rfl⟩ := nat_of (n := a0) (by omega)
  refine (scaled_any h a1 a2 a3 len1 cap1 len2 cap2 len3 cap3 (fun k => (z1.getD k 0).toNat) (fun k => z2.getD k 0) (fun k => (z3.getD k 0).toNat) w (by omega) w1.len w2.len w3.len w1.u64 (fun hp => ?_) w3.u64).mono fun e w' ⟨he, hf⟩ => ⟨he, hf.below⟩
  obtain ⟨bl, off, e, hb, hc⟩ := w2.at_ hp
  exact ⟨bl, off, e, hb, fun k hk => ⟨bounds_i32 (hc k hk).1, (hc k hk).2⟩⟩
end Go.Proofs.Ytcgechcbcnhpjaa
