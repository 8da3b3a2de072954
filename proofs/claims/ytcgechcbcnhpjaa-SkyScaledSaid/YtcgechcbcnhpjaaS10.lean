/-
  PROVED HERE: the law's own "alive" returns true.
-/
import Derived.Test.YtcgechcbcnhpjaaS9
namespace Go.Proofs.Ytcgechcbcnhpjaa
set_option linter.unusedVariables false
set_option linter.unusedSimpArgs false
open Go.RowKit
attribute [local go_sem 10] cellOf frozenOf
attribute [local go_sem] heap_drew heap_drewN

set_option maxHeartbeats 1000000 in
theorem alive_any (w : World) :
    Calls Try.prog 10 #[] w fun e w' => e = .returned (.bool true) ∧ Fr [] w w' := by
  obtain ⟨k1, k2, k3, k4, k5, k6, k7, k8⟩ := one_ticks
  have hg := one_good.fits
  have T := fun (b g' c' t : Nat) (w : World) => ticks_any b 1000 65535 65530 (some ⟨g', 0, none⟩) 2 c' onef oneo t w
  have W := fun (b g' c' : Nat) (w : World) => when_any b 1000 65535 65530 4001 3999999999 (some ⟨g', 0, none⟩) 2 c' onef oneo w
  have R := fun (b g' c' : Nat) (w : World) => read_any b 1000 65535 65530 4 (some ⟨g', 0, none⟩) 2 c' onef oneo 10000000 w (by rw [k5]; decide)
  have RW := fun (b g' c' : Nat) (w : World) => raw_any b 1000 65535 65530 (some ⟨g', 0, none⟩) 2 c' onef oneo 4000000000 w
  have WO := fun (b g' c' : Nat) (w : World) => worst_any b 1000 65535 65530 (some ⟨g', 0, none⟩) 2 c' onef oneo w
  rw [k8] at WO
  simp only [k4] at RW
  have HK := Lib.hid (And.intro k1 (And.intro k2 (And.intro k3 (And.intro k4 (And.intro k6 k7)))))
  clear k1 k2 k3 k4 k5 k6 k7 k8
  go_enter Try.func10, Try.ntmps10
  go_wp2_with (fail)
  refine (one_any _).mono ?_
  rintro e w1 ⟨b, g', c', rfl, hs1, hp1, hf1⟩
  go_wp2_with (fail)
  refine (W b g' c' _ hs1 hp1 hg (by decide) (by decide) HK.out.2.2.2.2.2 (by decide) (by rw [HK.out.2.2.2.2.1]; decide) (by rw [show 3999999999 + 1 = 4000000000 from rfl, HK.out.2.2.2.1]; decide)).mono ?_
  rintro e w2 ⟨rfl, hf2⟩
  have hs2 := hf2.heap hs1 List.not_mem_nil
  have hp2 := hp1.fr hf2
  go_wp2_with (fail)
  refine (T b g' c' 999999 _ hs2 hp2 hg (by decide) (by decide) (by decide)).mono ?_
  rw [HK.out.1]
  rintro e w3 ⟨rfl, hf3⟩
  have hs3 := hf3.heap hs2 List.not_mem_nil
  have hp3 := hp2.fr hf3
  go_wp2_with (fail)
  refine (T b g' c' 1000000 _ hs3 hp3 hg (by decide) (by decide) (by decide)).mono ?_
  rw [HK.out.2.1]
  rintro e w4 ⟨rfl, hf4⟩
  have hs4 := hf4.heap hs3 List.not_mem_nil
  have hp4 := hp3.fr hf4
  go_wp2_with (fail)
  refine (T b g' c' 2000000000 _ hs4 hp4 hg (by decide) (by decide) (by decide)).mono ?_
  rw [HK.out.2.2.1]
  rintro e w5 ⟨rfl, hf5⟩
  have hs5 := hf5.heap hs4 List.not_mem_nil
  have hp5 := hp4.fr hf5
  go_wp2_with (fail)
  refine (T b g' c' 4000000000 _ hs5 hp5 hg (by decide) (by decide) (by decide)).mono ?_
  rw [HK.out.2.2.2.1]
  rintro e w6 ⟨rfl, hf6⟩
  have hs6 := hf6.heap hs5 List.not_mem_nil
  have hp6 := hp5.fr hf6
  go_wp2_with (fail)
  refine (R b g' c' _ hs6 hp6 hg (by decide) (by decide) (by decide)).mono ?_
  rintro e w7 ⟨rfl, hf7⟩
  have hs7 := hf7.heap hs6 List.not_mem_nil
  have hp7 := hp6.fr hf7
  go_wp2_with (fail)
  refine (RW b g' c' _ hs7 hp7 hg (by decide) (by decide) (by decide)).mono ?_
  rintro e w8 ⟨rfl, hf8⟩
  have hs8 := hf8.heap hs7 List.not_mem_nil
  have hp8 := hp7.fr hf8
  go_wp2_with (fail)
  refine (WO b g' c' _ hs8 hp8 hg (by decide)).mono ?_
  rintro e w9 ⟨rfl, hf9⟩
  go_wp2_with (fail)
  go_ret
  exact ⟨rfl, (((((((hf1.then0 hf2).then0 hf3).then0 hf4).then0 hf5).then0 hf6).then0 hf7).then0 hf8).then0 hf9⟩
end Go.Proofs.Ytcgechcbcnhpjaa
