/-
  PROVED HERE: a part of the proof of DaemonForward (texts V6 of the prover, joined). No condition of its own.
-/
import Derived.Test.YtdohkfgflpdkcaaGreatDoorDA
import Derived.Deep.MidRow
import Derived.Test.YtdohkfgflpdkcaaGreatDoorVA
set_option linter.unusedVariables false
set_option linter.unusedSimpArgs false
namespace Go.Proofs.YtdohkfgflpdkcaaGreatDoor
open Go.RowKit
attribute [local go_sem 10] cellOf frozenOf
attribute [local go_sem] heap_drew heap_drewN
set_option maxHeartbeats 4000000
set_option maxRecDepth 20000
theorem begins_any (C:Nat→Value) (A:Option Addr) (ln cap first:Nat) (w:World) (hlc:ln≤cap) (hcb:cap≤9223372036854775807) (hA:0 < ln→∃b o,A=some ⟨b,o,none⟩) (hone:∀i,i < 12→(C i).oneCell'=true) (hF1:first < 18446744073709551616) (Φ:Option Addr→Int→World→Prop)
 (hN:∀w2,Fr [] w w2→Calls Tryz.prog 40 #[.agg #[C 0,C 1,C 2,C 3,C 4,C 5,C 6,C 7,.slice A (min ln 5) cap,C 9,C 10,C 11],.int .u64 (first:Int)] w2 fun e w3=>Fr [] w2 w3∧∃p k,e= .returned (.tuple #[.pointer p,.int .i64 k])∧Φ p k w3):
 Calls Tryz.prog 7 #[.agg #[C 0,C 1,C 2,C 3,C 4,C 5,C 6,C 7,.slice A ln cap,C 9,C 10,C 11],.int .u64 (first:Int)] w fun e w'=>∃p k w3,Φ p k w3∧Fr [] w w3∧w'=w3.alloc (.cells #[.pointer p,C 0,C 1,C 2,C 3,C 4,C 5,C 6,C 7,.slice A (min ln 5) cap,C 9,C 10,C 11,.int .u64 (first:Int),.int .u64 0,.int .u64 0,.int .u64 0,.int .u64 0,.int .u64 0] 41)∧e= .returned (.tuple #[pq w3.heap.size,.bool (k == 0&&p.isSome)]):=by
 have h0:=heap_alloc_new w (.cells #[C 0,C 1,C 2,C 3,C 4,C 5,C 6,C 7,.slice A ln cap,C 9,C 10,C 11] 27)
 have hF0:=(Fr.refl [] w).alloc (.cells #[C 0,C 1,C 2,C 3,C 4,C 5,C 6,C 7,.slice A ln cap,C 9,C 10,C 11] 27)
 have fin:∀m:Nat,min ln 5=m→True:=fun _ _=>trivial
 clear fin
 rcases (show ln≤5∨5 < ln by omega) with hl |hl
 ·rw [show min ln 5=ln by omega] at *
  have HN:=Lib.hid hN
  clear hN
  go_enter Tryz.func7,Tryz.ntmps7
  go_wp2_with (fail)
  have hF0':=hF0
  have h0':=h0
  refine Calls.mono (HN.out _ hF0') ?_
  rintro e w3 ⟨hF3,p,k,rfl,hΦ⟩
  have hb3:=hF3.heap h0' (by simp)
  have hFF:=hF0'.then0 hF3
  clear h0 h0' hF0 hF0' hF3 HN
  cases p with
  |none=>
   by_cases hk:k=0
   ·subst hk
    go_wp2_with (fail)
    go_ret2
    exact ⟨none,0,w3,hΦ,hFF,rfl,rfl⟩
   ·have hk1:(k == 0)=false:=by simpa using hk
    go_wp2_with (fail)
    go_ret2
    exact ⟨none,k,w3,hΦ,hFF,rfl,by rw [hk1]; rfl⟩
  |some p=>
   by_cases hk:k=0
   ·subst hk
    go_wp2_with (fail)
    go_ret2
    exact ⟨some p,0,w3,hΦ,hFF,rfl,rfl⟩
   ·have hk1:(k == 0)=false:=by simpa using hk
    go_wp2_with (fail)
    go_ret2
    exact ⟨some p,k,w3,hΦ,hFF,rfl,by rw [hk1]; rfl⟩
 ·rw [show min ln 5=5 by omega] at *
  have h5:5≤cap:=by omega
  have HN:=Lib.hid hN
  clear hN
  go_enter Tryz.func7,Tryz.ntmps7
  go_wp2_with (fail)
  have hF0':=(Fr.refl [] w).alloc (.cells #[C 0,C 1,C 2,C 3,C 4,C 5,C 6,C 7,.slice A 5 cap,C 9,C 10,C 11] 27)
  have h0':=heap_alloc_new w (.cells #[C 0,C 1,C 2,C 3,C 4,C 5,C 6,C 7,.slice A 5 cap,C 9,C 10,C 11] 27)
  refine Calls.mono (HN.out _ hF0') ?_
  rintro e w3 ⟨hF3,p,k,rfl,hΦ⟩
  have hb3:=hF3.heap h0' (by simp)
  have hFF:=hF0'.then0 hF3
  clear h0 h0' hF0 hF0' hF3 HN
  cases p with
  |none=>
   by_cases hk:k=0
   ·subst hk
    go_wp2_with (fail)
    go_ret2
    exact ⟨none,0,w3,hΦ,hFF,rfl,rfl⟩
   ·have hk1:(k == 0)=false:=by simpa using hk
    go_wp2_with (fail)
    go_ret2
    exact ⟨none,k,w3,hΦ,hFF,rfl,by rw [hk1]; rfl⟩
  |some p=>
   by_cases hk:k=0
   ·subst hk
    go_wp2_with (fail)
    go_ret2
    exact ⟨some p,0,w3,hΦ,hFF,rfl,rfl⟩
   ·have hk1:(k == 0)=false:=by simpa using hk
    go_wp2_with (fail)
    go_ret2
    exact ⟨some p,k,w3,hΦ,hFF,rfl,by rw [hk1]; rfl⟩
end Go.Proofs.YtdohkfgflpdkcaaGreatDoor
