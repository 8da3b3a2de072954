/-
  PROVED HERE: a part of the proof of DaemonForward (texts V5 of the prover, joined). No condition of its own.
-/
import Derived.Test.YtdohkfgflpdkcaaGreatDoorVB
set_option linter.unusedVariables false
set_option linter.unusedSimpArgs false
namespace Go.Proofs.YtdohkfgflpdkcaaGreatDoor
open Go.RowKit
attribute [local go_sem 10] cellOf frozenOf
attribute [local go_sem] heap_drew heap_drewN
set_option maxHeartbeats 8000000
set_option maxRecDepth 20000
variable {W0:World} {D R:Nat} {S:World→Nat→Int→Bool→Prop} {A:List Value→Prop}
theorem forward_any (C:Nat→Value) (first:Nat) (LA:Option Addr) (len cap:Nat) (w:World) (hlen:len≤9223372036854775807) (A:List Value→Prop)
 (hacts:0 < len→∃Bl ol,LA=some ⟨Bl,ol,none⟩∧Bl < w.heap.size∧∀k,k < len→∃what nn cs,ActC A what nn cs∧w.rangeAt Bl (ol+k * 25) cs)
 (hBeg:∀w1,Fr [] w w1→Calls Tryz.prog 7 #[confV C,.int .u64 (first:Int)] w1 fun e w'=>Fr [] w w'∧∃p b,e= .returned (.tuple #[p,.bool b])∧(b=true→∃D R S t m f bits,LawS w D R S A∧S w' t m f∧p=pq R∧w'.cell? ⟨R,1,none⟩=some (.int .i64 bits)∧8≤bits∧bits≤64))
 (hAw:∀w1,Fr [] w w1→Calls Tryz.prog 8 #[] w1 fun e w'=>e= .returned (.bool true)∧Fr [] w1 w'):
 Calls Tryz.prog 4 #[confV C,.int .u64 (first:Int),.slice LA len cap] w fun e w'=>e= .returned (.bool true)∧Fr [] w w':=by
 have h0:=heap_alloc_new w (.cells #[C 0,C 1,C 2,C 3,C 4,C 5,C 6,C 7,C 8,C 9,C 10,C 11] 27)
 have hF0:=(Fr.refl [] w).alloc (.cells #[C 0,C 1,C 2,C 3,C 4,C 5,C 6,C 7,C 8,C 9,C 10,C 11] 27)
 have HB:=Lib.hid (And.intro hBeg (And.intro hAw hacts))
 clear hBeg hAw hacts
 go_enter Tryz.func4,Tryz.ntmps4
 go_wp2_with (fail)
 refine Calls.mono (HB.out.1 _ hF0) ?_
 rintro e w1 ⟨hF1,p,b,rfl,hb⟩
 clear h0 hF0
 cases b
 ·clear hb
  go_wp2_with (fail)
  refine Calls.mono (HB.out.2.1 _ hF1) ?_
  rintro e w2 ⟨rfl,hF2⟩
  go_wp2_with (fail)
  go_ret
  exact ⟨rfl,hF1.then0 hF2⟩
 ·obtain ⟨D,R,S,t,m,f,bits,L,st,rfl,hbits,b1,b2⟩:=hb rfl
  have hsub:IntKind.i64.wrap (64 - bits)=64 - bits:=IntWalk.i64_in _ (by omega)
  have hsh:¬(64 - bits < 0):=by omega
  have HI:=Lib.hid (And.intro st L)
  clear st L hb
  go_wp2_with (fail)
  generalize (18446744073709551615:Int) / 2 ^ (64 - bits).toNat=mask at *
  go_loopg [37] len (fun g s37 wr=>∃(k t2:Nat) (m2:Int) (f2:Bool),k+g=len∧s37= .int .i64 k∧S wr t2 m2 f2)
  case atStart=>exact ⟨0,t,m,f,by omega,rfl,HI.out.1⟩
  case round=>
   clear hbits
   obtain ⟨k,t2,m2,f2,hkg,rfl,inv⟩:=hrel
   rcases Nat.eq_zero_or_pos gk with rfl |hp0
   ·obtain rfl:k=len:=by omega
    have hF:=HI.out.2.base inv
    go_wp2_with (fail)
    refine Calls.mono (HB.out.2.1 _ hF) ?_
    rintro e w2 ⟨rfl,hF2⟩
    go_wp2_with (fail)
    go_ret
    exact ⟨rfl,hF.then0 hF2⟩
   ·have hk1:k < len:=by omega
    have hF:=HI.out.2.base inv
    obtain ⟨Bl,ol,rfl,hBl,hacts⟩:=HB.out.2.2 (by omega)
    obtain ⟨what,nn,cs,hact,hcs⟩:=hacts k hk1
    clear hacts
    have hrg:wr.rangeAt Bl (ol+k * 25) cs:=fun j v hv=>by
     rw [hF.cell hBl (by simp)]
     exact hcs j v hv
    have hi50:(Tryz.prog.info? 50).map (·.size)=some cs.length:=by rw [hact.n]; kernel_rfl
    have hi51:(Tryz.prog.info? 50).map (·.size)=some (List.toArray cs).size:=by simpa using hi50
    have hone:(List.toArray cs).all (·.oneCell')=true:=by simpa using hact.one
    clear hcs
    go_upto_region 8 with (first |(refine wpList_load_mid rfl 50 _ rfl Bl (ol+k * 25) rfl cs _ hrg Tryz.underlying50 rfl hi50 ?_) |(refine wpList_store_mid rfl 50 _ _ rfl wr.heap.size 0 ⟨cs⟩ rfl rfl (there_new wr _ 50 _ hact.n.symm) hi51 hone ?_))
    refine wp_world (fun W=>Fr [] wr W∧W.rangeAt wr.heap.size 0 cs) (act_new hact wr _ rfl) ?_
    rintro W ⟨hFW,hrW⟩
    have hc0:W.cell? ⟨wr.heap.size,0,none⟩=some (.int .i64 what):=by simpa using hrW 0 _ hact.c0
    have hc3:W.cell? ⟨wr.heap.size,3,none⟩=some (.int .u64 (nn:Int)):=by simpa using hrW 3 _ hact.c3
    have inv1:=HI.out.2.fr inv hFW
    have hszW:=lt_of_cell hc0
    generalize wr.heap.size=sz at *
    clear hrg hFW inv hF
    go_upto_region 9 with (fail)
    ·have hF:=HI.out.2.base inv1
     go_wp2_with (fail)
     refine Calls.mono (HB.out.2.1 _ hF) ?_
     rintro e w2 ⟨rfl,hF2⟩
     go_wp2_with (fail)
     go_ret
     exact ⟨rfl,hF.then0 hF2⟩
    ·rename_i K9 a9
     refine QX.to (fun a w h=>h) (fun i a w h=>h) (reg9_ok HI.out.2 inv1 ?_)
     intro x44 x45 x46 x47 x48 x49 x50 x51 x52 x53 w3 hf3
     have inv3:=HI.out.2.fr inv1 hf3
     have hc0':w3.cell? ⟨sz,0,none⟩=some (.int .i64 what):=by rw [hf3.cell hszW (by simp)]; exact hc0
     have hc3':w3.cell? ⟨sz,3,none⟩=some (.int .u64 (nn:Int)):=by rw [hf3.cell hszW (by simp)]; exact hc3
     have hrW':=rangeAt_fr hf3 hszW hrW
     have hkk:IntKind.i64.wrap ((k:Int)+1)=((k+1:Nat):Int):=by rw [IntWalk.i64_in _ ⟨by omega,by omega⟩]; rfl
     clear hrW hc0 hc3 hszW inv1 hf3
     refine a9 _ _ ?_
     by_cases h0:what=0
     ·subst h0
      refine QX.to (fun a w h=>h) (fun i a w h=>h) (QX.seq (x:=head10) (y:=tail14) (part10_read HI.out.2 inv3 sz hc0' ?_))
      rintro x54 x55 x56 w4 rfl
      show Code.wp Tryz.prog tail14 _ _ _
      refine read_ok HI.out.2 inv3 sz nn hc3' mask ?_
      rintro x14 x15 x16 x17 x18 x84 x85 x86 x87 x88 x89 x90 x91 x92 x93 x94 x95 x96 x97 x98 x99 x100 x101 x102 x103 x104 x105 x106 x107 x108 x109 x110 x111 x112 x113 x114 x115 x116 x117 x118 x119 x120 x121 x122 x123 x124 x125 x126 x127 x128 x129 x130 x131 x132 x133 x134 x135 x136 x137 x138 x139 x140 x141 x142 x143 x144 x145 x146 x147 x148 x149 x150 x151 x152 x153 x154 x155 x156 x157 x158 x159 x160 x161 x162 x163 x164 x165 x166 x167 x168 x169 x170 x171 x172 x173 x174 x175 x176 x177 x178 x179 x180 w5 ⟨t5,m5,f5,inv5⟩
      go_wp2_with (fail)
      go_roundg (gk - 1)
      case measure=>omega
      case rel=>exact ⟨k+1,t5,m5,f5,by omega,rfl,inv5⟩
     ·refine QX.to (fun a w h=>h) (fun i a w h=>h) (QX.seq (x:=head10) (y:=tail14) (part10_other HI.out.2 inv3 sz what hc0' cs h0 hact.n hact.ok hrW' ?_))
      rintro x54 x55 x56 x57 x58 x59 x60 x61 x62 x63 x64 x65 x66 x67 x68 x69 x70 x71 x72 x73 x74 x75 x76 x77 x78 x79 x80 x81 x82 x83 w4 ⟨f4,inv4⟩
      go_wp2_with (fail)
      go_roundg (gk - 1)
      case measure=>omega
      case rel=>exact ⟨k+1,t2,m2,f4,by omega,rfl,inv4⟩
end Go.Proofs.YtdohkfgflpdkcaaGreatDoor
