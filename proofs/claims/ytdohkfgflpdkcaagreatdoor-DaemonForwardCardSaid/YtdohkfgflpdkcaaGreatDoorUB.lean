/-
  PROVED HERE: a part of the proof of DaemonForward (texts U2, U3 of the prover, joined). No condition of its own.
-/
import Derived.Test.YtdohkfgflpdkcaaGreatDoorDE
import Derived.Test.YtdohkfgflpdkcaaGreatDoorDC
import Derived.Laws.Closers25b
set_option linter.unusedVariables false
set_option linter.unusedSimpArgs false
namespace Go.Proofs.YtdohkfgflpdkcaaGreatDoor
open Go.RowKit
attribute [local go_sem 10] cellOf frozenOf
attribute [local go_sem] heap_drew heap_drewN
abbrev dblk (τ:TypeId) (C S M T:Nat) (q:Nat→Value):Obj:=.cells #[pv C,pv S,pv M,q 3,pv T,q 5,q 6,q 7,q 8,q 9,q 10,q 11,q 12,q 13,q 14,q 15] τ (0,0)
section
variable {τ τ':TypeId} (D C S M T:Nat) (q:Nat→Value) (w:World)
theorem none_at (hD:w.heap[D]? =some (dblk τ C S M T q)):Calls Tryz.prog 55 #[pv D] w fun e w'=>e= .returned (.bool false)∧w=w':=by
 go_enter Tryz.func55,Tryz.ntmps55
 go_wp2_with (fail)
 go_ret
 exact ⟨rfl,rfl⟩
theorem dmono_at {raw mono rate rest:Int} {full:Bool} (hD:w.heap[D]? =some (dblk τ C S M T q)) (hM:w.heap[M]? =some (mon τ' raw mono rate rest full)):Calls Tryz.prog 26 #[pv D] w fun e w'=>e= .returned (.int .i64 mono)∧w=w':=by
 go_enter Tryz.func26,Tryz.ntmps26
 go_wp2_with (fail)
 refine (none_at D C S M T q w hD).mono ?_
 rintro e w' ⟨rfl,rfl⟩
 go_wp2_with (fail)
 refine (monomono_any M raw mono rate rest full _ hM).mono ?_
 rintro e w' ⟨rfl,rfl⟩
 go_wp2_with (fail)
 go_ret
 exact ⟨rfl,rfl⟩
theorem draw_at {h t o:Nat} (hD:w.heap[D]? =some (dblk τ C S M T q)) (hS:w.heap[S]? =some (sc τ' h t o)) (hh:0 < h) (ht:t≤4611686018427387904):Calls Tryz.prog 27 #[pv D] w fun e w'=>e= .returned (.int .i64 t)∧Fr [] w w':=by
 go_enter Tryz.func27,Tryz.ntmps27
 go_wp2_with (fail)
 refine (none_at D C S M T q w hD).mono ?_
 rintro e w' ⟨rfl,rfl⟩
 go_wp2_with (fail)
 refine (total_any S h t o _ hS hh ht).mono ?_
 rintro e w' ⟨rfl,hf⟩
 go_wp2_with (fail)
 go_ret
 exact ⟨rfl,hf⟩
end
end Go.Proofs.YtdohkfgflpdkcaaGreatDoor
namespace Go.Proofs.YtdohkfgflpdkcaaGreatDoor
open Go.RowKit
attribute [local go_sem 10] cellOf frozenOf
attribute [local go_sem] heap_drew heap_drewN
structure Clks (C S M:Nat) (τc τs τm:TypeId) (h t:Nat) (rate mono:Int) (full:Bool) (w:World):Prop where
 cnt:∃mask last total cf,(mask < 18446744073709551616∧last < 18446744073709551616∧total≤9223372036854775807)∧w.heap[C]? =some (cnt τc mask last total cf)
 sc:∃o,o < h∧w.heap[S]? =some (sc τs h t o)
 h1:0 < h∧h≤1000000000000∧t≤4611686018427387904
 mon:∃raw rest,Mon raw mono rate rest∧w.heap[M]? =some (mon τm raw mono rate rest full)
theorem Clks.fr {C S M:Nat} {τc τs τm:TypeId} {h t:Nat} {rate mono:Int} {full:Bool} {w w':World} {Z:List Nat} (a:Clks C S M τc τs τm h t rate mono full w) (f:Fr Z w w') (h1:C ∉ Z) (h2:S ∉ Z) (h3:M ∉ Z):Clks C S M τc τs τm h t rate mono full w':=by
 obtain ⟨⟨m,l,tt,cf,ht,hc⟩,⟨o,ho,hs⟩,hb,⟨raw,rest,hm,hM⟩⟩:=a
 exact ⟨⟨m,l,tt,cf,ht,f.heap hc h1⟩,⟨o,ho,f.heap hs h2⟩,hb,⟨raw,rest,hm,f.heap hM h3⟩⟩
structure Gone (d:Int) (k:Int) (mono:Int) (full:Bool) (mono':Int) (full':Bool):Prop where
 up:mono≤mono'
 keep:full'=false→full=false∧mono' - mono≤d+d / 2000+k∧d - d / 2000 - k≤mono' - mono
theorem Gone.step {d e k mono mono1 mono2 raw rate rest raw' rest':Int} {full full1 full2:Bool} (a:Gone d k mono full mono1 full1) (hd:0≤d) (b:Went raw mono1 rate rest e full1 raw' mono2 rest' full2) (he:1≤e) (m:Mon raw mono1 rate rest):Gone (d+e) (k+1) mono full mono2 full2:=by
 obtain ⟨a1,a2⟩:=a
 obtain ⟨_,b1,_,b2⟩:=b
 refine ⟨by omega,fun h=>?_⟩
 obtain ⟨c1,c2,c3,c4⟩:=b2 h
 obtain ⟨d1,d2,d3⟩:=a2 c1
 obtain ⟨n0,n1,n2⟩:=monN_b he m.s0 m.s1 m.o0 m.o1
 refine ⟨d1,?_,?_⟩ <;> omega
def Rd (C S M:Nat) (τc τs τm:TypeId) (h t:Nat) (rate mono:Int) (full:Bool) (w:World) (e:Ending) (w':World):Prop:=
 ∃v k,e= .returned (.tuple #[v,.int .i64 k])∧Fr [C,S,M] w w'∧∃t' mono' full',Clks C S M τc τs τm h t' rate mono' full' w'∧t≤t'∧Gone ((t':Int) - t) (((t':Int) - t) / 1125899906842624+1) mono full mono' full'∧(k≠0→t'=t∧mono'=mono)
set_option maxHeartbeats 4000000 in
set_option maxRecDepth 20000 in
theorem read_any {τ τc τs τm:TypeId} (D C S M T:Nat) (q:Nat→Value) (h t:Nat) (rate mono:Int) (full:Bool) (r:Nat) (w:World) (hD:w.heap[D]? =some (dblk τ C S M T q)) (hK:Clks C S M τc τs τm h t rate mono full w) (hr:r < 18446744073709551616)
 (n1:D≠C) (n2:D≠S) (n3:D≠M) (n4:C≠S) (n5:C≠M) (n6:S≠M)
 (hNow:∀w2 t' mono' full',Fr [C,S,M] w w2→Clks C S M τc τs τm h t' rate mono' full' w2→Calls Tryz.prog 22 #[pv D] w2 fun e w'=>(∃x,e= .returned (.int .i64 x)∧I64 x)∧Fr [] w2 w')
 (hFire:∀w2 t' mono' full' x y,Fr [C,S,M] w w2→Clks C S M τc τs τm h t' rate mono' full' w2→I64 x→I64 y→Calls Tryz.prog 59 #[pv T,.int .i64 x,.int .i64 y] w2 fun e w'=>(∃v,e= .returned v)∧Fr [] w2 w'):
 Calls Tryz.prog 10 #[pv D,.int .u64 r] w (Rd C S M τc τs τm h t rate mono full w):=by
 obtain ⟨⟨mask,last,total,cf,⟨hmk,hls,ht⟩,hC⟩,⟨o,ho,hS⟩,⟨hh0,hh1,htt⟩,⟨raw,rest,hm,hM⟩⟩:=hK
 obtain ⟨y,hy,hyb⟩:∃y:Nat,bits BinOp.and IntKind.u64 (IntKind.u64.wrap ((r:Int) - (last:Int))) (mask:Int)=(y:Int)∧y < 18446744073709551616:=by
  have b1:=bits_lo_u64 BinOp.and (IntKind.u64.wrap ((r:Int) - (last:Int))) (mask:Int)
  have b2:=bits_hi_u64 BinOp.and (IntKind.u64.wrap ((r:Int) - (last:Int))) (mask:Int)
  generalize bits BinOp.and IntKind.u64 (IntKind.u64.wrap ((r:Int) - (last:Int))) (mask:Int)=z at *
  exact ⟨z.toNat,by omega,by omega⟩
 have HML:=Lib.hid (And.intro hmk (And.intro hls hr))
 clear hmk hls hr
 have HRd:=Lib.hid (cntread_any (τ:=τc) C mask last total r y cf w hC hy ht)
 clear hy
 go_enter Tryz.func10,Tryz.ntmps10
 go_wp2_with (fail)
 refine (none_at D C S M T q w hD).mono ?_
 rintro e w' ⟨rfl,rfl⟩
 go_wp2_with (fail)
 refine HRd.out.mono ?_
 rintro e w1 (⟨rfl,rfl,hle,hC1,hf1⟩ |⟨k,hk,rfl,total',cf',ht',hC1,hf1⟩)
 ·have hD1:=hf1.heap hD (by simp; omega)
  have hS1:=hf1.heap hS (by simp; omega)
  have hM1:=hf1.heap hM (by simp; omega)
  clear hC hS hM HRd hD
  have hTo:=to_any (τ:=τs) S h t o y w1 hS1 hh0 hh1 htt ho hyb
  obtain ⟨L,hL⟩:∃L,toTold h t o y=L:=⟨_,rfl⟩
  have hL0:L≤4611686018427387904 - t:=by rw [←hL]; exact Nat.min_le_right _ _
  have hov:toOver h t o y < h:=by
   unfold toOver
   split
   ·exact Nat.mod_lt _ hh0
   ·exact ho
  rw [show toTotal h t o y=t+L by rw [←hL]; rfl,hL] at hTo
  generalize toOver h t o y=o' at *
  have HTo:=Lib.hid hTo
  clear hL hTo
  go_wp2_with (fail)
  refine HTo.out.mono ?_
  rintro e w2 ⟨rfl,hS2,hf2⟩
  have hD2:=hf2.heap hD1 (by simp; omega)
  have hC2:=hf2.heap hC1 (by simp; omega)
  have hM2:=hf2.heap hM1 (by simp; omega)
  have hF2:Fr [C,S,M] w w2:=hf1.trans hf2 (fun _ _ h=>by simp at h; subst h; simp) (fun _ _ h=>by simp at h; subst h; simp)
  clear HTo hD1 hC1 hM1 hS1 hf1 hf2
  have HX:=Lib.hid (And.intro hm (And.intro hNow (And.intro hFire hov)))
  clear hm hNow hFire hov
  go_wp2_with (fail)
  go_loopg [8] L (fun g s8 wr=>∃(left k raw' mono' rest':Int) (full':Bool),s8= .int .i64 left∧0≤left∧left≤L∧(g:Int)=left∧Gone ((L:Int) - left) k mono full mono' full'∧0≤k∧k * 1125899906842624≤(L:Int) - left+1125899906842624∧(0 < left→k * 1125899906842624=(L:Int) - left)∧Mon raw' mono' rate rest'∧wr.heap[M]? =some (mon τm raw' mono' rate rest' full')∧Fr [M] w2 wr)
  case atStart=>exact ⟨L,0,raw,mono,rest,full,rfl,by omega,by omega,rfl,⟨by omega,fun h=>⟨h,by omega,by omega⟩⟩,by omega,by omega,fun _=>by omega,HX.out.1,hM2,Fr.refl _ _⟩
  case round=>
   obtain ⟨left,k,raw',mono',rest',full',rfl,l0,l1,lg,hG,k0,k1,k2,hMon,hM3,hF3⟩:=hrel
   have hD3:=hF3.heap hD2 (by simp; omega)
   clear hM2
   rcases Int.lt_or_le 0 left with hl |hl
   ·obtain ⟨p,hp⟩:∃p,min left 1125899906842624=p:=⟨_,rfl⟩
    have hp1:1≤p∧p≤1125899906842624∧p≤left∧(p < left→p=1125899906842624):=by omega
    have HP:=Lib.hid (And.intro hG (And.intro k0 (And.intro k1 (And.intro k2 hMon))))
    have hgo:=Lib.hid (monogo_any (τ:=τm) M raw' mono' rate rest' p full' wr hM3 hMon hp1.1 hp1.2.1)
    have e1:IntKind.i64.wrap (left - p)=left - p:=IntWalk.i64_in _ (by omega)
    clear hG k0 k1 k2 hMon
    go_wp2_with (fail)
    refine hgo.out.mono ?_
    rintro e w4 ⟨⟨x,z,rfl⟩,raw2,mono2,rest2,full2,hW,hM4,hf4⟩
    have HW:=Lib.hid hW
    clear hgo hM3 hW hD3
    go_wp2_with (fail)
    go_roundg ((left - p).toNat)
    case measure=>omega
    case rel=>
     obtain ⟨g1,g2,g3,g4,g5⟩:=HP.out
     refine ⟨left - p,k+1,raw2,mono2,rest2,full2,rfl,by omega,by omega,by omega,?_,by omega,by omega,fun h=>by have:=g4 hl; omega,HW.out.mon,hM4,hF3.trans hf4 (fun _ _ h=>h) (fun _ _ h=>h)⟩
     rw [show (L:Int) - (left - p)=(L:Int) - left+p by omega]
     exact g1.step (by omega) HW.out hp1.1 g5
   ·obtain rfl:left=0:=by omega
    have hC3:=hF3.heap hC2 (by simp; omega)
    have hS3:=hF3.heap hS2 (by simp; omega)
    have hF4:Fr [C,S,M] w wr:=hF2.trans hF3 (fun _ _ h=>h) (fun _ _ h=>by simp at h; subst h; simp)
    have hcl:Clks C S M τc τs τm h (t+L) rate mono' full' wr:=⟨⟨mask,r,total+y,false,⟨HML.out.1,HML.out.2.2,hle⟩,hC3⟩,⟨o',HX.out.2.2.2,hS3⟩,⟨hh0,hh1,by omega⟩,⟨raw',rest',hMon,hM3⟩⟩
    have HN:=Lib.hid (fun W (f:Fr [] wr W)=>HX.out.2.1 W (t+L) mono' full' (hF4.then0 f) (hcl.fr f (by simp) (by simp) (by simp)))
    have hmI:I64 mono':=by have:=hMon.m0; have:=hMon.m1; unfold I64; omega
    have HFi:=Lib.hid (fun W (f:Fr [] wr W) y (hy:I64 y)=>HX.out.2.2.1 W (t+L) mono' full' mono' y (hF4.then0 f) (hcl.fr f (by simp) (by simp) (by simp)) hmI hy)
    have HE:=Lib.hid (And.intro hG (And.intro k0 (And.intro k1 (And.intro hcl hF4))))
    clear hC3 hS3 hF4 hcl hG k0 k1 k2 hMon hS2 hC2 hF2
    go_upto_region 11 with fail
    go_region_law (first
     |(go_simp; go_at_call 26; refine Calls.mono (dmono_at D C S M T q _ hD3 hM3) ?_; rintro e w' ⟨rfl,rfl⟩)
     |(go_simp; go_at_call 22; refine Calls.mono (HN.out _ (by first |exact (Fr.refl [] wr).drew |exact (Fr.refl [] wr).drewN _)) ?_; rintro e w5 ⟨⟨x,rfl,hxI⟩,hf5⟩; have hD5:w5.heap[D]? =some (dblk τ C S M T q):=hf5.heap hD3 (by simp))
     |(go_simp; go_at_call 59; refine Calls.mono (HFi.out _ (by first |exact (Fr.refl [] wr).drew.then0 hf5 |exact ((Fr.refl [] wr).drewN _).then0 hf5) _ hxI) ?_; rintro e w6 ⟨⟨v,rfl⟩,hf6⟩))
    all_goals go_wp2_with (fail)
    all_goals
     go_ret2
     have f0:Fr [] wr w6:=by
      first
       |exact ((Fr.refl [] wr).drew.then0 hf5).then0 hf6
       |exact (((Fr.refl [] wr).drewN _).then0 hf5).then0 hf6
     obtain ⟨g1,g2,g3,g4,g5⟩:=HE.out
     refine ⟨v,0,rfl,g5.then0 f0,t+L,mono',full',g4.fr f0 (by simp) (by simp) (by simp),by omega,?_,fun h=>absurd rfl h⟩
     refine ⟨g1.up,fun h=>?_⟩
     obtain ⟨h1,h2,h3⟩:=g1.keep h
     have e:((t+L:Nat):Int) - t=L:=by omega
     rw [e]
     refine ⟨h1,?_,?_⟩ <;> omega
 ·have hD1:=hf1.heap hD (by simp; omega)
  have hS1:=hf1.heap hS (by simp; omega)
  have hM1:=hf1.heap hM (by simp; omega)
  clear hC hS hM HRd hD hNow hFire
  have HX:=Lib.hid hm
  clear hm
  have hb:((k:Int) == 0)=false:=by rcases hk with rfl |rfl <;> rfl
  go_wp2_with (fail)
  go_ret2
  exact ⟨_,k,rfl,hf1.mono (by simp),t,mono,full,⟨⟨mask,last,total',cf',⟨HML.out.1,HML.out.2.1,ht'⟩,hC1⟩,⟨o,ho,hS1⟩,⟨hh0,hh1,htt⟩,⟨raw,rest,HX.out,hM1⟩⟩,by omega,⟨by omega,fun h=>⟨h,by omega,by omega⟩⟩,fun _=>⟨rfl,rfl⟩⟩
end Go.Proofs.YtdohkfgflpdkcaaGreatDoor
