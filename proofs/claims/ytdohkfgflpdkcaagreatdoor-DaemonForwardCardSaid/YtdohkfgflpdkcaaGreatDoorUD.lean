/-
  PROVED HERE: a part of the proof of DaemonForward (texts U11, U12, U13, U14 of the prover, joined). No condition of its own.
-/
import Derived.Test.YtdohkfgflpdkcaaGreatDoorUC
import Derived.StillTailTactics
set_option linter.unusedVariables false
set_option linter.unusedSimpArgs false
namespace Go.Proofs.YtdohkfgflpdkcaaGreatDoor.sym
open Go Go.Eng Go.RowKit
attribute [local go_sem 10] cellOf frozenOf
attribute [local go_sem] heap_drew heap_drewN
abbrev lblk (τ:TypeId) (D:Nat) (r:Nat→Value) (A:Option Addr) (ln cap:Nat) (rd:Nat):Obj:=.cells #[pv D,r 1,r 2,r 3,r 4,r 5,r 6,r 7,r 8,.slice A ln cap,r 10,r 11,r 12,.int .u64 (rd:Int),r 14,r 15,r 16,r 17,r 18] τ (0,0)
abbrev acts (what srv:Int) (nn:Nat) (X:Nat→Value) (bv:Value):List Value:=[.int .i64 what,X 1,.int .i64 srv,.int .u64 (nn:Int),X 4,X 5,X 6,X 7,X 8,X 9,X 10,X 11,X 12,X 13,X 14,X 15,X 16,X 17,X 18,X 19,X 20,X 21,X 22,X 23,bv]
theorem law_of {L:Hp} {n m:Nat} {c:Cx} {w:World} (s:Sh L) {p:List Value} (hs:ofL L 121=some (.frz p m m false)) (A:At L n c w):c.o 120=0∧∃τ r B ln cap rd,w.heap[c.b 120]? =some (lblk τ (c.b 64) r B ln cap rd)∧rd < 18446744073709551616∧ln≤m∧(0 < ln→∃b o,B=some ⟨b,o,none⟩):=by
 obtain ⟨x7,hd⟩:=s.d
 obtain ⟨_,_,_,_,_,_,_,_,hd0,_⟩:=A.hr.at_ 64 _ hd
 obtain ⟨_,pre,l',post,ty,hh,hp,hl,h0,rfl⟩:=A.hr.at_ 120 _ s.law
 obtain ⟨_,_,hz⟩:=A.hr.at_ 121 _ hs
 obtain rfl:pre=[]:=List.length_eq_zero_iff.1 (hp.trans h0)
 cases hl with |cons a0 hl=>cases hl with |cons a1 hl=>cases hl with |cons a2 hl=>cases hl with |cons a3 hl=>cases hl with |cons a4 hl=>cases hl with |cons a5 hl=>cases hl with |cons a6 hl=>cases hl with |cons a7 hl=>cases hl with |cons a8 hl=>cases hl with |cons a9 hl=>cases hl with |cons a10 hl=>cases hl with |cons a11 hl=>cases hl with |cons a12 hl=>cases hl with |cons a13 hl=>cases hl with |cons a14 hl=>cases hl with |cons a15 hl=>cases hl with |cons a16 hl=>cases hl with |cons a17 hl=>cases hl with |cons a18 hl=>cases hl with |nil=>
 rename_i v0 v1 v2 v3 v4 v5 v6 v7 v8 v9 v10 v11 v12 v13 v14 v15 v16 v17 v18
 have e0:=ptr_of a0
 rw [hd0] at e0
 subst e0
 obtain ⟨rd,rfl,r1,r2⟩:=ui_of a13
 have r1:(0:Int)≤rd:=r1
 obtain ⟨rn,rfl⟩:∃q:Nat,rd=(q:Int):=⟨rd.toNat,by omega⟩
 have r3:rn < 18446744073709551616:=by have:(rn:Int)≤18446744073709551615:=r2; omega
 have hv:∃B ln cap,v9= .slice B ln cap∧ln≤m∧(0 < ln→∃b o,B=some ⟨b,o,none⟩):=by
  cases a9 with
  |frz hi hv=>
   rcases hz.2 with ⟨_,_,h |⟨q,k,h⟩⟩ |⟨len,cap,l,ty2,fr2,h,_,_,_,h5,_⟩ |⟨es,kk,_,_,h1,h2,_⟩
   ·exact ⟨none,0,0,h,Nat.zero_le _,by omega⟩
   ·exact ⟨some q,0,k,h,Nat.zero_le _,by omega⟩
   ·exact ⟨_,len,cap,h,h5,fun _=>⟨_,_,rfl⟩⟩
   ·omega
 obtain ⟨B,ln,cap,rfl,q1,q2⟩:=hv
 exact ⟨h0,ty,fun i=>([undef,v1,v2,v3,v4,v5,v6,v7,v8,undef,v10,v11,v12,undef,v14,v15,v16,v17,v18]:List Value).getD i undef,B,ln,cap,rn,hh,r3,q1,q2⟩
set_option maxHeartbeats 4000000 in
set_option maxRecDepth 20000 in
theorem other3_any {τ:TypeId} (R D:Nat) (r:Nat→Value) (B:Option Addr) (ln cap rd:Nat) (srv:Int) (nn:Nat) (X:Nat→Value) (A:Option Addr) (bl bc:Nat) (w:World) (Q:World→Prop) (hR:w.heap[R]? =some (lblk τ D r B ln cap rd)) (hl5:ln≤5) (hbl:bl≤bc) (hbn:0 < bl→∃b o,A=some ⟨b,o,none⟩) (hbb:bc≤9223372036854775807)
 (hT:∀w2,Fr [] w w2→Calls Tryz.prog 18 #[pv D,.int .i64 srv,.slice A (min bl 600) bc] w2 fun e w'=>(∃v,e= .returned v)∧Q w'):
 Calls Tryz.prog 28 #[pv R,.agg ⟨acts 3 srv nn X (.slice A bl bc)⟩] w fun e w'=>e= .returned (.tuple #[])∧Q w':=by
 have h1:=heap_alloc_new w (.cells ⟨acts 3 srv nn X (.slice A bl bc)⟩ 50)
 have hF:=(Fr.refl [] w).alloc (.cells ⟨acts 3 srv nn X (.slice A bl bc)⟩ 50)
 have hR1:=hF.heap hR (by simp)
 obtain ⟨m,hm⟩:∃m,min bl 600=m:=⟨_,rfl⟩
 rw [hm] at hT
 have e1:min (bl:Int) 600=(m:Int):=by omega
 have e2:m≤bc:=by omega
 have e3:(0:Int)≤(m:Int):=by omega
 have e4:(m:Int)≤(bc:Int):=by omega
 have HT:=Lib.hid hT
 clear hT
 rcases Nat.eq_zero_or_pos ln with rfl |hp
 ·go_enter Tryz.func28,Tryz.ntmps28
  go_wp2_with (fail)
  generalize w.alloc (.cells ⟨acts 3 srv nn X (.slice A bl bc)⟩ 50)=W at *
  generalize w.heap.size=sz at *
  go_still_tail 13,(by kernel_rfl)
  go_wp2_with (fail)
  refine Calls.mono (HT.out _ (by first |exact hF.drew |exact hF.drewN _)) ?_
  rintro e w' ⟨⟨v,rfl⟩,hq⟩
  go_wp2_with (fail)
  go_end0
  exact ⟨rfl,hq⟩
 ·have hw:IntKind.u64.wrap (ln:Int)=(ln:Int):=IntWalk.u64_in _ ⟨by omega,by omega⟩
  have hz:((ln:Int) == 0)=false:=by simp; omega
  have hp':(0:Int) < (ln:Int):=by omega
  go_enter Tryz.func28,Tryz.ntmps28
  go_wp2_with (fail)
  generalize w.alloc (.cells ⟨acts 3 srv nn X (.slice A bl bc)⟩ 50)=W at *
  generalize w.heap.size=sz at *
  go_quiet (fail)
  go_wp2_with (fail)
  go_still_tail 13,(by kernel_rfl)
  go_wp2_with (fail)
  refine Calls.mono (HT.out _ (by first |exact (hF.drewN _).drew |exact hF.drewN _ |exact hF.drew)) ?_
  rintro e w' ⟨⟨v,rfl⟩,hq⟩
  go_wp2_with (fail)
  go_end0
  exact ⟨rfl,hq⟩
end Go.Proofs.YtdohkfgflpdkcaaGreatDoor.sym
namespace Go.Proofs.YtdohkfgflpdkcaaGreatDoor.sym
open Go Go.Eng
set_option maxRecDepth 100000
def BytesIn (W0:World) (A:Option Addr) (bl bc:Nat):Prop:=bl≤bc∧bc≤9223372036854775807∧((A=none∧bl=0∧bc=0)∨(∃a,A=some a∧bl=0)∨∃b o l ty fr,A=some ⟨b,o,none⟩∧b < W0.heap.size∧W0.heap[b]? =some (.cells ⟨l⟩ ty fr)∧o+bc≤l.length∧∀j,j < bl→∃x:Nat,x≤255∧l[o+j]? =some (.int .u8 x))
theorem BytesIn.at {W0 w:World} {A:Option Addr} {bl bc:Nat} (h:BytesIn W0 A bl bc) (f:Fr [] W0 w):Bytes W0 w 600 (.slice A (min bl 600) bc):=by
 obtain ⟨h1,_,⟨rfl,rfl,rfl⟩ |⟨a,rfl,rfl⟩ |⟨b,o,l,ty,fr,rfl,hb,hh,h2,h3⟩⟩:=h
 ·exact .inl rfl
 ·exact .inr (.inl ⟨a,bc,rfl⟩)
 ·exact .inr (.inr ⟨b,o,_,_,l,ty,fr,rfl,hb,(f.block b hb (by simp)).trans hh,by omega,by omega,h2,fun j hj=>h3 j (by omega)⟩)
structure OkN (L:Hp):Prop where
 o:OkO L
 srv:∃p m,m≤5∧ofL L 121=some (.frz p m m false)
 two:∃l,ofL L 2=some (.ro l)
 a:∃K,ConC P K∧K.f=28∧fitsL 124 (useCon K [pt 120,.agg ⟨actPat w0⟩] ⟨trieL L,124⟩) [(.tuple ⟨[]⟩,L,50000)]=true
 b:∃K,ConC P K∧K.f=28∧fitsL 124 (useCon K [pt 120,.agg ⟨actPat w1⟩] ⟨trieL L,124⟩) [(.tuple ⟨[]⟩,L,50000)]=true
 c:∃K,ConC P K∧K.f=28∧fitsL 124 (useCon K [pt 120,.agg ⟨actPat w2⟩] ⟨trieL L,124⟩) [(.tuple ⟨[]⟩,L,50000)]=true
 d:∃K,ConC P K∧K.f=28∧fitsL 124 (useCon K [pt 120,.agg ⟨actPat w4⟩] ⟨trieL L,124⟩) [(.tuple ⟨[]⟩,L,50000)]=true
 t:∃K,ConC P K∧K.f=18∧fitsL 124 (useCon K [pt 64,anyI,.chan (some 123)] ⟨trieL ((123,.frz [bI] 0 600 false)::L),124⟩) [(unkV,L,50000)]=true
theorem okn_0:OkN (stR 0):=⟨oko_0,⟨[dI,anyI,anyI],0,by decide,by kernel_rfl⟩,⟨[.int .i64 1,.int .i64 1,.int .i64 1,.int .i64 1,.int .i64 4,.int .i64 4,.int .i64 4,.int .i64 8,.int .i64 8,.int .i64 8,.int .i64 8],by kernel_rfl⟩,⟨_,c_othera_0_ok,rfl,oa_0⟩,⟨_,c_otherb_0_ok,rfl,ob_0⟩,⟨_,c_otherc_0_ok,rfl,oc_0⟩,⟨_,c_otherd_0_ok,rfl,od_0⟩,⟨_,c_takeA0_ok,rfl,ot_0⟩⟩
theorem okn_1:OkN (stR 1):=⟨oko_1,⟨[dI,anyI,anyI],1,by decide,by kernel_rfl⟩,⟨[.int .i64 1,.int .i64 1,.int .i64 1,.int .i64 1,.int .i64 4,.int .i64 4,.int .i64 4,.int .i64 8,.int .i64 8,.int .i64 8,.int .i64 8],by kernel_rfl⟩,⟨_,c_othera_1_ok,rfl,oa_1⟩,⟨_,c_otherb_1_ok,rfl,ob_1⟩,⟨_,c_otherc_1_ok,rfl,oc_1⟩,⟨_,c_otherd_1_ok,rfl,od_1⟩,⟨_,c_takeA1_ok,rfl,ot_1⟩⟩
theorem okn_2:OkN (stR 2):=⟨oko_2,⟨[dI,anyI,anyI],2,by decide,by kernel_rfl⟩,⟨[.int .i64 1,.int .i64 1,.int .i64 1,.int .i64 1,.int .i64 4,.int .i64 4,.int .i64 4,.int .i64 8,.int .i64 8,.int .i64 8,.int .i64 8],by kernel_rfl⟩,⟨_,c_othera_2_ok,rfl,oa_2⟩,⟨_,c_otherb_2_ok,rfl,ob_2⟩,⟨_,c_otherc_2_ok,rfl,oc_2⟩,⟨_,c_otherd_2_ok,rfl,od_2⟩,⟨_,c_takeA2_ok,rfl,ot_2⟩⟩
theorem okn_3:OkN (stR 3):=⟨oko_3,⟨[dI,anyI,anyI],3,by decide,by kernel_rfl⟩,⟨[.int .i64 1,.int .i64 1,.int .i64 1,.int .i64 1,.int .i64 4,.int .i64 4,.int .i64 4,.int .i64 8,.int .i64 8,.int .i64 8,.int .i64 8],by kernel_rfl⟩,⟨_,c_othera_3_ok,rfl,oa_3⟩,⟨_,c_otherb_3_ok,rfl,ob_3⟩,⟨_,c_otherc_3_ok,rfl,oc_3⟩,⟨_,c_otherd_3_ok,rfl,od_3⟩,⟨_,c_takeA3_ok,rfl,ot_3⟩⟩
theorem okn_4:OkN (stR 4):=⟨oko_4,⟨[dI,anyI,anyI],4,by decide,by kernel_rfl⟩,⟨[.int .i64 1,.int .i64 1,.int .i64 1,.int .i64 1,.int .i64 4,.int .i64 4,.int .i64 4,.int .i64 8,.int .i64 8,.int .i64 8,.int .i64 8],by kernel_rfl⟩,⟨_,c_othera_4_ok,rfl,oa_4⟩,⟨_,c_otherb_4_ok,rfl,ob_4⟩,⟨_,c_otherc_4_ok,rfl,oc_4⟩,⟨_,c_otherd_4_ok,rfl,od_4⟩,⟨_,c_takeA4_ok,rfl,ot_4⟩⟩
theorem okn_5:OkN (stR 5):=⟨oko_5,⟨[dI,anyI,anyI],5,by decide,by kernel_rfl⟩,⟨[.int .i64 1,.int .i64 1,.int .i64 1,.int .i64 1,.int .i64 4,.int .i64 4,.int .i64 4,.int .i64 8,.int .i64 8,.int .i64 8,.int .i64 8],by kernel_rfl⟩,⟨_,c_othera_5_ok,rfl,oa_5⟩,⟨_,c_otherb_5_ok,rfl,ob_5⟩,⟨_,c_otherc_5_ok,rfl,oc_5⟩,⟨_,c_otherd_5_ok,rfl,od_5⟩,⟨_,c_takeA5_ok,rfl,ot_5⟩⟩
theorem okn_all:∀n,n≤5→OkN (stR n)
 |0,_=>okn_0
 |1,_=>okn_1
 |2,_=>okn_2
 |3,_=>okn_3
 |4,_=>okn_4
 |5,_=>okn_5
 |n+6,h=>by omega
theorem other_at {W0:World} {L:Hp} {c:Cx} {w:World} {h t:Nat} {mono:Int} {full:Bool} (k:OkN L) (a:Inv W0 L c w h t mono full) {what srv:Int} {nn:Nat} {X:Nat→Value} {A:Option Addr} {bl bc:Nat} (hw:I64 what) (hs:I64 srv) (hb:BytesIn W0 A bl bc)
 (hX:∀(c2:Cx) v,c2.av 123→(c2.z 123).v=X 20→VR c2 v (.int .i64 what)→LR c2 (actPat v) (acts what srv nn X (.slice A bl bc))):
 Calls P 28 #[pv (c.b 120),.agg ⟨acts what srv nn X (.slice A bl bc)⟩] w fun e w'=>e= .returned (.tuple #[])∧∃c2 full',Le c c2∧Inv W0 L c2 w' h t mono full':=by
 by_cases h3:what=3
 ·subst h3
  obtain ⟨p,m,hm,hsv⟩:=k.srv
  obtain ⟨h0,τ,r,B,ln,cap,rd,hR,hrd,hln,_⟩:=law_of k.o.ok.sh hsv a.st
  obtain ⟨K,hK,hf,hfit⟩:=k.t
  refine other3_any (c.b 120) (c.b 64) r B ln cap rd srv nn X A bl bc w _ hR (Nat.le_trans hln hm) hb.1 (fun h=>?_) hb.2.1 fun w2 f=>?_
  ·rcases hb.2.2 with ⟨_,h0,_⟩ |⟨_,_,h0⟩ |⟨b,o,_,_,_,h,_⟩
   ·omega
   ·omega
   ·exact ⟨b,o,h⟩
  ·have a2:=Inv.fr' a f
   exact take_at k.o a2 hK hf hfit k.two hs (hb.at a2.fr)
 ·have go:∀v,(∃K,ConC P K∧K.f=28∧fitsL 124 (useCon K [pt 120,.agg ⟨actPat v⟩] ⟨trieL L,124⟩) [(.tuple ⟨[]⟩,L,50000)]=true)→(∀c2,VR c2 v (.int .i64 what))→Calls P 28 #[pv (c.b 120),.agg ⟨acts what srv nn X (.slice A bl bc)⟩] w fun e w'=>e= .returned (.tuple #[])∧∃c2 full',Le c c2∧Inv W0 L c2 w' h t mono full':=fun v ⟨K,hK,hf,hfit⟩ hv=>
   other_call k.o a hK hf hfit (ext:=X 20) fun c2 _ h1 h2=>hX c2 v h1 h2 (hv c2)
  by_cases h0:what≤0
  ·exact go w0 k.a fun c2=>.ui _ _ hw.1 h0
  ·by_cases h1:what=1
   ·subst h1; exact go w1 k.b fun c2=>.int _ _
   ·by_cases h2:what=2
    ·subst h2; exact go w2 k.c fun c2=>.int _ _
    ·exact go w4 k.d fun c2=>.ui _ _ (show (4:Int)≤what by omega) hw.2
end Go.Proofs.YtdohkfgflpdkcaaGreatDoor.sym
namespace Go.Proofs.YtdohkfgflpdkcaaGreatDoor.sym
open Go Go.Eng Go.RowKit
theorem At.one {L:Hp} {n:Nat} {c:Cx} {w w':World} (A:At L n c w) {i0:Nat} {x0:O} (h0:ofL L i0=some x0) (hf:x0.fz=false) (hb:∀b,b≠c.b i0→w'.heap[b]? =w.heap[b]?) (ho:OR c i0 x0 w'.heap[c.b i0]?):At L n c w':=by
 refine ⟨A.gl,⟨fun i x hx=>?_,A.hr.inj⟩,A.lt⟩
 obtain ⟨a,b⟩:=A.hr.at_ i x hx
 refine ⟨a,?_⟩
 by_cases e:c.b i=c.b i0
 ·rcases A.hr.inj i i0 x x0 hx h0 e with rfl |h
  ·rw [h0] at hx; cases hx; exact ho
  ·rw [h.2] at hf; cases hf
 ·rw [hb _ e]; exact b
theorem lr_set {c:Cx}:∀{l l':List Value} (i:Nat) {p v:Value},LR c l l'→l[i]? =some p→VR c p v→LR c l (l'.set i v)
 |_,_,0,p,v,.cons h hl,hp,hv=>by cases hp; exact .cons hv hl
 |_,_,i+1,p,v,.cons h hl,hp,hv=>.cons h (lr_set i hl hp hv)
theorem Inv.store {W0:World} {L:Hp} {c:Cx} {w:World} {h t:Nat} {mono:Int} {full:Bool} (k:Sh L) (a:Inv W0 L c w h t mono full) {rd:Nat} (hr:rd < 18446744073709551616):Inv W0 L c (w.setCell ⟨c.b 120,13,none⟩ (.int .u64 (rd:Int))) h t mono full:=by
 have hne:∀b,b≠c.b 120→(w.setCell ⟨c.b 120,13,none⟩ (.int .u64 (rd:Int))).heap[b]? =w.heap[b]? :=fun b hb=>Below.heap_setCell _ _ _ _ (fun e=>hb e)
 obtain ⟨_,pre,l',post,ty,hh,hp,hl,h0,rfl⟩:=a.st.hr.at_ 120 _ k.law
 obtain rfl:pre=[]:=List.length_eq_zero_iff.1 (hp.trans h0)
 have own:W0.heap.size≤c.b 120:=a.own 120 _ k.law (.inl rfl)
 have ne:∀i x,ofL L i=some x→i≠120→c.b i≠c.b 120:=fun i x hx hi e=>by
  rcases a.st.hr.inj i 120 _ _ hx k.law e with h |h
  ·exact hi h
  ·cases h.2
 obtain ⟨τc,τs,τm,rate,⟨q1,q2,q3,q4⟩⟩:=a.clk
 have n1:=ne 65 _ k.cnt (by decide)
 have n2:=ne 66 _ k.sc (by decide)
 have n3:=ne 67 _ k.mon (by decide)
 refine ⟨At.one a.st k.law rfl hne ⟨[],l'.set 13 (.int .u64 (rd:Int)),[],ty,?_,h0.symm,lr_set 13 hl rfl (.ui _ _ (Int.natCast_nonneg _) (show (rd:Int)≤18446744073709551615 by omega)),h0,rfl⟩,a.o,a.sep,a.own,⟨a.fr.os,a.fr.tape,a.fr.output,by have:=a.fr.size; simpa [World.setCell] using this,fun b hb hn=>(hne b (by omega)).trans (a.fr.block b hb hn)⟩,τc,τs,τm,rate,⟨by rw [hne _ n1]; exact q1,by rw [hne _ n2]; exact q2,q3,by rw [hne _ n3]; exact q4⟩⟩
 have:=heap_set (o:=13) hh (.int .u64 (rd:Int))
 rw [this]
 simp
end Go.Proofs.YtdohkfgflpdkcaaGreatDoor.sym
namespace Go.Proofs.YtdohkfgflpdkcaaGreatDoor.sym
open Go Go.Eng Go.RowKit
section
variable {W0:World} {L:Hp} {c:Cx} {w:World} {h t:Nat} {mono:Int} {full:Bool}
theorem mono_at (k:Sh L) (a:Inv W0 L c w h t mono full):Calls P 26 #[pv (c.b 64)] w fun e w'=>e= .returned (.int .i64 mono)∧w=w':=by
 obtain ⟨τ,q,hD⟩:=(d_of k a.st a.o).2
 obtain ⟨τc,τs,τm,rate,kk⟩:=a.clk
 obtain ⟨raw,rest,hm,hM⟩:=kk.mon
 exact dmono_at (c.b 64) (c.b 65) (c.b 66) (c.b 67) (c.b 80) q w hD hM
theorem raw_at (k:Sh L) (a:Inv W0 L c w h t mono full):Calls P 27 #[pv (c.b 64)] w fun e w'=>e= .returned (.int .i64 t)∧Fr [] w w':=by
 obtain ⟨τ,q,hD⟩:=(d_of k a.st a.o).2
 obtain ⟨τc,τs,τm,rate,kk⟩:=a.clk
 obtain ⟨o,ho,hS⟩:=kk.sc
 exact draw_at (c.b 64) (c.b 65) (c.b 66) (c.b 67) (c.b 80) q w hD hS kk.h1.1 kk.h1.2.2
theorem inv_b (a:Inv W0 L c w h t mono full):0≤mono∧mono≤4611686018427387904∧t≤4611686018427387904:=by
 obtain ⟨τc,τs,τm,rate,kk⟩:=a.clk
 obtain ⟨raw,rest,hm,hM⟩:=kk.mon
 exact ⟨hm.m0,hm.m1,kk.h1.2.2⟩
end
theorem law_ok {t t':Nat} {mono mono':Int} {full full':Bool} (ht:t≤t') (g:Gone ((t':Int) - t) (((t':Int) - t) / 1125899906842624+1) mono full mono' full') (hf:full'=false):
 ((t':Int) - t) - ((t':Int) - t).tdiv 2000 - 2 * (((t':Int) - t).tdiv 1125899906842624+1)≤mono' - mono∧mono' - mono≤((t':Int) - t)+((t':Int) - t).tdiv 2000+2 * (((t':Int) - t).tdiv 1125899906842624+1):=by
 obtain ⟨_,h1,h2⟩:=g.keep hf
 have e1:((t':Int) - t).tdiv 2000=((t':Int) - t) / 2000:=Int.tdiv_eq_ediv_of_nonneg (by omega)
 have e2:((t':Int) - t).tdiv 1125899906842624=((t':Int) - t) / 1125899906842624:=Int.tdiv_eq_ediv_of_nonneg (by omega)
 rw [e1,e2]
 generalize (t':Int) - t=r at *
 constructor <;> omega
end Go.Proofs.YtdohkfgflpdkcaaGreatDoor.sym
