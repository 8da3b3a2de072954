/-
  PROVED HERE: a part of the proof of DaemonForward (texts U4, U5, U6, U7, U8, U9, U10 of the prover, joined). No condition of its own.
-/
import Derived.Test.YtdohkfgflpdkcaaGreatDoorSD
import Derived.Test.YtdohkfgflpdkcaaGreatDoorUB
import Derived.Test.YtdohkfgflpdkcaaGreatDoorHA
import Derived.Test.YtdohkfgflpdkcaaGreatDoorHB
import Derived.Test.YtdohkfgflpdkcaaGreatDoorKL
set_option linter.unusedVariables false
set_option linter.unusedSimpArgs false
namespace Go.Proofs.YtdohkfgflpdkcaaGreatDoor.sym
open Go Go.Eng
def roO:O→O
 |.cells l=>.ro l
 |x=>x
def toRo:Hp→Hp
 |[]=>[]
 |e::r=>(e.1,roO e.2)::toRo r
theorem ofL_toRo:∀(L:Hp) (i:Nat),ofL (toRo L) i=(ofL L i).map roO
 |[],i=>rfl
 |(j,x)::r,i=>by
  have ih:=ofL_toRo r i
  rw [ofL_cons,toRo,ofL_cons]
  split
  ·rfl
  ·exact ih
theorem or_ro {c:Cx} {i:Nat} {x:O} {ob:Option Obj} (h:OR c i x ob):OR c i (roO x) ob:=by
 cases x with
 |cells l=>
  obtain ⟨pre,l',post,ty,h1,h2,h3,_,_⟩:=h
  exact ⟨pre,l',post,ty,(0,0),h1,h2,h3⟩
 |_=>exact h
theorem fz_ro {x:O} (h:x.fz=true):(roO x).fz=true:=by cases x <;> first |rfl |exact h
theorem At.ro {L:Hp} {n:Nat} {c:Cx} {w:World} (A:At L n c w):At (toRo L) n c w:=by
 refine ⟨A.gl,⟨fun i x hx=>?_,fun i j x y hx hy e=>?_⟩,A.lt⟩
 ·rw [ofL_toRo] at hx
  cases h:ofL L i with
  |none=>rw [h] at hx; cases hx
  |some y=>
   rw [h] at hx
   cases hx
   have q:=A.hr.at_ i y h
   exact ⟨q.1,or_ro q.2⟩
 ·rw [ofL_toRo] at hx hy
  cases h:ofL L i with
  |none=>rw [h] at hx; cases hx
  |some x0=>
   cases k:ofL L j with
   |none=>rw [k] at hy; cases hy
   |some y0=>
    rw [h] at hx; rw [k] at hy
    cases hx; cases hy
    rcases A.hr.inj i j x0 y0 h k e with h |h
    ·exact .inl h
    ·exact .inr ⟨fz_ro h.1,fz_ro h.2⟩
def allFz (L:Hp):Bool:=L.all fun e=>e.2.fz
theorem allFz_ok {L:Hp} (h:allFz L=true) {i:Nat} {x:O} (hx:ofL L i=some x):x.fz=true:=by
 induction L with
 |nil=>cases hx
 |cons e r ih=>
  unfold allFz at h
  rw [List.all_cons,Bool.and_eq_true] at h
  obtain ⟨j,y⟩:=e
  rw [ofL_cons] at hx
  split at hx
  ·cases hx; exact h.1
  ·exact ih h.2 hx
theorem At.quiet {k:Con} (hk:ConC P k) {L:Hp} {n N:Nat} {args:List Value} {v:Value} (hz:allFz (toRo L)=true) (hf:fitsL n (useCon k args ⟨trieL (toRo L),n⟩) [(v,[],N)]=true) (hn:64≤n) {c:Cx} {w:World} (A:At L n c w) {args':List Value} (ha:LR c args args'):
 Calls P k.f ⟨args'⟩ w fun e w'=>(∃c' v',e= .returned v'∧Le c c'∧VR c' v v')∧Fr [] w w':=
 (At.call hk hf (by rfl) hn (At.ro A) ha).mono fun e w' ⟨o,ho,c',v',he,hl,hv,_,s⟩=>by
   rw [List.mem_singleton] at ho
   subst ho
   exact ⟨⟨c',v',he,hl,hv⟩,⟨s.os,s.tape,s.output,s.size,fun k hk _=>s.block k hk fun i x hx _=>allFz_ok hz hx⟩⟩
theorem At.lt_heap {L:Hp} {n:Nat} {c:Cx} {w:World} (A:At L n c w) {i:Nat} {x:O} (h:ofL L i=some x):c.b i < w.heap.size:=(A.hr.at_ i x h).2.lt
theorem At.fr {L:Hp} {n:Nat} {c:Cx} {w w':World} (A:At L n c w) (f:Fr [] w w'):At L n c w':=A.same fun i x hx=>f.block _ (At.lt_heap A hx) (by simp)
end Go.Proofs.YtdohkfgflpdkcaaGreatDoor.sym
namespace Go.Proofs.YtdohkfgflpdkcaaGreatDoor.sym
open Go Go.Eng
abbrev uI:Value:=UI .u64 (.ofNat 0) (.ofNat 18446744073709551615)
abbrev pt (n:Nat):Value:=.pointer (some ⟨n,0,none⟩)
abbrev rigV (k:IntKind) (i:Nat) (lo hi:Int):Value:=.iface 4 (.tuple ⟨[.int k lo,.int k hi,.slice none i 0]⟩)
abbrev tmI:Value:=UI .i64 (.ofNat 0) (.ofNat 4611686018427387904)
structure Sh (L:Hp):Prop where
 d:∃x7,ofL L 64=some (.cells [pt 65,pt 66,pt 67,pt 68,pt 80,pt 73,pt 71,x7,pt 69,pt 70,anyI,anyI,anyI,tmI,anyI,anyI])
 cnt:ofL L 65=some (.ro [uI,uI,uI,UB,.bool true])
 sc:ofL L 66=some (.ro [UI .u64 (.ofNat 1) (.ofNat 1000000000000),rigV .u64 79 0 4611686018427387904,uI])
 mon:ofL L 67=some (.cells [rigV .i64 76 0 4611686018427387904,rigV .i64 77 0 4611686018427387904,UI .i64 (.negSucc 499999) (.ofNat 500000),rigV .i64 78 (-999999999) 999999999,UB,.bool true])
 law:ofL L 120=some (.cells [pt 64,anyI,uI,anyI,anyI,anyI,anyI,anyI,anyI,.chan (some 121),.chan (some 122),.chan (some 119),anyI,uI,uI,uI,uI,uI,uI])
abbrev rigN (c:Cx) (i:Nat):Int:=Int.ofNat (c.z i).n - Int.ofNat (c.e i)
structure Inv (W0:World) (L:Hp) (c:Cx) (w:World) (h t:Nat) (mono:Int) (full:Bool):Prop where
 st:At L 123 c w
 o:c.o 65=0∧c.o 66=0∧c.o 80=0
 sep:∀j x,ofL L j=some x→(c.b j=c.b 65→j=65)∧(c.b j=c.b 66→j=66)
 own:∀j x,ofL L j=some x→(x.fz=false∨j=65∨j=66)→W0.heap.size≤c.b j
 fr:Fr [] W0 w
 clk:∃τc τs τm rate,Clks (c.b 65) (c.b 66) (c.b 67) τc τs τm h t rate mono full w
theorem ptr_of {c:Cx} {n:Nat} {v:Value} (h:VR c (pt n) v):v= .pointer (some ⟨c.b n,c.o n+0,none⟩):=by cases h; rfl
theorem rig_of {c:Cx} {k:IntKind} {i:Nat} {lo hi:Int} {v:Value} (h:VR c (rigV k i lo hi) v):v= .int k (rigN c i)∧lo≤rigN c i∧rigN c i≤hi:=by
 cases h with
 |rig _ _ hi' h1 h2 hn=>subst hn; exact ⟨rfl,h1,h2⟩
theorem ub_of {c:Cx} {v:Value} (h:VR c UB v):∃b,v= .bool b:=by
 cases h with
 |ub b=>exact ⟨b,rfl⟩
theorem d_of {L:Hp} {n:Nat} {c:Cx} {w:World} (s:Sh L) (A:At L n c w) (ho:c.o 65=0∧c.o 66=0∧c.o 80=0):c.o 64=0∧∃τ q,w.heap[c.b 64]? =some (dblk τ (c.b 65) (c.b 66) (c.b 67) (c.b 80) q):=by
 obtain ⟨x7,hd⟩:=s.d
 obtain ⟨_,pre,l',post,ty,hh,hp,hl,h0,rfl⟩:=A.hr.at_ 64 _ hd
 obtain ⟨_,_,_,_,_,_,_,_,hm0,_⟩:=A.hr.at_ 67 _ s.mon
 obtain rfl:pre=[]:=List.length_eq_zero_iff.1 (hp.trans h0)
 cases hl with |cons a0 hl=>cases hl with |cons a1 hl=>cases hl with |cons a2 hl=>cases hl with |cons a3 hl=>cases hl with |cons a4 hl=>cases hl with |cons a5 hl=>cases hl with |cons a6 hl=>cases hl with |cons a7 hl=>cases hl with |cons a8 hl=>cases hl with |cons a9 hl=>cases hl with |cons a10 hl=>cases hl with |cons a11 hl=>cases hl with |cons a12 hl=>cases hl with |cons a13 hl=>cases hl with |cons a14 hl=>cases hl with |cons a15 hl=>cases hl with |nil=>
 rename_i v0 v1 v2 v3 v4 v5 v6 v7 v8 v9 v10 v11 v12 v13 v14 v15
 have e0:=ptr_of a0
 have e1:=ptr_of a1
 have e2:=ptr_of a2
 have e4:=ptr_of a4
 rw [ho.1] at e0
 rw [ho.2.1] at e1
 rw [hm0] at e2
 rw [ho.2.2] at e4
 subst e0 e1 e2 e4
 exact ⟨h0,ty,fun i=>([undef,undef,undef,v3,undef,v5,v6,v7,v8,v9,v10,v11,v12,v13,v14,v15]:List Value).getD i undef,hh⟩
theorem m_of {L:Hp} {n:Nat} {c:Cx} {w:World} (s:Sh L) (A:At L n c w):∃τ rate full,-500000≤rate∧rate≤500000∧w.heap[c.b 67]? =some (mon τ (rigN c 76) (rigN c 77) rate (rigN c 78) full)∧0≤rigN c 76∧rigN c 76≤4611686018427387904∧0≤rigN c 77∧rigN c 77≤4611686018427387904:=by
 obtain ⟨_,pre,l',post,ty,hh,hp,hl,h0,rfl⟩:=A.hr.at_ 67 _ s.mon
 obtain rfl:pre=[]:=List.length_eq_zero_iff.1 (hp.trans h0)
 cases hl with |cons a0 hl=>cases hl with |cons a1 hl=>cases hl with |cons a2 hl=>cases hl with |cons a3 hl=>cases hl with |cons a4 hl=>cases hl with |cons a5 hl=>cases hl with |nil=>
 obtain ⟨rfl,b1,b2⟩:=rig_of a0
 obtain ⟨rfl,b3,b4⟩:=rig_of a1
 obtain ⟨r,rfl,b5,b6⟩:=ui_of a2
 obtain ⟨rfl,_,_⟩:=rig_of a3
 obtain ⟨f,rfl⟩:=ub_of a4
 cases a5
 exact ⟨ty,r,f,b5,b6,hh,b1,b2,b3,b4⟩
end Go.Proofs.YtdohkfgflpdkcaaGreatDoor.sym
namespace Go.Proofs.YtdohkfgflpdkcaaGreatDoor.sym
open Go Go.Eng
def noRig (i:Nat):Option Nat:=match Nat.ble 76 i&&Nat.ble i 79 with |true=>none |false=>some i
theorem noRig_eq {i j:Nat} (h:noRig i=some j):i=j∧(i < 76∨79 < i):=by
 unfold noRig at h
 split at h
 ·cases h
 ·rename_i e
  cases h
  refine ⟨rfl,?_⟩
  rcases Nat.lt_or_ge i 76 with h |h
  ·exact .inl h
  ·rcases Nat.lt_or_ge 79 i with k |k
   ·exact .inr k
   ·rw [Nat.ble_eq_true_of_le h,Nat.ble_eq_true_of_le k] at e
    cases e
def Cx.rigs (c:Cx) (t raw mono rest:Int):Cx:=
 let v:=fun i=>if i=79 then t else if i=76 then raw else if i=77 then mono else rest
 {c with e:=fun i=>if 76≤i∧i≤79 then 0 else c.e i,z:=fun i=>if 76≤i∧i≤79 then {c.z i with n:=(v i).toNat} else c.z i}
theorem rigs_carry (c:Cx) (t raw mono rest:Int):Carry noRig c (Cx.rigs c t raw mono rest):=fun i j ha hf=>by
 obtain ⟨rfl,h⟩:=noRig_eq hf
 have hn:¬(76≤i∧i≤79):=by omega
 refine ⟨ha,rfl,rfl,?_,?_⟩ <;> simp [Cx.rigs,hn]
noncomputable def rigless:Hp→Bool
 |[]=>true
 |(i,x)::l=>(Nat.beq i 66 ||Nat.beq i 67 ||((match noRig i with |some j=>Nat.beq i j |none=>false)&&sameO (renO noRig x) (some x)))&&rigless l
theorem rigless_ok:∀{L:Hp},rigless L=true→∀i x,ofL L i=some x→i=66∨i=67∨(noRig i=some i∧renO noRig x=some x)
 |[],_,i,x,h=>by cases h
 |(j,y)::l,h,i,x,hx=>by
  unfold rigless at h
  rw [Bool.and_eq_true,Bool.or_eq_true,Bool.or_eq_true,Bool.and_eq_true] at h
  rw [ofL_cons] at hx
  split at hx
  ·rename_i e
   cases hx
   subst e
   rcases h.1 with (h |h) |⟨h1,h2⟩
   ·exact .inl (Nat.eq_of_beq_eq_true h)
   ·exact .inr (.inl (Nat.eq_of_beq_eq_true h))
   ·refine .inr (.inr ⟨?_,sameO_eq _ _ h2⟩)
    split at h1
    ·rename_i k hk
     rw [hk,Nat.eq_of_beq_eq_true h1]
    ·cases h1
  ·exact rigless_ok h.2 i x hx
theorem Inv.fr' {W0:World} {L:Hp} {c:Cx} {w w':World} {h t:Nat} {mono:Int} {full:Bool} (a:Inv W0 L c w h t mono full) (f:Fr [] w w'):Inv W0 L c w' h t mono full:=by
 obtain ⟨a1,a2,a3,a4,a5,τc,τs,τm,rate,a6⟩:=a
 exact ⟨At.fr a1 f,a2,a3,a4,a5.then0 f,τc,τs,τm,rate,a6.fr f (by simp) (by simp) (by simp)⟩
theorem rigN_at (c:Cx) (t raw mono rest:Int) (ht:0≤t) (hr:0≤raw) (hm:0≤mono) (hs:0≤rest):rigN (Cx.rigs c t raw mono rest) 79=t∧rigN (Cx.rigs c t raw mono rest) 76=raw∧rigN (Cx.rigs c t raw mono rest) 77=mono∧rigN (Cx.rigs c t raw mono rest) 78=rest:=by
 refine ⟨?_,?_,?_,?_⟩ <;> simp [rigN,Cx.rigs] <;> omega
theorem Inv.moved {W0:World} {L:Hp} (s:Sh L) (hr:rigless L=true) {c:Cx} {w w2:World} {h t t':Nat} {mono mono':Int} {full full':Bool} (a:Inv W0 L c w h t mono full) {τc τs τm:TypeId} {rate:Int} (f:Fr [c.b 65,c.b 66,c.b 67] w w2) (k:Clks (c.b 65) (c.b 66) (c.b 67) τc τs τm h t' rate mono' full' w2):
 ∃c2:Cx,c2.b=c.b∧c2.o=c.o∧(∀i,c2.av i ↔ c.av i)∧Inv W0 L c2 w2 h t' mono' full':=by
 obtain ⟨a1,a2,a3,a4,a5,_⟩:=a
 obtain ⟨⟨mask,last,total,cf,⟨m1,m2,m3⟩,hC⟩,⟨o,ho,hS⟩,⟨hh0,hh1,htt⟩,⟨raw,rest,hm,hM⟩⟩:=id k
 obtain ⟨av66,_,l66,_,_,_,e66,_,q66⟩:=a1.hr.at_ 66 _ s.sc
 obtain ⟨av67,_,l67,_,_,e67,_,q67,_⟩:=a1.hr.at_ 67 _ s.mon
 have av79:c.av 79:=by
  cases q66 with |cons _ q=>cases q with |cons q _=>cases q with |rig _ _ h=>exact h
 have av7:c.av 76∧c.av 77∧c.av 78:=by
  cases q67 with |cons q1 q=>cases q with |cons q2 q=>cases q with |cons _ q=>cases q with |cons q3 _=>
  cases q1 with |rig _ _ h1=>cases q2 with |rig _ _ h2=>cases q3 with |rig _ _ h3=>exact ⟨h1,h2,h3⟩
 have kc:=rigs_carry c t' raw mono' rest
 obtain ⟨v79,v76,v77,v78⟩:=rigN_at c t' raw mono' rest (by omega) hm.r0 hm.m0 hm.o0
 have gl:Gl (Cx.rigs c t' raw mono' rest):=fun g hg=>a1.gl g hg
 have hfz:∀i x,ofL L i=some x→c.b i=c.b 67→i=67:=fun i x hx e=>by
  rcases a1.hr.inj i 67 _ _ hx s.mon e with h |h
  ·exact h
  ·cases h.2
 refine ⟨Cx.rigs c t' raw mono' rest,rfl,rfl,fun i=>Iff.rfl,⟨At.put a1 kc gl a1.lt fun i x hx=>?_,a2,a3,a4,⟨f.os.trans a5.os,f.tape.trans a5.tape,f.output.trans a5.output,Nat.le_trans a5.size f.size,fun b hb _=>(f.block b (Nat.lt_of_lt_of_le hb a5.size) ?_).trans (a5.block b hb (by simp))⟩,τc,τs,τm,rate,k⟩⟩
 ·by_cases i65:i=65
  ·subst i65
   refine ⟨rfl,x,hx,fun h=>h,.inr ?_⟩
   rw [s.cnt] at hx
   cases hx
   exact ⟨[],_,[],τc,(0,0),by rw [hC]; rfl,a2.1.symm,.cons (.ui _ _ (Int.natCast_nonneg _) (show (mask:Int)≤18446744073709551615 by omega)) (.cons (.ui _ _ (Int.natCast_nonneg _) (show (last:Int)≤18446744073709551615 by omega)) (.cons (.ui _ _ (Int.natCast_nonneg _) (show (total:Int)≤18446744073709551615 by omega)) (.cons (.ub cf) (.cons (.bool true) .nil))))⟩
  ·by_cases i66:i=66
   ·subst i66
    refine ⟨rfl,x,hx,fun h=>h,.inr ?_⟩
    rw [s.sc] at hx
    cases hx
    exact ⟨[],_,[],τs,(0,0),by rw [hS]; rfl,a2.2.1.symm,.cons (.ui _ _ (show (1:Int)≤(h:Int) by omega) (show (h:Int)≤1000000000000 by omega)) (.cons (.rig _ _ av79 (by omega) (by omega) v79.symm) (.cons (.ui _ _ (Int.natCast_nonneg _) (show (o:Int)≤18446744073709551615 by omega)) .nil))⟩
   ·by_cases i67:i=67
    ·subst i67
     refine ⟨rfl,x,hx,fun h=>h,.inr ?_⟩
     rw [s.mon] at hx
     cases hx
     exact ⟨[],_,[],τm,by rw [hM]; rfl,(a1.hr.at_ 67 _ s.mon).2.choose_spec.choose_spec.choose_spec.choose_spec.2.2.2.1.symm,.cons (.rig _ _ av7.1 hm.r0 hm.r1 v76.symm) (.cons (.rig _ _ av7.2.1 hm.m0 hm.m1 v77.symm) (.cons (.ui _ _ hm.s0 hm.s1) (.cons (.rig _ _ av7.2.2 (by have:=hm.o0; omega) (by have:=hm.o1; omega) v78.symm) (.cons (.ub full') (.cons (.bool true) .nil))))),(a1.hr.at_ 67 _ s.mon).2.choose_spec.choose_spec.choose_spec.choose_spec.2.2.2.1,rfl⟩
    ·rcases rigless_ok hr i x hx with h |h |⟨h1,h2⟩
     ·exact absurd h i66
     ·exact absurd h i67
     ·refine ⟨h1,x,hx,fun h=>h,.inl ⟨h2,f.block _ (At.lt_heap a1 hx) ?_⟩⟩
      have b1:=fun e=>i65 ((a3 i x hx).1 e)
      have b2:=fun e=>i66 ((a3 i x hx).2 e)
      have b3:=fun e=>i67 (hfz i x hx e)
      intro hq
      rcases List.mem_cons.1 hq with e |hq
      ·exact b1 e
      ·rcases List.mem_cons.1 hq with e |hq
       ·exact b2 e
       ·rcases List.mem_cons.1 hq with e |hq
        ·exact b3 e
        ·cases hq
 ·have:=a4 65 _ s.cnt (.inr (.inl rfl))
  have:=a4 66 _ s.sc (.inr (.inr rfl))
  have:=a4 67 _ s.mon (.inl rfl)
  simp
  omega
end Go.Proofs.YtdohkfgflpdkcaaGreatDoor.sym
namespace Go.Proofs.YtdohkfgflpdkcaaGreatDoor.sym
open Go Go.Eng
set_option maxRecDepth 100000
noncomputable def tmS:Hp:=[(80,.ro [pt 112,pt 113,.map (some 114),uI,uI]),(112,.ro [.slice none 0 0,.map (some 115),.int .i64 (.ofNat 256)]),(113,.ro [.slice none 0 0,.map (some 116),.int .i64 (.ofNat 256)])]
noncomputable def stR:Nat→Hp
 |0=>c_othera_0.heap++tmS
 |1=>c_othera_1.heap++tmS
 |2=>c_othera_2.heap++tmS
 |3=>c_othera_3.heap++tmS
 |4=>c_othera_4.heap++tmS
 |_=>c_othera_5.heap++tmS
noncomputable abbrev monT:Nat×O:=(67,.ro [rigV .i64 76 0 4611686018427387904,rigV .i64 77 0 4611686018427387904,UI .i64 (.negSucc 499999) (.ofNat 500000),rigV .i64 78 (-999999999) 999999999,.bool true,.bool true])
abbrev natI:Value:=UI .i64 (.ofNat 0) (.ofNat 9223372036854775807)
abbrev unkV:Value:=.chan none
noncomputable def stO (L:Hp):H:=⟨trieL (toRo L),123⟩
structure Ok (L:Hp):Prop where
 sh:Sh L
 rl:rigless L=true
 fz:allFz (toRo L)=true
 now:fitsL 123 (useCon c_now0 [pt 64] ⟨trieL (toRo L),123⟩) [(anyI,[],400)]=true
 bound:fitsL 123 (useCon c_bound0 [pt 64] ⟨trieL (toRo L),123⟩) [(natI,[],400)]=true
 fire:fitsL 123 (useCon c_fire [pt 80,anyI,anyI] ⟨trieL (toRo L),123⟩) [(unkV,[],400)]=true
 stat:fitsL 123 (useCon c_status0 [pt 64] ⟨trieL (toRo L),123⟩) [(.agg ⟨[unkV,unkV,unkV,unkV,UB,unkV]⟩,[],400)]=true
 statT:fitsL 123 (useCon c_statusT [pt 64] ⟨trieL (toRo (monT::L)),123⟩) [(.agg ⟨[unkV,unkV,unkV,unkV,.bool true,unkV]⟩,[],400)]=true
theorem sh_0:Sh (stR 0):=⟨⟨.slice none 0 0,by kernel_rfl⟩,by kernel_rfl,by kernel_rfl,by kernel_rfl,by kernel_rfl⟩
theorem ok_0:Ok (stR 0):=⟨sh_0,by kernel_rfl,by kernel_rfl,by kernel_rfl,by kernel_rfl,by kernel_rfl,by kernel_rfl,by kernel_rfl⟩
theorem sh_1:Sh (stR 1):=⟨⟨.slice (some ⟨72,0,none⟩) 1 18446744073709551617,by kernel_rfl⟩,by kernel_rfl,by kernel_rfl,by kernel_rfl,by kernel_rfl⟩
theorem ok_1:Ok (stR 1):=⟨sh_1,by kernel_rfl,by kernel_rfl,by kernel_rfl,by kernel_rfl,by kernel_rfl,by kernel_rfl,by kernel_rfl⟩
theorem sh_2:Sh (stR 2):=⟨⟨.slice (some ⟨72,0,none⟩) 2 18446744073709551618,by kernel_rfl⟩,by kernel_rfl,by kernel_rfl,by kernel_rfl,by kernel_rfl⟩
theorem ok_2:Ok (stR 2):=⟨sh_2,by kernel_rfl,by kernel_rfl,by kernel_rfl,by kernel_rfl,by kernel_rfl,by kernel_rfl,by kernel_rfl⟩
theorem sh_3:Sh (stR 3):=⟨⟨.slice (some ⟨72,0,none⟩) 3 18446744073709551619,by kernel_rfl⟩,by kernel_rfl,by kernel_rfl,by kernel_rfl,by kernel_rfl⟩
theorem ok_3:Ok (stR 3):=⟨sh_3,by kernel_rfl,by kernel_rfl,by kernel_rfl,by kernel_rfl,by kernel_rfl,by kernel_rfl,by kernel_rfl⟩
theorem sh_4:Sh (stR 4):=⟨⟨.slice (some ⟨72,0,none⟩) 4 18446744073709551620,by kernel_rfl⟩,by kernel_rfl,by kernel_rfl,by kernel_rfl,by kernel_rfl⟩
theorem ok_4:Ok (stR 4):=⟨sh_4,by kernel_rfl,by kernel_rfl,by kernel_rfl,by kernel_rfl,by kernel_rfl,by kernel_rfl,by kernel_rfl⟩
theorem sh_5:Sh (stR 5):=⟨⟨.slice (some ⟨72,0,none⟩) 5 18446744073709551621,by kernel_rfl⟩,by kernel_rfl,by kernel_rfl,by kernel_rfl,by kernel_rfl⟩
theorem ok_5:Ok (stR 5):=⟨sh_5,by kernel_rfl,by kernel_rfl,by kernel_rfl,by kernel_rfl,by kernel_rfl,by kernel_rfl,by kernel_rfl⟩
section
variable {W0:World} {L:Hp} {c:Cx} {w:World} {h t:Nat} {mono:Int} {full:Bool}
theorem d_av (s:Sh L) (A:At L 123 c w):c.av 64:=by obtain ⟨_,hd⟩:=s.d; exact (A.hr.at_ 64 _ hd).1
theorem d_ptr (s:Sh L) (a:Inv W0 L c w h t mono full):VR c (pt 64) (pv (c.b 64)):=by
 have:=VR.ptr (c:=c) (b:=64) (o:=0) (d_av s a.st)
 rw [(d_of s a.st a.o).1] at this
 exact this
theorem t_ptr (s:Sh L) (a:Inv W0 L c w h t mono full):VR c (pt 80) (pv (c.b 80)):=by
 obtain ⟨_,hd⟩:=s.d
 obtain ⟨_,_,l,_,_,_,_,q,_⟩:=a.st.hr.at_ 64 _ hd
 have av:c.av 80:=by
  cases q with |cons _ q=>cases q with |cons _ q=>cases q with |cons _ q=>cases q with |cons _ q=>cases q with |cons q _=>cases q with |ptr h=>exact h
 have:=VR.ptr (c:=c) (b:=80) (o:=0) av
 rw [a.o.2.2] at this
 exact this
theorem now_at (k:Ok L) (a:Inv W0 L c w h t mono full):Calls P 22 #[pv (c.b 64)] w fun e w'=>(∃x,e= .returned (.int .i64 x)∧I64 x)∧Fr [] w w':=
 (At.quiet c_now0_ok k.fz k.now (by decide) a.st (.cons (d_ptr k.sh a) .nil)).mono fun e w' ⟨⟨c',v',he,hl,hv⟩,f⟩=>by
   obtain ⟨x,rfl,h1,h2⟩:=ui_of hv
   exact ⟨⟨x,he,h1,h2⟩,f⟩
theorem bound_at (k:Ok L) (a:Inv W0 L c w h t mono full):Calls P 23 #[pv (c.b 64)] w fun e w'=>(∃x,e= .returned (.int .i64 x)∧0≤x)∧Fr [] w w':=
 (At.quiet c_bound0_ok k.fz k.bound (by decide) a.st (.cons (d_ptr k.sh a) .nil)).mono fun e w' ⟨⟨c',v',he,hl,hv⟩,f⟩=>by
   obtain ⟨x,rfl,h1,h2⟩:=ui_of hv
   exact ⟨⟨x,he,h1⟩,f⟩
theorem fire_at (k:Ok L) (a:Inv W0 L c w h t mono full) {x y:Int} (hx:I64 x) (hy:I64 y):Calls P 59 #[pv (c.b 80),.int .i64 x,.int .i64 y] w fun e w'=>(∃v,e= .returned v)∧Fr [] w w':=
 (At.quiet c_fire_ok.down k.fz k.fire (by decide) a.st (.cons (t_ptr k.sh a) (.cons (.ui _ _ hx.1 hx.2) (.cons (.ui _ _ hy.1 hy.2) .nil)))).mono fun e w' ⟨⟨c',v',he,hl,hv⟩,f⟩=>⟨⟨v',he⟩,f⟩
theorem stat_at (k:Ok L) (a:Inv W0 L c w h t mono full):Calls P 29 #[pv (c.b 64)] w fun e w'=>(∃v0 v1 v2 v3 s v5,e= .returned (.agg #[v0,v1,v2,v3,.bool s,v5])∧(full=true→s=true))∧Fr [] w w':=by
 cases full with
 |false=>
  refine (At.quiet c_status0_ok.down k.fz k.stat (by decide) a.st (.cons (d_ptr k.sh a) .nil)).mono fun e w' ⟨⟨c',v',he,hl,hv⟩,f⟩=>?_
  cases hv with |agg hv=>cases hv with |cons a0 hv=>cases hv with |cons a1 hv=>cases hv with |cons a2 hv=>cases hv with |cons a3 hv=>cases hv with |cons a4 hv=>cases hv with |cons a5 hv=>cases hv with |nil=>
  obtain ⟨s,rfl⟩:=ub_of a4
  exact ⟨⟨_,_,_,_,s,_,he,fun h=>by cases h⟩,f⟩
 |true=>
  obtain ⟨τc,τs,τm,rate,kk⟩:=a.clk
  obtain ⟨raw,rest,hm,hM⟩:=kk.mon
  obtain ⟨_,pre,l',post,ty,hh,hp,hl,h0,rfl⟩:=a.st.hr.at_ 67 _ k.sh.mon
  have A2:At (monT::L) 123 c w:=by
   refine ⟨a.st.gl,⟨fun i x hx=>?_,fun i j x y hx hy e=>?_⟩,a.st.lt⟩
   ·rw [ofL_cons] at hx
    split at hx
    ·rename_i e
     cases hx
     subst e
     refine ⟨(a.st.hr.at_ 67 _ k.sh.mon).1,pre,l',[],ty,(0,0),hh,hp,?_⟩
     obtain rfl:pre=[]:=List.length_eq_zero_iff.1 (hp.trans h0)
     rw [hM] at hh
     cases hl with |cons a0 hl=>cases hl with |cons a1 hl=>cases hl with |cons a2 hl=>cases hl with |cons a3 hl=>cases hl with |cons a4 hl=>cases hl with |cons a5 hl=>cases hl with |nil=>
     cases hh
     exact .cons a0 (.cons a1 (.cons a2 (.cons a3 (.cons (.bool true) (.cons a5 .nil)))))
    ·exact a.st.hr.at_ i x hx
   ·have back:∀i x,ofL (monT::L) i=some x→∃y,ofL L i=some y∧(y.fz=true→x.fz=true):=fun i x hx=>by
     rw [ofL_cons] at hx
     split at hx
     ·rename_i e
      cases hx
      subst e
      exact ⟨_,k.sh.mon,fun _=>rfl⟩
     ·exact ⟨x,hx,fun h=>h⟩
    obtain ⟨x0,g1,g2⟩:=back i x hx
    obtain ⟨y0,k1,k2⟩:=back j y hy
    rcases a.st.hr.inj i j x0 y0 g1 k1 e with h |h
    ·exact .inl h
    ·exact .inr ⟨g2 h.1,k2 h.2⟩
  have hz:allFz (toRo (monT::L))=true:=k.fz
  refine (At.quiet c_statusT_ok.down hz k.statT (by decide) A2 (.cons (d_ptr k.sh a) .nil)).mono fun e w' ⟨⟨c',v',he,hl,hv⟩,f⟩=>?_
  cases hv with |agg hv=>cases hv with |cons a0 hv=>cases hv with |cons a1 hv=>cases hv with |cons a2 hv=>cases hv with |cons a3 hv=>cases hv with |cons a4 hv=>cases hv with |cons a5 hv=>cases hv with |nil=>
  cases a4
  exact ⟨⟨_,_,_,_,true,_,he,fun _=>rfl⟩,f⟩
end
end Go.Proofs.YtdohkfgflpdkcaaGreatDoor.sym
namespace Go.Proofs.YtdohkfgflpdkcaaGreatDoor.sym
open Go Go.Eng
set_option maxRecDepth 100000
section
variable {W0:World} {L:Hp} {c:Cx} {w:World} {h t:Nat} {mono:Int} {full:Bool}
theorem inv_ne (s:Sh L) (a:Inv W0 L c w h t mono full):c.b 64≠c.b 65∧c.b 64≠c.b 66∧c.b 64≠c.b 67∧c.b 65≠c.b 66∧c.b 65≠c.b 67∧c.b 66≠c.b 67:=by
 obtain ⟨_,hd⟩:=s.d
 refine ⟨fun e=>?_,fun e=>?_,fun e=>?_,fun e=>?_,fun e=>?_,fun e=>?_⟩
 ·exact absurd ((a.sep 64 _ hd).1 e) (by decide)
 ·exact absurd ((a.sep 64 _ hd).2 e) (by decide)
 ·rcases a.st.hr.inj 64 67 _ _ hd s.mon e with h |h
  ·exact absurd h (by decide)
  ·cases h.1
 ·exact absurd ((a.sep 66 _ s.sc).1 e.symm) (by decide)
 ·exact absurd ((a.sep 67 _ s.mon).1 e.symm) (by decide)
 ·exact absurd ((a.sep 67 _ s.mon).2 e.symm) (by decide)
theorem read_at (k:Ok L) (a:Inv W0 L c w h t mono full) {r:Nat} (hr:r < 18446744073709551616):
 Calls P 10 #[pv (c.b 64),.int .u64 r] w fun e w'=>∃v kk,e= .returned (.tuple #[v,.int .i64 kk])∧∃(c2:Cx) (t':Nat) (mono':Int) (full':Bool),c2.b=c.b∧c2.o=c.o∧(∀i,c2.av i ↔ c.av i)∧Inv W0 L c2 w' h t' mono' full'∧t≤t'∧Gone ((t':Int) - t) (((t':Int) - t) / 1125899906842624+1) mono full mono' full'∧(kk≠0→t'=t∧mono'=mono):=by
 obtain ⟨τ,q,hD⟩:=(d_of k.sh a.st a.o).2
 obtain ⟨τc,τs,τm,rate,kk⟩:=id a.clk
 obtain ⟨n1,n2,n3,n4,n5,n6⟩:=inv_ne k.sh a
 refine (read_any (c.b 64) (c.b 65) (c.b 66) (c.b 67) (c.b 80) q h t rate mono full r w hD kk hr n1 n2 n3 n4 n5 n6 (fun w2 t' mono' full' f k2=>?_) (fun w2 t' mono' full' x y f k2 hx hy=>?_)).mono ?_
 ·obtain ⟨c2,hb,ho,hav,b⟩:=Inv.moved k.sh k.rl a f k2
  have:=now_at k b
  rw [hb] at this
  exact this
 ·obtain ⟨c2,hb,ho,hav,b⟩:=Inv.moved k.sh k.rl a f k2
  have:=fire_at k b hx hy
  rw [hb] at this
  exact this
 ·rintro e w' ⟨v,kk2,rfl,f,t',mono',full',k2,ht,hG,hz⟩
  obtain ⟨c2,hb,ho,hav,b⟩:=Inv.moved k.sh k.rl a f k2
  exact ⟨v,kk2,rfl,c2,t',mono',full',hb,ho,hav,b,ht,hG,hz⟩
theorem Inv.after (k:Ok L) (a:Inv W0 L c w h t mono full) {c2:Cx} {w':World} (hl:Le c c2) (A2:At L 123 c2 w') (st:Stays L c w w'):∃full',Inv W0 L c2 w' h t mono full':=by
 obtain ⟨hd0,τ,q,hD⟩:=d_of k.sh a.st a.o
 have av:∀i x,ofL L i=some x→c.av i:=fun i x hx=>(a.st.hr.at_ i x hx).1
 have bb:∀i x,ofL L i=some x→c2.b i=c.b i:=fun i x hx=>(hl i (av i x hx)).2.1
 obtain ⟨x7,hd⟩:=k.sh.d
 have av80:c.av 80:=by
  obtain ⟨_,_,l,_,_,_,_,q,_⟩:=a.st.hr.at_ 64 _ hd
  cases q with |cons _ q=>cases q with |cons _ q=>cases q with |cons _ q=>cases q with |cons _ q=>cases q with |cons q _=>cases q with |ptr h=>exact h
 obtain ⟨τc,τs,τm,rate,kk⟩:=a.clk
 obtain ⟨τ2,rate2,full2,r1,r2,hM2,_⟩:=m_of k.sh A2
 obtain ⟨τ1,rate1,full1,s1,s2,hM1,_⟩:=m_of k.sh a.st
 obtain ⟨⟨mask,last,total,cf,hb,hC⟩,⟨o,ho,hS⟩,hh,⟨raw,rest,hm,hM⟩⟩:=kk
 have b65:w'.heap[c.b 65]? =w.heap[c.b 65]? :=st.block _ (At.lt_heap a.st k.sh.cnt) fun i x hx e=>by
  obtain rfl:=(a.sep i x hx).1 e
  rw [k.sh.cnt] at hx; cases hx; rfl
 have b66:w'.heap[c.b 66]? =w.heap[c.b 66]? :=st.block _ (At.lt_heap a.st k.sh.sc) fun i x hx e=>by
  obtain rfl:=(a.sep i x hx).2 e
  rw [k.sh.sc] at hx; cases hx; rfl
 obtain ⟨_,_,l67,_,_,_,_,q67,_⟩:=a.st.hr.at_ 67 _ k.sh.mon
 have av7:c.av 76∧c.av 77∧c.av 78:=by
  cases q67 with |cons q1 q=>cases q with |cons q2 q=>cases q with |cons _ q=>cases q with |cons q3 _=>
  cases q1 with |rig _ _ h1=>cases q2 with |rig _ _ h2=>cases q3 with |rig _ _ h3=>exact ⟨h1,h2,h3⟩
 have rg:∀i,c.av i→rigN c2 i=rigN c i:=fun i hi=>by
  have:=hl i hi
  unfold rigN
  rw [this.2.2.2.1,this.2.2.2.2]
 rw [rg 76 av7.1,rg 77 av7.2.1,rg 78 av7.2.2] at hM2
 rw [hM] at hM1
 have e1:raw=rigN c 76∧mono=rigN c 77∧rest=rigN c 78:=by
  cases hM1
  exact ⟨rfl,rfl,rfl⟩
 obtain ⟨e1,e2,e3⟩:=e1
 have b65':=bb 65 _ k.sh.cnt
 have b66':=bb 66 _ k.sh.sc
 have b67':=bb 67 _ k.sh.mon
 refine ⟨full2,A2,⟨(hl 65 (av 65 _ k.sh.cnt)).2.2.1.trans a.o.1,(hl 66 (av 66 _ k.sh.sc)).2.2.1.trans a.o.2.1,(hl 80 av80).2.2.1.trans a.o.2.2⟩,fun j x hx=>?_,fun j x hx hz=>?_,⟨st.os.trans a.fr.os,st.tape.trans a.fr.tape,st.output.trans a.fr.output,Nat.le_trans a.fr.size st.size,fun b hb _=>(st.block b (Nat.lt_of_lt_of_le hb a.fr.size) fun i x hx e=>?_).trans (a.fr.block b hb (by simp))⟩,τc,τs,τ2,rate2,?_⟩
 ·rw [bb j x hx,b65',b66']; exact a.sep j x hx
 ·rw [bb j x hx]; exact a.own j x hx hz
 ·cases hf:x.fz with
  |true=>rfl
  |false=>have:=a.own i x hx (.inl hf); omega
 ·rw [b65',b66',b67']
  rw [b67'] at hM2
  refine ⟨⟨mask,last,total,cf,hb,b65.trans hC⟩,⟨o,ho,b66.trans hS⟩,hh,⟨raw,rest,⟨hm.r0,hm.r1,hm.m0,hm.m1,r1,r2,hm.o0,hm.o1⟩,?_⟩⟩
  rw [hM2,e1,e2,e3]
end
end Go.Proofs.YtdohkfgflpdkcaaGreatDoor.sym
namespace Go.Proofs.YtdohkfgflpdkcaaGreatDoor.sym
open Go Go.Eng
set_option maxRecDepth 100000
abbrev bI:Value:=UI .u8 (.ofNat 0) (.ofNat 255)
abbrev sI:Value:=UI .i8 (.negSucc 127) (.ofNat 127)
abbrev dI:Value:=UI .u32 (.ofNat 0) (.ofNat 4294967295)
abbrev actPat (v:Value):List Value:=[v,anyI,anyI,uI,anyI,anyI,anyI,bI,bI,bI,bI,sI,sI,dI,dI,dI,uI,uI,uI,uI,.chan (some 123),UB,dI,uI,unkV]
abbrev w0:Value:=UI .i64 (.negSucc 9223372036854775807) (.ofNat 0)
abbrev w1:Value:=.int .i64 (.ofNat 1)
abbrev w2:Value:=.int .i64 (.ofNat 2)
abbrev w4:Value:=UI .i64 (.ofNat 4) (.ofNat 9223372036854775807)
def Cx.add (c:Cx) (i:Nat) (B:Nat) (z:Zt):Cx:=⟨fun j=>c.av j∨j=i,fun j=>if j=i then B else c.b j,fun j=>if j=i then 0 else c.o j,fun j=>if j=i then 0 else c.e j,fun j=>if j=i then z else c.z j⟩
theorem add_le {c:Cx} {i B:Nat} {z:Zt} (h:¬c.av i):Le c (Cx.add c i B z):=fun j hj=>by
 have:j≠i:=fun e=>h (e▸hj)
 simp [Cx.add,this,hj]
theorem At.add {L:Hp} {n:Nat} {c:Cx} {w:World} (A:At L n c w) (B:Nat) (z:Zt) (hn:64≤n):At L (n+1) (Cx.add c n B z) w:=by
 have hn':¬c.av n:=fun h=>Nat.lt_irrefl _ (A.lt n h)
 have hl:=add_le (B:=B) (z:=z) hn'
 refine ⟨A.gl.le hl,⟨fun i x hx=>?_,fun i j x y hx hy e=>?_⟩,fun i hi=>?_⟩
 ·obtain ⟨a,b⟩:=A.hr.at_ i x hx
  have q:=hl i a
  rw [q.2.1]
  exact ⟨q.1,b.le hl a⟩
 ·rw [(hl i (A.hr.at_ i x hx).1).2.1,(hl j (A.hr.at_ j y hy).1).2.1] at e
  exact A.hr.inj i j x y hx hy e
 ·rcases hi with h |h
  ·have:=A.lt i h; omega
  ·omega
structure OkO (L:Hp):Prop where
 ok:Ok L
 c3:closedL (keepN 123) L=true
 c4:closedL (keepN 124) L=true
theorem Inv.call {W0:World} {L:Hp} {c:Cx} {w:World} {h t:Nat} {mono:Int} {full:Bool} (k:OkO L) (a:Inv W0 L c w h t mono full) {L1:Hp} {c1:Cx} (A1:At L1 124 c1 w) (l1:Le c c1) (hs:∀i x,ofL L1 i=some x→x.fz=true∨ofL L i=some x) {K:Con} (hK:ConC P K) {args:List Value} {v:Value} (hfit:fitsL 124 (useCon K args ⟨trieL L1,124⟩) [(v,L,50000)]=true) {args':List Value} (ha:LR c1 args args'):
 Calls P K.f ⟨args'⟩ w fun e w'=>∃v',e= .returned v'∧(∃c3,VR c3 v v')∧∃c2 full',Le c c2∧Inv W0 L c2 w' h t mono full':=by
 refine (At.call hK hfit (by simp only [List.all_cons,List.all_nil,Bool.and_true]; exact k.c4) (by decide) A1 ha).mono ?_
 rintro e w' ⟨o,ho,c',v',rfl,hle,hv,A2,st⟩
 rw [List.mem_singleton] at ho
 subst ho
 have A3:=A2.shrink k.c3 (by decide)
 have l3:Le c ((c'.below 124).below 123):=fun i hi=>by
  have q:=(l1.trans hle) i hi
  have:=a.st.lt i hi
  exact ⟨⟨⟨q.1,by omega⟩,this⟩,q.2⟩
 have st':Stays L c w w':=⟨st.os,st.tape,st.output,st.size,fun b hb hf=>st.block b hb fun i x hx e=>by
  rcases hs i x hx with h |h
  ·exact h
  ·exact hf i x h (by rw [←(l1 i (a.st.hr.at_ i x h).1).2.1]; exact e)⟩
 obtain ⟨full',b⟩:=Inv.after k.ok a l3 A3 st'
 exact ⟨v',rfl,⟨c',hv⟩,_,full',l3,b⟩
theorem other_call {W0:World} {L:Hp} {c:Cx} {w:World} {h t:Nat} {mono:Int} {full:Bool} (k:OkO L) (a:Inv W0 L c w h t mono full) {K:Con} (hK:ConC P K) (hf:K.f=28) {v:Value} (hfit:fitsL 124 (useCon K [pt 120,.agg ⟨actPat v⟩] ⟨trieL L,124⟩) [(.tuple ⟨[]⟩,L,50000)]=true) {l:List Value} {ext:Value}
 (hl:∀c2,Le c c2→c2.av 123→(c2.z 123).v=ext→LR c2 (actPat v) l):
 Calls P 28 #[pv (c.b 120),.agg ⟨l⟩] w fun e w'=>e= .returned (.tuple #[])∧∃c2 full',Le c c2∧Inv W0 L c2 w' h t mono full':=by
 rw [←hf]
 have A1:=At.add a.st 0 {n:=0,x:=none,v:=ext} (by decide)
 have hn':¬c.av 123:=fun h=>Nat.lt_irrefl _ (a.st.lt 123 h)
 have l1:=add_le (B:=0) (z:={n:=0,x:=none,v:=ext}) hn'
 obtain ⟨av120,pre,l',post,ty,hh,hp,hll,h0,rfl⟩:=a.st.hr.at_ 120 _ k.ok.sh.law
 have p120:VR (Cx.add c 123 0 {n:=0,x:=none,v:=ext}) (pt 120) (pv (c.b 120)):=by
  have:=(VR.ptr (c:=c) (b:=120) (o:=0) av120).le l1
  rw [h0] at this
  exact this
 refine (Inv.call k a A1 l1 (fun i x hx=>.inr hx) hK hfit (.cons p120 (.cons (.agg (hl _ l1 (.inr rfl) (by simp [Cx.add]))) .nil))).mono ?_
 rintro e w' ⟨v',rfl,⟨c3,hv⟩,r⟩
 cases hv with |tuple hv=>cases hv with |nil=>exact ⟨rfl,r⟩
theorem oa_0:fitsL 124 (useCon c_othera_0 [pt 120,.agg ⟨actPat w0⟩] ⟨trieL (stR 0),124⟩) [(.tuple ⟨[]⟩,stR 0,50000)]=true:=by kernel_rfl
theorem ob_0:fitsL 124 (useCon c_otherb_0 [pt 120,.agg ⟨actPat w1⟩] ⟨trieL (stR 0),124⟩) [(.tuple ⟨[]⟩,stR 0,50000)]=true:=by kernel_rfl
theorem oc_0:fitsL 124 (useCon c_otherc_0 [pt 120,.agg ⟨actPat w2⟩] ⟨trieL (stR 0),124⟩) [(.tuple ⟨[]⟩,stR 0,50000)]=true:=by kernel_rfl
theorem od_0:fitsL 124 (useCon c_otherd_0 [pt 120,.agg ⟨actPat w4⟩] ⟨trieL (stR 0),124⟩) [(.tuple ⟨[]⟩,stR 0,50000)]=true:=by kernel_rfl
theorem oko_0:OkO (stR 0):=⟨ok_0,by kernel_rfl,by kernel_rfl⟩
theorem oa_1:fitsL 124 (useCon c_othera_1 [pt 120,.agg ⟨actPat w0⟩] ⟨trieL (stR 1),124⟩) [(.tuple ⟨[]⟩,stR 1,50000)]=true:=by kernel_rfl
theorem ob_1:fitsL 124 (useCon c_otherb_1 [pt 120,.agg ⟨actPat w1⟩] ⟨trieL (stR 1),124⟩) [(.tuple ⟨[]⟩,stR 1,50000)]=true:=by kernel_rfl
theorem oc_1:fitsL 124 (useCon c_otherc_1 [pt 120,.agg ⟨actPat w2⟩] ⟨trieL (stR 1),124⟩) [(.tuple ⟨[]⟩,stR 1,50000)]=true:=by kernel_rfl
theorem od_1:fitsL 124 (useCon c_otherd_1 [pt 120,.agg ⟨actPat w4⟩] ⟨trieL (stR 1),124⟩) [(.tuple ⟨[]⟩,stR 1,50000)]=true:=by kernel_rfl
theorem oko_1:OkO (stR 1):=⟨ok_1,by kernel_rfl,by kernel_rfl⟩
theorem oa_2:fitsL 124 (useCon c_othera_2 [pt 120,.agg ⟨actPat w0⟩] ⟨trieL (stR 2),124⟩) [(.tuple ⟨[]⟩,stR 2,50000)]=true:=by kernel_rfl
theorem ob_2:fitsL 124 (useCon c_otherb_2 [pt 120,.agg ⟨actPat w1⟩] ⟨trieL (stR 2),124⟩) [(.tuple ⟨[]⟩,stR 2,50000)]=true:=by kernel_rfl
theorem oc_2:fitsL 124 (useCon c_otherc_2 [pt 120,.agg ⟨actPat w2⟩] ⟨trieL (stR 2),124⟩) [(.tuple ⟨[]⟩,stR 2,50000)]=true:=by kernel_rfl
theorem od_2:fitsL 124 (useCon c_otherd_2 [pt 120,.agg ⟨actPat w4⟩] ⟨trieL (stR 2),124⟩) [(.tuple ⟨[]⟩,stR 2,50000)]=true:=by kernel_rfl
theorem oko_2:OkO (stR 2):=⟨ok_2,by kernel_rfl,by kernel_rfl⟩
theorem oa_3:fitsL 124 (useCon c_othera_3 [pt 120,.agg ⟨actPat w0⟩] ⟨trieL (stR 3),124⟩) [(.tuple ⟨[]⟩,stR 3,50000)]=true:=by kernel_rfl
theorem ob_3:fitsL 124 (useCon c_otherb_3 [pt 120,.agg ⟨actPat w1⟩] ⟨trieL (stR 3),124⟩) [(.tuple ⟨[]⟩,stR 3,50000)]=true:=by kernel_rfl
theorem oc_3:fitsL 124 (useCon c_otherc_3 [pt 120,.agg ⟨actPat w2⟩] ⟨trieL (stR 3),124⟩) [(.tuple ⟨[]⟩,stR 3,50000)]=true:=by kernel_rfl
theorem od_3:fitsL 124 (useCon c_otherd_3 [pt 120,.agg ⟨actPat w4⟩] ⟨trieL (stR 3),124⟩) [(.tuple ⟨[]⟩,stR 3,50000)]=true:=by kernel_rfl
theorem oko_3:OkO (stR 3):=⟨ok_3,by kernel_rfl,by kernel_rfl⟩
theorem oa_4:fitsL 124 (useCon c_othera_4 [pt 120,.agg ⟨actPat w0⟩] ⟨trieL (stR 4),124⟩) [(.tuple ⟨[]⟩,stR 4,50000)]=true:=by kernel_rfl
theorem ob_4:fitsL 124 (useCon c_otherb_4 [pt 120,.agg ⟨actPat w1⟩] ⟨trieL (stR 4),124⟩) [(.tuple ⟨[]⟩,stR 4,50000)]=true:=by kernel_rfl
theorem oc_4:fitsL 124 (useCon c_otherc_4 [pt 120,.agg ⟨actPat w2⟩] ⟨trieL (stR 4),124⟩) [(.tuple ⟨[]⟩,stR 4,50000)]=true:=by kernel_rfl
theorem od_4:fitsL 124 (useCon c_otherd_4 [pt 120,.agg ⟨actPat w4⟩] ⟨trieL (stR 4),124⟩) [(.tuple ⟨[]⟩,stR 4,50000)]=true:=by kernel_rfl
theorem oko_4:OkO (stR 4):=⟨ok_4,by kernel_rfl,by kernel_rfl⟩
theorem oa_5:fitsL 124 (useCon c_othera_5 [pt 120,.agg ⟨actPat w0⟩] ⟨trieL (stR 5),124⟩) [(.tuple ⟨[]⟩,stR 5,50000)]=true:=by kernel_rfl
theorem ob_5:fitsL 124 (useCon c_otherb_5 [pt 120,.agg ⟨actPat w1⟩] ⟨trieL (stR 5),124⟩) [(.tuple ⟨[]⟩,stR 5,50000)]=true:=by kernel_rfl
theorem oc_5:fitsL 124 (useCon c_otherc_5 [pt 120,.agg ⟨actPat w2⟩] ⟨trieL (stR 5),124⟩) [(.tuple ⟨[]⟩,stR 5,50000)]=true:=by kernel_rfl
theorem od_5:fitsL 124 (useCon c_otherd_5 [pt 120,.agg ⟨actPat w4⟩] ⟨trieL (stR 5),124⟩) [(.tuple ⟨[]⟩,stR 5,50000)]=true:=by kernel_rfl
theorem oko_5:OkO (stR 5):=⟨ok_5,by kernel_rfl,by kernel_rfl⟩
theorem ot_0:fitsL 124 (useCon c_takeA0 [pt 64,anyI,.chan (some 123)] ⟨trieL ((123,.frz [bI] 0 600 false)::stR 0),124⟩) [(unkV,stR 0,50000)]=true:=by kernel_rfl
theorem ot_1:fitsL 124 (useCon c_takeA1 [pt 64,anyI,.chan (some 123)] ⟨trieL ((123,.frz [bI] 0 600 false)::stR 1),124⟩) [(unkV,stR 1,50000)]=true:=by kernel_rfl
theorem ot_2:fitsL 124 (useCon c_takeA2 [pt 64,anyI,.chan (some 123)] ⟨trieL ((123,.frz [bI] 0 600 false)::stR 2),124⟩) [(unkV,stR 2,50000)]=true:=by kernel_rfl
theorem ot_3:fitsL 124 (useCon c_takeA3 [pt 64,anyI,.chan (some 123)] ⟨trieL ((123,.frz [bI] 0 600 false)::stR 3),124⟩) [(unkV,stR 3,50000)]=true:=by kernel_rfl
theorem ot_4:fitsL 124 (useCon c_takeA4 [pt 64,anyI,.chan (some 123)] ⟨trieL ((123,.frz [bI] 0 600 false)::stR 4),124⟩) [(unkV,stR 4,50000)]=true:=by kernel_rfl
theorem ot_5:fitsL 124 (useCon c_takeA5 [pt 64,anyI,.chan (some 123)] ⟨trieL ((123,.frz [bI] 0 600 false)::stR 5),124⟩) [(unkV,stR 5,50000)]=true:=by kernel_rfl
end Go.Proofs.YtdohkfgflpdkcaaGreatDoor.sym
namespace Go.Proofs.YtdohkfgflpdkcaaGreatDoor.sym
open Go Go.Eng
set_option maxRecDepth 100000
def Bytes (W0 w:World) (hi:Nat) (bv:Value):Prop:=bv= .slice none 0 0∨(∃A k,bv= .slice (some A) 0 k)∨∃b o len cap l ty fr,bv= .slice (some ⟨b,o,none⟩) len cap∧b < W0.heap.size∧w.heap[b]? =some (.cells ⟨l⟩ ty fr)∧len≤cap∧len≤hi∧o+cap≤l.length∧∀j,j < len→∃x:Nat,x≤255∧l[o+j]? =some (.int .u8 x)
def Cx.adds (c:Cx) (i:Nat) (B o:Nat) (z:Zt):Cx:=⟨fun j=>c.av j∨j=i,fun j=>if j=i then B else c.b j,fun j=>if j=i then o else c.o j,fun j=>if j=i then 0 else c.e j,fun j=>if j=i then z else c.z j⟩
theorem adds_le {c:Cx} {i B o:Nat} {z:Zt} (h:¬c.av i):Le c (Cx.adds c i B o z):=fun j hj=>by
 have:j≠i:=fun e=>h (e▸hj)
 simp [Cx.adds,this,hj]
theorem At.adds {L:Hp} {n:Nat} {c:Cx} {w:World} (A:At L n c w) (B o:Nat) (z:Zt) (hn:64≤n) {p:List Value} {lo hi:Nat} (hx:w.heap[B]? =z.x) (hf:FrzOK B o p lo hi false w.heap[B]? z) (hb:∀j y,ofL L j=some y→c.b j=B→y.fz=true):At ((n,.frz p lo hi false)::L) (n+1) (Cx.adds c n B o z) w:=by
 have hn':¬c.av n:=fun h=>Nat.lt_irrefl _ (A.lt n h)
 have hl:=adds_le (B:=B) (o:=o) (z:=z) hn'
 have cn:(Cx.adds c n B o z).b n=B∧(Cx.adds c n B o z).o n=o∧(Cx.adds c n B o z).z n=z:=by simp [Cx.adds]
 have old:∀i x,ofL ((n,O.frz p lo hi false)::L) i=some x→(i=n∧x= .frz p lo hi false)∨ofL L i=some x:=fun i x hx=>by
  rw [ofL_cons] at hx
  split at hx
  ·rename_i e; cases hx; exact .inl ⟨e.symm,rfl⟩
  ·exact .inr hx
 refine ⟨A.gl.le hl,⟨fun i x hx'=>?_,fun i j x y hx' hy e=>?_⟩,fun i hi=>?_⟩
 ·rcases old i x hx' with ⟨rfl,rfl⟩ |h
  ·refine ⟨.inr rfl,?_⟩
   rw [cn.1]
   show _=_∧FrzOK _ _ _ _ _ _ _ _
   rw [cn.1,cn.2.1,cn.2.2]
   exact ⟨hx,hf⟩
  ·obtain ⟨a,b⟩:=A.hr.at_ i x h
   have q:=hl i a
   rw [q.2.1]
   exact ⟨q.1,b.le hl a⟩
 ·rcases old i x hx' with ⟨rfl,rfl⟩ |h <;> rcases old j y hy with ⟨rfl,rfl⟩ |k
  ·exact .inl rfl
  ·rw [cn.1,(hl j (A.hr.at_ j y k).1).2.1] at e
   exact .inr ⟨rfl,hb j y k e.symm⟩
  ·rw [cn.1,(hl i (A.hr.at_ i x h).1).2.1] at e
   exact .inr ⟨hb i x h e,rfl⟩
  ·rw [(hl i (A.hr.at_ i x h).1).2.1,(hl j (A.hr.at_ j y k).1).2.1] at e
   exact A.hr.inj i j x y h k e
 ·rcases hi with h |h
  ·have:=A.lt i h; omega
  ·omega
theorem take_at {W0:World} {L:Hp} {c:Cx} {w:World} {h t:Nat} {mono:Int} {full:Bool} (k:OkO L) (a:Inv W0 L c w h t mono full) {K:Con} (hK:ConC P K) (hf:K.f=18) (hfit:fitsL 124 (useCon K [pt 64,anyI,.chan (some 123)] ⟨trieL ((123,.frz [bI] 0 600 false)::L),124⟩) [(unkV,L,50000)]=true) (h2:∃l,ofL L 2=some (.ro l)) {srv:Int} (hs:I64 srv) {bv:Value} (hb:Bytes W0 w 600 bv):
 Calls P 18 #[pv (c.b 64),.int .i64 srv,bv] w fun e w'=>(∃v,e= .returned v)∧∃c2 full',Le c c2∧Inv W0 L c2 w' h t mono full':=by
 have hn':¬c.av 123:=fun h=>Nat.lt_irrefl _ (a.st.lt 123 h)
 have go:∀B o (z:Zt),z.v=bv→bv.oneCell'=true→w.heap[B]? =z.x→FrzOK B o [bI] 0 600 false w.heap[B]? z→(∀j y,ofL L j=some y→c.b j=B→y.fz=true)→Calls P 18 #[pv (c.b 64),.int .i64 srv,bv] w fun e w'=>(∃v,e= .returned v)∧∃c2 full',Le c c2∧Inv W0 L c2 w' h t mono full':=fun B o z hv h1 hx hz hfz=>by
  have A1:=At.adds a.st B o z (by decide) hx hz hfz
  have l1:=adds_le (B:=B) (o:=o) (z:=z) hn'
  rw [←hf]
  have pf:VR (Cx.adds c 123 B o z) (.chan (some 123)) bv:=by
   have:=VR.frz (c:=Cx.adds c 123 B o z) (i:=123) (.inr rfl) (by simp only [Cx.adds,if_true]; rw [hv]; exact h1)
   simp only [Cx.adds,if_true] at this
   rw [hv] at this
   exact this
  refine (Inv.call k a A1 l1 (fun i x hx=>?_) hK hfit (.cons ((d_ptr k.ok.sh a).le l1) (.cons (.ui _ _ hs.1 hs.2) (.cons pf .nil)))).mono ?_
  ·rw [ofL_cons] at hx
   split at hx
   ·cases hx; exact .inl rfl
   ·exact .inr hx
  ·rintro e w' ⟨v',rfl,_,r⟩
   exact ⟨⟨v',rfl⟩,r⟩
 obtain ⟨l2,e2⟩:=h2
 have q2:=a.st.hr.at_ 2 _ e2
 have g2:c.b 2=2:=(a.st.gl 2 (by decide)).2.1
 have z2:∀j y,ofL L j=some y→c.b j=2→y.fz=true:=fun j y hj e=>by
  rcases a.st.hr.inj j 2 y _ hj e2 (e.trans g2.symm) with rfl |h
  ·rw [e2] at hj; cases hj; rfl
  ·exact h.1
 have n2:w.heap[2]? ≠none:=by
  obtain ⟨_,_,_,_,_,_,hh,_⟩:=q2
  rw [g2] at hh
  rw [hh]
  exact fun h=>by cases h
 rcases hb with rfl |⟨A,kk,rfl⟩ |⟨b,o,len,cap,l,ty,fr,rfl,hb0,hh,h1,h3,h4,h5⟩
 ·exact go 2 0 {n:=1,x:=w.heap[2]?,v:=.slice none 0 0} rfl rfl rfl ⟨n2,.inl ⟨rfl,rfl,.inl rfl⟩⟩ z2
 ·exact go 2 0 {n:=1,x:=w.heap[2]?,v:=.slice (some A) 0 kk} rfl rfl rfl ⟨n2,.inl ⟨rfl,rfl,.inr ⟨A,kk,rfl⟩⟩⟩ z2
 ·have nb:w.heap[b]? ≠none:=by
   rw [hh]
   intro h
   cases h
  refine go b o {n:=1,x:=w.heap[b]?,v:=.slice (some ⟨b,o,none⟩) len cap} rfl rfl rfl ⟨nb,.inr (.inl ⟨len,cap,l,ty,fr,rfl,hh,rfl,by omega,h3,h1,by simpa using h4,fun h=>Bool.noConfusion h,fun j hj c=>?_⟩)⟩ fun j y hj e=>?_
  ·obtain ⟨x,hx,e⟩:=h5 j (by simpa using hj)
   rw [e]
   simp only [List.length_singleton,Nat.mod_one,List.getElem?_cons_zero,Option.getD_some]
   exact .ui _ _ (Int.natCast_nonneg _) (show (x:Int)≤255 by omega)
  ·cases hz:y.fz with
   |true=>rfl
   |false=>have:=a.own j y hj (.inl hz); omega
end Go.Proofs.YtdohkfgflpdkcaaGreatDoor.sym
