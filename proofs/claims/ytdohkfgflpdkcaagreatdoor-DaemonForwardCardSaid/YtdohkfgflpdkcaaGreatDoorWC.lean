/-
  PROVED HERE: a part of the proof of DaemonForward (texts W8, W9 of the prover, joined). No condition of its own.
-/
import Derived.Test.YtdohkfgflpdkcaaGreatDoorWB
import Derived.ProofKit
import Derived.OpenShut
import Derived.Deep.Slices
import Derived.LaidMore
set_option linter.unusedVariables false
set_option linter.unusedSimpArgs false
namespace Go.Proofs.YtdohkfgflpdkcaaGreatDoor.sym
open Go Go.Eng Go.Deep Go.ChangeShapes Go.WideShapes Go.ChangeAt Go.RowKit
variable {H:Type} {enc:TypeId×Value→H} {W:World}
noncomputable def patK:IntKind→Value
 |.u8=>bI |.i8=>sI |.u32=>dI |.u64=>uI |.i64=>anyI |.i32=>UI .i32 (.negSucc 2147483647) (.ofNat 2147483647) |.i16=>UI .i16 (.negSucc 32767) (.ofNat 32767) |.u16=>UI .u16 (.ofNat 0) (.ofNat 65535)
theorem patK_ok {k:IntKind} {n:Int} (h:(Lit.int k n).wf=true) (c:Cx):VR c (patK k) (.int k n):=by
 cases k with
 |u8=>exact .ui _ _ (bounds_u8 h).1 (bounds_u8 h).2
 |i8=>exact .ui _ _ (bounds_i8 h).1 (bounds_i8 h).2
 |u32=>exact .ui _ _ (bounds_u32 h).1 (bounds_u32 h).2
 |u64=>exact .ui _ _ (bounds_u64 h).1 (bounds_u64 h).2
 |i64=>exact .ui _ _ (bounds_i64 h).1 (bounds_i64 h).2
 |i32=>exact .ui _ _ (bounds_i32 h).1 (bounds_i32 h).2
 |i16=>exact .ui _ _ (bounds_i16 h).1 (bounds_i16 h).2
 |u16=>exact .ui _ _ (bounds_u16 h).1 (bounds_u16 h).2
theorem at_of {cs:List Value} {i:Nat} {v:Value} (h:(cs.drop i).take 1=[v]):cs[i]? =some v:=by
 have h0:((cs.drop i).take 1)[0]? =some v:=by rw [h]; rfl
 simpa using h0
theorem fld {fuel i:Nat} {t:TypeId} {k:IntKind} {cs:List Value} {x:DataW H×List MemPlace} (ht:P.underlying t=some (.int k)) (h:DataW.trod enc P W 0 (fun _=>true) true fuel t ((cs.drop i).take 1)=some x):∃n,cs[i]? =some (.int k n)∧(Lit.int k n).wf=true:=by
 obtain ⟨n,h1,_,h2⟩:=DataW.trod_int ht h
 exact ⟨n,at_of h1,h2⟩
def Ints (e:TypeId) (kinds:List IntKind):Prop:=P.cellsOf e=kinds.length∧∃fs,P.underlying e=some (.struct fs)∧fs.size=kinds.length∧∀j,j < kinds.length→∃f k,fs[j]? =some f∧kinds[j]? =some k∧f.offset=j∧P.cellsOf f.type=1∧P.underlying f.type=some (.int k)
theorem list_in {t e:TypeId} {kinds:List IntKind} (ht:P.underlying t=some (.slice e)) (he:Ints e kinds) (hk:0 < kinds.length) {fuel:Nat} {cs:List Value} {x:DataW H×List MemPlace} (h:DataW.trod enc P W 0 (fun _=>true) true fuel t cs=some x):
 ∃a len cap,cs=[.slice a len cap]∧cap≤9223372036854775807∧ListIn W (kinds.map patK) 0 9223372036854775807 (.slice a len cap):=by
 obtain ⟨hc,fs,hu,hsz,hfs⟩:=he
 rcases open_slice ht h with ⟨rfl,_⟩ |⟨a,len,cap,m,n,D,Pl,rfl,_,hl,hm,hmm,_,hx⟩
 ·exact ⟨none,0,0,rfl,by omega,.inl ⟨rfl,rfl⟩⟩
 have hm:cap≤9223372036854775807:=hm
 refine ⟨some a,len,cap,rfl,hm,?_⟩
 have hmm:m=cap:=by simpa using hmm
 subst hmm
 rcases Nat.eq_zero_or_pos m with rfl |hp
 ·exact .inr (.inl ⟨a,0,by rw [show len=0 by omega],rfl⟩)
 have cell:∀i j,i < m→j < kinds.length→∃k v,kinds[j]? =some k∧W.cell? (a.add (i * kinds.length+j))=some v∧∀c,VR c (patK k) v:=fun i j hi hj=>by
  obtain ⟨cs',h1,h2⟩:=hx i hi
  rw [hc] at h1
  obtain ⟨_,hlen,hcell⟩:=World.cells?_some h1
  obtain ⟨xs,n',_,_,hl',hxl,hxs⟩:=DataW.trod_struct hu h2
  obtain ⟨f,k,hf,hkk,hoff,hc1,hut⟩:=hfs j hj
  have h3:=hxs j f hf
  rw [hoff,hc1,List.getElem?_eq_getElem (by omega:j < xs.length)] at h3
  obtain ⟨q,h4,h5⟩:=fld hut h3
  refine ⟨k,_,hkk,?_,patK_ok h5⟩
  have h6:=hcell j hj
  rw [h4] at h6
  rw [←h6,Addr.add_add]
 obtain ⟨k0,v0,_,hv0,_⟩:=cell 0 0 hp hk
 have hs:a.spot=none:=by
  have:=World.cell?_spot (a:=a) (v:=v0) (by simpa [Addr.add] using hv0)
  exact this
 obtain ⟨b,o,spot⟩:=a
 subst hs
 have heap:∃l ty fr,W.heap[b]? =some (.cells ⟨l⟩ ty fr):=by
  simp only [World.cell?,Addr.add] at hv0
  split at hv0
  ·rename_i c ty fr hh
   simp at hh
   exact ⟨c.toList,ty,fr,by simpa using hh⟩
  ·cases hv0
 obtain ⟨l,ty,fr,hh⟩:=heap
 have at_:∀i j,i < m→j < kinds.length→∃k v,kinds[j]? =some k∧l[o+(i * kinds.length+j)]? =some v∧∀c,VR c (patK k) v:=fun i j hi hj=>by
  obtain ⟨k,v,h1,h2,h3⟩:=cell i j hi hj
  rw [Addr.add_mid,cellOf hh] at h2
  exact ⟨k,v,h1,by simpa using h2,h3⟩
 have hlast:o+m * kinds.length≤l.length:=by
  obtain ⟨k,v,_,h2,_⟩:=at_ (m - 1) (kinds.length - 1) (by omega) (by omega)
  have h3:=(List.getElem?_eq_some_iff.1 h2).1
  have:(m - 1) * kinds.length+(kinds.length - 1)+1=m * kinds.length:=by
   obtain ⟨q,rfl⟩:∃q,m=q+1:=⟨m - 1,by omega⟩
   rw [Nat.add_sub_cancel,Nat.succ_mul]
   omega
  omega
 refine .inr (.inr ⟨b,o,len,m,l,ty,fr,rfl,hh,Nat.zero_le _,by omega,hl,by simpa using hlast,fun r hr c=>?_⟩)
 rw [List.length_map] at hr ⊢
 have hr1:r / kinds.length < len:=Nat.div_lt_of_lt_mul (by rw [Nat.mul_comm]; exact hr)
 have hr2:=Nat.mod_lt r hk
 obtain ⟨k,v,h1,h2,h3⟩:=at_ (r / kinds.length) (r % kinds.length) (by omega) hr2
 have e:r / kinds.length * kinds.length+r % kinds.length=r:=by rw [Nat.mul_comm]; exact Nat.div_add_mod r kinds.length
 rw [e] at h2
 rw [List.getElem?_map,h1,h2]
 exact h3 c
end Go.Proofs.YtdohkfgflpdkcaaGreatDoor.sym
namespace Go.Proofs.YtdohkfgflpdkcaaGreatDoor.sym
open Go Go.Eng Go.Deep Go.ChangeShapes Go.WideShapes Go.ChangeAt Go.RowKit
variable {H:Type} {enc:TypeId×Value→H} {W:World}
theorem sub_at {cs:List Value} {a n i:Nat} {v:Value} (h:((cs.drop a).take n)[i]? =some v):cs[a+i]? =some v:=by
 rw [List.getElem?_take] at h
 split at h
 ·rw [List.getElem?_drop] at h; exact h
 ·cases h
theorem bytes_in {fuel:Nat} {cs:List Value} {x:DataW H×List MemPlace} (h:DataW.trod enc P W 0 (fun _=>true) true fuel 48 cs=some x):∃A bl bc,cs=[.slice A bl bc]∧BytesIn W A bl bc:=by
 rcases open_slice Tryz.underlying48 h with ⟨rfl,_⟩ |⟨a,len,cap,m,n,D,Pl,rfl,_,hl,hm,hmm,_,hx⟩
 ·exact ⟨none,0,0,rfl,Nat.le_refl _,by omega,.inl ⟨rfl,rfl,rfl⟩⟩
 have hm:cap≤9223372036854775807:=hm
 refine ⟨some a,len,cap,rfl,hl,hm,.inr ?_⟩
 have hmm:m=cap:=by simpa using hmm
 subst hmm
 rcases Nat.eq_zero_or_pos m with rfl |hp
 ·exact .inl ⟨a,rfl,by omega⟩
 have c5:P.cellsOf 5=1:=by kernel_rfl
 have cell:∀i,i < m→∃q:Nat,q≤255∧W.cell? (a.add i)=some (.int .u8 (q:Int)):=fun i hi=>by
  obtain ⟨cs',h1,h2⟩:=hx i hi
  rw [c5,Nat.mul_one] at h1
  obtain ⟨_,_,hcell⟩:=World.cells?_some h1
  obtain ⟨z,rfl,_,hz⟩:=DataW.trod_int Tryz.underlying5 h2
  have h3:=hcell 0 (by omega)
  have:=bounds_u8 hz
  exact ⟨z.toNat,by omega,by rw [show ((z.toNat:Nat):Int)=z by omega]; simpa [Addr.add] using h3⟩
 obtain ⟨q0,_,hv0⟩:=cell 0 hp
 have hs:a.spot=none:=World.cell?_spot (a:=a) (by simpa [Addr.add] using hv0)
 obtain ⟨b,o,spot⟩:=a
 subst hs
 obtain ⟨l,ty,fr,hh⟩:∃l ty fr,W.heap[b]? =some (.cells ⟨l⟩ ty fr):=by
  simp only [World.cell?,Addr.add] at hv0
  split at hv0
  ·rename_i c ty fr hh
   simp at hh
   exact ⟨c.toList,ty,fr,by simpa using hh⟩
  ·cases hv0
 have at_:∀i,i < m→∃q:Nat,q≤255∧l[o+i]? =some (.int .u8 (q:Int)):=fun i hi=>by
  obtain ⟨q,h1,h2⟩:=cell i hi
  rw [Addr.add_mid,cellOf hh] at h2
  exact ⟨q,h1,by simpa using h2⟩
 refine .inr ⟨b,o,l,ty,fr,rfl,lt_of_block hh,hh,?_,fun j hj=>at_ j (by omega)⟩
 obtain ⟨q,_,h2⟩:=at_ (m - 1) (by omega)
 have:=(List.getElem?_eq_some_iff.1 h2).1
 omega
theorem l25 {cs:List Value} (h:cs.length=25):∃c0 c1 c2 c3 c4 c5 c6 c7 c8 c9 c10 c11 c12 c13 c14 c15 c16 c17 c18 c19 c20 c21 c22 c23 c24,cs=[c0,c1,c2,c3,c4,c5,c6,c7,c8,c9,c10,c11,c12,c13,c14,c15,c16,c17,c18,c19,c20,c21,c22,c23,c24]:=by
 match cs,h with
 |[c0,c1,c2,c3,c4,c5,c6,c7,c8,c9,c10,c11,c12,c13,c14,c15,c16,c17,c18,c19,c20,c21,c22,c23,c24],_=>exact ⟨_,_,_,_,_,_,_,_,_,_,_,_,_,_,_,_,_,_,_,_,_,_,_,_,_,rfl⟩
theorem l12 {cs:List Value} (h:cs.length=12):∃c0 c1 c2 c3 c4 c5 c6 c7 c8 c9 c10 c11,cs=[c0,c1,c2,c3,c4,c5,c6,c7,c8,c9,c10,c11]:=by
 match cs,h with
 |[c0,c1,c2,c3,c4,c5,c6,c7,c8,c9,c10,c11],_=>exact ⟨_,_,_,_,_,_,_,_,_,_,_,_,rfl⟩
theorem act_in {fuel:Nat} {cs:List Value} {x:DataW H×List MemPlace} (h:DataW.trod enc P W 0 (fun _=>true) true fuel 50 cs=some x):∃what nn,ActC (ActA W) what nn cs:=by
 obtain ⟨xs,n',_,_,hl,hxl,hxs⟩:=DataW.trod_struct Tryz.underlying50 h
 have hl:cs.length=25:=hl.trans (by kernel_rfl)
 have hxl:xs.length=9:=hxl
 have g0:DataW.trod enc P W 0 (fun _=>true) true n' 3 ((cs.drop 0).take (P.cellsOf 3))=xs[0]? :=hxs 0 _ rfl
 rw [show P.cellsOf 3=1 by kernel_rfl,List.getElem?_eq_getElem (by omega:0 < xs.length)] at g0
 obtain ⟨n0,e0,w0⟩:=fld Tryz.underlying3 g0
 have g1:DataW.trod enc P W 0 (fun _=>true) true n' 3 ((cs.drop 1).take (P.cellsOf 3))=xs[1]? :=hxs 1 _ rfl
 rw [show P.cellsOf 3=1 by kernel_rfl,List.getElem?_eq_getElem (by omega:1 < xs.length)] at g1
 obtain ⟨n1,e1,w1⟩:=fld Tryz.underlying3 g1
 have g2:DataW.trod enc P W 0 (fun _=>true) true n' 3 ((cs.drop 2).take (P.cellsOf 3))=xs[2]? :=hxs 2 _ rfl
 rw [show P.cellsOf 3=1 by kernel_rfl,List.getElem?_eq_getElem (by omega:2 < xs.length)] at g2
 obtain ⟨n2,e2,w2⟩:=fld Tryz.underlying3 g2
 have g3:DataW.trod enc P W 0 (fun _=>true) true n' 22 ((cs.drop 3).take (P.cellsOf 22))=xs[3]? :=hxs 3 _ rfl
 rw [show P.cellsOf 22=1 by kernel_rfl,List.getElem?_eq_getElem (by omega:3 < xs.length)] at g3
 obtain ⟨n3,e3,w3⟩:=fld Tryz.underlying22 g3
 have g4:DataW.trod enc P W 0 (fun _=>true) true n' 2 ((cs.drop 4).take (P.cellsOf 2))=xs[4]? :=hxs 4 _ rfl
 rw [show P.cellsOf 2=1 by kernel_rfl,List.getElem?_eq_getElem (by omega:4 < xs.length)] at g4
 obtain ⟨n4,e4,w4⟩:=fld Tryz.underlying2 g4
 have g5:DataW.trod enc P W 0 (fun _=>true) true n' 2 ((cs.drop 5).take (P.cellsOf 2))=xs[5]? :=hxs 5 _ rfl
 rw [show P.cellsOf 2=1 by kernel_rfl,List.getElem?_eq_getElem (by omega:5 < xs.length)] at g5
 obtain ⟨n5,e5,w5⟩:=fld Tryz.underlying2 g5
 have g6:DataW.trod enc P W 0 (fun _=>true) true n' 2 ((cs.drop 6).take (P.cellsOf 2))=xs[6]? :=hxs 6 _ rfl
 rw [show P.cellsOf 2=1 by kernel_rfl,List.getElem?_eq_getElem (by omega:6 < xs.length)] at g6
 obtain ⟨n6,e6,w6⟩:=fld Tryz.underlying2 g6
 have g7:DataW.trod enc P W 0 (fun _=>true) true n' 47 ((cs.drop 7).take (P.cellsOf 47))=xs[7]? :=hxs 7 _ rfl
 rw [show P.cellsOf 47=17 by kernel_rfl,List.getElem?_eq_getElem (by omega:7 < xs.length)] at g7
 obtain ⟨ys,nf,_,_,hl2,hyl,hys⟩:=DataW.trod_struct Tryz.underlying47 g7
 have hyl:ys.length=17:=hyl
 have gp0:DataW.trod enc P W 0 (fun _=>true) true nf 5 ((((cs.drop 7).take 17).drop 0).take (P.cellsOf 5))=ys[0]? :=hys 0 _ rfl
 rw [show P.cellsOf 5=1 by kernel_rfl,List.getElem?_eq_getElem (by omega:0 < ys.length)] at gp0
 obtain ⟨n7,q7,w7⟩:=fld Tryz.underlying5 gp0
 have e7:cs[7]? =_:=sub_at q7
 have gp1:DataW.trod enc P W 0 (fun _=>true) true nf 5 ((((cs.drop 7).take 17).drop 1).take (P.cellsOf 5))=ys[1]? :=hys 1 _ rfl
 rw [show P.cellsOf 5=1 by kernel_rfl,List.getElem?_eq_getElem (by omega:1 < ys.length)] at gp1
 obtain ⟨n8,q8,w8⟩:=fld Tryz.underlying5 gp1
 have e8:cs[8]? =_:=sub_at q8
 have gp2:DataW.trod enc P W 0 (fun _=>true) true nf 5 ((((cs.drop 7).take 17).drop 2).take (P.cellsOf 5))=ys[2]? :=hys 2 _ rfl
 rw [show P.cellsOf 5=1 by kernel_rfl,List.getElem?_eq_getElem (by omega:2 < ys.length)] at gp2
 obtain ⟨n9,q9,w9⟩:=fld Tryz.underlying5 gp2
 have e9:cs[9]? =_:=sub_at q9
 have gp3:DataW.trod enc P W 0 (fun _=>true) true nf 5 ((((cs.drop 7).take 17).drop 3).take (P.cellsOf 5))=ys[3]? :=hys 3 _ rfl
 rw [show P.cellsOf 5=1 by kernel_rfl,List.getElem?_eq_getElem (by omega:3 < ys.length)] at gp3
 obtain ⟨n10,q10,w10⟩:=fld Tryz.underlying5 gp3
 have e10:cs[10]? =_:=sub_at q10
 have gp4:DataW.trod enc P W 0 (fun _=>true) true nf 43 ((((cs.drop 7).take 17).drop 4).take (P.cellsOf 43))=ys[4]? :=hys 4 _ rfl
 rw [show P.cellsOf 43=1 by kernel_rfl,List.getElem?_eq_getElem (by omega:4 < ys.length)] at gp4
 obtain ⟨n11,q11,w11⟩:=fld Tryz.underlying43 gp4
 have e11:cs[11]? =_:=sub_at q11
 have gp5:DataW.trod enc P W 0 (fun _=>true) true nf 43 ((((cs.drop 7).take 17).drop 5).take (P.cellsOf 43))=ys[5]? :=hys 5 _ rfl
 rw [show P.cellsOf 43=1 by kernel_rfl,List.getElem?_eq_getElem (by omega:5 < ys.length)] at gp5
 obtain ⟨n12,q12,w12⟩:=fld Tryz.underlying43 gp5
 have e12:cs[12]? =_:=sub_at q12
 have gp6:DataW.trod enc P W 0 (fun _=>true) true nf 44 ((((cs.drop 7).take 17).drop 6).take (P.cellsOf 44))=ys[6]? :=hys 6 _ rfl
 rw [show P.cellsOf 44=1 by kernel_rfl,List.getElem?_eq_getElem (by omega:6 < ys.length)] at gp6
 obtain ⟨n13,q13,w13⟩:=fld Tryz.underlying44 gp6
 have e13:cs[13]? =_:=sub_at q13
 have gp7:DataW.trod enc P W 0 (fun _=>true) true nf 44 ((((cs.drop 7).take 17).drop 7).take (P.cellsOf 44))=ys[7]? :=hys 7 _ rfl
 rw [show P.cellsOf 44=1 by kernel_rfl,List.getElem?_eq_getElem (by omega:7 < ys.length)] at gp7
 obtain ⟨n14,q14,w14⟩:=fld Tryz.underlying44 gp7
 have e14:cs[14]? =_:=sub_at q14
 have gp8:DataW.trod enc P W 0 (fun _=>true) true nf 44 ((((cs.drop 7).take 17).drop 8).take (P.cellsOf 44))=ys[8]? :=hys 8 _ rfl
 rw [show P.cellsOf 44=1 by kernel_rfl,List.getElem?_eq_getElem (by omega:8 < ys.length)] at gp8
 obtain ⟨n15,q15,w15⟩:=fld Tryz.underlying44 gp8
 have e15:cs[15]? =_:=sub_at q15
 have gp9:DataW.trod enc P W 0 (fun _=>true) true nf 22 ((((cs.drop 7).take 17).drop 9).take (P.cellsOf 22))=ys[9]? :=hys 9 _ rfl
 rw [show P.cellsOf 22=1 by kernel_rfl,List.getElem?_eq_getElem (by omega:9 < ys.length)] at gp9
 obtain ⟨n16,q16,w16⟩:=fld Tryz.underlying22 gp9
 have e16:cs[16]? =_:=sub_at q16
 have gp10:DataW.trod enc P W 0 (fun _=>true) true nf 22 ((((cs.drop 7).take 17).drop 10).take (P.cellsOf 22))=ys[10]? :=hys 10 _ rfl
 rw [show P.cellsOf 22=1 by kernel_rfl,List.getElem?_eq_getElem (by omega:10 < ys.length)] at gp10
 obtain ⟨n17,q17,w17⟩:=fld Tryz.underlying22 gp10
 have e17:cs[17]? =_:=sub_at q17
 have gp11:DataW.trod enc P W 0 (fun _=>true) true nf 22 ((((cs.drop 7).take 17).drop 11).take (P.cellsOf 22))=ys[11]? :=hys 11 _ rfl
 rw [show P.cellsOf 22=1 by kernel_rfl,List.getElem?_eq_getElem (by omega:11 < ys.length)] at gp11
 obtain ⟨n18,q18,w18⟩:=fld Tryz.underlying22 gp11
 have e18:cs[18]? =_:=sub_at q18
 have gp12:DataW.trod enc P W 0 (fun _=>true) true nf 22 ((((cs.drop 7).take 17).drop 12).take (P.cellsOf 22))=ys[12]? :=hys 12 _ rfl
 rw [show P.cellsOf 22=1 by kernel_rfl,List.getElem?_eq_getElem (by omega:12 < ys.length)] at gp12
 obtain ⟨n19,q19,w19⟩:=fld Tryz.underlying22 gp12
 have e19:cs[19]? =_:=sub_at q19
 have gp13:DataW.trod enc P W 0 (fun _=>true) true nf 45 ((((cs.drop 7).take 17).drop 13).take (P.cellsOf 45))=ys[13]? :=hys 13 _ rfl
 rw [show P.cellsOf 45=1 by kernel_rfl,List.getElem?_eq_getElem (by omega:13 < ys.length)] at gp13
 obtain ⟨EA,el,ec,q20⟩:∃a len cap,((((cs.drop 7).take 17).drop 13).take 1)=[.slice a len cap]:=by
  rcases open_slice Tryz.underlying45 gp13 with ⟨e,_⟩ |⟨a,len,cap,_,_,_,_,e,_⟩
  ·exact ⟨none,0,0,e⟩
  ·exact ⟨some a,len,cap,e⟩
 have e20:cs[20]? =_:=sub_at (at_of q20)
 have gp14:DataW.trod enc P W 0 (fun _=>true) true nf 4 ((((cs.drop 7).take 17).drop 14).take (P.cellsOf 4))=ys[14]? :=hys 14 _ rfl
 rw [show P.cellsOf 4=1 by kernel_rfl,List.getElem?_eq_getElem (by omega:14 < ys.length)] at gp14
 obtain ⟨sg,q21,_⟩:=DataW.trod_bool Tryz.underlying4 gp14
 have e21:cs[21]? =_:=sub_at (at_of q21)
 have gp15:DataW.trod enc P W 0 (fun _=>true) true nf 44 ((((cs.drop 7).take 17).drop 15).take (P.cellsOf 44))=ys[15]? :=hys 15 _ rfl
 rw [show P.cellsOf 44=1 by kernel_rfl,List.getElem?_eq_getElem (by omega:15 < ys.length)] at gp15
 obtain ⟨n22,q22,w22⟩:=fld Tryz.underlying44 gp15
 have e22:cs[22]? =_:=sub_at q22
 have gp16:DataW.trod enc P W 0 (fun _=>true) true nf 22 ((((cs.drop 7).take 17).drop 16).take (P.cellsOf 22))=ys[16]? :=hys 16 _ rfl
 rw [show P.cellsOf 22=1 by kernel_rfl,List.getElem?_eq_getElem (by omega:16 < ys.length)] at gp16
 obtain ⟨n23,q23,w23⟩:=fld Tryz.underlying22 gp16
 have e23:cs[23]? =_:=sub_at q23
 have g8:DataW.trod enc P W 0 (fun _=>true) true n' 48 ((cs.drop 24).take (P.cellsOf 48))=xs[8]? :=hxs 8 _ rfl
 rw [show P.cellsOf 48=1 by kernel_rfl,List.getElem?_eq_getElem (by omega:8 < xs.length)] at g8
 obtain ⟨BA,bl,bc,q24,hB⟩:=bytes_in g8
 have e24:cs[24]? =_:=at_of q24
 clear g0 g1 g2 g3 g4 g5 g6 g7 g8 hxs hys
 obtain ⟨c0,c1,c2,c3,c4,c5,c6,c7,c8,c9,c10,c11,c12,c13,c14,c15,c16,c17,c18,c19,c20,c21,c22,c23,c24,rfl⟩:=l25 hl
 obtain rfl:=Option.some.inj (show some c0=some _ from e0)
 obtain rfl:=Option.some.inj (show some c1=some _ from e1)
 obtain rfl:=Option.some.inj (show some c2=some _ from e2)
 obtain rfl:=Option.some.inj (show some c3=some _ from e3)
 obtain rfl:=Option.some.inj (show some c4=some _ from e4)
 obtain rfl:=Option.some.inj (show some c5=some _ from e5)
 obtain rfl:=Option.some.inj (show some c6=some _ from e6)
 obtain rfl:=Option.some.inj (show some c7=some _ from e7)
 obtain rfl:=Option.some.inj (show some c8=some _ from e8)
 obtain rfl:=Option.some.inj (show some c9=some _ from e9)
 obtain rfl:=Option.some.inj (show some c10=some _ from e10)
 obtain rfl:=Option.some.inj (show some c11=some _ from e11)
 obtain rfl:=Option.some.inj (show some c12=some _ from e12)
 obtain rfl:=Option.some.inj (show some c13=some _ from e13)
 obtain rfl:=Option.some.inj (show some c14=some _ from e14)
 obtain rfl:=Option.some.inj (show some c15=some _ from e15)
 obtain rfl:=Option.some.inj (show some c16=some _ from e16)
 obtain rfl:=Option.some.inj (show some c17=some _ from e17)
 obtain rfl:=Option.some.inj (show some c18=some _ from e18)
 obtain rfl:=Option.some.inj (show some c19=some _ from e19)
 obtain rfl:=Option.some.inj (show some c20=some _ from e20)
 obtain rfl:=Option.some.inj (show some c21=some _ from e21)
 obtain rfl:=Option.some.inj (show some c22=some _ from e22)
 obtain rfl:=Option.some.inj (show some c23=some _ from e23)
 obtain rfl:=Option.some.inj (show some c24=some _ from e24)
 obtain ⟨nn,rfl,hnn⟩:∃q:Nat,n3=(q:Int)∧q < 18446744073709551616:=by
  have:=bounds_u64 w3
  exact ⟨n3.toNat,by omega,by omega⟩
 refine ⟨n0,nn,⟨rfl,rfl,rfl,hnn,rfl,n0,n2,nn,fun i=>([.int .i64 n0,.int .i64 n1,.int .i64 n2,.int .u64 (nn:Int),.int .i64 n4,.int .i64 n5,.int .i64 n6,.int .u8 n7,.int .u8 n8,.int .u8 n9,.int .u8 n10,.int .i8 n11,.int .i8 n12,.int .u32 n13,.int .u32 n14,.int .u32 n15,.int .u64 n16,.int .u64 n17,.int .u64 n18,.int .u64 n19,.slice EA el ec,.bool sg,.int .u32 n22,.int .u64 n23]:List Value).getD i undef,BA,bl,bc,rfl,bounds_i64 w0,bounds_i64 w2,hB,fun c2 v h1 h2 hv=>?_⟩⟩
 exact (.cons hv (.cons (patK_ok w1 c2) (.cons (patK_ok w2 c2) (.cons (patK_ok w3 c2) (.cons (patK_ok w4 c2) (.cons (patK_ok w5 c2) (.cons (patK_ok w6 c2) (.cons (patK_ok w7 c2) (.cons (patK_ok w8 c2) (.cons (patK_ok w9 c2) (.cons (patK_ok w10 c2) (.cons (patK_ok w11 c2) (.cons (patK_ok w12 c2) (.cons (patK_ok w13 c2) (.cons (patK_ok w14 c2) (.cons (patK_ok w15 c2) (.cons (patK_ok w16 c2) (.cons (patK_ok w17 c2) (.cons (patK_ok w18 c2) (.cons (patK_ok w19 c2) (.cons (by have q:=VR.frz (c:=c2) (i:=123) h1 (by rw [h2]; rfl); rw [h2] at q; exact q) (.cons (.ub _) (.cons (patK_ok w22 c2) (.cons (patK_ok w23 c2) (.cons (.any _) .nil)))))))))))))))))))))))))
theorem ints104:Ints 104 [.u32,.i64,.i64]:=⟨by kernel_rfl,_,Tryz.underlying104,rfl,fun j hj=>by
 have hj:j < 3:=hj
 match j,hj with
 |0,_=>exact ⟨_,_,rfl,rfl,rfl,by kernel_rfl,Tryz.underlying44⟩
 |1,_=>exact ⟨_,_,rfl,rfl,rfl,by kernel_rfl,Tryz.underlying3⟩
 |2,_=>exact ⟨_,_,rfl,rfl,rfl,by kernel_rfl,Tryz.underlying3⟩⟩
theorem ints61:Ints 61 [.u32,.u64,.u64]:=⟨by kernel_rfl,_,Tryz.underlying61,rfl,fun j hj=>by
 have hj:j < 3:=hj
 match j,hj with
 |0,_=>exact ⟨_,_,rfl,rfl,rfl,by kernel_rfl,Tryz.underlying44⟩
 |1,_=>exact ⟨_,_,rfl,rfl,rfl,by kernel_rfl,Tryz.underlying22⟩
 |2,_=>exact ⟨_,_,rfl,rfl,rfl,by kernel_rfl,Tryz.underlying22⟩⟩
theorem ints102:Ints 102 [.i64,.i64]:=⟨by kernel_rfl,_,Tryz.underlying102,rfl,fun j hj=>by
 have hj:j < 2:=hj
 match j,hj with
 |0,_=>exact ⟨_,_,rfl,rfl,rfl,by kernel_rfl,Tryz.underlying2⟩
 |1,_=>exact ⟨_,_,rfl,rfl,rfl,by kernel_rfl,Tryz.underlying3⟩⟩
theorem getD_I64 {l:List Int} (h:∀v,v∈l→I64 v) (i:Nat):I64 (l.getD i 0):=by
 rw [List.getD_eq_getElem?_getD]
 by_cases hi:i < l.length
 ·rw [List.getElem?_eq_getElem hi]
  exact h _ (List.getElem_mem hi)
 ·rw [List.getElem?_eq_none (by omega)]
  exact ⟨by decide,by decide⟩
theorem conf_in {fuel:Nat} {cs:List Value} {x:DataW H×List MemPlace} (h:DataW.trod enc P W 0 (fun _=>true) true fuel 27 cs=some x):∃(bits hz:Int) (q:Nat→Int) (SA KA LA:Option Addr) (sl sc kl kc ll lc:Nat),cs=[.int .i64 bits,.int .u64 hz,.int .i64 (q 2),.int .i64 (q 3),.int .i64 (q 4),.int .i64 (q 5),.int .i64 (q 6),.int .i64 (q 7),.slice SA sl sc,.slice KA kl kc,.slice LA ll lc,.int .i64 (q 11)]∧ConfIn W bits hz q SA KA LA sl sc kl kc ll lc:=by
 obtain ⟨xs,n',_,_,hl,hxl,hxs⟩:=DataW.trod_struct Tryz.underlying27 h
 have hl:cs.length=12:=hl.trans (by kernel_rfl)
 have hxl:xs.length=12:=hxl
 have g0:DataW.trod enc P W 0 (fun _=>true) true n' 3 ((cs.drop 0).take (P.cellsOf 3))=xs[0]? :=hxs 0 _ rfl
 rw [show P.cellsOf 3=1 by kernel_rfl,List.getElem?_eq_getElem (by omega:0 < xs.length)] at g0
 obtain ⟨n0,e0,w0⟩:=fld Tryz.underlying3 g0
 have g1:DataW.trod enc P W 0 (fun _=>true) true n' 22 ((cs.drop 1).take (P.cellsOf 22))=xs[1]? :=hxs 1 _ rfl
 rw [show P.cellsOf 22=1 by kernel_rfl,List.getElem?_eq_getElem (by omega:1 < xs.length)] at g1
 obtain ⟨n1,e1,w1⟩:=fld Tryz.underlying22 g1
 have g2:DataW.trod enc P W 0 (fun _=>true) true n' 2 ((cs.drop 2).take (P.cellsOf 2))=xs[2]? :=hxs 2 _ rfl
 rw [show P.cellsOf 2=1 by kernel_rfl,List.getElem?_eq_getElem (by omega:2 < xs.length)] at g2
 obtain ⟨n2,e2,w2⟩:=fld Tryz.underlying2 g2
 have g3:DataW.trod enc P W 0 (fun _=>true) true n' 2 ((cs.drop 3).take (P.cellsOf 2))=xs[3]? :=hxs 3 _ rfl
 rw [show P.cellsOf 2=1 by kernel_rfl,List.getElem?_eq_getElem (by omega:3 < xs.length)] at g3
 obtain ⟨n3,e3,w3⟩:=fld Tryz.underlying2 g3
 have g4:DataW.trod enc P W 0 (fun _=>true) true n' 2 ((cs.drop 4).take (P.cellsOf 2))=xs[4]? :=hxs 4 _ rfl
 rw [show P.cellsOf 2=1 by kernel_rfl,List.getElem?_eq_getElem (by omega:4 < xs.length)] at g4
 obtain ⟨n4,e4,w4⟩:=fld Tryz.underlying2 g4
 have g5:DataW.trod enc P W 0 (fun _=>true) true n' 2 ((cs.drop 5).take (P.cellsOf 2))=xs[5]? :=hxs 5 _ rfl
 rw [show P.cellsOf 2=1 by kernel_rfl,List.getElem?_eq_getElem (by omega:5 < xs.length)] at g5
 obtain ⟨n5,e5,w5⟩:=fld Tryz.underlying2 g5
 have g6:DataW.trod enc P W 0 (fun _=>true) true n' 2 ((cs.drop 6).take (P.cellsOf 2))=xs[6]? :=hxs 6 _ rfl
 rw [show P.cellsOf 2=1 by kernel_rfl,List.getElem?_eq_getElem (by omega:6 < xs.length)] at g6
 obtain ⟨n6,e6,w6⟩:=fld Tryz.underlying2 g6
 have g7:DataW.trod enc P W 0 (fun _=>true) true n' 2 ((cs.drop 7).take (P.cellsOf 2))=xs[7]? :=hxs 7 _ rfl
 rw [show P.cellsOf 2=1 by kernel_rfl,List.getElem?_eq_getElem (by omega:7 < xs.length)] at g7
 obtain ⟨n7,e7,w7⟩:=fld Tryz.underlying2 g7
 have g8:DataW.trod enc P W 0 (fun _=>true) true n' 23 ((cs.drop 8).take (P.cellsOf 23))=xs[8]? :=hxs 8 _ rfl
 rw [show P.cellsOf 23=1 by kernel_rfl,List.getElem?_eq_getElem (by omega:8 < xs.length)] at g8
 obtain ⟨SA,sl,sc,q8,sm,si⟩:=list_in Tryz.underlying23 ints104 (by decide) g8
 have e8:cs[8]? =_:=at_of q8
 have g9:DataW.trod enc P W 0 (fun _=>true) true n' 24 ((cs.drop 9).take (P.cellsOf 24))=xs[9]? :=hxs 9 _ rfl
 rw [show P.cellsOf 24=1 by kernel_rfl,List.getElem?_eq_getElem (by omega:9 < xs.length)] at g9
 obtain ⟨KA,kl,kc,q9,km,ki⟩:=list_in Tryz.underlying24 ints61 (by decide) g9
 have e9:cs[9]? =_:=at_of q9
 have g10:DataW.trod enc P W 0 (fun _=>true) true n' 25 ((cs.drop 10).take (P.cellsOf 25))=xs[10]? :=hxs 10 _ rfl
 rw [show P.cellsOf 25=1 by kernel_rfl,List.getElem?_eq_getElem (by omega:10 < xs.length)] at g10
 obtain ⟨LA,ll,lc,q10,lm,li⟩:=list_in Tryz.underlying25 ints102 (by decide) g10
 have e10:cs[10]? =_:=at_of q10
 have g11:DataW.trod enc P W 0 (fun _=>true) true n' 2 ((cs.drop 11).take (P.cellsOf 2))=xs[11]? :=hxs 11 _ rfl
 rw [show P.cellsOf 2=1 by kernel_rfl,List.getElem?_eq_getElem (by omega:11 < xs.length)] at g11
 obtain ⟨n11,e11,w11⟩:=fld Tryz.underlying2 g11
 clear g0 g1 g2 g3 g4 g5 g6 g7 g8 g9 g10 g11 hxs
 obtain ⟨c0,c1,c2,c3,c4,c5,c6,c7,c8,c9,c10,c11,rfl⟩:=l12 hl
 obtain rfl:=Option.some.inj (show some c0=some _ from e0)
 obtain rfl:=Option.some.inj (show some c1=some _ from e1)
 obtain rfl:=Option.some.inj (show some c2=some _ from e2)
 obtain rfl:=Option.some.inj (show some c3=some _ from e3)
 obtain rfl:=Option.some.inj (show some c4=some _ from e4)
 obtain rfl:=Option.some.inj (show some c5=some _ from e5)
 obtain rfl:=Option.some.inj (show some c6=some _ from e6)
 obtain rfl:=Option.some.inj (show some c7=some _ from e7)
 obtain rfl:=Option.some.inj (show some c8=some _ from e8)
 obtain rfl:=Option.some.inj (show some c9=some _ from e9)
 obtain rfl:=Option.some.inj (show some c10=some _ from e10)
 obtain rfl:=Option.some.inj (show some c11=some _ from e11)
 refine ⟨n0,n1,fun i=>([0,0,n2,n3,n4,n5,n6,n7,0,0,0,n11]:List Int).getD i 0,SA,KA,LA,sl,sc,kl,kc,ll,lc,rfl,⟨bounds_i64 w0,(bounds_u64 w1).1,(bounds_u64 w1).2,getD_I64 fun v hv=>?_,si,sm,ki,li⟩⟩
 have z:I64 0:=⟨by decide,by decide⟩
 simp only [List.mem_cons,List.mem_nil_iff,or_false] at hv
 rcases hv with rfl |rfl |rfl |rfl |rfl |rfl |rfl |rfl |rfl |rfl |rfl |rfl
 all_goals first |exact z |exact bounds_i64 (by assumption)
theorem acts_in {fuel:Nat} {a:Option Addr} {len cap:Nat} {x:DataW H×List MemPlace} (h:DataW.trod enc P W 0 (fun _=>true) true fuel 28 [.slice a len cap]=some x):len≤9223372036854775807∧(0 < len→∃Bl ol,a=some ⟨Bl,ol,none⟩∧Bl < W.heap.size∧∀k,k < len→∃what nn cs,ActC (ActA W) what nn cs∧W.rangeAt Bl (ol+k * 25) cs):=by
 rcases open_slice Tryz.underlying28 h with ⟨e,_⟩ |⟨a,len,cap,m,n,D,Pl,e,_,hl,hm,hmm,_,hx⟩
 ·cases e
  exact ⟨by omega,fun h=>by omega⟩
 cases e
 have hm:cap≤9223372036854775807:=hm
 have hmm:m=cap:=by simpa using hmm
 subst hmm
 refine ⟨by omega,fun hp=>?_⟩
 have c50:P.cellsOf 50=25:=by kernel_rfl
 have each:∀i,i < m→∃what nn cs,ActC (ActA W) what nn cs∧∀j,j < 25→W.cell? (a.add (i * 25+j))=cs[j]? :=fun i hi=>by
  obtain ⟨cs',h1,h2⟩:=hx i hi
  rw [c50] at h1
  obtain ⟨_,_,hcell⟩:=World.cells?_some h1
  obtain ⟨what,nn,hA⟩:=act_in h2
  exact ⟨what,nn,cs',hA,fun j hj=>by rw [←hcell j hj,Addr.add_add]⟩
 obtain ⟨w0,n0,cs0,hA0,hc0⟩:=each 0 (by omega)
 have hv0:W.cell? a=some (.int .i64 w0):=by
  have:=hc0 0 (by omega)
  rw [hA0.c0] at this
  simpa [Addr.add] using this
 have hs:a.spot=none:=World.cell?_spot hv0
 obtain ⟨b,o,spot⟩:=a
 subst hs
 refine ⟨b,o,rfl,World.block_lt_of_cell? W _ hv0,fun k hk=>?_⟩
 obtain ⟨what,nn,cs,hA,hc⟩:=each k (by omega)
 refine ⟨what,nn,cs,hA,fun j v hv=>?_⟩
 have hj:j < 25:=by rw [←hA.n]; exact (List.getElem?_eq_some_iff.1 hv).1
 have:=hc j hj
 rw [Addr.add_mid,hv] at this
 rw [Nat.add_assoc]
 exact this
end Go.Proofs.YtdohkfgflpdkcaaGreatDoor.sym
