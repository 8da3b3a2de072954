/-
  PROVED HERE: ephemerislaw29.DaemonForward returns true, whatever the input: the row (with what it lists as laid) and the card, tied to the program's text. No condition.
-/
import Derived.Test.YtdohkfgflpdkcaaGreatDoorWC
import Derived.Test.YtdohkfgflpdkcaaGreatDoorRD
import Derived.Test.YtdohkfgflpdkcaaGreatDoorRE
import Derived.Test.YtdohkfgflpdkcaaGreatDoorRG
import Derived.Test.YtdohkfgflpdkcaaGreatDoorRows
import Derived.Test.YtdohkfgflpdkcaaGreatDoorTie
import Derived.Test.YtdohkfgflpdkcaaGreatDoorCards
import Derived.ProofKit
import Derived.OpenShut
import Derived.LaidMore
import Derived.Lay
import Derived.SevenTiedAt
import Derived.Stop.Joined
import Derived.Below
set_option linter.unusedVariables false
set_option linter.unusedSimpArgs false
namespace Go.Proofs.YtdohkfgflpdkcaaGreatDoor.forward
open Go Go.Eng Go.Deep Go.ChangeShapes Go.WideShapes Go.ChangeAt Go.RowKit
abbrev sizes:List Value:=[.int .i64 1,.int .i64 1,.int .i64 1,.int .i64 1,.int .i64 4,.int .i64 4,.int .i64 4,.int .i64 8,.int .i64 8,.int .i64 8,.int .i64 8]
theorem table_of_laid {W:World} (h:laidMetH Tryz.prog Rows.daemonForwardRow.laid W):∃ty fr,W.heap[2]? =some (.cells ⟨sizes++[]⟩ ty fr):=by
 rw [MakeChecks.laidMetH_plain _ _ _ (by kernel_rfl)] at h
 obtain ⟨ps,⟨_,_,_,_,_,_,_,_,_,_,⟨g,t,cs,fuel,p,q,hg,ht,hv,hd,_,_⟩,_⟩,_,_⟩:=h
 obtain rfl:=Option.some.inj ((show Tryz.prog.globalNamed "ephemeris/head.sizes"=some 2 by kernel_rfl).symm.trans hg)
 obtain rfl:=Option.some.inj ((show (Tryz.prog.globals[2]?).map (·.type)=some 396 by kernel_rfl).symm.trans ht)
 obtain ⟨xs,m,_,ex,hcl,hl,hel⟩:=DataW.trod_array Tryz.underlying396 hd
 have c3:Tryz.prog.cellsOf 3=1:=by kernel_rfl
 have c11:Tryz.prog.cellsOf 396=11:=by kernel_rfl
 rw [c11] at hcl
 have hxs:xs.map (·.1)=sizes.map fun v=>match v with |.int k n=>(DataW.lit (.int k n):DataW Unit) |_=>.nil:=(DataW.agg.inj (Prod.mk.inj ex).1).symm
 have hcs:cs.toList=sizes:=by
  apply List.ext_getElem?
  intro r
  by_cases hr:r < 11
  ·have hE:=hel r hr
   rw [c3,Nat.mul_one,List.getElem?_eq_getElem (by omega)] at hE
   obtain ⟨z,e1,e2,_⟩:=DataW.trod_int Tryz.underlying3 hE
   have h0:cs.toList[r]? =some (.int .i64 z):=by
    have h0:((cs.toList.drop r).take 1)[0]? =some (.int .i64 z):=by rw [e1]; rfl
    simpa using h0
   have h1:(xs.map (·.1))[r]? =some (.lit (.int .i64 z)):=by
    rw [List.getElem?_map,List.getElem?_eq_getElem (by omega:r < xs.length),e2]; rfl
   rw [hxs,List.getElem?_map] at h1
   rw [h0]
   have hs:∃n,sizes[r]? =some (.int .i64 n):=by
    have:r=0∨r=1∨r=2∨r=3∨r=4∨r=5∨r=6∨r=7∨r=8∨r=9∨r=10:=by omega
    rcases this with rfl |rfl |rfl |rfl |rfl |rfl |rfl |rfl |rfl |rfl |rfl <;> exact ⟨_,rfl⟩
   obtain ⟨n,hs⟩:=hs
   rw [hs] at h1 ⊢
   simp only [Option.map_some,Option.some.injEq,DataW.lit.injEq,Lit.int.injEq,true_and] at h1
   rw [h1]
  ·rw [List.getElem?_eq_none (by omega),List.getElem?_eq_none (by show 11≤r; omega)]
 simp only [World.var?,hg,Option.bind_some] at hv
 split at hv
 ·rename_i cs' ty fr hw
  cases hv
  refine ⟨ty,fr,?_⟩
  rw [hw,List.append_nil,←hcs]
 ·cases hv
def first0:Cx:=⟨fun i=>i < 64,fun i=>i,fun _=>0,fun _=>0,fun _=>{n:=0,x:=none,v:=undef}⟩
theorem start_at {W:World} {ty:TypeId} {fr:Nat×Nat} (hw:W.heap[2]? =some (.cells ⟨sizes++[]⟩ ty fr)):At [(2,sym.sizesO)] 64 first0 W:=by
 have e:∀i x,ofL [(2,sym.sizesO)] i=some x→i=2∧x=sym.sizesO:=fun i x hx=>by
  rw [ofL_cons] at hx
  split at hx
  ·rename_i h; cases hx; exact ⟨h.symm,rfl⟩
  ·cases hx
 refine ⟨fun g hg=>⟨hg,rfl,rfl⟩,⟨fun i x hx=>?_,fun i j x y hx hy _=>?_⟩,fun i hi=>hi⟩
 ·obtain ⟨rfl,rfl⟩:=e i x hx
  refine ⟨by show 2 < 64; decide,[],sizes,[],ty,fr,hw,rfl,?_⟩
  exact .cons (.int _ _) (.cons (.int _ _) (.cons (.int _ _) (.cons (.int _ _) (.cons (.int _ _) (.cons (.int _ _) (.cons (.int _ _) (.cons (.int _ _) (.cons (.int _ _) (.cons (.int _ _) (.cons (.int _ _) .nil))))))))))
 ·exact .inl ((e i x hx).1.trans (e j y hy).1.symm)
set_option maxRecDepth 100000 in
theorem lifted (os:Os) (started:os.Started) (H:Type) (enc:TypeId×Value→H):
 ReturnsInHanded {} Tryz.checked os 4 .any (fun w args=>(Rows.daemonForwardSpec.pre enc Tryz.prog Tryz.f4 Rows.daemonForwardRow.domain false w args∧laidMetH Tryz.prog Rows.daemonForwardRow.laid w)∧sizedMet enc Tryz.prog Tryz.f4 (OpenSpec.ofChange Rows.daemonForwardSpec) false w args)
  (Rows.daemonForwardSpec.post enc Tryz.prog Tryz.f4 false true false false):=by
 refine returnsInHanded_of_change_and (C:=Tryz.checked) (X:=fun w _=>laidMetH Tryz.prog Rows.daemonForwardRow.laid w) (fun _ _ _ hh h=>h.of_heap hh) own started noInit Tryz.func4
  (ChangeSpec.witness_shaped (enc:=enc) (C:=Tryz.checked) (os:=os) (X:=fun w _=>laidMetH Tryz.prog Rows.daemonForwardRow.laid w) false (World.laidAll Tryz.prog os Rows.daemonForwardRow.laid) #[.agg #[.int .i64 0,.int .u64 0,.int .i64 0,.int .i64 0,.int .i64 0,.int .i64 0,.int .i64 0,.int .i64 0,.slice none 0 0,.slice none 0 0,.slice none 0 0,.int .i64 0],.int .u64 0,.slice none 0 0] 8 (World.laidAll_os _ _ _)
    (World.shaped_of_ZipB (w1 os) (w2 os)) (w3 os) (w4 enc os) (w5 enc os)
    (by rw [MakeChecks.laidMetH_plain _ _ _ (by kernel_rfl)]; exact laidMet_laidAll _ (w6 os) (w7 os))) ?_
 intro W base args ds gs before hval0 hW hc _ hL _
 have hW':=hW
 obtain ⟨p,q,hA0,hV,rfl,_,_⟩:=hW
 have hA:DataW.TrodAll enc Tryz.prog W 0 (fun _=>true) true Tryz.f4.params.toList args.toList ds p:=hA0
 rw [Tryz.params4] at hA
 have hval:∀(j:Nat) t v,Tryz.f4.params[j]? =some t→args[j]? =some v→Value.okWide Tryz.prog W .any base t v:=hval0
 rw [Tryz.params4] at hval
 obtain ⟨v0,vs0,d0,ds0,p0,q0,hargs,rfl,rfl,h0,r0⟩:=trodAll_cons hA
 obtain ⟨v1,vs1,d1,ds1,p1,q1,rfl,rfl,rfl,h1,r1⟩:=trodAll_cons r0
 obtain ⟨v2,vs2,d2,ds2,p2,q2,rfl,rfl,rfl,h2,r2⟩:=trodAll_cons r1
 obtain ⟨rfl,rfl,rfl⟩:=trodAll_nil r2
 obtain rfl:args=#[v0,v1,v2]:=by cases args; simp_all
 obtain ⟨rfl,rfl⟩:=trodVars_none hV
 obtain ⟨cs0,rfl,_⟩:=okWide_struct Tryz.underlying27 (hval 0 27 v0 rfl rfl)
 obtain ⟨a1,rfl,rfl,rfl,w1⟩:=open_int Tryz.underlying22 (hval 1 22 v1 rfl rfl) h1
 obtain ⟨a2,len2,cap2,rfl⟩:=okWide_slice Tryz.underlying28 (hval 2 28 v2 rfl rfl)
 have k0:=h0
 have k2:=h2
 have lt0:∀x∈p0,x.block < W.heap.size:=by obtain ⟨m,hm⟩:=k0; exact DataW.trod_lt m _ _ _ hm
 have lt2:∀x∈p2,x.block < W.heap.size:=by obtain ⟨m,hm⟩:=k2; exact DataW.trod_lt m _ _ _ hm
 obtain ⟨ty,fr,hw⟩:=table_of_laid hL
 have A0:=start_at hw
 obtain ⟨bits,hz,q,SA,KA,LA,sl,sc,kl,kc,ll,lc,hcs,hC⟩:∃(bits hz:Int) (q:Nat→Int) (SA KA LA:Option Addr) (sl sc kl kc ll lc:Nat),cs0=#[.int .i64 bits,.int .u64 hz,.int .i64 (q 2),.int .i64 (q 3),.int .i64 (q 4),.int .i64 (q 5),.int .i64 (q 6),.int .i64 (q 7),.slice SA sl sc,.slice KA kl kc,.slice LA ll lc,.int .i64 (q 11)]∧sym.ConfIn W bits hz q SA KA LA sl sc kl kc ll lc:=by
  obtain ⟨fuel,hf⟩:=h0
  obtain ⟨bits,hz,q,SA,KA,LA,sl,sc,kl,kc,ll,lc,h,hC⟩:=sym.conf_in hf
  exact ⟨bits,hz,q,SA,KA,LA,sl,sc,kl,kc,ll,lc,by
   have h':cs0.toList=_:=h
   exact Array.toList_inj.1 h',hC⟩
 subst hcs
 obtain ⟨hlen,hacts⟩:len2≤9223372036854775807∧(0 < len2→∃Bl ol,a2=some ⟨Bl,ol,none⟩∧Bl < W.heap.size∧∀k,k < len2→∃what nn cs,ActC (sym.ActA W) what nn cs∧W.rangeAt Bl (ol+k * 25) cs):=by
  obtain ⟨fuel,hf⟩:=h2
  exact sym.acts_in hf
 obtain ⟨first,rfl,hfirst⟩:∃q:Nat,a1=(q:Int)∧q < 18446744073709551616:=by
  have:=bounds_u64 w1
  exact ⟨a1.toNat,by omega,by omega⟩
 clear hA0 hval0
 refine (sym.forward_at A0 hC hfirst hlen hacts).mono fun e W' ⟨he,fr⟩=>?_
 have bel:=fr.below
 subst he
 exact ⟨_,rfl,_,_,_,[],_,[],hW',trodAll_mk1 (shut_bool Tryz.underlying4 _),(trodAll_cons_mk (Below.trod laidOut (by kernel_rfl) (of_decide_eq_true (by kernel_rfl)) k0 bel lt0) (trodAll_cons_mk (shut_int Tryz.underlying22 w1) (trodAll_cons_mk (Below.trod laidOut (by kernel_rfl) (of_decide_eq_true (by kernel_rfl)) k2 bel lt2) trodAll_mk0))),rfl,bel.frame _,fun h=>by cases h⟩
theorem holds:Rows.DaemonForwardSaid:=
 OpenClaim.holds_of_wide 4 Tryz.f4 rfl rfl rfl rfl rfl rfl rfl ⟨rfl,rfl,rfl,rfl,rfl⟩ rfl rfl rfl rfl rfl theFunc Tryz.func4 facts
  (of_decide_eq_true (by kernel_rfl)) (by unfold Func.isWrapper; first |(rw [if_pos (by decide+kernel)]; kernel_rfl) |(rw [if_neg (by decide+kernel)]; exact ⟨rfl,rfl⟩))
  (fun os started H enc _=>lifted os started H enc)
theorem proved:Rows.DaemonForwardCardSaid:=
 Claim7.holds_tied_plain_at .later [] [.data,.widerDeep,.pinned] true (true, "235fb7f0fe01a77364270aea6f194618739c8fa4bf229f96156af916a0c165df") true holds (fun _ h=>by cases h) byText (fun _ h=>by cases h) daemonForward_row_tie rfl ⟨rfl,rfl⟩ mainIs rfl
  (fun f fn hf hfn=>by
    obtain rfl:f=4:=Option.some.inj (theFunc.symm.trans hf) |>.symm
    obtain rfl:fn=Tryz.f4:=(Option.some.inj (Tryz.func4.symm.trans hfn)).symm
    exact ⟨looks,fun j t ht=>by
     rw [Tryz.params4] at ht
     rcases j with _ |_ |_ |j
     ·obtain rfl:=Option.some.inj ht; kernel_rfl
     ·obtain rfl:=Option.some.inj ht; kernel_rfl
     ·obtain rfl:=Option.some.inj ht; kernel_rfl
     ·simp at ht⟩)
  goes
end Go.Proofs.YtdohkfgflpdkcaaGreatDoor.forward
