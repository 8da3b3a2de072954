/-
  PROVED HERE: a part of the proof of DaemonForward (texts W6, W7 of the prover, joined). No condition of its own.
-/
import Derived.Test.YtdohkfgflpdkcaaGreatDoorWA
import Derived.Test.YtdohkfgflpdkcaaGreatDoorUD
import Derived.Test.YtdohkfgflpdkcaaGreatDoorVC
import Derived.Test.YtdohkfgflpdkcaaGreatDoorVD
set_option linter.unusedVariables false
set_option linter.unusedSimpArgs false
namespace Go.Proofs.YtdohkfgflpdkcaaGreatDoor.sym
open Go Go.Eng
theorem inv_of {n dn:Nat} (k:OkN (stR n)) (N:NewOk n dn) {W0 w:World} {d:Cx} {h:Nat} {sv kv lv:Value} (M:Made W0 n d w h sv kv lv) (f:Fr [] W0 w) {bits hz:Int} {q:Nat→Int} {first:Nat} (hb:I64 bits) (h1:0≤hz) (h2:hz≤18446744073709551615) (hq:∀i,I64 (q i)) (hf:first < 18446744073709551616):
 ∃c,Inv W0 (stR n) c (w.alloc (.cells #[.pointer (some ⟨d.b 64,0,none⟩),.int .i64 bits,.int .u64 hz,.int .i64 (q 2),.int .i64 (q 3),.int .i64 (q 4),.int .i64 (q 5),.int .i64 (q 6),.int .i64 (q 7),sv,kv,lv,.int .i64 (q 11),.int .u64 (first:Int),.int .u64 0,.int .u64 0,.int .u64 0,.int .u64 0,.int .u64 0] 41)) h 0 0 false∧c.b 64=d.b 64∧c.b 120=w.heap.size:=by
 have sh:=k.o.ok.sh
 obtain ⟨x7,hd⟩:=sh.d
 have hd':ofL (stM n) 64=_:=(stM_at (by decide)).trans hd
 have av64:=(M.st.hr.at_ 64 _ hd').1
 have av:∀i x,ofL (stM n) i=some x→d.av i:=fun i x hx=>(M.st.hr.at_ i x hx).1
 have s65:ofL (stM n) 65=_:=(stM_at (by decide)).trans sh.cnt
 have s66:ofL (stM n) 66=_:=(stM_at (by decide)).trans sh.sc
 have s67:ofL (stM n) 67=_:=(stM_at (by decide)).trans sh.mon
 have av80:d.av 80:=by
  obtain ⟨_,_,l,_,_,_,_,q,_⟩:=M.st.hr.at_ 64 _ hd'
  cases q with |cons _ q=>cases q with |cons _ q=>cases q with |cons _ q=>cases q with |cons _ q=>cases q with |cons q _=>cases q with |ptr h=>exact h
 obtain ⟨c,hc⟩:∃c:Cx,c=⟨fun j=>d.av j∨j=120,fun j=>if j=120 then w.heap.size else d.b j,fun j=>if j=120 then 0 else d.o j,fun j=>if j=120 then 0 else d.e j,fun j=>if j=120 then {n:=0,x:=none,v:=undef} else d.z j⟩:=⟨_,rfl⟩
 have hle:Le d c:=fun j hj=>by
  have:j≠120:=fun e=>M.no (e▸hj)
  subst hc
  simp [this,hj]
 have b120:c.b 120=w.heap.size:=by subst hc; simp
 have p0:VR c (pt 64) (.pointer (some ⟨d.b 64,0,none⟩)):=by
  have:=(VR.ptr (c:=d) (b:=64) (o:=0) av64).le hle
  rw [M.o.1] at this
  exact this
 have u0:VR c uI (.int .u64 0):=.ui _ _ (Int.le_refl _) (by decide)
 have A:=At.own (ty:=41) M.st (i0:=120) M.no (by decide) (by decide) hc (l:=[pt 64,anyI,uI,anyI,anyI,anyI,anyI,anyI,anyI,.chan (some 121),.chan (some 122),.chan (some 119),anyI,uI,uI,uI,uI,uI,uI])
  (.cons p0 (.cons (.ui _ _ hb.1 hb.2) (.cons (.ui _ _ h1 h2) (.cons (.ui _ _ (hq 2).1 (hq 2).2) (.cons (.ui _ _ (hq 3).1 (hq 3).2) (.cons (.ui _ _ (hq 4).1 (hq 4).2) (.cons (.ui _ _ (hq 5).1 (hq 5).2) (.cons (.ui _ _ (hq 6).1 (hq 6).2) (.cons (.ui _ _ (hq 7).1 (hq 7).2) (.cons (M.ls.1.le hle).vr (.cons (M.ls.2.1.le hle).vr (.cons (M.ls.2.2.le hle).vr (.cons (.ui _ _ (hq 11).1 (hq 11).2) (.cons (.ui _ _ (Int.natCast_nonneg first) (show (first:Int)≤18446744073709551615 by omega)) (.cons u0 (.cons u0 (.cons u0 (.cons u0 (.cons u0 .nil)))))))))))))))))))
 have old:∀i x,ofL (stR n) i=some x→(i=120∧x.fz=false)∨(i≠120∧ofL (stM n) i=some x):=fun i x hx=>by
  by_cases hi:i=120
  ·subst hi
   rw [N.law] at hx
   cases hx
   exact .inl ⟨rfl,rfl⟩
  ·exact .inr ⟨hi,(stM_at hi).trans hx⟩
 have bb:∀i x,ofL (stM n) i=some x→c.b i=d.b i:=fun i x hx=>(hle i (av i x hx)).2.1
 have lt:∀i x,ofL (stM n) i=some x→d.b i < w.heap.size:=fun i x hx=>At.lt_heap M.st hx
 have f2:=f.alloc (.cells #[.pointer (some ⟨d.b 64,0,none⟩),.int .i64 bits,.int .u64 hz,.int .i64 (q 2),.int .i64 (q 3),.int .i64 (q 4),.int .i64 (q 5),.int .i64 (q 6),.int .i64 (q 7),sv,kv,lv,.int .i64 (q 11),.int .u64 (first:Int),.int .u64 0,.int .u64 0,.int .u64 0,.int .u64 0,.int .u64 0] 41)
 obtain ⟨τc,τs,τm,rate,K⟩:=M.clk
 refine ⟨c,⟨A.le fun i x hx=>?_,⟨?_,?_,?_⟩,fun j x hx=>?_,fun j x hx hz=>?_,f2,τc,τs,τm,rate,?_⟩,(hle 64 av64).2.1,b120⟩
 ·rw [ofL_cons]
  rcases old i x hx with ⟨rfl,_⟩ |⟨hi,hx2⟩
  ·rw [if_pos rfl]
   rw [N.law] at hx
   exact hx
  ·rw [if_neg (fun h=>hi h.symm)]
   exact hx2
 ·rw [(hle 65 (av 65 _ s65)).2.2.1]; exact M.o.2.1
 ·rw [(hle 66 (av 66 _ s66)).2.2.1]; exact M.o.2.2.1
 ·rw [(hle 80 av80).2.2.1]; exact M.o.2.2.2
 ·rw [bb 65 _ s65,bb 66 _ s66]
  rcases old j x hx with ⟨rfl,_⟩ |⟨hi,hx2⟩
  ·rw [b120]
   have l1:=lt 65 _ s65
   have l2:=lt 66 _ s66
   exact ⟨fun e=>by omega,fun e=>by omega⟩
  ·rw [bb j x hx2]
   exact M.sep j x hx2
 ·rcases old j x hx with ⟨rfl,_⟩ |⟨hi,hx2⟩
  ·rw [b120]; exact f.size
  ·rw [bb j x hx2]
   exact M.own j x hx2 hz
 ·rw [bb 65 _ s65,bb 66 _ s66,bb 67 _ s67]
  exact K.fr ((Fr.refl [] w).alloc _) (by simp) (by simp) (by simp)
def ActA (W0:World) (cs:List Value):Prop:=∃(what srv:Int) (nn:Nat) (X:Nat→Value) (A:Option Addr) (bl bc:Nat),cs=acts what srv nn X (.slice A bl bc)∧I64 what∧I64 srv∧BytesIn W0 A bl bc∧∀(c2:Cx) v,c2.av 123→(c2.z 123).v=X 20→VR c2 v (.int .i64 what)→LR c2 (actPat v) (acts what srv nn X (.slice A bl bc))
theorem lawS {n:Nat} (k:OkN (stR n)) (W0:World) (D R:Nat):LawS W0 D R (fun w t m f=>∃c h,Inv W0 (stR n) c w h t m f∧c.b 64=D∧c.b 120=R) (ActA W0):=by
 have sh:=k.o.ok.sh
 refine ⟨?_,?_,?_,?_,?_,?_,?_,?_,?_,?_,?_⟩
 ·rintro w w' t m f ⟨c,h,inv,e1,e2⟩ fr
  exact ⟨c,h,Inv.fr' inv fr,e1,e2⟩
 ·rintro w t m f ⟨c,h,inv,e1,e2⟩
  exact inv.fr
 ·rintro w t m f ⟨c,h,inv,rfl,rfl⟩
  obtain ⟨p,q,_,hq⟩:=k.srv
  obtain ⟨_,τ,r,B,ln,cap,rd,h1,h2,_⟩:=law_of sh hq inv.st
  exact ⟨τ,r,B,ln,cap,rd,h1,h2⟩
 ·rintro w t m f rd ⟨c,h,inv,rfl,rfl⟩ hr
  exact ⟨c,h,Inv.store sh inv hr,rfl,rfl⟩
 ·rintro w t m f ⟨c,h,inv,rfl,rfl⟩
  exact inv_b inv
 ·rintro w t m f ⟨c,h,inv,rfl,rfl⟩
  exact mono_at sh inv
 ·rintro w t m f ⟨c,h,inv,rfl,rfl⟩
  exact raw_at sh inv
 ·rintro w t m f ⟨c,h,inv,rfl,rfl⟩
  exact bound_at k.o.ok inv
 ·rintro w t m f ⟨c,h,inv,rfl,rfl⟩
  exact stat_at k.o.ok inv
 ·rintro w t m f r ⟨c,h,inv,rfl,rfl⟩ hr
  refine (read_at k.o.ok inv hr).mono ?_
  rintro e w' ⟨v,kk,rfl,c2,t',mono',full',hb,ho,hav,b,ht,hG,hz⟩
  refine ⟨v,kk,t',mono',full',rfl,⟨c2,h,b,by rw [hb],by rw [hb]⟩,ht,hG.up,hz,fun hf=>?_⟩
  exact law_ok ht hG hf
 ·rintro w t m f cs ⟨c,h,inv,rfl,rfl⟩ ⟨what,srv,nn,X,A,bl,bc,rfl,h1,h2,h3,h4⟩
  refine (other_at k inv h1 h2 h3 h4).mono ?_
  rintro e w' ⟨rfl,c2,full',hle,b⟩
  obtain ⟨_,hd⟩:=sh.d
  exact ⟨rfl,full',c2,h,b,(hle 64 (inv.st.hr.at_ 64 _ hd).1).2.1,(hle 120 (inv.st.hr.at_ 120 _ sh.law).1).2.1⟩
end Go.Proofs.YtdohkfgflpdkcaaGreatDoor.sym
namespace Go.Proofs.YtdohkfgflpdkcaaGreatDoor.sym
open Go Go.Eng
set_option maxRecDepth 100000
theorem awake_fits:fitsL 64 (useCon c_awake [] ⟨trieL (toRo [(2,sizesO)]),64⟩) [(.bool true,[],400)]=true:=by kernel_rfl
theorem awake_at {W0 w:World} {c0:Cx} (A0:At [(2,sizesO)] 64 c0 W0) (f:Fr [] W0 w):Calls P 8 #[] w fun e w'=>e= .returned (.bool true)∧Fr [] w w':=
 (At.quiet (L:=[(2,sizesO)]) c_awake_ok (by kernel_rfl) awake_fits (by decide) (At.fr A0 f) .nil).mono fun e w' ⟨⟨c',v',he,hl,hv⟩,f⟩=>by
   cases hv
   exact ⟨he,f⟩
theorem cut_in {W0:World} {p:List Value} {SA:Option Addr} {sl sc m:Nat} (hp:p≠[]) (h:ListIn W0 p 0 9223372036854775807 (.slice SA sl sc)):ListIn W0 p (min sl m) (min sl m) (.slice SA (min sl m) sc):=by
 rcases h with ⟨e,_⟩ |⟨a,k,e,_⟩ |⟨b,o,len,cap,l,ty,fr,e,hh,h1,h3,h4,h5,h6⟩
 ·cases e
  exact .inl ⟨by simp,by simp⟩
 ·cases e
  exact .inr (.inl ⟨a,sc,by simp,by simp⟩)
 ·cases e
  refine .inr (.inr ⟨b,o,min sl m,sc,l,ty,fr,rfl,hh,Nat.le_refl _,Nat.le_refl _,by omega,h5,fun k hk c=>h6 k ?_ c⟩)
  have:min sl m * p.length≤sl * p.length:=Nat.mul_le_mul_right _ (by omega)
  omega
theorem newOk_all:∀n,n≤5→∃dn,NewOk n dn
 |0,_=>⟨_,newOk_0⟩
 |1,_=>⟨_,newOk_1⟩
 |2,_=>⟨_,newOk_2⟩
 |3,_=>⟨_,newOk_3⟩
 |4,_=>⟨_,newOk_4⟩
 |5,_=>⟨_,newOk_5⟩
 |n+6,h=>by omega
def cfg (bits hz:Int) (q:Nat→Int) (S K L:Value):Nat→Value
 |0=>.int .i64 bits
 |1=>.int .u64 hz
 |8=>S
 |9=>K
 |10=>L
 |i=>.int .i64 (q i)
structure ConfIn (W0:World) (bits hz:Int) (q:Nat→Int) (SA KA LA:Option Addr) (sl sc kl kc ll lc:Nat):Prop where
 b:I64 bits
 h1:0≤hz
 h2:hz≤18446744073709551615
 q:∀i,I64 (q i)
 s:ListIn W0 [dI,anyI,anyI] 0 9223372036854775807 (.slice SA sl sc)
 sc:sc≤9223372036854775807
 k:ListIn W0 [dI,uI,uI] 0 lotsN (.slice KA kl kc)
 l:ListIn W0 [anyI,anyI] 0 lotsN (.slice LA ll lc)
theorem begins_at {W0 w1:World} {c0:Cx} (A0:At [(2,sizesO)] 64 c0 W0) (f:Fr [] W0 w1) {bits hz:Int} {q:Nat→Int} {SA KA LA:Option Addr} {sl sc kl kc ll lc:Nat} (C:ConfIn W0 bits hz q SA KA LA sl sc kl kc ll lc) {first:Nat} (hf:first < 18446744073709551616):
 Calls Tryz.prog 7 #[.agg #[.int .i64 bits,.int .u64 hz,.int .i64 (q 2),.int .i64 (q 3),.int .i64 (q 4),.int .i64 (q 5),.int .i64 (q 6),.int .i64 (q 7),.slice SA sl sc,.slice KA kl kc,.slice LA ll lc,.int .i64 (q 11)],.int .u64 (first:Int)] w1 fun e w'=>Fr [] W0 w'∧∃p b,e= .returned (.tuple #[p,.bool b])∧(b=true→∃n c h,n≤5∧OkN (stR n)∧Inv W0 (stR n) c w' h 0 0 false∧p=pq (c.b 120)∧w'.cell? ⟨c.b 120,1,none⟩=some (.int .i64 bits)∧8≤bits∧bits≤64):=by
 have hm:min sl 5≤5:=Nat.min_le_right _ _
 obtain ⟨dn,N⟩:=newOk_all (min sl 5) hm
 have k:=okn_all (min sl 5) hm
 have hs:=cut_in (m:=5) (by simp) C.s
 have hsc:sl≤sc∧(0 < sl→∃b o,SA=some ⟨b,o,none⟩):=by
  rcases C.s with ⟨e,_⟩ |⟨a,k,e,_⟩ |⟨b,o,len,cap,l,ty,fr,e,_,_,_,h4,_⟩
  ·cases e; exact ⟨Nat.le_refl _,by omega⟩
  ·cases e; exact ⟨Nat.zero_le _,by omega⟩
  ·cases e; exact ⟨h4,fun _=>⟨b,o,rfl⟩⟩
 refine (begins_any (cfg bits hz q (.slice SA sl sc) (.slice KA kl kc) (.slice LA ll lc)) SA sl sc first w1 hsc.1 C.sc hsc.2 (fun i hi=>by unfold cfg; split <;> rfl) hf
  (fun p kk w3=>kk=0→p.isSome=true→8≤bits∧bits≤64∧∃d h,p=some ⟨d.b 64,0,none⟩∧Made W0 (min sl 5) d w3 h (.slice SA (min sl 5) sc) (.slice KA kl kc) (.slice LA ll lc))
  (fun w2 f2=>by
    simp only [cfg]
    exact new_at k N A0 (f.then0 f2) C.b C.h1 C.h2 C.q hf hs C.k C.l)).mono ?_
 rintro e w' ⟨p,kk,w3,hΦ,f3,rfl,rfl⟩
 have f03:=f.then0 f3
 refine ⟨f03.alloc _,_,_,rfl,fun hb=>?_⟩
 rw [Bool.and_eq_true] at hb
 obtain ⟨b1,b2,d,h,rfl,M⟩:=hΦ (by simpa using hb.1) hb.2
 obtain ⟨c,inv,e1,e2⟩:=inv_of k N M f03 C.b C.h1 C.h2 C.q hf
 refine ⟨min sl 5,c,h,hm,k,inv,by rw [e2],?_,b1,b2⟩
 rw [e2]
 exact cell_of_row _ _ 1 _ _ (0,0) (heap_alloc_new w3 _)
theorem forward_at {W0:World} {c0:Cx} (A0:At [(2,sizesO)] 64 c0 W0) {bits hz:Int} {q:Nat→Int} {SA KA LA AA:Option Addr} {sl sc kl kc ll lc len cap:Nat} (C:ConfIn W0 bits hz q SA KA LA sl sc kl kc ll lc) {first:Nat} (hf:first < 18446744073709551616) (hlen:len≤9223372036854775807)
 (hacts:0 < len→∃Bl ol,AA=some ⟨Bl,ol,none⟩∧Bl < W0.heap.size∧∀k,k < len→∃what nn cs,ActC (ActA W0) what nn cs∧W0.rangeAt Bl (ol+k * 25) cs):
 Calls Tryz.prog 4 #[.agg #[.int .i64 bits,.int .u64 hz,.int .i64 (q 2),.int .i64 (q 3),.int .i64 (q 4),.int .i64 (q 5),.int .i64 (q 6),.int .i64 (q 7),.slice SA sl sc,.slice KA kl kc,.slice LA ll lc,.int .i64 (q 11)],.int .u64 (first:Int),.slice AA len cap] W0 fun e w'=>e= .returned (.bool true)∧Fr [] W0 w':=by
 refine forward_any (cfg bits hz q (.slice SA sl sc) (.slice KA kl kc) (.slice LA ll lc)) first AA len cap W0 hlen (ActA W0) hacts (fun w1 f=>?_) (fun w1 f=>awake_at A0 f)
 refine (begins_at A0 f C hf).mono ?_
 rintro e w' ⟨h1,p,b,rfl,h2⟩
 refine ⟨h1,p,b,rfl,fun hb=>?_⟩
 obtain ⟨n,c,h,hn,k,inv,rfl,hc,b1,b2⟩:=h2 hb
 exact ⟨c.b 64,c.b 120,_,0,0,false,bits,lawS k W0 _ _,⟨c,h,inv,rfl,rfl⟩,rfl,hc,b1,b2⟩
end Go.Proofs.YtdohkfgflpdkcaaGreatDoor.sym
