/-
  PROVED HERE: a part of the proof of DaemonForward (texts HU6, HF, HU7 of the prover, joined). No condition of its own.
-/
import Derived.Test.YtdohkfgflpdkcaaGreatDoorHU
set_option linter.unusedVariables false
set_option linter.unusedSimpArgs false
namespace Go.Proofs.YtdohkfgflpdkcaaGreatDoor
open Go.RowKit Go.Sort
attribute [local go_sem 10] cellOf frozenOf
attribute [local go_sem] heap_drew heap_drewN
theorem may_any (x y z:Int) (w:World):Calls Tryz.prog 234 #[.agg #[.int .i64 x,.int .i64 y,.int .i64 z]] w fun e w'=>(∃b,e= .returned (.bool b))∧Fr [] w w':=by
 have hF:=(Fr.refl [] w).alloc (.cells #[.int .i64 x,.int .i64 y,.int .i64 z] 73)
 have hn:=heap_alloc_new w (.cells #[.int .i64 x,.int .i64 y,.int .i64 z] 73)
 rcases Int.lt_or_le y 0 with h1 |h1
 ·have t1:((0:Int)≤y)=False:=by simp; omega
  go_enter Tryz.func234,Tryz.ntmps234
  go_wp2_with (fail)
  go_ret
  exact ⟨⟨_,rfl⟩,hF⟩
 ·rcases Int.lt_or_le z y with h2 |h2
  ·have t2:(y≤z)=False:=by simp; omega
   go_enter Tryz.func234,Tryz.ntmps234
   go_wp2_with (fail)
   go_ret
   exact ⟨⟨_,rfl⟩,hF⟩
  ·go_enter Tryz.func234,Tryz.ntmps234
   go_wp2_with (fail)
   go_ret
   exact ⟨⟨_,rfl⟩,hF⟩
theorem hull1_any (x y z:Int) (w:World):Calls Tryz.prog 233 #[.agg #[.int .i64 x,.int .i64 y,.int .i64 z]] w fun e w'=>(∃b,e= .returned (.bool b))∧Fr [] w w':=by
 have hF:=(Fr.refl [] w).alloc (.cells #[.int .i64 x,.int .i64 y,.int .i64 z] 73)
 go_enter Tryz.func233,Tryz.ntmps233
 go_wp2_with (fail)
 refine (may_any x y z _).mono ?_
 rintro e w1 ⟨⟨b,rfl⟩,hF1⟩
 go_wp2_with (fail)
 go_ret
 exact ⟨⟨_,rfl⟩,hF.then0 hF1⟩
theorem index_any (B off n c:Nat) (f:Nat→Int) (w:World) (hn5:n≤5) (hB:B < w.heap.size) (hc:∀j,j < n * 3→w.cell? ⟨B,off+j,none⟩=some (.int .i64 (f j))):
 Calls Tryz.prog 313 #[.slice (some ⟨B,off,none⟩) n c,.func (.func 233) #[] #[]] w fun e w'=>(∃r:Int,e= .returned (.int .i64 r))∧Fr [] w w':=by
 have HC:=Lib.hid hc
 clear hc
 go_enter Tryz.func313,Tryz.ntmps313
 go_wp2_with (fail)
 go_loopg [8] n (fun g s8 wr=>∃k:Nat,k+g=n∧s8= .int .i64 k∧Fr [] w wr)
 case atStart=>exact ⟨0,by omega,rfl,Fr.refl _ _⟩
 case round=>
  obtain ⟨k,hk,rfl,hF⟩:=hrel
  rcases Nat.eq_zero_or_pos gk with rfl |hp0
  ·obtain rfl:k=n:=by omega
   go_wp2_with (fail)
   go_ret
   exact ⟨⟨_,rfl⟩,hF⟩
  ·have hk1:k < n:=by omega
   have c0:=(hF.cell (o:=off+k * 3) hB (by simp)).trans (HC.out (k * 3) (by omega))
   have c1:=(hF.cell (o:=off+k * 3+1) hB (by simp)).trans (HC.out (k * 3+1) (by omega))
   have c2:=(hF.cell (o:=off+k * 3+2) hB (by simp)).trans (HC.out (k * 3+2) (by omega))
   generalize f (k * 3)=X at c0
   generalize f (k * 3+1)=Y at c1
   generalize f (k * 3+2)=Z at c2
   go_wp2_with (fail)
   refine (hull1_any X Y Z _).mono ?_
   rintro e w1 ⟨⟨b,rfl⟩,hF1⟩
   cases b
   ·go_wp2_with (fail)
    go_roundg (gk - 1)
    case measure=>omega
    case rel=>exact ⟨k+1,by omega,by go_num,hF.then0 hF1⟩
   ·go_wp2_with (fail)
    go_ret
    exact ⟨⟨_,rfl⟩,hF.then0 hF1⟩
theorem contains_any (B off n c:Nat) (f:Nat→Int) (w:World) (hn5:n≤5) (hB:B < w.heap.size) (hc:∀j,j < n * 3→w.cell? ⟨B,off+j,none⟩=some (.int .i64 (f j))):
 Calls Tryz.prog 232 #[.slice (some ⟨B,off,none⟩) n c,.func (.func 233) #[] #[]] w fun e w'=>(∃b,e= .returned (.bool b))∧Fr [] w w':=by
 have hI:=index_any B off n c f w hn5 hB hc
 clear hc
 go_enter Tryz.func232,Tryz.ntmps232
 go_wp2_with (fail)
 refine hI.mono ?_
 rintro e w1 ⟨⟨r,rfl⟩,hF1⟩
 go_wp2_with (fail)
 go_ret
 exact ⟨⟨_,rfl⟩,hF1⟩
end Go.Proofs.YtdohkfgflpdkcaaGreatDoor
namespace Go.Proofs.YtdohkfgflpdkcaaGreatDoor
open Go.RowKit Go.Sort
theorem run_div {x y r:Nat} (h:FloatKind.f64.format.div x y=some r) (w:World):Sem.run Tryz.prog (binOp BinOp.quo 333 (.float .f64 x) (.float .f64 y)) w= .ok (.float .f64 r) w:=by
 show Sem.run Tryz.prog (Op.floatArith .quo .f64 x y) w=_
 unfold Op.floatArith
 simp [h]
theorem run_addC {x y z u r s:Nat} (h:FloatKind.f64.format.add x z=some r) (k:FloatKind.f64.format.add y u=some s) (w:World):Sem.run Tryz.prog (binOp BinOp.add 335 (.complex .f64 x y) (.complex .f64 z u)) w= .ok (.complex .f64 r s) w:=by
 show Sem.run Tryz.prog (Op.complexOp .add .f64 x y z u) w=_
 unfold Op.complexOp Op.Complex.arith Op.floatArith
 simp [h,k]
theorem run_toInt {x:Nat} {r:Int} (h:(FloatKind.f64.decode x).toInt .zero=some r) (h1:0≤r) (h2:r≤9) (w:World):Sem.run Tryz.prog (convert 333 3 (.float .f64 x)) w= .ok (.int .i64 r) w:=by
 have e1:∀w,Sem.run Tryz.prog (underlying 333) w= .ok (.float .f64) w:=fun w=>by kernel_rfl
 have e2:∀w,Sem.run Tryz.prog (underlying 3) w= .ok (.int .i64) w:=fun w=>by kernel_rfl
 unfold convert
 simp only [Sem.run_bind,e1,e2,Result.andThen_ok]
 unfold Conv.floatToInt
 simp only [h]
 rw [if_pos (by constructor <;> simp [IntKind.min,IntKind.max,IntKind.signed,IntKind.bits] <;> omega)]
 rfl
end Go.Proofs.YtdohkfgflpdkcaaGreatDoor
namespace Go.Proofs.YtdohkfgflpdkcaaGreatDoor
open Go.RowKit Go.Sort
attribute [local go_sem 10] cellOf frozenOf
attribute [local go_sem] heap_drew heap_drewN
def Hu (w:World) (e:Ending) (w':World):Prop:=(∃a b r:Int,e= .returned (.tuple #[.int .i64 a,.int .i64 b,.int .i64 r])∧I64 a∧I64 b∧0≤r∧r≤33)∧Fr [] w w'
set_option maxHeartbeats 4000000 in
set_option maxRecDepth 20000 in
theorem hull_any (B off n c:Nat) (f:Nat→Int) (w:World) (hn:1≤n) (hn5:n≤5) (hB:B < w.heap.size) (hc:∀j,j < n * 3→w.cell? ⟨B,off+j,none⟩=some (.int .i64 (f j))) (hI:∀j,j < n * 3→I64 (f j)):
 Calls Tryz.prog 151 #[.slice (some ⟨B,off,none⟩) n c] w (Hu w):=by
 have hC:=contains_any B off n c f w hn5 hB hc
 have t1:((16:Int) < (n:Int))=False:=by simp; omega
 have hdv:=hf_div (n:=n) (by omega)
 have HC:=Lib.hid (And.intro hc hI)
 clear hc hI
 go_enter Tryz.func151,Tryz.ntmps151
 go_wp2_with (fail)
 refine hC.mono ?_
 rintro e w1 ⟨⟨b,rfl⟩,hF1⟩
 clear hC
 cases b
 ·have hdv':∀w,Sem.run Tryz.prog (binOp BinOp.quo 333 (.float .f64 (floatOfInt .f64 (n:Int))) (.float .f64 4611686018427387904)) w= .ok (.float .f64 (hf n)) w:=run_div hdv
  have hc1:∀j,j < n * 3→w1.cell? ⟨B,off+j,none⟩=some (.int .i64 (f j)):=fun j hj=>(hF1.cell hB (by simp)).trans (HC.out.1 j hj)
  have hB1:B < w1.heap.size:=Nat.lt_of_lt_of_le hB hF1.size
  have hP:=places_any B off n c f w1 hn hn5 hB1 hc1
  have HC1:=Lib.hid hc1
  clear hc1 hdv
  go_wp2_with (fail)
  clear hdv'
  refine hP.mono ?_
  rintro e w2 ⟨g,gc,rfl,hg0,hg1,hgc,hR,hF2⟩
  clear hP
  have hc2:∀j,j < n * 3→w2.cell? ⟨B,off+j,none⟩=some (.int .i64 (f j)):=fun j hj=>(hF2.cell hB1 (by simp)).trans (HC1.out j hj)
  have hE:=ends_any B off n c f w2 hn hn5 (Nat.lt_of_lt_of_le hB1 hF2.size) hc2
  obtain ⟨L,hL⟩:∃L,plL f n=L:=⟨_,rfl⟩
  have hpl:=placed_plL f n
  rw [hL] at hR hgc hpl
  simp only [hL]
  have HR:=Lib.hid (And.intro hR (And.intro (hF1.then0 hF2) (And.intro hpl hL)))
  clear hc2 hR hF1 hF2 hpl hL
  go_wp2_with (fail)
  refine hE.mono ?_
  rintro e w3 ⟨ge,ec,xs,rfl,he0,he1,hpm,hH,hF3⟩
  clear hE
  rw [HR.out.2.2.2] at hpm
  have hxl:xs.length=2 * n:=by rw [hpm.length_eq,pairs_length]
  have hl10:L.length≤10:=by have:=HR.out.2.2.1.len; omega
  have HX:=Lib.hid (And.intro (HR.out.1.fr hF3 hg1) (And.intro (HR.out.2.1.then0 hF3) (And.intro hpm hH)))
  clear hpm hH hF3
  have hf0:fl 0=0:=by kernel_rfl
  have j0:((2 * n:Nat):Int)=2 * (n:Int):=by omega
  go_wp2_with (fail)
  go_loopg [7,8,9,30] (2 * n) (fun g' s7 s8 s9 s30 wr=>∃(i:Nat) (fi la:Int),i+g'=2 * n∧s30= .int .i64 i∧s7= .complex .f64 (fl (rsum (xs.take i):Nat)) (fl (net (xs.take i)))∧s8= .int .i64 fi∧s9= .int .i64 la∧(-1≤fi∧fi < L.length∧-1≤la∧la < L.length∧(0≤fi→0≤la∨(n:Int) < 2 * net (xs.take i)))∧wr=w3)
  case atStart=>exact ⟨0,-1,-1,by omega,rfl,by simp [rsum,net,hf0],rfl,rfl,⟨by omega,by omega,by omega,by omega,by omega⟩,rfl⟩
  case round=>
   obtain ⟨i,fi,la,hi,rfl,rfl,rfl,rfl,hin,rfl⟩:=hrel
   have HI:=Lib.hid hin
   clear hin
   rcases Nat.eq_zero_or_pos gk with rfl |hp0
   ·obtain rfl:i=2 * n:=by omega
    have hz:net (xs.take (2 * n))=0:=by
     rw [List.take_of_length_le (by omega),net_perm HX.out.2.2.1,net_pairs]
    obtain ⟨k1,k2,k3,k4,k5⟩:=HI.out
    rw [hz] at k5
    generalize xs.take (2 * n)=ys at *
    clear HI hz
    have hL64:∀j,j < L.length→I64 (L.getD j 0):=fun j hj=>by
     have hm:L.getD j 0∈L:=by rw [List.getD_eq_getElem?_getD,List.getElem?_eq_getElem hj]; exact List.getElem_mem hj
     rw [←HR.out.2.2.2] at hm
     obtain ⟨q,hq,e⟩:=plL_of hm
     rw [←HR.out.2.2.2,e]
     exact HC.out.2 q hq
    rcases Int.lt_or_le fi 0 with hfi |hfi
    ·go_wp2_with (fail)
     go_ret3
     exact ⟨⟨0,0,33,rfl,by unfold I64; omega,by unfold I64; omega,by omega,by omega⟩,HX.out.2.1⟩
    ·obtain ⟨a,rfl⟩:∃a:Nat,fi=a:=⟨fi.toNat,by omega⟩
     obtain ⟨b,rfl⟩:∃b:Nat,la=b:=⟨la.toNat,by omega⟩
     have ca:=HX.out.1 a (by omega)
     have cb:=HX.out.1 b (by omega)
     have ia:=hL64 a (by omega)
     have ib:=hL64 b (by omega)
     generalize L.getD a 0=x at *
     generalize L.getD b 0=y at *
     have q1:((a:Int) < 0)=False:=by simp
     have HII:=Lib.hid (And.intro ia ib)
     clear hL64 ia ib k5
     go_wp2_with (fail)
     go_region
     all_goals go_wp2_with (fail)
     go_ret3
     exact ⟨⟨x,y,0,rfl,HII.out.1,HII.out.2,by omega,by omega⟩,HX.out.2.1.drew⟩
   ·have hi1:i < xs.length:=by omega
    obtain ⟨e,he⟩:∃e,xs[i]=e:=⟨_,rfl⟩
    have hcl:wr.cell? ⟨ge,i,none⟩=some (encE e):=by
     have:=(HX.out.2.2.2 i (by simpa using hi1)).1
     rw [getElem!_pos xs.toArray i (by simpa using hi1),Nat.zero_add] at this
     rw [this,List.getElem_toArray,he]
    have hrk:e.1.1 < L.length:=pairs_rank HR.out.2.2.1 hl10 (Nat.le_refl _) e (HX.out.2.2.1.mem_iff.1 (he▸List.getElem_mem hi1))
    have hs1:=net_take HX.out.2.2.1 i
    have hs2:=net_take HX.out.2.2.1 (i+1)
    have hR1:=rsum_take xs i
    have en:net (xs.take (i+1))=net (xs.take i)+up e.2:=by rw [List.take_succ_eq_append_getElem hi1,net_snoc,he]
    have er:rsum (xs.take (i+1))=rsum (xs.take i)+e.1.1:=by rw [List.take_succ_eq_append_getElem hi1,rsum_snoc,he]
    rw [en] at hs2
    have HN:=Lib.hid (And.intro en er)
    have HI':=HI.out
    generalize net (xs.take i)=s at *
    generalize rsum (xs.take i)=R at *
    obtain ⟨⟨r,hr⟩,b⟩:=e
    simp only at *
    generalize hu:s+up b=s' at *
    have hadd:∀w,Sem.run Tryz.prog (binOp BinOp.add 335 (.complex .f64 (fl (R:Int)) (fl s)) (.complex .f64 (fl (r:Int)) (im b))) w= .ok (.complex .f64 (fl ((R+r:Nat):Int)) (fl s')) w:=run_addC (addN (by omega) hr) (by rw [←hu]; exact addI (by omega) (by omega) b)
    have hint:∀w,Sem.run Tryz.prog (convert 333 3 (.float .f64 (fl (r:Int)))) w= .ok (.int .i64 (r:Int)) w:=run_toInt (toInt_eq hr) (by omega) (by omega)
    have ho1:=ordH_eq (s:=s) (n:=n) (by omega) (by omega) (by omega)
    have ho2:=ordH_eq (s:=s') (n:=n) (by omega) (by omega) (by omega)
    have k1:ordH s n= .gt ↔ (n:Int) < 2 * s:=by unfold ordH; split <;> simp [*]; split <;> simp
    have k2:ordH s' n= .gt ↔ (n:Int) < 2 * s':=by unfold ordH; split <;> simp [*]; split <;> simp
    generalize ordH s n=o1 at *
    generalize ordH s' n=o2 at *
    have hcl':wr.cell? ⟨ge,i,none⟩=some (.complex .f64 (fl (r:Int)) (im b)):=hcl
    have HK:=Lib.hid (And.intro k1 (And.intro k2 (And.intro HI' (And.intro hrk hu))))
    clear hcl hs1 hs2 hR1 k1 k2 HI' hrk hu en er HI he
    have l1:(i:Int) < 2 * (n:Int):=by omega
    generalize him:im b=ib at *
    rcases Int.lt_or_le fi 0 with hfi |hfi <;> cases o1 <;> cases o2
    all_goals go_wp2_with (fail)
    all_goals
     go_roundg (gk - 1)
     case measure=>omega
     case rel=>
      refine ⟨i+1,_,_,by omega,by go_num,by rw [HN.out.1,HN.out.2,Int.natCast_add],rfl,rfl,?_,rfl⟩
      obtain ⟨k1,k2,k3,k4,k5⟩:=HK.out
      rw [HN.out.1]
      simp at k1 k2
      refine ⟨?_,?_,?_,?_,?_⟩ <;> omega
 ·go_wp2_with (fail)
  go_ret3
  exact ⟨⟨0,0,1,rfl,by unfold I64; omega,by unfold I64; omega,by omega,by omega⟩,hF1⟩
end Go.Proofs.YtdohkfgflpdkcaaGreatDoor
