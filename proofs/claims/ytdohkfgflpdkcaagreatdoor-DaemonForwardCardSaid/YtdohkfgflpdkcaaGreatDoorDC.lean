/-
  PROVED HERE: a part of the proof of DaemonForward (texts A2, A3, A4, A5 of the prover, joined). No condition of its own.
-/
import Derived.Test.YtdohkfgflpdkcaaGreatDoorShelf
import Derived.Test.YtdohkfgflpdkcaaGreatDoorDB
import Derived.WalkKit
import Derived.BigQuiet
import Derived.Deep.QuietTactic
import Derived.WalkSpells
import Derived.WalkLawsBesides
import Derived.Outline
import Derived.Lib.ItoaNum
import Derived.Lib.Hide
import Derived.Test.YtdohkfgflpdkcaaGreatDoorDA
import Derived.Laws.Externs
set_option linter.unusedVariables false
set_option linter.unusedSimpArgs false
namespace Go.Proofs.YtdohkfgflpdkcaaGreatDoor
open Go.RowKit
structure Nrm (hi lo y s v v1 v0 U C c1 c0:Nat):Prop where
 hv:v=y * 2 ^ s
 hU:U < v
 hN:U * 18446744073709551616+C=(hi * 18446744073709551616+lo) * 2 ^ s
 hV:v=v1 * 4294967296+v0
 hC:C=c1 * 4294967296+c0
structure Guess (U v1 v0 c q r:Nat):Prop where
 hU:q * v1+r=U
 hQ:(U * 4294967296+c) / (v1 * 4294967296+v0)≤q
theorem guess_first {U v1 v0 c:Nat} (hv1:0 < v1) (hc:c < 4294967296):Guess U v1 v0 c (U / v1) (U % v1):=
 ⟨by rw [Nat.mul_comm]; exact Nat.div_add_mod _ _,DivMath.first_ge hv1 hc⟩
theorem lz_any (hi lo y:Nat) (hh:hi < y) (hl:lo < 18446744073709551616) (hy:y < 18446744073709551616) (w:World):
 Calls Tryz.prog 136 #[.int .u64 y] w fun e w'=>∃s v v1 v0 U C c1 c0 q r:Nat,e= .returned (.int .i64 s)∧w=w'∧s≤63∧v < 18446744073709551616∧U < 18446744073709551616∧2147483648≤v1∧v1 < 4294967296∧v0 < 4294967296∧c1 < 4294967296∧c0 < 4294967296∧r < 4294967296∧q≤4294967297∧Guess U v1 v0 c1 q r∧
  Nrm hi lo y s v v1 v0 U C c1 c0∧
  IntKind.u64.wrap ((y:Int) * 2 ^ s)=(v:Int)∧bits BinOp.or IntKind.u64 (IntKind.u64.wrap ((hi:Int) * 2 ^ s)) ((lo:Int) / 2 ^ (64 - s))=(U:Int)∧IntKind.u64.wrap ((lo:Int) * 2 ^ s)=(C:Int)∧
  (v:Int) / 4294967296=(v1:Int)∧bits BinOp.and IntKind.u64 (v:Int) 4294967295=(v0:Int)∧(C:Int) / 4294967296=(c1:Int)∧bits BinOp.and IntKind.u64 (C:Int) 4294967295=(c0:Int)∧
  IntKind.u64.wrap ((U:Int) / (v1:Int))=(q:Int)∧IntKind.u64.wrap ((U:Int) - IntKind.u64.wrap ((q:Int) * (v1:Int)))=(r:Int):=by
 refine (Tryz.bits_LeadingZeros64 y w (by omega) (by omega)).mono ?_
 rintro e w' ⟨rfl,rfl⟩
 have hb:=Lib.bitLenAux_bounds 64 y (by simpa using hy) (by omega)
 obtain ⟨h1,h2,h3⟩:=hb
 rw [show Lib.bitLenAux 64 y=Lib.bitLen y from rfl] at h1 h2 h3
 have h4:Lib.bitLen y≤64:=Lib.bitLen_le y 64 (Nat.le_refl _) (by simpa using hy)
 rw [Int.toNat_natCast]
 generalize Lib.bitLen y=k at *
 have hs:64 - k≤63:=by omega
 have g1:9223372036854775808≤y * 2 ^ (64 - k):=by
  have:=Nat.mul_le_mul_right (2 ^ (64 - k)) h2
  rw [←Nat.pow_add,show k - 1+(64 - k)=63 from by omega] at this
  simpa using this
 have g2:y * 2 ^ (64 - k) < 18446744073709551616:=by
  have:=Nat.mul_lt_mul_of_pos_right h3 (show 0 < 2 ^ (64 - k) from Nat.pow_pos (by omega))
  rw [←Nat.pow_add,show k+(64 - k)=64 from by omega] at this
  simpa using this
 rw [show (64:Int) - (k:Int)=((64 - k:Nat):Int) from by omega]
 generalize 64 - k=s at *
 obtain ⟨n1,n2,n3⟩:=DivMath.norm hh hl hs g2
 have n4:hi * 2 ^ s < 18446744073709551616:=Nat.lt_of_le_of_lt (Nat.le_add_right _ _) (Nat.lt_trans n1 g2)
 have n5:lo / 2 ^ (64 - s) < 18446744073709551616:=Nat.lt_of_le_of_lt (Nat.le_add_left _ _) (Nat.lt_trans n1 g2)
 have ec:∀n:Nat,((n:Int) * 2 ^ s)=((n * 2 ^ s:Nat):Int):=fun n=>by rw [Int.natCast_mul,Int.natCast_pow]; rfl
 refine ⟨s,y * 2 ^ s,y * 2 ^ s / 4294967296,y * 2 ^ s % 4294967296,hi * 2 ^ s+lo / 2 ^ (64 - s),lo * 2 ^ s % 18446744073709551616,lo * 2 ^ s % 18446744073709551616 / 4294967296,lo * 2 ^ s % 18446744073709551616 % 4294967296,_,_,
  rfl,rfl,hs,g2,by omega,by omega,by omega,by omega,by omega,by omega,?_,DivMath.first_le (v0:=y * 2 ^ s % 4294967296) (by omega) (by omega) (by omega),guess_first (by omega) (by omega),⟨rfl,n1,n2,by omega,by omega⟩,?_,?_,?_,by omega,?_,by omega,?_,?_,?_⟩
 ·have:=Nat.mod_lt (hi * 2 ^ s+lo / 2 ^ (64 - s)) (show 0 < y * 2 ^ s / 4294967296 by omega)
  omega
 ·rw [ec,DivMath.wrapN _ g2]
 ·have hd:((lo:Int) / 2 ^ (64 - s))=((lo / 2 ^ (64 - s):Nat):Int):=by rw [Int.natCast_ediv,Int.natCast_pow]; rfl
  have hw:IntKind.u64.wrap ((hi:Int) * 2 ^ s)=((hi * 2 ^ s:Nat):Int):=by rw [ec,DivMath.wrapN _ n4]
  rw [hd,hw,bits_or_u64_nat _ _ n4 n5,n3]
 ·rw [ec,DivMath.wrapM]
 ·have h:=bits_and_u64_nat (y * 2 ^ s) 4294967295 (by omega) (by omega)
  have e:y * 2 ^ s&&& 4294967295=y * 2 ^ s % 4294967296:=Nat.and_two_pow_sub_one_eq_mod _ 32
  rw [e] at h
  exact h
 ·have h:=bits_and_u64_nat (lo * 2 ^ s % 18446744073709551616) 4294967295 (by omega) (by omega)
  have e:lo * 2 ^ s % 18446744073709551616&&& 4294967295=lo * 2 ^ s % 18446744073709551616 % 4294967296:=Nat.and_two_pow_sub_one_eq_mod _ 32
  rw [e] at h
  exact h
 ·exact DivMath.wrap_div _ _ (by omega)
 ·exact DivMath.wrap_rest _ _ _ _ (by omega) (by rw [Nat.mul_comm]; exact Nat.div_add_mod _ _)
theorem guess_less {U v1 v0 c q r:Nat} (hv1:0 < v1) (hc:c < 4294967296) (hU:U < v1 * 4294967296+v0) (h:Guess U v1 v0 c (q+1) r) (hw:4294967296≤q+1∨4294967296 * r+c < (q+1) * v0):Guess U v1 v0 c q (r+v1):=by
 have h1:=DivMath.digit_lt hU hc
 refine ⟨by have:=h.hU; rw [Nat.add_mul] at this; omega,?_⟩
 rcases hw with hw |hw
 ·omega
 ·have:=DivMath.digit_gt hv1 h.hU hw
  omega
structure Digit (U v c q u:Nat):Prop where
 h:U * 4294967296+c=q * v+u
 hu:u < v
 hq:q < 4294967296
theorem digit_of {U v v1 v0 c q r:Nat} (hV:v=v1 * 4294967296+v0) (hv1:2147483648≤v1) (hc:c < 4294967296) (hU:U < v1 * 4294967296+v0) (h:Guess U v1 v0 c q r) (hw:q * v0≤4294967296 * r+c):
 ∃u,Digit U v c q u:=by
 subst hV
 have h1:=DivMath.digit_eq (by omega) h.hU hw h.hQ
 have h2:=DivMath.digit_lt hU hc
 refine ⟨(U * 4294967296+c) % (v1 * 4294967296+v0),?_,Nat.mod_lt _ (by omega),by omega⟩
 rw [h1,Nat.mul_comm (_ / _)]
 exact (Nat.div_add_mod _ _).symm
theorem lt_of_digit {U v v1 v0 c q u:Nat} (hV:v=v1 * 4294967296+v0) (h:Digit U v c q u):u < v1 * 4294967296+v0:=by subst hV; exact h.hu
theorem digit_far {U v v1 v0 c q r:Nat} (hV:v=v1 * 4294967296+v0) (hv1:2147483648≤v1) (hv0:v0 < 4294967296) (hc:c < 4294967296) (hU:U < v1 * 4294967296+v0) (h:Guess U v1 v0 c q r) (hq:q≤4294967296) (hr:4294967296≤r):
 ∃u,Digit U v c q u:=by
 refine digit_of hV hv1 hc hU h ?_
 have:=Nat.mul_le_mul hq (show v0≤4294967295 by omega)
 omega
theorem prod_lt {q v0:Nat} (h:q < 4294967296) (hv0:v0 < 4294967296):q * v0≤18446744065119617025:=by
 have:=Nat.mul_le_mul (show q≤4294967295 by omega) (show v0≤4294967295 by omega)
 omega
theorem second {u v1 v0 c:Nat} (hv:2147483648≤v1) (hv0:v0 < 4294967296) (hv1:v1 < 4294967296) (hU:u < v1 * 4294967296+v0) (hc:c < 4294967296):
 ∃q r:Nat,q≤4294967297∧r < 4294967296∧Guess u v1 v0 c q r∧IntKind.u64.wrap ((u:Int) / (v1:Int))=(q:Int)∧IntKind.u64.wrap ((u:Int) - IntKind.u64.wrap ((q:Int) * (v1:Int)))=(r:Int):=by
 have hm:=Nat.mod_lt u (show 0 < v1 by omega)
 exact ⟨_,_,DivMath.first_le (v0:=v0) hv hv0 hU,by omega,guess_first (by omega) hc,DivMath.wrap_div _ _ (by omega),DivMath.wrap_rest _ _ _ _ (by omega) (by rw [Nat.mul_comm]; exact Nat.div_add_mod _ _)⟩
theorem one_less {n:Nat} (h:0 < n):∃p:Nat,Hid (n=p+1)∧(n:Int) - 1=(p:Int):=⟨n - 1,(show n=n - 1+1 by omega),by omega⟩
theorem ret_two {a b c d:Int} (h:a=b) (k:c=d):Ending.returned (.tuple #[.int .u64 a,.int .u64 c])= .returned (.tuple #[.int .u64 b,.int .u64 d]):=by rw [h,k]
theorem fin_all {hi lo y s v v1 v0 U C c1 c0 q1 q0 u r:Nat} (hy:hi < y) (hn:Nrm hi lo y s v v1 v0 U C c1 c0) (h1:Digit U v c1 q1 u) (h2:Digit u v c0 q0 r):
 Ending.returned (.tuple #[.int .u64 ((q1:Int) * 4294967296+(q0:Int)),.int .u64 ((r:Int) / 2 ^ s)])=
 .returned (.tuple #[.int .u64 (((hi * 18446744073709551616+lo) / y:Nat):Int),.int .u64 (((hi * 18446744073709551616+lo) % y:Nat):Int)]):=by
 obtain ⟨a,b⟩:=DivMath.whole (by omega) hn.hv hn.hN hn.hC h1.h h2.h h2.hu
 refine ret_two ?_ ?_
 ·rw [←a]; omega
 ·rw [←b,Int.natCast_ediv,Int.natCast_pow]; rfl
set_option maxRecDepth 100000 in
set_option maxHeartbeats 2000000 in
theorem div_big (hi lo y:Nat) (hh:hi < y) (h1:0 < hi) (hl:lo < 18446744073709551616) (hy:y < 18446744073709551616) (w:World):
 Calls Tryz.prog 61 #[.int .u64 hi,.int .u64 lo,.int .u64 y] w fun e w'=>e= .returned (.tuple #[.int .u64 (((hi * 18446744073709551616+lo) / y:Nat):Int),.int .u64 (((hi * 18446744073709551616+lo) % y:Nat):Int)])∧w=w':=by
 have hb0:((y:Int) == 0)=false:=by simp; omega
 have hb1:((hi:Int) == 0)=false:=by simp; omega
 go_enter Tryz.func61,Tryz.ntmps61
 go_wp2_with (go_at_call 136; refine (lz_any hi lo y (by omega) (by omega) (by omega) _).mono ?_; rintro e w' ⟨s,v,v1,v0,U,C,c1,c0,q,r,rfl,rfl,hs,hv,hU,hv1,hv1',hv0,hc1,hc0,hr,hq,hg,hnrm,e1,e2,e3,e4,e5,e6,e7,e8,e9⟩)
 clear e1 e2 e3 e4 e5 e6 e7 e8 e9 hb0 hb1
 have hV:=Lib.hid hnrm.hV
 have hUv':U < v1 * 4294967296+v0:=by have:=hnrm.hU; have:=hnrm.hV; omega
 have hUv:=Lib.hid hUv'
 clear hUv'
 go_loop [15,16] (fun a b=>∃q r:Nat,q≤4294967297∧r < 4294967296∧Guess U v1 v0 c1 q r∧a= .int .u64 q∧b= .int .u64 r) (fun a _=>(intOf a).toNat)
 case atStart=>exact ⟨q,r,hq,hr,hg,rfl,rfl⟩
 case round=>
  clear hq hr hg
  obtain ⟨q,r,hq,hr,hg,rfl,rfl⟩:=hrel
  by_cases g1:(4294967296:Int)≤(q:Int)
  ·obtain ⟨p,hp0,hpq⟩:=one_less (n:=q) (by omega)
   have hg':=guess_less (by omega) hc1 hUv.out (by rw [←hp0.out]; exact hg) (.inl (by have:=hp0.out; omega))
   by_cases g3:(4294967296:Int)≤(r:Int)+(v1:Int)
   ·obtain ⟨u,hD⟩:=digit_far hV.out hv1 hv0 hc1 hUv.out hg' (by have:=hp0.out; omega) (by omega)
    have hq1:=hD.hq
    have hu1:u < 18446744073709551616:=Nat.lt_trans hD.hu hv
    have huv:=Lib.hid (lt_of_digit hV.out hD)
    obtain ⟨A,B,D,hA,hB,hDD,eA,eB,eD,eu⟩:=DivMath.wrap_steps _ _ _ _ _ hu1 hD.h
    obtain ⟨q0,r0,hq0,hr0,hg0,e11,e12⟩:=second hv1 hv0 hv1' huv.out hc0
    go_wp2_with (fail)
    clear e11 e12 eA eB eD eu hA hB hDD
    go_loop [18,16] (fun a b=>∃q r:Nat,q≤4294967297∧r < 4294967296∧Guess u v1 v0 c0 q r∧a= .int .u64 q∧b= .int .u64 r) (fun a _=>(intOf a).toNat)
    case atStart=>exact ⟨q0,r0,hq0,hr0,hg0,rfl,rfl⟩
    case round=>
     clear hq0 hr0 hg0
     obtain ⟨q0,r0,hq0,hr0,hg0,rfl,rfl⟩:=hrel
     by_cases g1:(4294967296:Int)≤(q0:Int)
     ·obtain ⟨p,hp0,hpq⟩:=one_less (n:=q0) (by omega)
      have hg':=guess_less (by omega) hc0 huv.out (by rw [←hp0.out]; exact hg0) (.inl (by have:=hp0.out; omega))
      by_cases g3:(4294967296:Int)≤(r0:Int)+(v1:Int)
      ·obtain ⟨rr,hE⟩:=digit_far hV.out hv1 hv0 hc0 huv.out hg' (by have:=hp0.out; omega) (by omega)
       have hq2:=hE.hq
       have hr1:rr < 18446744073709551616:=Nat.lt_trans hE.hu hv
       obtain ⟨A,B,D,hA,hB,hDD,eA,eB,eD,eu⟩:=DivMath.wrap_steps _ _ _ _ _ hr1 hE.h
       go_wp2_with (fail)
       go_ret2
       exact ⟨fin_all hh hnrm hD hE,rfl⟩
      ·have g3':(r0:Int)+(v1:Int)≤4294967295:=by omega
       have hp2:p≤4294967297:=by have:=hp0.out; omega
       go_wp2_with (fail)
       go_round
       case rel=>exact ⟨p,r0+v1,hp2,by omega,hg',by go_num,by go_num⟩
       case measure=>simp [intOf]; omega
     ·have hp:=prod_lt (show q0 < 4294967296 by omega) hv0
      have hpi:(q0:Int) * (v0:Int)≤18446744065119617025:=by rw [←Int.natCast_mul]; omega
      have hpj:0≤(q0:Int) * (v0:Int):=by rw [←Int.natCast_mul]; omega
      have g1':(q0:Int)≤4294967295:=by omega
      by_cases g2:(4294967296:Int) * (r0:Int)+(c0:Int) < (q0:Int) * (v0:Int)
      ·have g2':4294967296 * r0+c0 < q0 * v0:=by rw [←Int.natCast_mul] at g2; omega
       obtain ⟨p,hp0,hpq⟩:=one_less (n:=q0) (by rcases Nat.eq_zero_or_pos q0 with h |h; (subst h; simp at g2'); omega)
       have hg':=guess_less (by omega) hc0 huv.out (by rw [←hp0.out]; exact hg0) (.inr (by rw [←hp0.out]; exact g2'))
       clear g2' hp
       by_cases g3:(4294967296:Int)≤(r0:Int)+(v1:Int)
       ·obtain ⟨rr,hE⟩:=digit_far hV.out hv1 hv0 hc0 huv.out hg' (by have:=hp0.out; omega) (by omega)
        have hq2:=hE.hq
        have hr1:rr < 18446744073709551616:=Nat.lt_trans hE.hu hv
        obtain ⟨A,B,D,hA,hB,hDD,eA,eB,eD,eu⟩:=DivMath.wrap_steps _ _ _ _ _ hr1 hE.h
        go_wp2_with (fail)
        go_ret2
        exact ⟨fin_all hh hnrm hD hE,rfl⟩
       ·have g3':(r0:Int)+(v1:Int)≤4294967295:=by omega
        have hp2:p≤4294967297:=by have:=hp0.out; omega
        go_wp2_with (fail)
        go_round
        case rel=>exact ⟨p,r0+v1,hp2,by omega,hg',by go_num,by go_num⟩
        case measure=>simp [intOf]; omega
      ·have g2':q0 * v0≤4294967296 * r0+c0:=by rw [←Int.natCast_mul] at g2; omega
       obtain ⟨rr,hE⟩:=digit_of hV.out hv1 hc0 huv.out hg0 g2'
       have g4:(q0:Int) * (v0:Int)≤(4294967296:Int) * (r0:Int)+(c0:Int):=by omega
       clear g2' hp hq0
       have hq2:=hE.hq
       have hr1:rr < 18446744073709551616:=Nat.lt_trans hE.hu hv
       obtain ⟨A,B,D,hA,hB,hDD,eA,eB,eD,eu⟩:=DivMath.wrap_steps _ _ _ _ _ hr1 hE.h
       go_wp2_with (fail)
       go_ret2
       exact ⟨fin_all hh hnrm hD hE,rfl⟩
   ·have g3':(r:Int)+(v1:Int)≤4294967295:=by omega
    have hp2:p≤4294967297:=by have:=hp0.out; omega
    go_wp2_with (fail)
    go_round
    case rel=>exact ⟨p,r+v1,hp2,by omega,hg',by go_num,by go_num⟩
    case measure=>simp [intOf]; omega
  ·have hp:=prod_lt (show q < 4294967296 by omega) hv0
   have hpi:(q:Int) * (v0:Int)≤18446744065119617025:=by rw [←Int.natCast_mul]; omega
   have hpj:0≤(q:Int) * (v0:Int):=by rw [←Int.natCast_mul]; omega
   have g1':(q:Int)≤4294967295:=by omega
   by_cases g2:(4294967296:Int) * (r:Int)+(c1:Int) < (q:Int) * (v0:Int)
   ·have g2':4294967296 * r+c1 < q * v0:=by rw [←Int.natCast_mul] at g2; omega
    obtain ⟨p,hp0,hpq⟩:=one_less (n:=q) (by rcases Nat.eq_zero_or_pos q with h |h; (subst h; simp at g2'); omega)
    have hg':=guess_less (by omega) hc1 hUv.out (by rw [←hp0.out]; exact hg) (.inr (by rw [←hp0.out]; exact g2'))
    clear g2' hp
    by_cases g3:(4294967296:Int)≤(r:Int)+(v1:Int)
    ·obtain ⟨u,hD⟩:=digit_far hV.out hv1 hv0 hc1 hUv.out hg' (by have:=hp0.out; omega) (by omega)
     have hq1:=hD.hq
     have hu1:u < 18446744073709551616:=Nat.lt_trans hD.hu hv
     have huv:=Lib.hid (lt_of_digit hV.out hD)
     obtain ⟨A,B,D,hA,hB,hDD,eA,eB,eD,eu⟩:=DivMath.wrap_steps _ _ _ _ _ hu1 hD.h
     obtain ⟨q0,r0,hq0,hr0,hg0,e11,e12⟩:=second hv1 hv0 hv1' huv.out hc0
     go_wp2_with (fail)
     clear e11 e12 eA eB eD eu hA hB hDD
     go_loop [18,16] (fun a b=>∃q r:Nat,q≤4294967297∧r < 4294967296∧Guess u v1 v0 c0 q r∧a= .int .u64 q∧b= .int .u64 r) (fun a _=>(intOf a).toNat)
     case atStart=>exact ⟨q0,r0,hq0,hr0,hg0,rfl,rfl⟩
     case round=>
      clear hq0 hr0 hg0
      obtain ⟨q0,r0,hq0,hr0,hg0,rfl,rfl⟩:=hrel
      by_cases g1:(4294967296:Int)≤(q0:Int)
      ·obtain ⟨p,hp0,hpq⟩:=one_less (n:=q0) (by omega)
       have hg':=guess_less (by omega) hc0 huv.out (by rw [←hp0.out]; exact hg0) (.inl (by have:=hp0.out; omega))
       by_cases g3:(4294967296:Int)≤(r0:Int)+(v1:Int)
       ·obtain ⟨rr,hE⟩:=digit_far hV.out hv1 hv0 hc0 huv.out hg' (by have:=hp0.out; omega) (by omega)
        have hq2:=hE.hq
        have hr1:rr < 18446744073709551616:=Nat.lt_trans hE.hu hv
        obtain ⟨A,B,D,hA,hB,hDD,eA,eB,eD,eu⟩:=DivMath.wrap_steps _ _ _ _ _ hr1 hE.h
        go_wp2_with (fail)
        go_ret2
        exact ⟨fin_all hh hnrm hD hE,rfl⟩
       ·have g3':(r0:Int)+(v1:Int)≤4294967295:=by omega
        have hp2:p≤4294967297:=by have:=hp0.out; omega
        go_wp2_with (fail)
        go_round
        case rel=>exact ⟨p,r0+v1,hp2,by omega,hg',by go_num,by go_num⟩
        case measure=>simp [intOf]; omega
      ·have hp:=prod_lt (show q0 < 4294967296 by omega) hv0
       have hpi:(q0:Int) * (v0:Int)≤18446744065119617025:=by rw [←Int.natCast_mul]; omega
       have hpj:0≤(q0:Int) * (v0:Int):=by rw [←Int.natCast_mul]; omega
       have g1':(q0:Int)≤4294967295:=by omega
       by_cases g2:(4294967296:Int) * (r0:Int)+(c0:Int) < (q0:Int) * (v0:Int)
       ·have g2':4294967296 * r0+c0 < q0 * v0:=by rw [←Int.natCast_mul] at g2; omega
        obtain ⟨p,hp0,hpq⟩:=one_less (n:=q0) (by rcases Nat.eq_zero_or_pos q0 with h |h; (subst h; simp at g2'); omega)
        have hg':=guess_less (by omega) hc0 huv.out (by rw [←hp0.out]; exact hg0) (.inr (by rw [←hp0.out]; exact g2'))
        clear g2' hp
        by_cases g3:(4294967296:Int)≤(r0:Int)+(v1:Int)
        ·obtain ⟨rr,hE⟩:=digit_far hV.out hv1 hv0 hc0 huv.out hg' (by have:=hp0.out; omega) (by omega)
         have hq2:=hE.hq
         have hr1:rr < 18446744073709551616:=Nat.lt_trans hE.hu hv
         obtain ⟨A,B,D,hA,hB,hDD,eA,eB,eD,eu⟩:=DivMath.wrap_steps _ _ _ _ _ hr1 hE.h
         go_wp2_with (fail)
         go_ret2
         exact ⟨fin_all hh hnrm hD hE,rfl⟩
        ·have g3':(r0:Int)+(v1:Int)≤4294967295:=by omega
         have hp2:p≤4294967297:=by have:=hp0.out; omega
         go_wp2_with (fail)
         go_round
         case rel=>exact ⟨p,r0+v1,hp2,by omega,hg',by go_num,by go_num⟩
         case measure=>simp [intOf]; omega
       ·have g2':q0 * v0≤4294967296 * r0+c0:=by rw [←Int.natCast_mul] at g2; omega
        obtain ⟨rr,hE⟩:=digit_of hV.out hv1 hc0 huv.out hg0 g2'
        have g4:(q0:Int) * (v0:Int)≤(4294967296:Int) * (r0:Int)+(c0:Int):=by omega
        clear g2' hp hq0
        have hq2:=hE.hq
        have hr1:rr < 18446744073709551616:=Nat.lt_trans hE.hu hv
        obtain ⟨A,B,D,hA,hB,hDD,eA,eB,eD,eu⟩:=DivMath.wrap_steps _ _ _ _ _ hr1 hE.h
        go_wp2_with (fail)
        go_ret2
        exact ⟨fin_all hh hnrm hD hE,rfl⟩
    ·have g3':(r:Int)+(v1:Int)≤4294967295:=by omega
     have hp2:p≤4294967297:=by have:=hp0.out; omega
     go_wp2_with (fail)
     go_round
     case rel=>exact ⟨p,r+v1,hp2,by omega,hg',by go_num,by go_num⟩
     case measure=>simp [intOf]; omega
   ·have g2':q * v0≤4294967296 * r+c1:=by rw [←Int.natCast_mul] at g2; omega
    obtain ⟨u,hD⟩:=digit_of hV.out hv1 hc1 hUv.out hg g2'
    have g4:(q:Int) * (v0:Int)≤(4294967296:Int) * (r:Int)+(c1:Int):=by omega
    clear g2' hp hq
    have hq1:=hD.hq
    have hu1:u < 18446744073709551616:=Nat.lt_trans hD.hu hv
    have huv:=Lib.hid (lt_of_digit hV.out hD)
    obtain ⟨A,B,D,hA,hB,hDD,eA,eB,eD,eu⟩:=DivMath.wrap_steps _ _ _ _ _ hu1 hD.h
    obtain ⟨q0,r0,hq0,hr0,hg0,e11,e12⟩:=second hv1 hv0 hv1' huv.out hc0
    go_wp2_with (fail)
    clear e11 e12 eA eB eD eu hA hB hDD
    go_loop [18,16] (fun a b=>∃q r:Nat,q≤4294967297∧r < 4294967296∧Guess u v1 v0 c0 q r∧a= .int .u64 q∧b= .int .u64 r) (fun a _=>(intOf a).toNat)
    case atStart=>exact ⟨q0,r0,hq0,hr0,hg0,rfl,rfl⟩
    case round=>
     clear hq0 hr0 hg0
     obtain ⟨q0,r0,hq0,hr0,hg0,rfl,rfl⟩:=hrel
     by_cases g1:(4294967296:Int)≤(q0:Int)
     ·obtain ⟨p,hp0,hpq⟩:=one_less (n:=q0) (by omega)
      have hg':=guess_less (by omega) hc0 huv.out (by rw [←hp0.out]; exact hg0) (.inl (by have:=hp0.out; omega))
      by_cases g3:(4294967296:Int)≤(r0:Int)+(v1:Int)
      ·obtain ⟨rr,hE⟩:=digit_far hV.out hv1 hv0 hc0 huv.out hg' (by have:=hp0.out; omega) (by omega)
       have hq2:=hE.hq
       have hr1:rr < 18446744073709551616:=Nat.lt_trans hE.hu hv
       obtain ⟨A,B,D,hA,hB,hDD,eA,eB,eD,eu⟩:=DivMath.wrap_steps _ _ _ _ _ hr1 hE.h
       go_wp2_with (fail)
       go_ret2
       exact ⟨fin_all hh hnrm hD hE,rfl⟩
      ·have g3':(r0:Int)+(v1:Int)≤4294967295:=by omega
       have hp2:p≤4294967297:=by have:=hp0.out; omega
       go_wp2_with (fail)
       go_round
       case rel=>exact ⟨p,r0+v1,hp2,by omega,hg',by go_num,by go_num⟩
       case measure=>simp [intOf]; omega
     ·have hp:=prod_lt (show q0 < 4294967296 by omega) hv0
      have hpi:(q0:Int) * (v0:Int)≤18446744065119617025:=by rw [←Int.natCast_mul]; omega
      have hpj:0≤(q0:Int) * (v0:Int):=by rw [←Int.natCast_mul]; omega
      have g1':(q0:Int)≤4294967295:=by omega
      by_cases g2:(4294967296:Int) * (r0:Int)+(c0:Int) < (q0:Int) * (v0:Int)
      ·have g2':4294967296 * r0+c0 < q0 * v0:=by rw [←Int.natCast_mul] at g2; omega
       obtain ⟨p,hp0,hpq⟩:=one_less (n:=q0) (by rcases Nat.eq_zero_or_pos q0 with h |h; (subst h; simp at g2'); omega)
       have hg':=guess_less (by omega) hc0 huv.out (by rw [←hp0.out]; exact hg0) (.inr (by rw [←hp0.out]; exact g2'))
       clear g2' hp
       by_cases g3:(4294967296:Int)≤(r0:Int)+(v1:Int)
       ·obtain ⟨rr,hE⟩:=digit_far hV.out hv1 hv0 hc0 huv.out hg' (by have:=hp0.out; omega) (by omega)
        have hq2:=hE.hq
        have hr1:rr < 18446744073709551616:=Nat.lt_trans hE.hu hv
        obtain ⟨A,B,D,hA,hB,hDD,eA,eB,eD,eu⟩:=DivMath.wrap_steps _ _ _ _ _ hr1 hE.h
        go_wp2_with (fail)
        go_ret2
        exact ⟨fin_all hh hnrm hD hE,rfl⟩
       ·have g3':(r0:Int)+(v1:Int)≤4294967295:=by omega
        have hp2:p≤4294967297:=by have:=hp0.out; omega
        go_wp2_with (fail)
        go_round
        case rel=>exact ⟨p,r0+v1,hp2,by omega,hg',by go_num,by go_num⟩
        case measure=>simp [intOf]; omega
      ·have g2':q0 * v0≤4294967296 * r0+c0:=by rw [←Int.natCast_mul] at g2; omega
       obtain ⟨rr,hE⟩:=digit_of hV.out hv1 hc0 huv.out hg0 g2'
       have g4:(q0:Int) * (v0:Int)≤(4294967296:Int) * (r0:Int)+(c0:Int):=by omega
       clear g2' hp hq0
       have hq2:=hE.hq
       have hr1:rr < 18446744073709551616:=Nat.lt_trans hE.hu hv
       obtain ⟨A,B,D,hA,hB,hDD,eA,eB,eD,eu⟩:=DivMath.wrap_steps _ _ _ _ _ hr1 hE.h
       go_wp2_with (fail)
       go_ret2
       exact ⟨fin_all hh hnrm hD hE,rfl⟩
set_option maxHeartbeats 400000 in
theorem div_small (lo y:Nat) (hh:0 < y) (hl:lo < 18446744073709551616) (hy:y < 18446744073709551616) (w:World):
 Calls Tryz.prog 61 #[.int .u64 0,.int .u64 lo,.int .u64 y] w fun e w'=>e= .returned (.tuple #[.int .u64 ((lo / y:Nat):Int),.int .u64 ((lo % y:Nat):Int)])∧∃n,w'=w.drewN n:=by
 have hb0:((y:Int) == 0)=false:=by simp; omega
 have e1:(lo:Int) / (y:Int)=((lo / y:Nat):Int):=rfl
 have e2:(lo:Int) % (y:Int)=((lo % y:Nat):Int):=rfl
 have hd:lo / y < 18446744073709551616:=Nat.lt_of_le_of_lt (Nat.div_le_self _ _) hl
 have hm:lo % y < 18446744073709551616:=Nat.lt_of_le_of_lt (Nat.mod_le _ _) hl
 generalize lo / y=d at *
 generalize lo % y=m at *
 go_enter Tryz.func61,Tryz.ntmps61
 go_wp2_with (fail)
 go_quiet (fail)
 go_wp2_with (fail)
 go_ret2
 exact ⟨ret_two rfl e2,_,rfl⟩
theorem div_any (hi lo y:Nat) (hh:hi < y) (hl:lo < 18446744073709551616) (hy:y < 18446744073709551616) (w:World):
 Calls Tryz.prog 61 #[.int .u64 hi,.int .u64 lo,.int .u64 y] w fun e w'=>e= .returned (.tuple #[.int .u64 (((hi * 18446744073709551616+lo) / y:Nat):Int),.int .u64 (((hi * 18446744073709551616+lo) % y:Nat):Int)])∧∃n,w'=w.drewN n:=by
 rcases Nat.eq_zero_or_pos hi with h |h
 ·subst h
  have:=div_small lo y (by omega) hl hy w
  simpa using this
 ·exact (div_big hi lo y hh h hl hy w).mono fun e w' ⟨h1,h2⟩=>⟨h1,0,h2▸rfl⟩
end Go.Proofs.YtdohkfgflpdkcaaGreatDoor
namespace Go.Proofs.YtdohkfgflpdkcaaGreatDoor
open Go.RowKit
attribute [local go_sem] cellOf frozenOf heap_drew heap_drewN
theorem div_run (hi lo y:Nat) (hh:hi < y) (hl:lo < 18446744073709551616) (hy:y < 18446744073709551616):
 ∃q r:Nat,q=(hi * 18446744073709551616+lo) / y∧r=(hi * 18446744073709551616+lo) % y∧q < 18446744073709551616∧r < y∧
 ∀w,Calls Tryz.prog 61 #[.int .u64 hi,.int .u64 lo,.int .u64 y] w fun e w'=>e= .returned (.tuple #[.int .u64 q,.int .u64 r])∧∃n,w'=w.drewN n:=by
 refine ⟨_,_,rfl,rfl,?_,Nat.mod_lt _ (by omega),fun w=>div_any hi lo y hh hl hy w⟩
 rw [Nat.div_lt_iff_lt_mul (by omega),Nat.mul_comm _ y]
 have:(hi+1) * 18446744073709551616≤y * 18446744073709551616:=Nat.mul_le_mul_right _ hh
 rw [Nat.add_mul] at this
 exact Nat.lt_of_lt_of_le (Nat.add_lt_add_left hl _) (by simpa using this)
theorem carry_of (B:Nat) {h l k s P c:Nat} (h1:h * B+l=P) (h2:k * B+s=l+c):(h+k) * B+s=P+c:=by
 rw [Nat.add_mul]; omega
theorem mul_any (a b:Nat) (ha:a < 18446744073709551616) (hb:b < 18446744073709551616) (w:World):
 Calls Tryz.prog 60 #[.int .u64 a,.int .u64 b] w fun e w'=>∃h l:Nat,e= .returned (.tuple #[.int .u64 h,.int .u64 l])∧h * 18446744073709551616+l=a * b∧l < 18446744073709551616∧h < 18446744073709551616∧w=w':=by
 refine (Tryz.bits_Mul64 a b ha hb w).mono ?_
 rintro e w' ⟨rfl,rfl⟩
 refine ⟨_,_,rfl,?_,Nat.mod_lt _ (by omega),?_,rfl⟩
 ·rw [Nat.mul_comm]; exact Nat.div_add_mod _ _
 ·rw [Nat.div_lt_iff_lt_mul (by omega)]
  exact Nat.lt_of_le_of_lt (Nat.mul_le_mul_right b (Nat.le_of_lt ha)) (Nat.mul_lt_mul_of_pos_left hb (by omega))
theorem add64_run (x y:Nat) (hx:x < 18446744073709551616) (hy:y < 18446744073709551616):
 ∃s k:Nat,k * 18446744073709551616+s=x+y∧s < 18446744073709551616∧k≤1∧
 ∀w,(callFunc 198 #[.int .u64 x,.int .u64 y,.int .u64 0]).run Tryz.prog w= .ok (.value (.tuple #[.int .u64 s,.int .u64 k])) w:=by
 refine ⟨(x+y) % 18446744073709551616,(x+y) / 18446744073709551616,?_,Nat.mod_lt _ (by omega),by omega,fun w=>?_⟩
 ·rw [Nat.mul_comm]; exact Nat.div_add_mod _ _
 ·rw [run_callFunc_extern Tryz.func198 (by kernel_rfl) (by kernel_rfl) (by kernel_rfl) (e:=add64Entry) (by kernel_rfl),run_add64 x y 0 (by omega) (by omega) (by omega) (by omega)]
  simp only [Result.andThen]
  congr 5 <;> omega
set_option maxHeartbeats 400000 in
theorem product_any (a b c:Nat) (ha:a < 18446744073709551616) (hb:b < 18446744073709551616) (hc:c < 18446744073709551616) (w:World):
 Calls Tryz.prog 131 #[.int .u64 a,.int .u64 b,.int .u64 c] w fun e w'=>∃h l:Nat,e= .returned (.agg #[.int .u64 h,.int .u64 l])∧h * 18446744073709551616+l=a * b+c∧l < 18446744073709551616∧h < 18446744073709551616∧Fr [] w w':=by
 go_enter Tryz.func131,Tryz.ntmps131
 go_wp2_with (first |(go_at_call 60; refine (mul_any a b ha hb _).mono ?_; rintro e w' ⟨h,l,rfl,H1,hl,hh,rfl⟩; have H:=Lib.hid H1; clear H1; obtain ⟨s,k,H3,hs,hk,hadd⟩:=add64_run l c hl hc; have H2:=Lib.hid H3; clear H3))
 have hle:h+k < 18446744073709551616:=by
  have h1:=H.out
  have h2:=H2.out
  have:a * b≤18446744073709551615 * 18446744073709551615:=Nat.mul_le_mul (by omega) (by omega)
  omega
 go_wp2_with (fail)
 refine bodyPost_ret (v:=.agg #[.int .u64 ((h+k:Nat):Int),.int .u64 s]) (by simp [results,Tryz.results131,go_sem,DivMath.wrapN _ hle,←Int.natCast_add]) rfl ⟨h+k,s,rfl,carry_of _ H.out H2.out,hs,hle,((Fr.refl _ _).alloc _)⟩
end Go.Proofs.YtdohkfgflpdkcaaGreatDoor
namespace Go.Proofs.YtdohkfgflpdkcaaGreatDoor
open Go.RowKit
variable {τ:TypeId}
attribute [local go_sem] cellOf frozenOf heap_drew heap_drewN
def toMore (h o n:Nat):Nat:=(n * 1000000000+o) / h
def toTold (h t o n:Nat):Nat:=min (toMore h o n) (4611686018427387904 - t)
def toTotal (h t o n:Nat):Nat:=t+toTold h t o n
def toOver (h t o n:Nat):Nat:=if toMore h o n < 4611686018427387904 - t then (n * 1000000000+o) % h else o
theorem to_full {h t o n hi lo:Nat} (hh:0 < h) (ht:t≤4611686018427387904) (hP:hi * 18446744073709551616+lo=n * 1000000000+o) (hle:h≤hi):
 toTold h t o n=4611686018427387904 - t∧toTotal h t o n=4611686018427387904∧toOver h t o n=o:=by
 have hm:18446744073709551616≤toMore h o n:=by
  unfold toMore
  rw [←hP,Nat.le_div_iff_mul_le hh]
  exact Nat.le_trans (Nat.mul_le_mul_left _ hle) (by rw [Nat.mul_comm]; omega)
 unfold toTotal toOver toTold
 generalize toMore h o n=m at *
 refine ⟨by omega,by omega,if_neg (by omega)⟩
set_option maxHeartbeats 400000 in
theorem to_any (b h t o n:Nat) (w:World) (hs:w.heap[b]? =some (sc τ h t o)) (hh:0 < h) (hh':h≤1000000000000) (ht:t≤4611686018427387904) (ho:o < h) (hn:n < 18446744073709551616):
 Calls Tryz.prog 57 #[.pointer (some ⟨b,0,none⟩),.int .u64 n] w fun e w'=>e= .returned (.int .i64 (toTold h t o n:Nat))∧w'.heap[b]? =some (sc τ h (toTotal h t o n) (toOver h t o n))∧Fr [b] w w':=by
 go_enter Tryz.func57,Tryz.ntmps57
 go_wp2_with (first
  |(go_at_call 130; refine (made_yes b h t o _ hs (by omega)).mono ?_; rintro e w1 ⟨rfl,hf1⟩; have hs1:=hf1.heap hs (by simp))
  |(go_at_call 131; refine (product_any n 1000000000 o hn (by omega) (by omega) _).mono ?_; rintro e w2 ⟨hi,lo,rfl,hP,hlo,hhi,hf2⟩; have hs2:=hf2.heap hs1 (by simp); have HP:=Lib.hid hP; clear hP))
 have hsW:=heap_alloc_old (.cells #[.int .u64 (hi:Int),.int .u64 (lo:Int)] 200) hs2
 have hnW:=heap_alloc_new w2 (.cells #[.int .u64 (hi:Int),.int .u64 (lo:Int)] 200)
 have hfW:=((hf1.then0 hf2).alloc (.cells #[.int .u64 (hi:Int),.int .u64 (lo:Int)] 200))
 generalize w2.alloc (.cells #[.int .u64 (hi:Int),.int .u64 (lo:Int)] 200)=W at *
 generalize w2.heap.size=bn at *
 clear hs1 hs2 hf1 hf2 w1 w2
 by_cases hle:(h:Int)≤(hi:Int)
 ·obtain ⟨e1,e2,e3⟩:=to_full hh ht HP.out (by omega)
  have E1:=Lib.hid e1
  have E2:=Lib.hid e2
  have E3:=Lib.hid e3
  clear e1 e2 e3
  go_quiet (fail)
  go_wp2
  go_ret
  exact ⟨by rw [E1.out]; exact ret_int (by omega),by rw [E2.out,E3.out]; exact heap_set hsW _,((hfW.mono (by simp)).drewN nq).setCell (.inl (by simp)) _⟩
 ·have hlt:(hi:Int) < (h:Int):=by omega
  have hlt':hi < h:=by omega
  go_quiet (fail)
  have hsW:(W.drewN nq).heap[b]? =some (sc τ h t o):=hsW
  have hnW:(W.drewN nq).heap[bn]? =_:=hnW
  have hfW:=hfW.drewN nq
  generalize W.drewN nq=W2 at *
  go_wp2_with (fail)
  obtain ⟨m,r,hm,hr,hmb,hrb,hdiv⟩:=div_run hi lo h hlt' hlo (Nat.lt_of_le_of_lt hh' (by decide))
  have Hd:=Lib.hid hdiv
  rw [HP.out] at hm hr
  have hM:toMore h o n=m:=hm.symm
  obtain ⟨e1,e2,e3⟩:toTold h t o n=min m (4611686018427387904 - t)∧toTotal h t o n=t+min m (4611686018427387904 - t)∧toOver h t o n=if m < 4611686018427387904 - t then r else o:=by
   unfold toTotal toOver toTold; rw [hM,hr]; exact ⟨rfl,rfl,rfl⟩
  clear hm hr hM hdiv
  by_cases hm:(4611686018427387904:Int) - (t:Int)≤(m:Int)
  ·rw [show min m (4611686018427387904 - t)=4611686018427387904 - t by omega] at e1 e2
   rw [if_neg (by omega)] at e3
   rw [show t+(4611686018427387904 - t)=4611686018427387904 by omega] at e2
   have E1:=Lib.hid e1
   have E2:=Lib.hid e2
   have E3:=Lib.hid e3
   clear e1 e2 e3
   go_quiet ((go_at_call 61; exact Calls.quiet_of (Hd.out _)))
   have hsW:(W2.drewN nq).heap[b]? =some (sc τ h t o):=hsW
   have hfW:=hfW.drewN nq
   generalize W2.drewN nq=W3 at *
   clear hnW
   go_wp2_with (fail)
   go_ret
   exact ⟨by rw [E1.out]; exact ret_int (by omega),by rw [E2.out,E3.out]; exact heap_set hsW _,(hfW.mono (by simp)).setCell (.inl (by simp)) _⟩
  ·rw [show min m (4611686018427387904 - t)=m by omega] at e1 e2
   rw [if_pos (by omega)] at e3
   have hm':(m:Int) < (4611686018427387904:Int) - (t:Int):=by omega
   have E1:=Lib.hid e1
   have E2:=Lib.hid e2
   have E3:=Lib.hid e3
   clear e1 e2 e3
   go_quiet ((go_at_call 61; exact Calls.quiet_of (Hd.out _)))
   have hsW:(W2.drewN nq).heap[b]? =some (sc τ h t o):=hsW
   have hfW:=hfW.drewN nq
   generalize W2.drewN nq=W3 at *
   clear hnW
   go_wp2_with (fail)
   go_ret
   exact ⟨by rw [E1.out]; rfl,by rw [E2.out,E3.out]; exact heap_set (heap_set hsW _) _,((hfW.mono (by simp)).setCell (.inl (by simp)) _).setCell (.inl (by simp)) _⟩
end Go.Proofs.YtdohkfgflpdkcaaGreatDoor
namespace Go.Proofs.YtdohkfgflpdkcaaGreatDoor
open Go.RowKit
variable {τ:TypeId}
attribute [local go_sem] cellOf frozenOf heap_drew heap_drewN
theorem total_any (b h t o:Nat) (w:World) (hs:w.heap[b]? =some (sc τ h t o)) (hh:0 < h) (ht:t≤4611686018427387904):
 Calls Tryz.prog 82 #[.pointer (some ⟨b,0,none⟩)] w fun e w'=>e= .returned (.int .i64 t)∧Fr [] w w':=by
 go_enter Tryz.func82,Tryz.ntmps82
 go_wp2_with (go_at_call 130; refine (made_yes b h t o _ hs (by omega)).mono ?_; rintro e w1 ⟨rfl,hf1⟩; have hs1:=hf1.heap hs (by simp))
 go_ret
 exact ⟨rfl,hf1⟩
def tickOf (h:Nat):Nat:=(1000000000+h - 1) / h
end Go.Proofs.YtdohkfgflpdkcaaGreatDoor
