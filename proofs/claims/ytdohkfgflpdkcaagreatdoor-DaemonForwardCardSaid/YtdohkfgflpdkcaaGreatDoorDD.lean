/-
  PROVED HERE: a part of the proof of DaemonForward (texts F0, F1, F2 of the prover, joined). No condition of its own.
-/
import Derived.Test.YtdohkfgflpdkcaaGreatDoorProg
import Derived.Lib.Hide
import Derived.Test.YtdohkfgflpdkcaaGreatDoorDC
import Derived.IntWalk
set_option linter.unusedVariables false
set_option linter.unusedSimpArgs false
namespace Go.Proofs.YtdohkfgflpdkcaaGreatDoor
def quo (up:Bool) (a b c:Int):Int:=if up then -((-(a * b)) / c) else a * b / c
def qres (up:Bool) (a b c:Int):Int×Int:=
 if c≤0 then (0,1) else if -9223372036854775808≤quo up a b c∧quo up a b c≤9223372036854775807 then (quo up a b c,0) else (0,20)
def sat (n:Int):Int:=if n < -9223372036854775808 then -9223372036854775808 else if 9223372036854775807 < n then 9223372036854775807 else n
def addR (a b:Int):Int×Int:=if -9223372036854775808≤a+b∧a+b≤9223372036854775807 then (a+b,0) else (0,20)
def absS (a:Int):Int:=if a= -9223372036854775808 then 9223372036854775807 else if a < 0 then -a else a
def clampS (a lo hi:Int):Int:=if a < lo then lo else if hi < a then hi else a
def I64 (a:Int):Prop:=-9223372036854775808≤a∧a≤9223372036854775807
theorem div_neg_nat (n c:Nat) (hc:0 < c):(-(n:Int)) / (c:Int)= -(((n / c+if 0 < n % c then 1 else 0):Nat):Int):=by
 have h1:c * (n / c)+n % c=n:=Nat.div_add_mod n c
 have h2:n % c < c:=Nat.mod_lt _ hc
 generalize n / c=q at *
 generalize n % c=r at *
 subst h1
 have hci:(0:Int) < c:=by omega
 by_cases hr:0 < r
 ·rw [if_pos hr]
  have h3: -(((c * q+r:Nat)):Int)=((c:Int) - r)+(c:Int) * (-((q+1:Nat):Int)):=by
   push_cast
   rw [Int.mul_neg,Int.mul_add]
   omega
  rw [h3,Int.add_mul_ediv_left _ _ (by omega),Int.ediv_eq_zero_of_lt (by omega) (by omega)]
  omega
 ·obtain rfl:r=0:=by omega
  rw [if_neg (by omega)]
  have h3: -(((c * q+0:Nat)):Int)=(c:Int) * (-(q:Int)):=by
   push_cast
   rw [Int.mul_neg]
   omega
  rw [h3,Int.mul_ediv_cancel_left _ (by omega)]
  simp
theorem quo_minus (up:Bool) (a b:Int) (p c:Nat) (hc:0 < c) (h:a * b= -(p:Int)):quo up a b c= -(((p / c+if 0 < p % c∧up=false then 1 else 0):Nat):Int):=by
 unfold quo
 rw [h]
 cases up
 ·rw [if_neg (by simp),div_neg_nat p c hc]
  simp
 ·rw [if_pos rfl,Int.neg_neg]
  simp
theorem quo_plus (up:Bool) (a b:Int) (p c:Nat) (hc:0 < c) (h:a * b=(p:Int)):quo up a b c=(((p / c+if 0 < p % c∧up=true then 1 else 0):Nat):Int):=by
 unfold quo
 rw [h]
 cases up
 ·rw [if_neg (by simp)]
  simp
 ·rw [if_pos rfl,div_neg_nat p c hc]
  simp
theorem prod_sign (a b:Int):(decide (a < 0) != decide (b < 0))=true→a * b= -((a.natAbs * b.natAbs:Nat):Int):=by
 intro h
 rcases Int.lt_or_le a 0 with h1 |h1 <;> rcases Int.lt_or_le b 0 with h2 |h2
 ·simp [h1,h2] at h
 ·obtain ⟨m,rfl⟩:∃m:Nat,a= -(m:Int):=⟨a.natAbs,by omega⟩
  obtain ⟨n,rfl⟩:∃n:Nat,b=(n:Int):=⟨b.natAbs,by omega⟩
  simp [Int.neg_mul]
 ·obtain ⟨m,rfl⟩:∃m:Nat,a=(m:Int):=⟨a.natAbs,by omega⟩
  obtain ⟨n,rfl⟩:∃n:Nat,b= -(n:Int):=⟨b.natAbs,by omega⟩
  simp [Int.mul_neg]
 ·simp [Int.not_lt.2 h1,Int.not_lt.2 h2] at h
theorem prod_sign' (a b:Int):(decide (a < 0) != decide (b < 0))=false→a * b=((a.natAbs * b.natAbs:Nat):Int):=by
 intro h
 rcases Int.lt_or_le a 0 with h1 |h1 <;> rcases Int.lt_or_le b 0 with h2 |h2
 ·obtain ⟨m,rfl⟩:∃m:Nat,a= -(m:Int):=⟨a.natAbs,by omega⟩
  obtain ⟨n,rfl⟩:∃n:Nat,b= -(n:Int):=⟨b.natAbs,by omega⟩
  simp [Int.neg_mul,Int.mul_neg]
 ·simp [h1,Int.not_lt.2 h2] at h
 ·simp [h2,Int.not_lt.2 h1] at h
 ·obtain ⟨m,rfl⟩:∃m:Nat,a=(m:Int):=⟨a.natAbs,by omega⟩
  obtain ⟨n,rfl⟩:∃n:Nat,b=(n:Int):=⟨b.natAbs,by omega⟩
  simp
end Go.Proofs.YtdohkfgflpdkcaaGreatDoor
namespace Go.Proofs.YtdohkfgflpdkcaaGreatDoor
open Go.RowKit
attribute [local go_sem] cellOf frozenOf heap_drew heap_drewN
def nearS (n k:Int) (below:Bool):Int:=if k=0 then n else if below=true then -9223372036854775808 else 9223372036854775807
theorem size_any (a:Int) (w:World) (ha:I64 a):
 Calls Tryz.prog 339 #[.int .i64 a] w fun e w'=>e= .returned (.int .u64 (a.natAbs:Nat))∧w=w':=by
 obtain ⟨ha1,ha2⟩:=ha
 by_cases h0:a < 0
 ·obtain ⟨n,rfl⟩:∃n:Nat,a= -(n:Int):=⟨a.natAbs,by omega⟩
  have hn:(-(n:Int)).natAbs=n:=by omega
  rw [hn]
  have e1:IntKind.u64.wrap (-(n:Int))=18446744073709551616 - (n:Int):=by rw [IntKind.wrap_u64]; omega
  have e2:IntKind.u64.wrap (-(18446744073709551616 - (n:Int)))=(n:Int):=by rw [IntKind.wrap_u64]; omega
  clear hn
  go_enter Tryz.func339,Tryz.ntmps339
  go_wp2
  go_ret
  exact ⟨rfl,rfl⟩
 ·obtain ⟨n,rfl⟩:∃n:Nat,a=(n:Int):=⟨a.natAbs,by omega⟩
  have hn:((n:Int)).natAbs=n:=by omega
  rw [hn]
  have e1:IntKind.u64.wrap (n:Int)=(n:Int):=by rw [IntKind.wrap_u64]; omega
  clear hn
  go_enter Tryz.func339,Tryz.ntmps339
  go_wp2
  go_ret
  exact ⟨rfl,rfl⟩
theorem signed_plus (n:Nat) (w:World) (h:n < 9223372036854775808):
 Calls Tryz.prog 340 #[.int .u64 n,.bool false] w fun e w'=>e= .returned (.tuple #[.int .i64 n,.bool true])∧w=w':=by
 have t1:(n:Int) < 9223372036854775808:=by omega
 go_enter Tryz.func340,Tryz.ntmps340
 go_wp2
 go_ret2
 exact ⟨rfl,rfl⟩
theorem signed_minus (n:Nat) (w:World) (h:n≤9223372036854775808):
 Calls Tryz.prog 340 #[.int .u64 n,.bool true] w fun e w'=>e= .returned (.tuple #[.int .i64 (-(n:Int)),.bool true])∧w=w':=by
 have t1:(n:Int)≤9223372036854775808:=by omega
 obtain ⟨x,hx⟩:∃x,IntKind.u64.wrap (-(n:Int))=x:=⟨_,rfl⟩
 have e1:IntKind.i64.wrap x= -(n:Int):=by rw [←hx,IntKind.wrap_u64,IntKind.wrap_i64]; omega
 go_enter Tryz.func340,Tryz.ntmps340
 go_wp2
 go_ret2
 exact ⟨rfl,rfl⟩
theorem signed_bad (n:Nat) (m:Bool) (w:World) (hn:n < 18446744073709551616) (h:if m then 9223372036854775808 < n else 9223372036854775808≤n):
 Calls Tryz.prog 340 #[.int .u64 n,.bool m] w fun e w'=>(∃x,e= .returned (.tuple #[.int .i64 x,.bool false]))∧w=w':=by
 cases m
 ·have h':9223372036854775808≤n:=h
  have t1:((n:Int) < 9223372036854775808)=False:=by simp; omega
  clear h
  go_enter Tryz.func340,Tryz.ntmps340
  go_wp2
  go_ret2
  exact ⟨⟨_,rfl⟩,rfl⟩
 ·have h':9223372036854775808 < n:=h
  have t1:((n:Int)≤9223372036854775808)=False:=by simp; omega
  clear h
  go_enter Tryz.func340,Tryz.ntmps340
  go_wp2
  go_ret2
  exact ⟨⟨_,rfl⟩,rfl⟩
theorem away_down (m:Bool) (w:World):Calls Tryz.prog 272 #[.bool m] w fun e w'=>e= .returned (.bool m)∧w=w':=by
 go_enter Tryz.func272,Tryz.ntmps272
 go_wp2
 go_ret
 exact ⟨rfl,rfl⟩
theorem away_up (m:Bool) (w:World):Calls Tryz.prog 331 #[.bool m] w fun e w'=>e= .returned (.bool (!m))∧w=w':=by
 go_enter Tryz.func331,Tryz.ntmps331
 go_wp2
 go_ret
 exact ⟨rfl,rfl⟩
end Go.Proofs.YtdohkfgflpdkcaaGreatDoor
namespace Go.Proofs.YtdohkfgflpdkcaaGreatDoor
open Go.RowKit
attribute [local go_sem] cellOf frozenOf heap_drew heap_drewN
def fitB (q:Nat) (m:Bool):Bool:=if m then decide (q≤9223372036854775808) else decide (q < 9223372036854775808)
def sgn (q:Nat) (m:Bool):Int:=if m then -(q:Int) else q
theorem signed_any (q:Nat) (m:Bool) (w:World) (hq:q < 18446744073709551616):
 Calls Tryz.prog 340 #[.int .u64 q,.bool m] w fun e w'=>(∃x,(fitB q m=true→x=sgn q m)∧e= .returned (.tuple #[.int .i64 x,.bool (fitB q m)]))∧w=w':=by
 cases hf:fitB q m
 ·refine (signed_bad q m w hq ?_).mono ?_
  ·unfold fitB at hf
   cases m <;> simp at hf ⊢ <;> exact hf
  ·rintro e w' ⟨⟨x,rfl⟩,rfl⟩
   exact ⟨⟨x,(fun h=>by cases h),rfl⟩,rfl⟩
 ·unfold fitB at hf
  cases m
  ·refine (signed_plus q w (by simpa using hf)).mono ?_
   rintro e w' ⟨rfl,rfl⟩
   exact ⟨⟨_,fun _=>rfl,rfl⟩,rfl⟩
  ·refine (signed_minus q w (by simpa using hf)).mono ?_
   rintro e w' ⟨rfl,rfl⟩
   exact ⟨⟨_,fun _=>rfl,rfl⟩,rfl⟩
def qsize (up m:Bool) (p c:Nat):Nat:=p / c+if 0 < p % c∧(m != up)=true then 1 else 0
theorem quo_size (up:Bool) (a b:Int) (c:Nat) (hc:0 < c):quo up a b c=sgn (qsize up (decide (a < 0) != decide (b < 0)) (a.natAbs * b.natAbs) c) (decide (a < 0) != decide (b < 0)):=by
 cases hm:(decide (a < 0) != decide (b < 0))
 ·rw [quo_plus up a b _ c hc (prod_sign' a b hm)]
  unfold sgn qsize
  cases up <;> simp
 ·rw [quo_minus up a b _ c hc (prod_sign a b hm)]
  unfold sgn qsize
  cases up <;> simp
theorem qres_size (up:Bool) (a b:Int) (c:Nat) (hc:0 < c) (m:Bool) (hm:(decide (a < 0) != decide (b < 0))=m) (q:Nat) (hq:qsize up m (a.natAbs * b.natAbs) c=q):qres up a b c=if fitB q m=true then (sgn q m,0) else (0,20):=by
 unfold qres
 rw [if_neg (by omega),quo_size up a b c hc,hm,hq]
 unfold sgn fitB
 cases m
 ·simp only [Bool.false_eq_true,if_false,decide_eq_true_eq]
  by_cases h:q < 9223372036854775808
  ·rw [if_pos h,if_pos (by omega)]
  ·rw [if_neg h,if_neg (by omega)]
 ·simp only [if_true,decide_eq_true_eq]
  by_cases h:q≤9223372036854775808
  ·rw [if_pos h,if_pos (by omega)]
  ·rw [if_neg h,if_neg (by omega)]
theorem qres_bad {up:Bool} {a b:Int} {c:Nat} {m:Bool} {q:Nat} (h:qres up a b c=if fitB q m=true then (sgn q m,0) else (0,20)) (hf:fitB q m=false):qres up a b c=(0,20):=by
 rw [h,hf]; rfl
theorem qres_good {up:Bool} {a b:Int} {c:Nat} {m:Bool} {q:Nat} (h:qres up a b c=if fitB q m=true then (sgn q m,0) else (0,20)) (hf:fitB q m=true):qres up a b c=(sgn q m,0):=by
 rw [h,hf]; rfl
theorem fit_big {q:Nat} (m:Bool) (h:18446744073709551616≤q):fitB q m=false:=by
 unfold fitB; cases m <;> simp <;> omega
theorem big_q {hi lo P k:Nat} (h:hi * 18446744073709551616+lo=P) (hk:0 < k) (hle:k≤hi):18446744073709551616≤P / k:=by
 rw [←h,Nat.le_div_iff_mul_le hk]
 exact Nat.le_trans (Nat.mul_le_mul_left _ hle) (by rw [Nat.mul_comm]; exact Nat.le_add_right _ _)
set_option maxHeartbeats 1000000 in
set_option maxRecDepth 20000 in
theorem quotient_any (up:Bool) (g:FuncId) (a b c:Int) (w:World) (ha:I64 a) (hb:I64 b) (hc:I64 c) (hgv:g=272∨g=331) (hg:∀m w,Calls Tryz.prog g #[.bool m] w fun e w'=>e= .returned (.bool (m != up))∧w=w'):
 Calls Tryz.prog 271 #[.int .i64 a,.int .i64 b,.int .i64 c,.func (.func g) #[] #[]] w fun e w'=>e= .returned (.tuple #[.int .i64 (qres up a b c).1,.int .i64 (qres up a b c).2])∧Fr [] w w':=by
 have HG:=Lib.hid hg
 clear hg
 by_cases hc0:c≤0
 ·have hR:qres up a b c=(0,1):=if_pos hc0
  rw [hR]
  clear hR
  go_enter Tryz.func271,Tryz.ntmps271
  go_wp2
  go_ret2
  exact ⟨rfl,Fr.refl _ _⟩
 ·obtain ⟨k,rfl⟩:∃k:Nat,c=(k:Int):=⟨c.toNat,by omega⟩
  have hk:0 < k:=by omega
  have hk2:k≤9223372036854775807:=by have:=hc.2; omega
  obtain ⟨m,hm⟩:∃m,(decide (a < 0) != decide (b < 0))=m:=⟨_,rfl⟩
  have HQ:=Lib.hid (qres_size up a b k hk m hm)
  have hm1:((!decide (a < 0)) == decide (b < 0))=m:=by rw [←hm]; cases decide (a < 0) <;> cases decide (b < 0) <;> rfl
  have hm2:(!(decide (a < 0) == decide (b < 0)))=m:=by rw [←hm]; cases decide (a < 0) <;> cases decide (b < 0) <;> rfl
  have hA:a.natAbs≤9223372036854775808:=by have:=ha.1; have:=ha.2; omega
  have hB:b.natAbs≤9223372036854775808:=by have:=hb.1; have:=hb.2; omega
  have HAA:=Lib.hid ha
  have HBB:=Lib.hid hb
  have hSA:=fun w=>size_any a w ha
  have hSB:=fun w=>size_any b w hb
  generalize a.natAbs=A at *
  generalize b.natAbs=B at *
  have HSA:=Lib.hid hSA
  have HSB:=Lib.hid hSB
  have e0:IntKind.u64.wrap (k:Int)=(k:Int):=by rw [IntKind.wrap_u64]; omega
  clear hSA hSB ha hb hc hc0
  go_enter Tryz.func271,Tryz.ntmps271
  go_wp2_with (fail)
  refine (HSA.out _).mono ?_
  rintro e w1 ⟨rfl,rfl⟩
  go_wp2_with (fail)
  refine (HSB.out _).mono ?_
  rintro e w1 ⟨rfl,rfl⟩
  go_wp2_with (fail)
  refine (mul_any A B (by omega) (by omega) _).mono ?_
  rintro e w1 ⟨hi,lo,rfl,hP,hlo,hhi,rfl⟩
  have HP:=Lib.hid hP
  clear hP
  by_cases hle:(k:Int)≤(hi:Int)
  ·have HR:=Lib.hid (qres_bad (HQ.out _ rfl) (fit_big m (Nat.le_trans (big_q HP.out hk (by omega)) (Nat.le_add_right _ _))))
   go_wp2_with (fail)
   go_ret2
   exact ⟨by rw [HR.out]; rfl,(Fr.refl [] w).alloc _⟩
  ·obtain ⟨q,r,hq1,hr1,hq2,hr2,hdiv⟩:=div_run hi lo k (by omega) hlo (by omega)
   rw [HP.out] at hq1 hr1
   have HQ1:=Lib.hid hq1
   have HR1:=Lib.hid hr1
   have HD:=Lib.hid hdiv
   clear hq1 hr1 hdiv
   go_wp2_with (fail)
   refine (HD.out _).mono ?_
   rintro e w2 ⟨rfl,nd,rfl⟩
   have hF:Fr [] w ((w.alloc (.cells #[.int .u64 (hi:Int),.int .u64 (lo:Int)] 199)).drewN nd):=((Fr.refl [] w).alloc _).drewN _
   generalize (w.alloc (.cells #[.int .u64 (hi:Int),.int .u64 (lo:Int)] 199)).drewN nd=W at *
   rcases Nat.eq_zero_or_pos r with hr |hr
   ·subst hr
    have HQ2:=Lib.hid (HQ.out q (by unfold qsize; rw [←HQ1.out,←HR1.out]; simp))
    go_wp2_with (fail)
    refine (signed_any q m _ hq2).mono ?_
    rintro e w3 ⟨⟨x,hx,rfl⟩,rfl⟩
    have HX:=Lib.hid hx
    clear hx
    cases hf:fitB q m
    ·have HF:=Lib.hid hf
     clear hf
     go_wp2_with (fail)
     go_ret2
     exact ⟨by rw [qres_bad HQ2.out HF.out]; rfl,hF⟩
    ·have HF:=Lib.hid hf
     clear hf
     go_wp2_with (fail)
     go_ret2
     exact ⟨by rw [qres_good HQ2.out HF.out,HX.out HF.out]; rfl,hF⟩
   ·rcases hgv with rfl |rfl
    all_goals
     go_wp2_with (fail)
     refine (HG.out _ _).mono ?_
     rintro e w3 ⟨rfl,rfl⟩
     have hq3:q < 9223372036854775808∨9223372036854775808≤q:=by omega
     cases hi2:(m != up)
     ·have HQ2:=Lib.hid (HQ.out q (by unfold qsize; rw [←HQ1.out,←HR1.out,if_neg (by simp [hi2])]; rfl))
      clear hi2
      go_wp2_with (fail)
      refine (signed_any q m _ hq2).mono ?_
      rintro e w3 ⟨⟨x,hx,rfl⟩,rfl⟩
      have HX:=Lib.hid hx
      clear hx
      cases hf:fitB q m
      ·have HF:=Lib.hid hf
       clear hf
       go_wp2_with (fail)
       go_ret2
       exact ⟨by rw [qres_bad HQ2.out HF.out]; rfl,hF⟩
      ·have HF:=Lib.hid hf
       clear hf
       go_wp2_with (fail)
       go_ret2
       exact ⟨by rw [qres_good HQ2.out HF.out,HX.out HF.out]; rfl,hF⟩
     ·have HQ2:=Lib.hid (HQ.out (q+1) (by unfold qsize; rw [←HQ1.out,←HR1.out,if_pos ⟨hr,hi2⟩]))
      clear hi2
      rcases Nat.lt_or_ge (q+1) 18446744073709551616 with hlt |hge
      ·obtain ⟨p,hp⟩:∃p,q+1=p:=⟨_,rfl⟩
       rw [hp] at HQ2 hlt
       have e1:IntKind.u64.wrap ((q:Int)+1)=(p:Int):=by rw [IntKind.wrap_u64]; omega
       have e2:((p:Int) == 0)=false:=by simp; omega
       clear hp
       go_wp2_with (fail)
       refine (signed_any p m _ hlt).mono ?_
       rintro e w3 ⟨⟨x,hx,rfl⟩,rfl⟩
       have HX:=Lib.hid hx
       clear hx
       cases hf:fitB p m
       ·have HF:=Lib.hid hf
        clear hf
        go_wp2_with (fail)
        go_ret2
        exact ⟨by rw [qres_bad HQ2.out HF.out]; rfl,hF⟩
       ·have HF:=Lib.hid hf
        clear hf
        go_wp2_with (fail)
        go_ret2
        exact ⟨by rw [qres_good HQ2.out HF.out,HX.out HF.out]; rfl,hF⟩
      ·have HB:=Lib.hid (qres_bad HQ2.out (fit_big m hge))
       have e1:IntKind.u64.wrap ((q:Int)+1)=0:=by rw [IntKind.wrap_u64]; omega
       clear hge
       go_wp2_with (fail)
       go_ret2
       exact ⟨by rw [HB.out]; rfl,hF⟩
theorem muldiv_any (a b c:Int) (w:World) (ha:I64 a) (hb:I64 b) (hc:I64 c):
 Calls Tryz.prog 169 #[.int .i64 a,.int .i64 b,.int .i64 c] w fun e w'=>e= .returned (.tuple #[.int .i64 (qres false a b c).1,.int .i64 (qres false a b c).2])∧Fr [] w w':=by
 have H:=Lib.hid (fun w=>quotient_any false 272 a b c w ha hb hc (.inl rfl) (fun m w=>(away_down m w).mono fun e w' ⟨h1,h2⟩=>⟨by rw [h1]; cases m <;> rfl,h2⟩))
 generalize (qres false a b c).1=x at *
 generalize (qres false a b c).2=y at *
 go_enter Tryz.func169,Tryz.ntmps169
 go_wp2_with (fail)
 refine (H.out _).mono ?_
 rintro e w1 ⟨rfl,hf⟩
 go_wp2_with (fail)
 go_ret2
 exact ⟨rfl,hf⟩
theorem muldivup_any (a b c:Int) (w:World) (ha:I64 a) (hb:I64 b) (hc:I64 c):
 Calls Tryz.prog 255 #[.int .i64 a,.int .i64 b,.int .i64 c] w fun e w'=>e= .returned (.tuple #[.int .i64 (qres true a b c).1,.int .i64 (qres true a b c).2])∧Fr [] w w':=by
 have H:=Lib.hid (fun w=>quotient_any true 331 a b c w ha hb hc (.inr rfl) (fun m w=>(away_up m w).mono fun e w' ⟨h1,h2⟩=>⟨by rw [h1]; cases m <;> rfl,h2⟩))
 generalize (qres true a b c).1=x at *
 generalize (qres true a b c).2=y at *
 go_enter Tryz.func255,Tryz.ntmps255
 go_wp2_with (fail)
 refine (H.out _).mono ?_
 rintro e w1 ⟨rfl,hf⟩
 go_wp2_with (fail)
 go_ret2
 exact ⟨rfl,hf⟩
end Go.Proofs.YtdohkfgflpdkcaaGreatDoor
