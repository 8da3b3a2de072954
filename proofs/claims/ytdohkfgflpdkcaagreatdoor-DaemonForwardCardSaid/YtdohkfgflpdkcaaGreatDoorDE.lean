/-
  PROVED HERE: a part of the proof of DaemonForward (texts H2, H3, H4, H5, H6 of the prover, joined). No condition of its own.
-/
import Derived.Test.YtdohkfgflpdkcaaGreatDoorDD
import Derived.BigRegion
import Derived.Test.YtdohkfgflpdkcaaGreatDoorDC
set_option linter.unusedVariables false
set_option linter.unusedSimpArgs false
namespace Go.Proofs.YtdohkfgflpdkcaaGreatDoor
open Go.RowKit
variable {τ:TypeId}
attribute [local go_sem 10] cellOf frozenOf
attribute [local go_sem] heap_drew heap_drewN
abbrev mon (τ:TypeId) (raw mono rate rest:Int) (full:Bool):Obj:=.cells #[.int .i64 raw,.int .i64 mono,.int .i64 rate,.int .i64 rest,.bool full,.bool true] τ (0,0)
structure Mon (raw mono rate rest:Int):Prop where
 r0:0≤raw
 r1:raw≤4611686018427387904
 m0:0≤mono
 m1:mono≤4611686018427387904
 s0: -500000≤rate
 s1:rate≤500000
 o0:0≤rest
 o1:rest < 1000000000
theorem mononone_any (b:Nat) (raw mono rate rest:Int) (full:Bool) (w:World) (hb:w.heap[b]? =some (mon τ raw mono rate rest full)):
 Calls Tryz.prog 132 #[.pointer (some ⟨b,0,none⟩)] w fun e w'=>e= .returned (.bool false)∧w=w':=by
 go_enter Tryz.func132,Tryz.ntmps132
 go_wp2
 go_ret
 exact ⟨rfl,rfl⟩
theorem monomono_any (b:Nat) (raw mono rate rest:Int) (full:Bool) (w:World) (hb:w.heap[b]? =some (mon τ raw mono rate rest full)):
 Calls Tryz.prog 81 #[.pointer (some ⟨b,0,none⟩)] w fun e w'=>e= .returned (.int .i64 mono)∧w=w':=by
 go_enter Tryz.func81,Tryz.ntmps81
 go_wp2_with (fail)
 refine (mononone_any b raw mono rate rest full _ hb).mono ?_
 rintro e w1 ⟨rfl,rfl⟩
 go_wp2_with (fail)
 go_ret
 exact ⟨rfl,rfl⟩
def monN (d rate rest:Int):Int:=d+(d * rate+rest) / 1000000000
def monR (d rate rest:Int):Int:=(d * rate+rest) % 1000000000
theorem mul_le (p r:Int) (hp:0≤p) (h1: -500000≤r) (h2:r≤500000): -(p * 500000)≤p * r∧p * r≤p * 500000:=by
 have a:=Int.mul_le_mul_of_nonneg_left h2 hp
 have b:=Int.mul_le_mul_of_nonneg_left h1 hp
 rw [Int.mul_neg] at b
 exact ⟨b,a⟩
theorem monN_b {d rate rest:Int} (h0:1≤d) (h1: -500000≤rate) (h2:rate≤500000) (h3:0≤rest) (h4:rest < 1000000000):
 0≤monN d rate rest∧d - (d / 2000+1)≤monN d rate rest∧monN d rate rest≤d+d / 2000+1:=by
 obtain ⟨a,b⟩:=mul_le d rate (by omega) h1 h2
 unfold monN
 generalize d * rate=x at *
 omega
theorem monR_b (d rate rest:Int):0≤monR d rate rest∧monR d rate rest < 1000000000:=by unfold monR; omega
theorem mon_parts (d rate rest:Int):monN d rate rest=d+(d / 1000000000) * rate+((d % 1000000000) * rate+rest) / 1000000000∧monR d rate rest=((d % 1000000000) * rate+rest) - ((d % 1000000000) * rate+rest) / 1000000000 * 1000000000:=by
 have h:d * rate+rest=((d % 1000000000) * rate+rest)+1000000000 * ((d / 1000000000) * rate):=by
  have h1:d=d % 1000000000+1000000000 * (d / 1000000000):=by omega
  conv=>lhs; rw [h1]
  rw [Int.add_mul,Int.mul_assoc]
  omega
 unfold monN monR
 rw [h]
 generalize (d % 1000000000) * rate+rest=y
 generalize (d / 1000000000) * rate=x
 constructor
 ·rw [Int.add_mul_ediv_left _ _ (by omega)]; omega
 ·rw [Int.add_mul_emod_self_left]; omega
theorem qres_ok {up:Bool} {a b c:Int} (hc:0 < c) (h1: -9223372036854775808≤quo up a b c) (h2:quo up a b c≤9223372036854775807):qres up a b c=(quo up a b c,0):=by
 unfold qres
 rw [if_neg (by omega),if_pos ⟨h1,h2⟩]
set_option maxHeartbeats 1000000 in
theorem further_any (b:Nat) (raw mono rate rest d:Int) (full:Bool) (w:World) (hb:w.heap[b]? =some (mon τ raw mono rate rest full)) (h:Mon raw mono rate rest) (h0:0≤d) (h1:d≤1125899906842624):
 Calls Tryz.prog 133 #[.pointer (some ⟨b,0,none⟩),.int .i64 d] w fun e w'=>e= .returned (.tuple #[.int .i64 (monN d rate rest),.int .i64 (monR d rate rest)])∧Fr [] w w':=by
 obtain ⟨p1,p2⟩:=mon_parts d rate rest
 rw [p1,p2]
 obtain ⟨s0,s1,o0,o1⟩: -500000≤rate∧rate≤500000∧0≤rest∧rest < 1000000000:=⟨h.s0,h.s1,h.o0,h.o1⟩
 clear p1 p2 h
 obtain ⟨W,hW⟩:∃W,d / 1000000000=W:=⟨_,rfl⟩
 obtain ⟨P,hP⟩:∃P,d % 1000000000=P:=⟨_,rfl⟩
 rw [hW,hP]
 have hW2:d.tdiv 1000000000=W:=by rw [Int.tdiv_eq_ediv_of_nonneg h0]; exact hW
 have hP2:d.tmod 1000000000=P:=by rw [Int.tmod_eq_emod_of_nonneg h0]; exact hP
 have hPb:0≤P∧P < 1000000000:=by omega
 have hWb:0≤W∧W≤1125900:=by omega
 obtain ⟨a1,a2⟩:=mul_le P rate hPb.1 s0 s1
 obtain ⟨a3,a4⟩:=mul_le W rate hWb.1 s0 s1
 obtain ⟨X,hX⟩:∃X,P * rate=X:=⟨_,rfl⟩
 obtain ⟨Y,hY⟩:∃Y,W * rate=Y:=⟨_,rfl⟩
 rw [hX] at a1 a2 ⊢
 rw [hY] at a3 a4 ⊢
 obtain ⟨m,hm⟩:∃m,X+rest=m:=⟨_,rfl⟩
 obtain ⟨q,hq⟩:∃q,m / 1000000000=q:=⟨_,rfl⟩
 obtain ⟨t,ht⟩:∃t,q * 1000000000=t:=⟨_,rfl⟩
 rw [hm,hq,ht]
 have hqq:qres false m 1 1000000000=(q,0):=by
  have h9:quo false m 1 1000000000=q:=by
   show m * 1 / 1000000000=q
   rw [Int.mul_one]; exact hq
  have:=qres_ok (up:=false) (a:=m) (b:=1) (c:=1000000000) (by omega) (by rw [h9]; omega) (by rw [h9]; omega)
  rw [h9] at this
  exact this
 have HM:=Lib.hid (fun w=>muldiv_any m 1 1000000000 w (by unfold I64; omega) (by unfold I64; omega) (by unfold I64; omega))
 rw [hqq] at HM
 have e1:=(wrapI X X (by omega)).1
 have e2:=(wrapI (X+rest) m (by omega)).1
 have e4:=(wrapI Y Y (by omega)).1
 have e5:=(wrapI (d+Y) (d+Y) (by omega)).1
 have e6:=(wrapI (d+Y+q) (d+Y+q) (by omega)).1
 have e7:=(wrapI (m - t) (m - t) (by omega)).1
 have e8: -1000000≤q∧q≤1000000:=by omega
 obtain ⟨e8,e9⟩:=e8
 have e10: -1000000000000000≤t∧t≤1000000000000000:=by omega
 obtain ⟨e10,e11⟩:=e10
 clear hm hq hqq
 obtain ⟨hPb1,hPb2⟩:=hPb
 obtain ⟨hWb1,hWb2⟩:=hWb
 go_enter Tryz.func133,Tryz.ntmps133
 go_wp2_with (fail)
 go_quiet (fail)
 have hbQ:(w.drewN nq).heap[b]? =_:=hb
 have hF:Fr [] w (w.drewN nq):=(Fr.refl _ _).drewN _
 generalize w.drewN nq=w1 at *
 go_wp2_with (fail)
 refine (HM.out _).mono ?_
 rintro e w2 ⟨rfl,hf2⟩
 have hb2:=hf2.heap hbQ (by simp)
 have hF2:=hF.then0 hf2
 go_wp2_with (fail)
 go_ret2
 exact ⟨rfl,hF2⟩
end Go.Proofs.YtdohkfgflpdkcaaGreatDoor
namespace Go.Proofs.YtdohkfgflpdkcaaGreatDoor
open Go.RowKit
variable {τ:TypeId}
attribute [local go_sem 10] cellOf frozenOf
attribute [local go_sem] heap_drew heap_drewN
structure Went (raw mono rate rest d:Int) (full:Bool) (raw' mono' rest':Int) (full':Bool):Prop where
 mon:Mon raw' mono' rate rest'
 up:mono≤mono'
 rawup:raw≤raw'
 keep:full'=false→full=false∧mono'=mono+monN d rate rest∧raw'=raw+d∧rest'=monR d rate rest
def GoPost (τ:TypeId) (b:Nat) (raw mono rate rest d:Int) (full:Bool) (w:World) (e:Ending) (w':World):Prop:=
 (∃x y,e= .returned (.tuple #[.int .i64 x,.int .i64 y]))∧∃raw' mono' rest' full',Went raw mono rate rest d full raw' mono' rest' full'∧w'.heap[b]? =some (mon τ raw' mono' rate rest' full')∧Fr [b] w w'
theorem Fr.after3 {b:Nat} {a w:World} (h:Fr [b] a w) (n i j k:Nat) (x y z:Value):Fr [b] a ((((w.drewN n).setCell ⟨b,i,none⟩ x).setCell ⟨b,j,none⟩ y).setCell ⟨b,k,none⟩ z):=
 (((h.drewN n).setCell (.inl (by simp)) x).setCell (.inl (by simp)) y).setCell (.inl (by simp)) z
set_option maxHeartbeats 2000000 in
theorem monogo_any (b:Nat) (raw mono rate rest d:Int) (full:Bool) (w:World) (hb:w.heap[b]? =some (mon τ raw mono rate rest full)) (h:Mon raw mono rate rest) (h0:1≤d) (h1:d≤1125899906842624):
 Calls Tryz.prog 58 #[.pointer (some ⟨b,0,none⟩),.int .i64 d] w (GoPost τ b raw mono rate rest d full w):=by
 cases full
 ·obtain ⟨n0,n1,n2⟩:=monN_b h0 h.s0 h.s1 h.o0 h.o1
  have hn:=monR_b d rate rest
  have HF:=Lib.hid (fun w hb=>further_any (τ:=τ) b raw mono rate rest d false w hb h (by omega) h1)
  have HW:=Lib.hid (fun (raw' mono' rest':Int) (full':Bool) (a:Mon raw' mono' rate rest') (c:mono≤mono') (r:raw≤raw') (k:full'=false→false=false∧mono'=mono+monN d rate rest∧raw'=raw+d∧rest'=monR d rate rest)=>(⟨a,c,r,k⟩:Went raw mono rate rest d false raw' mono' rest' full'))
  generalize monN d rate rest=n at *
  generalize monR d rate rest=r at *
  obtain ⟨r0,r1,m0,m1,s0,s1,o0,o1⟩:=h
  have t1:¬d < 0:=by omega
  have t2:¬1125899906842624 < d:=by omega
  obtain ⟨hn1,hn2⟩:=hn
  have e1:=(wrapI (mono+n) (mono+n) (by omega)).1
  have e2:=(wrapI (raw+d) (raw+d) (by omega)).1
  by_cases hov:4611686018427387904 - mono < n∨4611686018427387904 - raw < d
  ·go_enter Tryz.func58,Tryz.ntmps58
   go_wp2_with (fail)
   refine (mononone_any b raw mono rate rest false _ hb).mono ?_
   rintro e w1 ⟨rfl,rfl⟩
   go_wp2_with (fail)
   refine (HF.out _ hb).mono ?_
   rintro e w2 ⟨rfl,hf⟩
   have hb2:=hf.heap hb (by simp)
   have hF:Fr [b] w w2:=hf.mono (fun x hx=>by cases hx)
   clear hf hb
   by_cases hov1:4611686018427387904 - mono < n
   ·clear hov
    go_wp2_with (fail)
    go_big_region
    go_wp2_with (fail)
    go_ret2
    exact ⟨⟨_,_,rfl⟩,min (raw+d) 4611686018427387904,min (mono+n) 4611686018427387904,rest,true,HW.out _ _ _ _ ⟨by omega,by omega,by omega,by omega,s0,s1,o0,o1⟩ (by omega) (by omega) (fun h=>by cases h),(heap_set (heap_set (heap_set hb2 _) _) _).trans (by simp),hF.after3 _ _ _ _ _ _ _⟩
   ·have q4:4611686018427387904 - raw < d:=by omega
    clear hov
    go_wp2_with (fail)
    go_big_region
    go_wp2_with (fail)
    go_ret2
    exact ⟨⟨_,_,rfl⟩,min (raw+d) 4611686018427387904,min (mono+n) 4611686018427387904,rest,true,HW.out _ _ _ _ ⟨by omega,by omega,by omega,by omega,s0,s1,o0,o1⟩ (by omega) (by omega) (fun h=>by cases h),(heap_set (heap_set (heap_set hb2 _) _) _).trans (by simp),hF.after3 _ _ _ _ _ _ _⟩
  ·have q1:¬4611686018427387904 - mono < n:=by omega
   have q2:¬4611686018427387904 - raw < d:=by omega
   go_enter Tryz.func58,Tryz.ntmps58
   go_wp2_with (fail)
   refine (mononone_any b raw mono rate rest false _ hb).mono ?_
   rintro e w1 ⟨rfl,rfl⟩
   go_wp2_with (fail)
   refine (HF.out _ hb).mono ?_
   rintro e w2 ⟨rfl,hf⟩
   have hb2:=hf.heap hb (by simp)
   have hF:Fr [b] w w2:=hf.mono (fun x hx=>by cases hx)
   clear hf hb hov
   go_wp2_with (fail)
   go_big_region
   go_wp2_with (fail)
   go_ret2
   exact ⟨⟨_,_,rfl⟩,raw+d,mono+n,r,false,HW.out _ _ _ _ ⟨by omega,by omega,by omega,by omega,s0,s1,hn1,hn2⟩ (by omega) (by omega) (fun _=>⟨trivial,rfl,rfl,rfl⟩),(heap_set (heap_set (heap_set hb2 _) _) _).trans (by simp),hF.after3 _ _ _ _ _ _ _⟩
 ·have t1:¬d < 0:=by omega
  have t2:¬1125899906842624 < d:=by omega
  have HW:=Lib.hid (⟨h,by omega,by omega,fun h=>by cases h⟩:Went raw mono rate rest d true raw mono rest true)
  clear h
  go_enter Tryz.func58,Tryz.ntmps58
  go_wp2_with (fail)
  refine (mononone_any b raw mono rate rest true _ hb).mono ?_
  rintro e w1 ⟨rfl,rfl⟩
  go_wp2_with (fail)
  go_ret2
  exact ⟨⟨_,_,rfl⟩,raw,mono,rest,true,HW.out,hb,Fr.refl _ _⟩
end Go.Proofs.YtdohkfgflpdkcaaGreatDoor
namespace Go.Proofs.YtdohkfgflpdkcaaGreatDoor
open Go.RowKit
variable {τ:TypeId}
attribute [local go_sem 10] cellOf frozenOf
attribute [local go_sem] heap_drew heap_drewN
abbrev cnt (τ:TypeId) (mask last total:Nat) (full:Bool):Obj:=.cells #[.int .u64 (mask:Int),.int .u64 (last:Int),.int .u64 (total:Int),.bool full,.bool true] τ (0,0)
theorem cntnone_any (b mask last total:Nat) (full:Bool) (w:World) (hb:w.heap[b]? =some (cnt τ mask last total full)):
 Calls Tryz.prog 126 #[.pointer (some ⟨b,0,none⟩)] w fun e w'=>e= .returned (.bool false)∧w=w':=by
 go_enter Tryz.func126,Tryz.ntmps126
 go_wp2
 go_ret
 exact ⟨rfl,rfl⟩
section read
variable (P R Y C:Nat) (mask last total r y:Nat) (full:Bool) (w:World)
theorem rd1_any (hP:w.heap[P]? =some (.cells #[.pointer (some ⟨C,0,none⟩)] 114 (0,0))) (hC:w.heap[C]? =some (cnt τ mask last total full)):
 Calls Tryz.prog 125 #[.pointer (some ⟨P,0,none⟩)] w fun e w'=>e= .returned (.tuple #[.bool false,.int .i64 2])∧Fr [] w w':=by
 go_enter Tryz.func125,Tryz.ntmps125
 go_wp2_with (fail)
 refine (cntnone_any C mask last total full _ hC).mono ?_
 rintro e w1 ⟨rfl,rfl⟩
 go_wp2_with (fail)
 go_ret2
 exact ⟨rfl,Fr.refl _ _⟩
theorem rd2_any (hP:w.heap[P]? =some (.cells #[.pointer (some ⟨C,0,none⟩)] 114 (0,0))) (hR:w.heap[R]? =some (.cells #[.int .u64 (r:Int)] 22 (0,0))) (hC:w.heap[C]? =some (cnt τ mask last total full)):
 Calls Tryz.prog 127 #[.pointer (some ⟨R,0,none⟩),.pointer (some ⟨P,0,none⟩)] w fun e w'=>e= .returned (.tuple #[.bool (decide (mask < r)),.int .i64 1])∧Fr [] w w':=by
 go_enter Tryz.func127,Tryz.ntmps127
 go_wp2_with (fail)
 go_quiet (fail)
 go_wp2_with (fail)
 go_ret2
 exact ⟨rfl,(Fr.refl _ _).drewN _⟩
theorem rd3_any (hP:w.heap[P]? =some (.cells #[.pointer (some ⟨C,0,none⟩)] 114 (0,0))) (hC:w.heap[C]? =some (cnt τ mask last total full)):
 Calls Tryz.prog 128 #[.pointer (some ⟨P,0,none⟩)] w fun e w'=>e= .returned (.tuple #[.bool full,.int .i64 7])∧Fr [] w w':=by
 go_enter Tryz.func128,Tryz.ntmps128
 go_wp2_with (fail)
 try go_quiet (fail)
 go_wp2_with (fail)
 go_ret2
 exact ⟨rfl,by first |exact Fr.refl _ _ |exact (Fr.refl _ _).drewN _⟩
end read
end Go.Proofs.YtdohkfgflpdkcaaGreatDoor
namespace Go.Proofs.YtdohkfgflpdkcaaGreatDoor
open Go.RowKit
variable {τ:TypeId}
attribute [local go_sem 10] cellOf frozenOf
attribute [local go_sem] heap_drew heap_drewN
abbrev cell1 (v:Value) (t:TypeId):Obj:=.cells #[v] t (0,0)
section read
variable (P R Y C:Nat) (mask last total r y:Nat) (w:World)
theorem rd4_ok (hP:w.heap[P]? =some (cell1 (.pointer (some ⟨C,0,none⟩)) 114)) (hR:w.heap[R]? =some (cell1 (.int .u64 (r:Int)) 22)) (hY:w.heap[Y]? =some (cell1 (.int .u64 0) 22)) (hC:w.heap[C]? =some (cnt τ mask last total false))
 (hPY:P≠Y) (hCY:C≠Y) (hy:bits BinOp.and IntKind.u64 (IntKind.u64.wrap ((r:Int) - (last:Int))) (mask:Int)=(y:Int)) (ht:total≤9223372036854775807) (hle:y≤9223372036854775807 - total):
 Calls Tryz.prog 129 #[.pointer (some ⟨R,0,none⟩),.pointer (some ⟨P,0,none⟩),.pointer (some ⟨Y,0,none⟩)] w fun e w'=>e= .returned (.tuple #[.bool false,.int .i64 0])∧w'.heap[Y]? =some (cell1 (.int .u64 (y:Int)) 22)∧Fr [Y] w w':=by
 have t1:(y:Int)≤9223372036854775807 - (total:Int):=by omega
 have t2:IntKind.u64.wrap (9223372036854775807 - (total:Int))=9223372036854775807 - (total:Int):=by rw [IntKind.wrap_u64]; omega
 go_enter Tryz.func129,Tryz.ntmps129
 go_wp2_with (fail)
 go_big_region
 have hP1:(w.setCell ⟨Y,0,none⟩ (.int .u64 (y:Int))).drew.heap[P]? =_:=heap_set_ne hP hPY (.int .u64 (y:Int)) (o:=0)
 have hC1:(w.setCell ⟨Y,0,none⟩ (.int .u64 (y:Int))).drew.heap[C]? =_:=heap_set_ne hC hCY (.int .u64 (y:Int)) (o:=0)
 have hY1:(w.setCell ⟨Y,0,none⟩ (.int .u64 (y:Int))).drew.heap[Y]? =some (cell1 (.int .u64 (y:Int)) 22):=(heap_set (o:=0) hY (.int .u64 (y:Int))).trans (by simp)
 have hF:Fr [Y] w (w.setCell ⟨Y,0,none⟩ (.int .u64 (y:Int))).drew:=((Fr.refl _ _).setCell (.inl (by simp)) _).drew
 generalize (w.setCell ⟨Y,0,none⟩ (.int .u64 (y:Int))).drew=w1 at *
 clear hP hC hY hR
 go_wp2_with (fail)
 go_quiet (fail)
 have hP2:(w1.drewN nq).heap[P]? =_:=hP1
 have hC2:(w1.drewN nq).heap[C]? =_:=hC1
 have hY2:(w1.drewN nq).heap[Y]? =_:=hY1
 have hF2:=hF.drewN nq
 generalize w1.drewN nq=w2 at *
 go_wp2_with (fail)
 go_ret2
 exact ⟨rfl,hY2,hF2⟩
theorem rd4_full (hP:w.heap[P]? =some (cell1 (.pointer (some ⟨C,0,none⟩)) 114)) (hR:w.heap[R]? =some (cell1 (.int .u64 (r:Int)) 22)) (hY:w.heap[Y]? =some (cell1 (.int .u64 0) 22)) (hC:w.heap[C]? =some (cnt τ mask last total false))
 (hPY:P≠Y) (hCY:C≠Y) (hPC:P≠C) (hy:bits BinOp.and IntKind.u64 (IntKind.u64.wrap ((r:Int) - (last:Int))) (mask:Int)=(y:Int)) (ht:total≤9223372036854775807) (hle:¬y≤9223372036854775807 - total):
 Calls Tryz.prog 129 #[.pointer (some ⟨R,0,none⟩),.pointer (some ⟨P,0,none⟩),.pointer (some ⟨Y,0,none⟩)] w fun e w'=>e= .returned (.tuple #[.bool true,.int .i64 7])∧w'.heap[C]? =some (cnt τ mask last 9223372036854775807 true)∧Fr [Y,C] w w':=by
 have t1:¬(y:Int)≤9223372036854775807 - (total:Int):=by omega
 have t2:IntKind.u64.wrap (9223372036854775807 - (total:Int))=9223372036854775807 - (total:Int):=by rw [IntKind.wrap_u64]; omega
 go_enter Tryz.func129,Tryz.ntmps129
 go_wp2_with (fail)
 go_big_region
 have hP1:(w.setCell ⟨Y,0,none⟩ (.int .u64 (y:Int))).drew.heap[P]? =_:=heap_set_ne hP hPY (.int .u64 (y:Int)) (o:=0)
 have hC1:(w.setCell ⟨Y,0,none⟩ (.int .u64 (y:Int))).drew.heap[C]? =_:=heap_set_ne hC hCY (.int .u64 (y:Int)) (o:=0)
 have hY1:(w.setCell ⟨Y,0,none⟩ (.int .u64 (y:Int))).drew.heap[Y]? =some (cell1 (.int .u64 (y:Int)) 22):=(heap_set (o:=0) hY (.int .u64 (y:Int))).trans (by simp)
 have hF:Fr [Y,C] w (w.setCell ⟨Y,0,none⟩ (.int .u64 (y:Int))).drew:=((Fr.refl _ _).setCell (.inl (by simp)) _).drew
 generalize (w.setCell ⟨Y,0,none⟩ (.int .u64 (y:Int))).drew=w1 at *
 clear hP hC hY hR
 go_wp2_with (fail)
 go_quiet (fail)
 have hP2:(w1.drewN nq).heap[P]? =_:=hP1
 have hC2:(w1.drewN nq).heap[C]? =_:=hC1
 have hF2:=hF.drewN nq
 clear hY1
 generalize w1.drewN nq=w2 at *
 go_wp2_with (fail)
 go_big_region
 go_wp2_with (fail)
 go_ret2
 exact ⟨rfl,(heap_set (heap_set hC2 _) _).trans (by simp),((hF2.drewN _).setCell (.inl (by simp)) _).setCell (.inl (by simp)) _⟩
end read
end Go.Proofs.YtdohkfgflpdkcaaGreatDoor
namespace Go.Proofs.YtdohkfgflpdkcaaGreatDoor
open Go.RowKit
variable {τ:TypeId}
attribute [local go_sem 10] cellOf frozenOf
attribute [local go_sem] heap_drew heap_drewN
abbrev pv (b:Nat):Value:=.pointer (some ⟨b,0,none⟩)
abbrev asks4 (P R Y:Nat):Obj:=.cells #[.func (.func 125) #[] #[pv P],.func (.func 127) #[] #[pv R,pv P],.func (.func 128) #[] #[pv P],.func (.func 129) #[] #[pv R,pv P,pv Y]] 194 (0,0)
def RdPost (τ:TypeId) (C Y:Nat) (mask last total y:Nat) (full:Bool) (w:World) (e:Ending) (w':World):Prop:=
 (e= .returned (.int .i64 0)∧full=false∧y≤9223372036854775807 - total∧w'.heap[Y]? =some (cell1 (.int .u64 (y:Int)) 22)∧Fr [Y] w w')∨
 ((e= .returned (.int .i64 1)∨e= .returned (.int .i64 7))∧∃total' full',total'≤9223372036854775807∧w'.heap[C]? =some (cnt τ mask last total' full')∧Fr [Y,C] w w')
set_option maxHeartbeats 2000000 in
theorem first4_any (S P R Y C:Nat) (mask last total r y:Nat) (full:Bool) (w:World) (hS:w.heap[S]? =some (asks4 P R Y)) (hP:w.heap[P]? =some (cell1 (pv C) 114)) (hR:w.heap[R]? =some (cell1 (.int .u64 (r:Int)) 22)) (hY:w.heap[Y]? =some (cell1 (.int .u64 0) 22)) (hC:w.heap[C]? =some (cnt τ mask last total full))
 (hPY:P≠Y) (hCY:C≠Y) (hPC:P≠C) (hy:bits BinOp.and IntKind.u64 (IntKind.u64.wrap ((r:Int) - (last:Int))) (mask:Int)=(y:Int)) (ht:total≤9223372036854775807):
 Calls Tryz.prog 124 #[.slice (some ⟨S,0,none⟩) 4 4] w (RdPost τ C Y mask last total y full w):=by
 have HY:=Lib.hid hy
 clear hy
 go_enter Tryz.func124,Tryz.ntmps124
 go_wp2_with (fail)
 refine wp_loop_rounds 5 ?_
 rw [rounds_succ]
 go_wp2_with (fail)
 refine (rd1_any P C mask last total full _ hP hC).mono ?_
 rintro e w1 ⟨rfl,hf1⟩
 have hS1:=hf1.heap hS (by simp)
 have hP1:=hf1.heap hP (by simp)
 have hR1:=hf1.heap hR (by simp)
 have hY1:=hf1.heap hY (by simp)
 have hC1:=hf1.heap hC (by simp)
 have hF1:Fr [] w w1:=hf1
 clear hS hP hR hY hC hf1
 go_wp2_with (fail)
 rw [rounds_succ]
 go_wp2_with (fail)
 refine (rd2_any P R C mask last total r full _ hP1 hR1 hC1).mono ?_
 rintro e w2 ⟨rfl,hf2⟩
 have hS2:=hf2.heap hS1 (by simp)
 have hP2:=hf2.heap hP1 (by simp)
 have hR2:=hf2.heap hR1 (by simp)
 have hY2:=hf2.heap hY1 (by simp)
 have hC2:=hf2.heap hC1 (by simp)
 have hF2:=hF1.then0 hf2
 clear hS1 hP1 hR1 hY1 hC1 hF1 hf2
 by_cases hmr:mask < r
 ·have t1:decide (mask < r)=true:=by simpa using hmr
  go_wp2_with (fail)
  go_ret
  exact .inr ⟨.inl rfl,total,full,ht,hC2,hF2.mono (fun x hx=>by cases hx)⟩
 ·have t1:decide (mask < r)=false:=by simpa using hmr
  go_wp2_with (fail)
  rw [rounds_succ]
  go_wp2_with (fail)
  refine (rd3_any P C mask last total full _ hP2 hC2).mono ?_
  rintro e w3 ⟨rfl,hf3⟩
  have hS3:=hf3.heap hS2 (by simp)
  have hP3:=hf3.heap hP2 (by simp)
  have hR3:=hf3.heap hR2 (by simp)
  have hY3:=hf3.heap hY2 (by simp)
  have hC3:=hf3.heap hC2 (by simp)
  have hF3:=hF2.then0 hf3
  clear hS2 hP2 hR2 hY2 hC2 hF2 hf3
  cases full
  ·go_wp2_with (fail)
   rw [rounds_succ]
   go_wp2_with (fail)
   by_cases hle:y≤9223372036854775807 - total
   ·refine (rd4_ok P R Y C mask last total r y _ hP3 hR3 hY3 hC3 hPY hCY HY.out ht hle).mono ?_
    rintro e w4 ⟨rfl,hY4,hf4⟩
    have hSY:S≠Y:=by
     rintro rfl
     rw [hS3] at hY3
     simp at hY3
    have hS4:=hf4.heap hS3 (by simpa using hSY)
    have hF4:=(hF3.mono (T:=[Y]) (fun x hx=>by cases hx)).trans hf4 (fun _ _ h=>h) (fun _ _ h=>h)
    go_wp2_with (fail)
    rw [rounds_succ]
    go_wp2_with (fail)
    go_ret
    exact .inl ⟨rfl,rfl,hle,hY4,hF4⟩
   ·refine (rd4_full P R Y C mask last total r y _ hP3 hR3 hY3 hC3 hPY hCY hPC HY.out ht hle).mono ?_
    rintro e w4 ⟨rfl,hC4,hf4⟩
    have hF4:=(hF3.mono (T:=[Y,C]) (fun x hx=>by cases hx)).trans hf4 (fun _ _ h=>h) (fun _ _ h=>h)
    go_wp2_with (fail)
    go_ret
    exact .inr ⟨.inr rfl,_,_,by omega,hC4,hF4⟩
  ·go_wp2_with (fail)
   go_ret
   exact .inr ⟨.inr rfl,total,true,ht,hC3,hF3.mono (fun x hx=>by cases hx)⟩
def ReadPost (τ:TypeId) (C:Nat) (mask last total r y:Nat) (full:Bool) (w:World) (e:Ending) (w':World):Prop:=
 (e= .returned (.tuple #[.int .u64 (y:Int),.int .i64 0])∧full=false∧total+y≤9223372036854775807∧w'.heap[C]? =some (cnt τ mask r (total+y) false)∧Fr [C] w w')∨
 (∃k:Int,(k=1∨k=7)∧e= .returned (.tuple #[.int .u64 0,.int .i64 k])∧∃total' full',total'≤9223372036854775807∧w'.heap[C]? =some (cnt τ mask last total' full')∧Fr [C] w w')
theorem Fr.drop1 {w W w':World} {C:Nat} {Y:Nat} (h:Fr [] w W) (hY:w.heap.size≤Y) (k:Fr [Y,C] W w'):Fr [C] w w':=
 h.trans k (fun _ _ h=>by cases h) (fun x hx hm=>by simp at hm; rcases hm with rfl |rfl; omega; simp)
set_option maxHeartbeats 2000000 in
theorem cntread_any (C:Nat) (mask last total r y:Nat) (full:Bool) (w:World) (hC:w.heap[C]? =some (cnt τ mask last total full))
 (hy:bits BinOp.and IntKind.u64 (IntKind.u64.wrap ((r:Int) - (last:Int))) (mask:Int)=(y:Int)) (ht:total≤9223372036854775807):
 Calls Tryz.prog 56 #[pv C,.int .u64 r] w (ReadPost τ C mask last total r y full w):=by
 have hCl:=lt_of_block hC
 have h0:=heap_alloc_new w (cell1 (pv C) 114)
 have h1:=heap_alloc_old (cell1 (.int .u64 (r:Int)) 22) h0
 have h2:=heap_alloc_old (cell1 (.int .u64 0) 22) h1
 have hP:=heap_alloc_old (asks4 w.heap.size (w.heap.size+1) (w.heap.size+1+1)) h2
 have g1:=heap_alloc_new (w.alloc (cell1 (pv C) 114)) (cell1 (.int .u64 (r:Int)) 22)
 rw [World.size_alloc] at g1
 have g2:=heap_alloc_old (cell1 (.int .u64 0) 22) g1
 have hR:=heap_alloc_old (asks4 w.heap.size (w.heap.size+1) (w.heap.size+1+1)) g2
 have k1:=heap_alloc_new ((w.alloc (cell1 (pv C) 114)).alloc (cell1 (.int .u64 (r:Int)) 22)) (cell1 (.int .u64 0) 22)
 rw [World.size_alloc,World.size_alloc] at k1
 have hY:=heap_alloc_old (asks4 w.heap.size (w.heap.size+1) (w.heap.size+1+1)) k1
 have hS:=heap_alloc_new (((w.alloc (cell1 (pv C) 114)).alloc (cell1 (.int .u64 (r:Int)) 22)).alloc (cell1 (.int .u64 0) 22)) (asks4 w.heap.size (w.heap.size+1) (w.heap.size+1+1))
 rw [World.size_alloc,World.size_alloc,World.size_alloc] at hS
 have hF:Fr [] w _:=((((Fr.refl [] w).alloc (cell1 (pv C) 114)).alloc (cell1 (.int .u64 (r:Int)) 22)).alloc (cell1 (.int .u64 0) 22)).alloc (asks4 w.heap.size (w.heap.size+1) (w.heap.size+1+1))
 have hCW:=hF.heap hC (by simp)
 generalize hWW:(((w.alloc (cell1 (pv C) 114)).alloc (cell1 (.int .u64 (r:Int)) 22)).alloc (cell1 (.int .u64 0) 22)).alloc (asks4 w.heap.size (w.heap.size+1) (w.heap.size+1+1))=W at *
 clear h0 h1 h2 g1 g2 k1
 have HX:=Lib.hid (first4_any (w.heap.size+1+1+1) w.heap.size (w.heap.size+1) (w.heap.size+1+1) C mask last total r y full W hS hP hR hY hCW (by omega) (by omega) (by omega) hy ht)
 clear hy
 go_enter Tryz.func56,Tryz.ntmps56
 go_wp2_with (fail)
 refine HX.out.mono ?_
 rintro e w1 (⟨rfl,rfl,hle,hY1,hf1⟩ |⟨he,total',full',ht',hC1,hf1⟩)
 ·have hC1:=hf1.heap hCW (fun h=>by simp at h; omega)
  have hP1:=hf1.heap hP (by simp <;> omega)
  have hR1:=hf1.heap hR (by simp <;> omega)
  have hF1:Fr [C] w w1:=hF.drop1 (show w.heap.size≤w.heap.size+1+1 by omega) (hf1.mono (by simp))
  clear hS hP hR hY hCW hWW hf1 hC
  obtain ⟨T,hT⟩:∃T,total+y=T:=⟨_,rfl⟩
  have e0:(total:Int)+(y:Int)=(T:Int):=by omega
  have e1:IntKind.u64.wrap (T:Int)=(T:Int):=by rw [IntKind.wrap_u64]; omega
  have hTb:T≤9223372036854775807:=by omega
  have HT:=Lib.hid hT
  clear hT
  go_wp2_with (fail)
  go_big_region
  have hP2:(w1.setCell ⟨C,2,none⟩ (.int .u64 (T:Int))).drew.heap[w.heap.size]? =_:=heap_set_ne hP1 (by omega) (.int .u64 (T:Int)) (o:=2)
  have hR2:(w1.setCell ⟨C,2,none⟩ (.int .u64 (T:Int))).drew.heap[w.heap.size+1]? =_:=heap_set_ne hR1 (by omega) (.int .u64 (T:Int)) (o:=2)
  have hY2:(w1.setCell ⟨C,2,none⟩ (.int .u64 (T:Int))).drew.heap[w.heap.size+1+1]? =_:=heap_set_ne hY1 (by omega) (.int .u64 (T:Int)) (o:=2)
  have hC2:(w1.setCell ⟨C,2,none⟩ (.int .u64 (T:Int))).drew.heap[C]? =some (.cells #[.int .u64 (mask:Int),.int .u64 (last:Int),.int .u64 (T:Int),.bool false,.bool true] τ (0,0)):=(heap_set (o:=2) hC1 (.int .u64 (T:Int))).trans (by simp)
  have hF2:Fr [C] w (w1.setCell ⟨C,2,none⟩ (.int .u64 (T:Int))).drew:=(hF1.setCell (.inl (by simp)) _).drew
  generalize (w1.setCell ⟨C,2,none⟩ (.int .u64 (T:Int))).drew=w2 at *
  clear hP1 hR1 hY1 hC1 hF1
  have n1:¬(C=w.heap.size+1+1):=by omega
  have n2:¬(w.heap.size+1+1=C):=by omega
  go_wp2_with (fail)
  go_ret2
  exact .inl ⟨rfl,rfl,by rw [HT.out]; exact hTb,by rw [HT.out]; exact (heap_set (o:=1) hC2 _).trans (by simp),hF2.setCell (.inl (by simp)) _⟩
 ·have hF1:Fr [C] w w1:=hF.drop1 (show w.heap.size≤w.heap.size+1+1 by omega) hf1
  clear hS hP hR hY hCW hWW hf1 hC hF HX
  rcases he with rfl |rfl
  ·go_wp2_with (fail)
   go_ret2
   exact .inr ⟨1,.inl rfl,rfl,total',full',ht',hC1,hF1⟩
  ·go_wp2_with (fail)
   go_ret2
   exact .inr ⟨7,.inr rfl,rfl,total',full',ht',hC1,hF1⟩
end Go.Proofs.YtdohkfgflpdkcaaGreatDoor
