/-
  PROVED HERE: a part of the proof of DaemonForward (texts V1, V2 of the prover, joined). No condition of its own.
-/
import Derived.Test.YtdohkfgflpdkcaaGreatDoorDA
import Derived.Deep.MidRow
import Derived.Deep.WholeRow
set_option linter.unusedVariables false
set_option linter.unusedSimpArgs false
namespace Go.Proofs.YtdohkfgflpdkcaaGreatDoor
open Go.RowKit
attribute [local go_sem 10] cellOf frozenOf
attribute [local go_sem] heap_drew heap_drewN
abbrev pq (b:Nat):Value:=.pointer (some ⟨b,0,none⟩)
abbrev lblk (τ:TypeId) (D:Nat) (r:Nat→Value) (A:Option Addr) (ln cap:Nat) (rd:Nat):Obj:=.cells #[pq D,r 1,r 2,r 3,r 4,r 5,r 6,r 7,r 8,.slice A ln cap,r 10,r 11,r 12,.int .u64 (rd:Int),r 14,r 15,r 16,r 17,r 18] τ (0,0)
structure LawS (W0:World) (D R:Nat) (S:World→Nat→Int→Bool→Prop) (A:List Value→Prop):Prop where
 fr:∀{w w' t m f},S w t m f→Fr [] w w'→S w' t m f
 base:∀{w t m f},S w t m f→Fr [] W0 w
 blk:∀{w t m f},S w t m f→∃τ r B ln cap rd,w.heap[R]? =some (lblk τ D r B ln cap rd)∧rd < 18446744073709551616
 store:∀{w t m f} {rd:Nat},S w t m f→rd < 18446744073709551616→S (w.setCell ⟨R,13,none⟩ (.int .u64 (rd:Int))) t m f
 bnd:∀{w t m f},S w t m f→0≤m∧m≤4611686018427387904∧t≤4611686018427387904
 mono:∀{w t m f},S w t m f→Calls Tryz.prog 26 #[pq D] w fun e w'=>e= .returned (.int .i64 m)∧w=w'
 raw:∀{w t m f},S w t m f→Calls Tryz.prog 27 #[pq D] w fun e w'=>e= .returned (.int .i64 t)∧Fr [] w w'
 bound:∀{w t m f},S w t m f→Calls Tryz.prog 23 #[pq D] w fun e w'=>(∃x,e= .returned (.int .i64 x)∧0≤x)∧Fr [] w w'
 stat:∀{w t m f},S w t m f→Calls Tryz.prog 29 #[pq D] w fun e w'=>(∃v0 v1 v2 v3 s v5,e= .returned (.agg #[v0,v1,v2,v3,.bool s,v5])∧(f=true→s=true))∧Fr [] w w'
 read:∀{w t m f} {r:Nat},S w t m f→r < 18446744073709551616→Calls Tryz.prog 10 #[pq D,.int .u64 (r:Int)] w fun e w'=>∃v kk t' m' f',e= .returned (.tuple #[v,.int .i64 kk])∧S w' t' m' f'∧t≤t'∧m≤m'∧(kk≠0→t'=t∧m'=m)∧(f'=false→((t':Int) - t) - ((t':Int) - t).tdiv 2000 - 2 * (((t':Int) - t).tdiv 1125899906842624+1)≤m' - m∧m' - m≤((t':Int) - t)+((t':Int) - t).tdiv 2000+2 * (((t':Int) - t).tdiv 1125899906842624+1))
 other:∀{w t m f cs},S w t m f→A cs→Calls Tryz.prog 28 #[pq R,.agg ⟨cs⟩] w fun e w'=>e= .returned (.tuple #[])∧∃f',S w' t m f'
structure ActC (A:List Value→Prop) (what:Int) (nn:Nat) (cs:List Value):Prop where
 n:cs.length=25
 c0:cs[0]? =some (.int .i64 what)
 c3:cs[3]? =some (.int .u64 (nn:Int))
 nn:nn < 18446744073709551616
 one:cs.all (·.oneCell')=true
 ok:A cs
theorem Fr.setCells {S} {a w:World} (h:Fr S a w) {b:Nat} (hb:b∈S∨a.heap.size≤b):∀(vs:List Value) (o:Nat) (w:World),Fr S a w→Fr S a (w.setCells b o vs)
 |[],_,w,h=>h
 |v::r,o,w,h=>Fr.setCells h hb r (o+1) _ (h.setCell (p:=⟨b,o,none⟩) hb v)
abbrev confV (C:Nat→Value):Value:=.agg #[C 0,C 1,C 2,C 3,C 4,C 5,C 6,C 7,C 8,C 9,C 10,C 11]
theorem there_new (w:World) (c:Array Value) (t:TypeId) (n:Nat) (h:c.size=n):(w.alloc (.cells c t)).there w.heap.size 0 n:=fun j hj=>by
 have e:=heap_alloc_new w (.cells c t)
 rw [cellOf e,frozenOf e]
 simp
 omega
theorem wp_world {c:Code} {Q:Exit→Act→World→Prop} {a:Act} {w:World} (Φ:World→Prop) (h:Φ w) (k:∀W,Φ W→Code.wp Tryz.prog c Q a W):Code.wp Tryz.prog c Q a w:=k w h
theorem act_new {A:List Value→Prop} {what:Int} {nn:Nat} {cs:List Value} (h:ActC A what nn cs) (w:World) (Z:Array Value) (hZ:Z.size=25):Fr [] w ((w.alloc (.cells Z 50)).setCells w.heap.size 0 cs)∧((w.alloc (.cells Z 50)).setCells w.heap.size 0 cs).rangeAt w.heap.size 0 cs:=by
 have f:=(Fr.refl [] w).alloc (.cells Z 50)
 exact ⟨Fr.setCells (Fr.refl [] w) (.inr (Nat.le_refl _)) cs 0 _ f,World.rangeAt_setCells_same _ _ _ _ (there_new w Z 50 _ (hZ.trans h.n.symm))⟩
theorem rangeAt_fr {w w':World} (f:Fr [] w w') {b o:Nat} {cs:List Value} (hb:b < w.heap.size) (h:w.rangeAt b o cs):w'.rangeAt b o cs:=fun j v hv=>by
 rw [f.cell hb (by simp)]
 exact h j v hv
def headId:Code→Nat
 |.region i _ _=>i
 |.seq a _=>headId a
 |.block _ c=>headId c
 |.loop c=>headId c
 |_=>0
def tailOf (n:Nat):Code→Option Code
 |.seq a b=>match Nat.beq (headId a) n with
  |true=>some (.seq a b)
  |false=>match tailOf n a with
   |some c=>some c
   |none=>tailOf n b
 |.block _ c=>tailOf n c
 |.loop c=>tailOf n c
 |.scope c=>tailOf n c
 |.cond _ a b=>match tailOf n a with
  |some c=>some c
  |none=>tailOf n b
 |_=>none
def seqL:Code→Code
 |.seq a _=>a
 |c=>c
def seqR:Code→Code
 |.seq _ b=>b
 |c=>c
def QX (N:Act→World→Prop) (X:Nat→Act→World→Prop):Exit→Act→World→Prop
 |.normal,a,w=>N a w
 |.exit i,a,w=>X i a w
 |_,_,_=>False
theorem QX.to {c:Code} {a:Act} {w:World} {N:Act→World→Prop} {X:Nat→Act→World→Prop} {Q:Exit→Act→World→Prop} (hN:∀a w,N a w→Q .normal a w) (hX:∀i a w,X i a w→Q (.exit i) a w) (h:Code.wp Tryz.prog c (QX N X) a w):Code.wp Tryz.prog c Q a w:=
 Code.wp_mono (fun e a w h=>by
  cases e with
  |normal=>exact hN a w h
  |exit i=>exact hX i a w h
  |_=>exact h.elim) h
noncomputable def code4:Code:=(Tryz.f4.body).getD .skip
noncomputable def reg9:Code:=seqL ((tailOf 9 code4).getD .skip)
noncomputable def head10:Code:=seqL ((tailOf 10 code4).getD .skip)
noncomputable def tail14:Code:=(tailOf 14 code4).getD .skip
noncomputable def reg14:Code:=seqL tail14
noncomputable def tail15:Code:=seqR tail14
noncomputable def reg15:Code:=seqL tail15
noncomputable def tail16:Code:=seqR tail15
noncomputable def reg16:Code:=seqL tail16
noncomputable def tail17:Code:=seqR tail16
noncomputable def reg17:Code:=seqL tail17
noncomputable def tail18:Code:=seqR tail17
noncomputable def part18:Code:=seqL tail18
noncomputable def tail20:Code:=seqR tail18
theorem QX.seq {x y:Code} {a:Act} {w:World} {N:Act→World→Prop} {X:Nat→Act→World→Prop} (h:Code.wp Tryz.prog x (QX (fun a w=>Code.wp Tryz.prog y (QX N X) a w) X) a w):Code.wp Tryz.prog (Code.seq x y) (QX N X) a w:=
 wp_seq (QX.to (fun _ _ h=>h) (fun _ _ _ h=>h) h)
theorem tail14_eq:tail14=Code.seq reg14 tail15:=by kernel_rfl
theorem tail15_eq:tail15=Code.seq reg15 tail16:=by kernel_rfl
theorem tail16_eq:tail16=Code.seq reg16 tail17:=by kernel_rfl
theorem tail17_eq:tail17=Code.seq reg17 tail18:=by kernel_rfl
theorem tail18_eq:tail18=Code.seq part18 tail20:=by kernel_rfl
end Go.Proofs.YtdohkfgflpdkcaaGreatDoor
namespace Go.Proofs.YtdohkfgflpdkcaaGreatDoor
open Go.RowKit
attribute [local go_sem 10] cellOf frozenOf
attribute [local go_sem] heap_drew heap_drewN
set_option maxHeartbeats 8000000
set_option maxRecDepth 20000
variable {W0:World} {D R:Nat} {S:World→Nat→Int→Bool→Prop} {A:List Value→Prop}
theorem reg9_ok (L:LawS W0 D R S A) {w:World} {t:Nat} {m:Int} {f:Bool} (inv:S w t m f) {u0 u1 u2 u3 u4 u5 u6 u8 u9 u10 u11 u12 u13 u14 u15 u16 u17 u18 u19 u20 u21 u22 u23 u24 u25 u26 u27 u28 u29 u30 u31 u32 u33 u34 u35 u36 u37 u38 u39 u40 u41 u42 u43 u44 u45 u46 u47 u48 u49 u50 u51 u52 u53 u54 u55 u56 u57 u58 u59 u60 u61 u62 u63 u64 u65 u66 u67 u68 u69 u70 u71 u72 u73 u74 u75 u76 u77 u78 u79 u80 u81 u82 u83 u84 u85 u86 u87 u88 u89 u90 u91 u92 u93 u94 u95 u96 u97 u98 u99 u100 u101 u102 u103 u104 u105 u106 u107 u108 u109 u110 u111 u112 u113 u114 u115 u116 u117 u118 u119 u120 u121 u122 u123 u124 u125 u126 u127 u128 u129 u130 u131 u132 u133 u134 u135 u136 u137 u138 u139 u140 u141 u142 u143 u144 u145 u146 u147 u148 u149 u150 u151 u152 u153 u154 u155 u156 u157 u158 u159 u160 u161 u162 u163 u164 u165 u166 u167 u168 u169 u170 u171 u172 u173 u174 u175 u176 u177 u178 u179 u180 u181 u182:Value} {K:Act→World→Prop} {X:Nat→Act→World→Prop} (hQ:∀(v44 v45 v46 v47 v48 v49 v50 v51 v52 v53:Value) w',Fr [] w w'→K ⟨#[u0,u1,u2,u3,u4,u5,u6,pq R,u8,u9,u10,u11,.int .i64 m,.int .i64 (t:Int),u14,u15,u16,u17,u18,u19,u20,u21,u22,u23,u24,u25,u26,u27,u28,u29,u30,u31,u32,u33,u34,u35,u36,u37,u38,u39,u40,u41,u42,u43,v44,v45,v46,v47,v48,v49,v50,v51,v52,v53,u54,u55,u56,u57,u58,u59,u60,u61,u62,u63,u64,u65,u66,u67,u68,u69,u70,u71,u72,u73,u74,u75,u76,u77,u78,u79,u80,u81,u82,u83,u84,u85,u86,u87,u88,u89,u90,u91,u92,u93,u94,u95,u96,u97,u98,u99,u100,u101,u102,u103,u104,u105,u106,u107,u108,u109,u110,u111,u112,u113,u114,u115,u116,u117,u118,u119,u120,u121,u122,u123,u124,u125,u126,u127,u128,u129,u130,u131,u132,u133,u134,u135,u136,u137,u138,u139,u140,u141,u142,u143,u144,u145,u146,u147,u148,u149,u150,u151,u152,u153,u154,u155,u156,u157,u158,u159,u160,u161,u162,u163,u164,u165,u166,u167,u168,u169,u170,u171,u172,u173,u174,u175,u176,u177,u178,u179,u180,u181,u182],[]⟩ w'):Code.wp Tryz.prog reg9 (QX K X) ⟨#[u0,u1,u2,u3,u4,u5,u6,pq R,u8,u9,u10,u11,u12,u13,u14,u15,u16,u17,u18,u19,u20,u21,u22,u23,u24,u25,u26,u27,u28,u29,u30,u31,u32,u33,u34,u35,u36,u37,u38,u39,u40,u41,u42,u43,u44,u45,u46,u47,u48,u49,u50,u51,u52,u53,u54,u55,u56,u57,u58,u59,u60,u61,u62,u63,u64,u65,u66,u67,u68,u69,u70,u71,u72,u73,u74,u75,u76,u77,u78,u79,u80,u81,u82,u83,u84,u85,u86,u87,u88,u89,u90,u91,u92,u93,u94,u95,u96,u97,u98,u99,u100,u101,u102,u103,u104,u105,u106,u107,u108,u109,u110,u111,u112,u113,u114,u115,u116,u117,u118,u119,u120,u121,u122,u123,u124,u125,u126,u127,u128,u129,u130,u131,u132,u133,u134,u135,u136,u137,u138,u139,u140,u141,u142,u143,u144,u145,u146,u147,u148,u149,u150,u151,u152,u153,u154,u155,u156,u157,u158,u159,u160,u161,u162,u163,u164,u165,u166,u167,u168,u169,u170,u171,u172,u173,u174,u175,u176,u177,u178,u179,u180,u181,u182],[]⟩ w:=by
 obtain ⟨τ,r,B,ln,cp,rd,hR,hrd⟩:=L.blk inv
 conv=>arg 2; whnf
 have HL:=Lib.hid (And.intro L hQ)
 clear L hQ
 go_region_law (first
  |(go_simp; go_at_call 26; refine Calls.mono (HL.out.1.mono (HL.out.1.fr inv (by first |exact (Fr.refl [] w).drew |exact (Fr.refl [] w).drewN _ |exact Fr.refl [] w))) ?_; rintro e w' ⟨rfl,rfl⟩)
  |(go_simp; go_at_call 27; refine Calls.mono (HL.out.1.raw (HL.out.1.fr inv (by first |exact (Fr.refl [] w).drew |exact (Fr.refl [] w).drewN _ |exact Fr.refl [] w))) ?_; rintro e w5 ⟨rfl,hf5⟩))
 all_goals go_simp
 all_goals refine HL.out.2 _ _ _ _ _ _ _ _ _ _ _ ?_
 all_goals first |exact (Fr.refl [] w).drew.then0 hf5 |exact ((Fr.refl [] w).drewN _).then0 hf5 |exact hf5
theorem reg16_ok (L:LawS W0 D R S A) {w:World} {t:Nat} {m:Int} {f:Bool} (inv:S w t m f) (m0 t0 mm rr:Int) (e1:IntKind.i64.wrap (m - m0)=mm) (e2:IntKind.i64.wrap ((t:Int) - t0)=rr) {u0 u1 u2 u3 u4 u5 u6 u8 u9 u10 u11 u14 u15 u16 u17 u18 u19 u20 u21 u22 u23 u24 u25 u26 u27 u28 u29 u30 u31 u32 u33 u34 u35 u36 u37 u38 u39 u40 u41 u42 u43 u44 u45 u46 u47 u48 u49 u50 u51 u52 u53 u54 u55 u56 u57 u58 u59 u60 u61 u62 u63 u64 u65 u66 u67 u68 u69 u70 u71 u72 u73 u74 u75 u76 u77 u78 u79 u80 u81 u82 u83 u84 u85 u86 u87 u88 u89 u90 u91 u92 u93 u94 u95 u96 u97 u98 u99 u100 u101 u102 u103 u104 u105 u106 u107 u108 u109 u110 u111 u112 u113 u114 u115 u116 u117 u118 u119 u120 u121 u122 u123 u124 u125 u126 u127 u128 u129 u130 u131 u132 u133 u134 u135 u136 u137 u138 u139 u140 u141 u142 u143 u144 u145 u146 u147 u148 u149 u150 u151 u152 u153 u154 u155 u156 u157 u158 u159 u160 u161 u162 u163 u164 u165 u166 u167 u168 u169 u170 u171 u172 u173 u174 u175 u176 u177 u178 u179 u180 u181 u182:Value} {K:Act→World→Prop} {X:Nat→Act→World→Prop} (hQ:∀(v109 v110 v111 v112 v113 v114 v115 v116 v117 v118 v119 v120 v121 v122:Value) w',Fr [] w w'→K ⟨#[u0,u1,u2,u3,u4,u5,u6,pq R,u8,u9,u10,u11,.int .i64 m0,.int .i64 t0,u14,u15,.int .i64 mm,.int .i64 rr,u18,u19,u20,u21,u22,u23,u24,u25,u26,u27,u28,u29,u30,u31,u32,u33,u34,u35,u36,u37,u38,u39,u40,u41,u42,u43,u44,u45,u46,u47,u48,u49,u50,u51,u52,u53,u54,u55,u56,u57,u58,u59,u60,u61,u62,u63,u64,u65,u66,u67,u68,u69,u70,u71,u72,u73,u74,u75,u76,u77,u78,u79,u80,u81,u82,u83,u84,u85,u86,u87,u88,u89,u90,u91,u92,u93,u94,u95,u96,u97,u98,u99,u100,u101,u102,u103,u104,u105,u106,u107,u108,v109,v110,v111,v112,v113,v114,v115,v116,v117,v118,v119,v120,v121,v122,u123,u124,u125,u126,u127,u128,u129,u130,u131,u132,u133,u134,u135,u136,u137,u138,u139,u140,u141,u142,u143,u144,u145,u146,u147,u148,u149,u150,u151,u152,u153,u154,u155,u156,u157,u158,u159,u160,u161,u162,u163,u164,u165,u166,u167,u168,u169,u170,u171,u172,u173,u174,u175,u176,u177,u178,u179,u180,u181,u182],[]⟩ w'):Code.wp Tryz.prog reg16 (QX K X) ⟨#[u0,u1,u2,u3,u4,u5,u6,pq R,u8,u9,u10,u11,.int .i64 m0,.int .i64 t0,u14,u15,u16,u17,u18,u19,u20,u21,u22,u23,u24,u25,u26,u27,u28,u29,u30,u31,u32,u33,u34,u35,u36,u37,u38,u39,u40,u41,u42,u43,u44,u45,u46,u47,u48,u49,u50,u51,u52,u53,u54,u55,u56,u57,u58,u59,u60,u61,u62,u63,u64,u65,u66,u67,u68,u69,u70,u71,u72,u73,u74,u75,u76,u77,u78,u79,u80,u81,u82,u83,u84,u85,u86,u87,u88,u89,u90,u91,u92,u93,u94,u95,u96,u97,u98,u99,u100,u101,u102,u103,u104,u105,u106,u107,u108,u109,u110,u111,u112,u113,u114,u115,u116,u117,u118,u119,u120,u121,u122,u123,u124,u125,u126,u127,u128,u129,u130,u131,u132,u133,u134,u135,u136,u137,u138,u139,u140,u141,u142,u143,u144,u145,u146,u147,u148,u149,u150,u151,u152,u153,u154,u155,u156,u157,u158,u159,u160,u161,u162,u163,u164,u165,u166,u167,u168,u169,u170,u171,u172,u173,u174,u175,u176,u177,u178,u179,u180,u181,u182],[]⟩ w:=by
 obtain ⟨τ,r,B,ln,cp,rd,hR,hrd⟩:=L.blk inv
 conv=>arg 2; whnf
 have HL:=Lib.hid (And.intro L hQ)
 clear L hQ
 go_region_law (first
  |(go_simp; go_at_call 26; refine Calls.mono (HL.out.1.mono (HL.out.1.fr inv (by first |exact (Fr.refl [] w).drew |exact (Fr.refl [] w).drewN _ |exact Fr.refl [] w))) ?_; rintro e w' ⟨rfl,rfl⟩)
  |(go_simp; go_at_call 27; refine Calls.mono (HL.out.1.raw (HL.out.1.fr inv (by first |exact (Fr.refl [] w).drew |exact (Fr.refl [] w).drewN _ |exact Fr.refl [] w))) ?_; rintro e w5 ⟨rfl,hf5⟩))
 all_goals go_simp
 all_goals refine HL.out.2 _ _ _ _ _ _ _ _ _ _ _ _ _ _ _ ?_
 all_goals first |exact (Fr.refl [] w).drew.then0 hf5 |exact ((Fr.refl [] w).drewN _).then0 hf5 |exact hf5
theorem reg15_ok (L:LawS W0 D R S A) {w:World} {t:Nat} {m:Int} {f:Bool} (inv:S w t m f) {u0 u1 u2 u3 u4 u5 u6 u8 u9 u10 u11 u12 u13 u14 u15 u16 u17 u18 u19 u20 u21 u22 u23 u24 u25 u26 u27 u28 u29 u30 u31 u32 u33 u34 u35 u36 u37 u38 u39 u40 u41 u42 u43 u44 u45 u46 u47 u48 u49 u50 u51 u52 u53 u54 u55 u56 u57 u58 u59 u60 u61 u62 u63 u64 u65 u66 u67 u68 u69 u70 u71 u72 u73 u74 u75 u76 u77 u78 u79 u80 u81 u82 u83 u84 u85 u86 u87 u88 u89 u90 u91 u92 u93 u94 u95 u96 u97 u98 u99 u100 u101 u102 u103 u104 u105 u106 u107 u108 u109 u110 u111 u112 u113 u114 u115 u116 u117 u118 u119 u120 u121 u122 u123 u124 u125 u126 u127 u128 u129 u130 u131 u132 u133 u134 u135 u136 u137 u138 u139 u140 u141 u142 u143 u144 u145 u146 u147 u148 u149 u150 u151 u152 u153 u154 u155 u156 u157 u158 u159 u160 u161 u162 u163 u164 u165 u166 u167 u168 u169 u170 u171 u172 u173 u174 u175 u176 u177 u178 u179 u180 u181 u182:Value} {K:Act→World→Prop} {X:Nat→Act→World→Prop} (hQ:∀(v14 v15 v97 v98 v99 v100 v101 v102 v103 v104 v105 v106 v107 v108:Value) w',(∃(kk:Int) (t':Nat) (m':Int) (f':Bool),v15= .int .i64 kk∧S w' t' m' f'∧t≤t'∧m≤m'∧(kk≠0→t'=t∧m'=m)∧(f'=false→((t':Int) - t) - ((t':Int) - t).tdiv 2000 - 2 * (((t':Int) - t).tdiv 1125899906842624+1)≤m' - m∧m' - m≤((t':Int) - t)+((t':Int) - t).tdiv 2000+2 * (((t':Int) - t).tdiv 1125899906842624+1)))→K ⟨#[u0,u1,u2,u3,u4,u5,u6,pq R,u8,u9,u10,u11,u12,u13,v14,v15,u16,u17,u18,u19,u20,u21,u22,u23,u24,u25,u26,u27,u28,u29,u30,u31,u32,u33,u34,u35,u36,u37,u38,u39,u40,u41,u42,u43,u44,u45,u46,u47,u48,u49,u50,u51,u52,u53,u54,u55,u56,u57,u58,u59,u60,u61,u62,u63,u64,u65,u66,u67,u68,u69,u70,u71,u72,u73,u74,u75,u76,u77,u78,u79,u80,u81,u82,u83,u84,u85,u86,u87,u88,u89,u90,u91,u92,u93,u94,u95,u96,v97,v98,v99,v100,v101,v102,v103,v104,v105,v106,v107,v108,u109,u110,u111,u112,u113,u114,u115,u116,u117,u118,u119,u120,u121,u122,u123,u124,u125,u126,u127,u128,u129,u130,u131,u132,u133,u134,u135,u136,u137,u138,u139,u140,u141,u142,u143,u144,u145,u146,u147,u148,u149,u150,u151,u152,u153,u154,u155,u156,u157,u158,u159,u160,u161,u162,u163,u164,u165,u166,u167,u168,u169,u170,u171,u172,u173,u174,u175,u176,u177,u178,u179,u180,u181,u182],[]⟩ w'):Code.wp Tryz.prog reg15 (QX K X) ⟨#[u0,u1,u2,u3,u4,u5,u6,pq R,u8,u9,u10,u11,u12,u13,u14,u15,u16,u17,u18,u19,u20,u21,u22,u23,u24,u25,u26,u27,u28,u29,u30,u31,u32,u33,u34,u35,u36,u37,u38,u39,u40,u41,u42,u43,u44,u45,u46,u47,u48,u49,u50,u51,u52,u53,u54,u55,u56,u57,u58,u59,u60,u61,u62,u63,u64,u65,u66,u67,u68,u69,u70,u71,u72,u73,u74,u75,u76,u77,u78,u79,u80,u81,u82,u83,u84,u85,u86,u87,u88,u89,u90,u91,u92,u93,u94,u95,u96,u97,u98,u99,u100,u101,u102,u103,u104,u105,u106,u107,u108,u109,u110,u111,u112,u113,u114,u115,u116,u117,u118,u119,u120,u121,u122,u123,u124,u125,u126,u127,u128,u129,u130,u131,u132,u133,u134,u135,u136,u137,u138,u139,u140,u141,u142,u143,u144,u145,u146,u147,u148,u149,u150,u151,u152,u153,u154,u155,u156,u157,u158,u159,u160,u161,u162,u163,u164,u165,u166,u167,u168,u169,u170,u171,u172,u173,u174,u175,u176,u177,u178,u179,u180,u181,u182],[]⟩ w:=by
 obtain ⟨τ,r,B,ln,cp,rd,hR,hrd⟩:=L.blk inv
 conv=>arg 2; whnf
 have HL:=Lib.hid (And.intro L hQ)
 clear L hQ
 go_region_law (first
  |(go_simp; go_at_call 10; refine Calls.mono (HL.out.1.read (HL.out.1.fr inv (by first |exact (Fr.refl [] w).drew |exact (Fr.refl [] w).drewN _ |exact Fr.refl [] w)) hrd) ?_; rintro e w5 ⟨v,kk,t',m',f',rfl,hq1,hq2,hq3,hq4,hq5⟩))
 all_goals go_simp
 all_goals exact HL.out.2 _ _ _ _ _ _ _ _ _ _ _ _ _ _ _ ⟨kk,t',m',f',rfl,hq1,hq2,hq3,hq4,hq5⟩
theorem reg14_ok (L:LawS W0 D R S A) {w:World} {t:Nat} {m:Int} {f:Bool} (inv:S w t m f) (sz:Nat) (nn:Nat) (hc3:w.cell? ⟨sz,3,none⟩=some (.int .u64 (nn:Int))) (mask:Int) {u0 u1 u2 u3 u4 u5 u6 u8 u10 u12 u13 u14 u15 u16 u17 u18 u19 u20 u21 u22 u23 u24 u25 u26 u27 u28 u29 u30 u31 u32 u33 u34 u35 u36 u37 u38 u39 u40 u41 u42 u43 u44 u45 u46 u47 u48 u49 u50 u51 u52 u53 u54 u55 u56 u57 u58 u59 u60 u61 u62 u63 u64 u65 u66 u67 u68 u69 u70 u71 u72 u73 u74 u75 u76 u77 u78 u79 u80 u81 u82 u83 u84 u85 u86 u87 u88 u89 u90 u91 u92 u93 u94 u95 u96 u97 u98 u99 u100 u101 u102 u103 u104 u105 u106 u107 u108 u109 u110 u111 u112 u113 u114 u115 u116 u117 u118 u119 u120 u121 u122 u123 u124 u125 u126 u127 u128 u129 u130 u131 u132 u133 u134 u135 u136 u137 u138 u139 u140 u141 u142 u143 u144 u145 u146 u147 u148 u149 u150 u151 u152 u153 u154 u155 u156 u157 u158 u159 u160 u161 u162 u163 u164 u165 u166 u167 u168 u169 u170 u171 u172 u173 u174 u175 u176 u177 u178 u179 u180 u181 u182:Value} {K:Act→World→Prop} {X:Nat→Act→World→Prop} (hQ:∀(v84 v85 v86 v87 v88 v89 v90 v91 v92 v93 v94 v95 v96:Value) w',S w' t m f→K ⟨#[u0,u1,u2,u3,u4,u5,u6,pq R,u8,.int .u64 mask,u10,.pointer (some ⟨sz,0,none⟩),u12,u13,u14,u15,u16,u17,u18,u19,u20,u21,u22,u23,u24,u25,u26,u27,u28,u29,u30,u31,u32,u33,u34,u35,u36,u37,u38,u39,u40,u41,u42,u43,u44,u45,u46,u47,u48,u49,u50,u51,u52,u53,u54,u55,u56,u57,u58,u59,u60,u61,u62,u63,u64,u65,u66,u67,u68,u69,u70,u71,u72,u73,u74,u75,u76,u77,u78,u79,u80,u81,u82,u83,v84,v85,v86,v87,v88,v89,v90,v91,v92,v93,v94,v95,v96,u97,u98,u99,u100,u101,u102,u103,u104,u105,u106,u107,u108,u109,u110,u111,u112,u113,u114,u115,u116,u117,u118,u119,u120,u121,u122,u123,u124,u125,u126,u127,u128,u129,u130,u131,u132,u133,u134,u135,u136,u137,u138,u139,u140,u141,u142,u143,u144,u145,u146,u147,u148,u149,u150,u151,u152,u153,u154,u155,u156,u157,u158,u159,u160,u161,u162,u163,u164,u165,u166,u167,u168,u169,u170,u171,u172,u173,u174,u175,u176,u177,u178,u179,u180,u181,u182],[]⟩ w'):Code.wp Tryz.prog reg14 (QX K X) ⟨#[u0,u1,u2,u3,u4,u5,u6,pq R,u8,.int .u64 mask,u10,.pointer (some ⟨sz,0,none⟩),u12,u13,u14,u15,u16,u17,u18,u19,u20,u21,u22,u23,u24,u25,u26,u27,u28,u29,u30,u31,u32,u33,u34,u35,u36,u37,u38,u39,u40,u41,u42,u43,u44,u45,u46,u47,u48,u49,u50,u51,u52,u53,u54,u55,u56,u57,u58,u59,u60,u61,u62,u63,u64,u65,u66,u67,u68,u69,u70,u71,u72,u73,u74,u75,u76,u77,u78,u79,u80,u81,u82,u83,u84,u85,u86,u87,u88,u89,u90,u91,u92,u93,u94,u95,u96,u97,u98,u99,u100,u101,u102,u103,u104,u105,u106,u107,u108,u109,u110,u111,u112,u113,u114,u115,u116,u117,u118,u119,u120,u121,u122,u123,u124,u125,u126,u127,u128,u129,u130,u131,u132,u133,u134,u135,u136,u137,u138,u139,u140,u141,u142,u143,u144,u145,u146,u147,u148,u149,u150,u151,u152,u153,u154,u155,u156,u157,u158,u159,u160,u161,u162,u163,u164,u165,u166,u167,u168,u169,u170,u171,u172,u173,u174,u175,u176,u177,u178,u179,u180,u181,u182],[]⟩ w:=by
 obtain ⟨τ,r,B,ln,cp,rd,hR,hrd⟩:=L.blk inv
 obtain ⟨q,hq⟩:∃q:Nat,(nn:Int).tmod 17592186044416=(q:Int):=⟨nn % 17592186044416,by rw [Int.tmod_eq_emod_of_nonneg (by omega)]; omega⟩
 obtain ⟨y,hy,hyb⟩:∃y:Nat,Go.bits BinOp.and IntKind.u64 (IntKind.u64.wrap ((rd:Int)+(q:Int))) mask=(y:Int)∧y < 18446744073709551616:=by
  have b1:=bits_lo_u64 BinOp.and (IntKind.u64.wrap ((rd:Int)+(q:Int))) mask
  have b2:=bits_hi_u64 BinOp.and (IntKind.u64.wrap ((rd:Int)+(q:Int))) mask
  generalize Go.bits BinOp.and IntKind.u64 (IntKind.u64.wrap ((rd:Int)+(q:Int))) mask=z at *
  exact ⟨z.toNat,by omega,by omega⟩
 conv=>arg 2; whnf
 have HL:=Lib.hid (And.intro L (And.intro hQ hyb))
 clear L hQ hyb hrd
 go_region_law (fail)
 all_goals go_simp
 all_goals exact HL.out.2.1 _ _ _ _ _ _ _ _ _ _ _ _ _ _ (by first |exact HL.out.1.fr (HL.out.1.store inv HL.out.2.2) (Fr.refl [] _).drew |exact HL.out.1.fr (HL.out.1.store inv HL.out.2.2) ((Fr.refl [] _).drewN _) |exact HL.out.1.store (HL.out.1.fr inv (by first |exact (Fr.refl [] w).drew |exact (Fr.refl [] w).drewN _ |exact Fr.refl [] w)) HL.out.2.2)
end Go.Proofs.YtdohkfgflpdkcaaGreatDoor
