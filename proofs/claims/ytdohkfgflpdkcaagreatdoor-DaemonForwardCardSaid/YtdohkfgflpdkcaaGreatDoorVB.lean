/-
  PROVED HERE: a part of the proof of DaemonForward (texts V3, V4 of the prover, joined). No condition of its own.
-/
import Derived.Test.YtdohkfgflpdkcaaGreatDoorVA
set_option linter.unusedVariables false
set_option linter.unusedSimpArgs false
namespace Go.Proofs.YtdohkfgflpdkcaaGreatDoor
open Go.RowKit
attribute [local go_sem 10] cellOf frozenOf
attribute [local go_sem] heap_drew heap_drewN
set_option maxHeartbeats 8000000
set_option maxRecDepth 20000
variable {W0:World} {D R:Nat} {S:World→Nat→Int→Bool→Prop} {A:List Value→Prop}
theorem field78 (v0 v1 v2 v3 v5:Value) (b:Bool) (w:World):(Instr.field 78 (.agg #[v0,v1,v2,v3,.bool b,v5]) 4).run Tryz.prog w= .ok (.bool b) w:=by kernel_rfl
theorem reg17_ok {w:World} (rr p:Int) (hp:rr.tdiv 1125899906842624=p) (HP:0≤p∧p≤4096) {u0 u1 u2 u3 u4 u5 u6 u7 u8 u9 u10 u11 u12 u13 u14 u15 u16 u18 u19 u20 u21 u22 u23 u24 u25 u26 u27 u28 u29 u30 u31 u32 u33 u34 u35 u36 u37 u38 u39 u40 u41 u42 u43 u44 u45 u46 u47 u48 u49 u50 u51 u52 u53 u54 u55 u56 u57 u58 u59 u60 u61 u62 u63 u64 u65 u66 u67 u68 u69 u70 u71 u72 u73 u74 u75 u76 u77 u78 u79 u80 u81 u82 u83 u84 u85 u86 u87 u88 u89 u90 u91 u92 u93 u94 u95 u96 u97 u98 u99 u100 u101 u102 u103 u104 u105 u106 u107 u108 u109 u110 u111 u112 u113 u114 u115 u116 u117 u118 u119 u120 u121 u122 u123 u124 u125 u126 u127 u128 u129 u130 u131 u132 u133 u134 u135 u136 u137 u138 u139 u140 u141 u142 u143 u144 u145 u146 u147 u148 u149 u150 u151 u152 u153 u154 u155 u156 u157 u158 u159 u160 u161 u162 u163 u164 u165 u166 u167 u168 u169 u170 u171 u172 u173 u174 u175 u176 u177 u178 u179 u180 u181 u182:Value} {K:Act→World→Prop} {X:Nat→Act→World→Prop} (hQ:∀(v123 v124 v125:Value) w',w'=w→K ⟨#[u0,u1,u2,u3,u4,u5,u6,u7,u8,u9,u10,u11,u12,u13,u14,u15,u16,.int .i64 rr,.int .i64 (p+1),u19,u20,u21,u22,u23,u24,u25,u26,u27,u28,u29,u30,u31,u32,u33,u34,u35,u36,u37,u38,u39,u40,u41,u42,u43,u44,u45,u46,u47,u48,u49,u50,u51,u52,u53,u54,u55,u56,u57,u58,u59,u60,u61,u62,u63,u64,u65,u66,u67,u68,u69,u70,u71,u72,u73,u74,u75,u76,u77,u78,u79,u80,u81,u82,u83,u84,u85,u86,u87,u88,u89,u90,u91,u92,u93,u94,u95,u96,u97,u98,u99,u100,u101,u102,u103,u104,u105,u106,u107,u108,u109,u110,u111,u112,u113,u114,u115,u116,u117,u118,u119,u120,u121,u122,v123,v124,v125,u126,u127,u128,u129,u130,u131,u132,u133,u134,u135,u136,u137,u138,u139,u140,u141,u142,u143,u144,u145,u146,u147,u148,u149,u150,u151,u152,u153,u154,u155,u156,u157,u158,u159,u160,u161,u162,u163,u164,u165,u166,u167,u168,u169,u170,u171,u172,u173,u174,u175,u176,u177,u178,u179,u180,u181,u182],[]⟩ w'):Code.wp Tryz.prog reg17 (QX K X) ⟨#[u0,u1,u2,u3,u4,u5,u6,u7,u8,u9,u10,u11,u12,u13,u14,u15,u16,.int .i64 rr,u18,u19,u20,u21,u22,u23,u24,u25,u26,u27,u28,u29,u30,u31,u32,u33,u34,u35,u36,u37,u38,u39,u40,u41,u42,u43,u44,u45,u46,u47,u48,u49,u50,u51,u52,u53,u54,u55,u56,u57,u58,u59,u60,u61,u62,u63,u64,u65,u66,u67,u68,u69,u70,u71,u72,u73,u74,u75,u76,u77,u78,u79,u80,u81,u82,u83,u84,u85,u86,u87,u88,u89,u90,u91,u92,u93,u94,u95,u96,u97,u98,u99,u100,u101,u102,u103,u104,u105,u106,u107,u108,u109,u110,u111,u112,u113,u114,u115,u116,u117,u118,u119,u120,u121,u122,u123,u124,u125,u126,u127,u128,u129,u130,u131,u132,u133,u134,u135,u136,u137,u138,u139,u140,u141,u142,u143,u144,u145,u146,u147,u148,u149,u150,u151,u152,u153,u154,u155,u156,u157,u158,u159,u160,u161,u162,u163,u164,u165,u166,u167,u168,u169,u170,u171,u172,u173,u174,u175,u176,u177,u178,u179,u180,u181,u182],[]⟩ w:=by
 have ep:IntKind.i64.wrap p=p:=IntWalk.i64_in _ ⟨by omega,by omega⟩
 have ep1:IntKind.i64.wrap (p+1)=p+1:=IntWalk.i64_in _ ⟨by omega,by omega⟩
 conv=>arg 2; whnf
 have HQ:=Lib.hid hQ
 clear hQ
 go_wp2_with (fail)
 exact HQ.out _ _ _ _ rfl
theorem part18_ok (L:LawS W0 D R S A) {w:World} {t:Nat} {m:Int} {f:Bool} (inv:S w t m f) (kk mm rr:Int) (h1:0≤mm) (h2:0≤rr) (h3:kk≠0→rr=0∧mm=0) {u0 u1 u2 u3 u4 u5 u6 u8 u9 u10 u11 u12 u13 u14 u18 u19 u20 u21 u22 u23 u24 u25 u26 u27 u28 u29 u30 u31 u32 u33 u34 u35 u36 u37 u38 u39 u40 u41 u42 u43 u44 u45 u46 u47 u48 u49 u50 u51 u52 u53 u54 u55 u56 u57 u58 u59 u60 u61 u62 u63 u64 u65 u66 u67 u68 u69 u70 u71 u72 u73 u74 u75 u76 u77 u78 u79 u80 u81 u82 u83 u84 u85 u86 u87 u88 u89 u90 u91 u92 u93 u94 u95 u96 u97 u98 u99 u100 u101 u102 u103 u104 u105 u106 u107 u108 u109 u110 u111 u112 u113 u114 u115 u116 u117 u118 u119 u120 u121 u122 u123 u124 u125 u126 u127 u128 u129 u130 u131 u132 u133 u134 u135 u136 u137 u138 u139 u140 u141 u142 u143 u144 u145 u146 u147 u148 u149 u150 u151 u152 u153 u154 u155 u156 u157 u158 u159 u160 u161 u162 u163 u164 u165 u166 u167 u168 u169 u170 u171 u172 u173 u174 u175 u176 u177 u178 u179 u180 u181 u182:Value} {K:Act→World→Prop} {X:Nat→Act→World→Prop} (hQ:∀(v126 v127 v128 v129 v130 v131 v132 v133 v134 v135 v136 v137 v138 v139 v140 v141 v142 v143 v144 v145 v146 v147 v148 v149 v150 v151:Value) w',S w' t m f→K ⟨#[u0,u1,u2,u3,u4,u5,u6,pq R,u8,u9,u10,u11,u12,u13,u14,.int .i64 kk,.int .i64 mm,.int .i64 rr,u18,u19,u20,u21,u22,u23,u24,u25,u26,u27,u28,u29,u30,u31,u32,u33,u34,u35,u36,u37,u38,u39,u40,u41,u42,u43,u44,u45,u46,u47,u48,u49,u50,u51,u52,u53,u54,u55,u56,u57,u58,u59,u60,u61,u62,u63,u64,u65,u66,u67,u68,u69,u70,u71,u72,u73,u74,u75,u76,u77,u78,u79,u80,u81,u82,u83,u84,u85,u86,u87,u88,u89,u90,u91,u92,u93,u94,u95,u96,u97,u98,u99,u100,u101,u102,u103,u104,u105,u106,u107,u108,u109,u110,u111,u112,u113,u114,u115,u116,u117,u118,u119,u120,u121,u122,u123,u124,u125,v126,v127,v128,v129,v130,v131,v132,v133,v134,v135,v136,v137,v138,v139,v140,v141,v142,v143,v144,v145,v146,v147,v148,v149,v150,v151,u152,u153,u154,u155,u156,u157,u158,u159,u160,u161,u162,u163,u164,u165,u166,u167,u168,u169,u170,u171,u172,u173,u174,u175,u176,u177,u178,u179,u180,u181,u182],[]⟩ w'):Code.wp Tryz.prog part18 (QX K X) ⟨#[u0,u1,u2,u3,u4,u5,u6,pq R,u8,u9,u10,u11,u12,u13,u14,.int .i64 kk,.int .i64 mm,.int .i64 rr,u18,u19,u20,u21,u22,u23,u24,u25,u26,u27,u28,u29,u30,u31,u32,u33,u34,u35,u36,u37,u38,u39,u40,u41,u42,u43,u44,u45,u46,u47,u48,u49,u50,u51,u52,u53,u54,u55,u56,u57,u58,u59,u60,u61,u62,u63,u64,u65,u66,u67,u68,u69,u70,u71,u72,u73,u74,u75,u76,u77,u78,u79,u80,u81,u82,u83,u84,u85,u86,u87,u88,u89,u90,u91,u92,u93,u94,u95,u96,u97,u98,u99,u100,u101,u102,u103,u104,u105,u106,u107,u108,u109,u110,u111,u112,u113,u114,u115,u116,u117,u118,u119,u120,u121,u122,u123,u124,u125,u126,u127,u128,u129,u130,u131,u132,u133,u134,u135,u136,u137,u138,u139,u140,u141,u142,u143,u144,u145,u146,u147,u148,u149,u150,u151,u152,u153,u154,u155,u156,u157,u158,u159,u160,u161,u162,u163,u164,u165,u166,u167,u168,u169,u170,u171,u172,u173,u174,u175,u176,u177,u178,u179,u180,u181,u182],[]⟩ w:=by
 have hnm:(mm < 0)=False:=eq_false (by omega)
 have hnr:(rr < 0)=False:=eq_false (by omega)
 obtain ⟨τ,r,B,ln,cp,rd,hR,hrd⟩:=L.blk inv
 conv=>arg 2; whnf
 have HL:=Lib.hid (And.intro L hQ)
 clear L hQ
 have H3:=Lib.hid h3
 clear h3 hrd
 by_cases hk:kk=0
 ·subst hk
  go_wp2_with (fail)
  refine Calls.mono (HL.out.1.bound inv) ?_
  rintro e w6 ⟨⟨x,rfl,hx⟩,hf6⟩
  have hxl:(x < 0)=False:=eq_false (by omega)
  go_wp2_with (fail)
  exact HL.out.2 _ _ _ _ _ _ _ _ _ _ _ _ _ _ _ _ _ _ _ _ _ _ _ _ _ _ _ (HL.out.1.fr inv hf6)
 ·have hk1:(kk != 0)=true:=by simpa using hk
  obtain ⟨hr0,hm0⟩:=H3.out hk
  have hr1:(rr != 0)=false:=by simpa using hr0
  have hm1:(mm != 0)=false:=by simpa using hm0
  clear hr0 hm0
  go_wp2_with (fail)
  refine Calls.mono (HL.out.1.bound inv) ?_
  rintro e w6 ⟨⟨x,rfl,hx⟩,hf6⟩
  have hxl:(x < 0)=False:=eq_false (by omega)
  go_wp2_with (fail)
  exact HL.out.2 _ _ _ _ _ _ _ _ _ _ _ _ _ _ _ _ _ _ _ _ _ _ _ _ _ _ _ (HL.out.1.fr inv hf6)
theorem tail20_ok (L:LawS W0 D R S A) {w:World} {t:Nat} {m:Int} {f:Bool} (inv:S w t m f) (mm rr p d p1:Int) (hd:rr.tdiv 2000=d) (hp1:p1=p+1) (HP:(0≤p∧p≤4096)∧(0≤d∧2000 * d≤rr)∧(0≤rr∧rr≤4611686018427387904)∧(0≤mm∧mm≤4611686018427387904)) (hl:f=false→rr - d - 2 * p1≤mm∧mm≤rr+d+2 * p1) {u0 u1 u2 u3 u4 u5 u6 u8 u9 u10 u11 u12 u13 u14 u15 u19 u20 u21 u22 u23 u24 u25 u26 u27 u28 u29 u30 u31 u32 u33 u34 u35 u36 u37 u38 u39 u40 u41 u42 u43 u44 u45 u46 u47 u48 u49 u50 u51 u52 u53 u54 u55 u56 u57 u58 u59 u60 u61 u62 u63 u64 u65 u66 u67 u68 u69 u70 u71 u72 u73 u74 u75 u76 u77 u78 u79 u80 u81 u82 u83 u84 u85 u86 u87 u88 u89 u90 u91 u92 u93 u94 u95 u96 u97 u98 u99 u100 u101 u102 u103 u104 u105 u106 u107 u108 u109 u110 u111 u112 u113 u114 u115 u116 u117 u118 u119 u120 u121 u122 u123 u124 u125 u126 u127 u128 u129 u130 u131 u132 u133 u134 u135 u136 u137 u138 u139 u140 u141 u142 u143 u144 u145 u146 u147 u148 u149 u150 u151 u152 u153 u154 u155 u156 u157 u158 u159 u160 u161 u162 u163 u164 u165 u166 u167 u168 u169 u170 u171 u172 u173 u174 u175 u176 u177 u178 u179 u180 u181 u182:Value} {K:Act→World→Prop} {X:Nat→Act→World→Prop} (hQ:∀(v152 v153 v154 v155 v156 v157 v158 v159 v160 v161 v162 v163 v164 v165 v166 v167 v168 v169 v170 v171 v172 v173 v174 v175 v176 v177 v178 v179 v180:Value) w',S w' t m f→K ⟨#[u0,u1,u2,u3,u4,u5,u6,pq R,u8,u9,u10,u11,u12,u13,u14,u15,.int .i64 mm,.int .i64 rr,.int .i64 p1,u19,u20,u21,u22,u23,u24,u25,u26,u27,u28,u29,u30,u31,u32,u33,u34,u35,u36,u37,u38,u39,u40,u41,u42,u43,u44,u45,u46,u47,u48,u49,u50,u51,u52,u53,u54,u55,u56,u57,u58,u59,u60,u61,u62,u63,u64,u65,u66,u67,u68,u69,u70,u71,u72,u73,u74,u75,u76,u77,u78,u79,u80,u81,u82,u83,u84,u85,u86,u87,u88,u89,u90,u91,u92,u93,u94,u95,u96,u97,u98,u99,u100,u101,u102,u103,u104,u105,u106,u107,u108,u109,u110,u111,u112,u113,u114,u115,u116,u117,u118,u119,u120,u121,u122,u123,u124,u125,u126,u127,u128,u129,u130,u131,u132,u133,u134,u135,u136,u137,u138,u139,u140,u141,u142,u143,u144,u145,u146,u147,u148,u149,u150,u151,v152,v153,v154,v155,v156,v157,v158,v159,v160,v161,v162,v163,v164,v165,v166,v167,v168,v169,v170,v171,v172,v173,v174,v175,v176,v177,v178,v179,v180,u181,u182],[]⟩ w'):Code.wp Tryz.prog tail20 (QX K X) ⟨#[u0,u1,u2,u3,u4,u5,u6,pq R,u8,u9,u10,u11,u12,u13,u14,u15,.int .i64 mm,.int .i64 rr,.int .i64 p1,u19,u20,u21,u22,u23,u24,u25,u26,u27,u28,u29,u30,u31,u32,u33,u34,u35,u36,u37,u38,u39,u40,u41,u42,u43,u44,u45,u46,u47,u48,u49,u50,u51,u52,u53,u54,u55,u56,u57,u58,u59,u60,u61,u62,u63,u64,u65,u66,u67,u68,u69,u70,u71,u72,u73,u74,u75,u76,u77,u78,u79,u80,u81,u82,u83,u84,u85,u86,u87,u88,u89,u90,u91,u92,u93,u94,u95,u96,u97,u98,u99,u100,u101,u102,u103,u104,u105,u106,u107,u108,u109,u110,u111,u112,u113,u114,u115,u116,u117,u118,u119,u120,u121,u122,u123,u124,u125,u126,u127,u128,u129,u130,u131,u132,u133,u134,u135,u136,u137,u138,u139,u140,u141,u142,u143,u144,u145,u146,u147,u148,u149,u150,u151,u152,u153,u154,u155,u156,u157,u158,u159,u160,u161,u162,u163,u164,u165,u166,u167,u168,u169,u170,u171,u172,u173,u174,u175,u176,u177,u178,u179,u180,u181,u182],[]⟩ w:=by
 obtain ⟨a1,ha1⟩:∃a1,rr - d=a1:=⟨_,rfl⟩
 obtain ⟨a2,ha2⟩:∃a2,rr+d=a2:=⟨_,rfl⟩
 obtain ⟨p2,hp2⟩:∃p2,2 * p1=p2:=⟨_,rfl⟩
 obtain ⟨lo,hlo⟩:∃lo,a1 - p2=lo:=⟨_,rfl⟩
 obtain ⟨hi,hhi⟩:∃hi,a2+p2=hi:=⟨_,rfl⟩
 have ea1:IntKind.i64.wrap (rr - d)=a1:=by rw [ha1]; exact IntWalk.i64_in _ ⟨by omega,by omega⟩
 have ea2:IntKind.i64.wrap (rr+d)=a2:=by rw [ha2]; exact IntWalk.i64_in _ ⟨by omega,by omega⟩
 have ep2:IntKind.i64.wrap (2 * p1)=p2:=by rw [hp2]; exact IntWalk.i64_in _ ⟨by omega,by omega⟩
 have elo:IntKind.i64.wrap (a1 - p2)=lo:=by rw [hlo]; exact IntWalk.i64_in _ ⟨by omega,by omega⟩
 have ehi:IntKind.i64.wrap (a2+p2)=hi:=by rw [hhi]; exact IntWalk.i64_in _ ⟨by omega,by omega⟩
 have ed:IntKind.i64.wrap d=d:=IntWalk.i64_in _ ⟨by omega,by omega⟩
 have HLI:=Lib.hid (show f=false→(mm < lo)=False∧(hi < mm)=False from fun h=>by
  have:=hl h
  exact ⟨eq_false (by omega),eq_false (by omega)⟩)
 clear hl HP hp1 ha1 ha2 hp2 hlo hhi
 obtain ⟨τ,r,B,ln,cp,rd,hR,hrd⟩:=L.blk inv
 conv=>arg 2; whnf
 have HL:=Lib.hid (And.intro L hQ)
 clear L hQ
 clear hrd
 have hfd:=field78
 go_wp2_with (fail)
 refine Calls.mono (HL.out.1.stat inv) ?_
 rintro e w7 ⟨⟨v0,v1,v2,v3,sf,v5,rfl,hsf⟩,hf7⟩
 cases sf
 ·have hff:f=false:=by
   cases f
   ·rfl
   ·exact absurd (hsf rfl) (by simp)
  obtain ⟨hl1,hl2⟩:=HLI.out hff
  clear hsf
  go_wp2_with (fail)
  exact HL.out.2 _ _ _ _ _ _ _ _ _ _ _ _ _ _ _ _ _ _ _ _ _ _ _ _ _ _ _ _ _ _ (HL.out.1.fr inv hf7)
 ·clear hsf
  go_wp2_with (fail)
  exact HL.out.2 _ _ _ _ _ _ _ _ _ _ _ _ _ _ _ _ _ _ _ _ _ _ _ _ _ _ _ _ _ _ (HL.out.1.fr inv hf7)
end Go.Proofs.YtdohkfgflpdkcaaGreatDoor
namespace Go.Proofs.YtdohkfgflpdkcaaGreatDoor
open Go.RowKit
attribute [local go_sem 10] cellOf frozenOf
attribute [local go_sem] heap_drew heap_drewN
set_option maxHeartbeats 8000000
set_option maxRecDepth 20000
variable {W0:World} {D R:Nat} {S:World→Nat→Int→Bool→Prop} {A:List Value→Prop}
theorem part10_read (L:LawS W0 D R S A) {w:World} {t:Nat} {m:Int} {f:Bool} (inv:S w t m f) (sz:Nat) (hc0:w.cell? ⟨sz,0,none⟩=some (.int .i64 0)) {u0 u1 u2 u3 u4 u5 u6 u8 u9 u10 u14 u15 u16 u17 u18 u19 u20 u21 u22 u23 u24 u25 u26 u27 u28 u29 u30 u31 u32 u33 u34 u35 u36 u37 u38 u39 u40 u41 u42 u43 u44 u45 u46 u47 u48 u49 u50 u51 u52 u53 u54 u55 u56 u57 u58 u59 u60 u61 u62 u63 u64 u65 u66 u67 u68 u69 u70 u71 u72 u73 u74 u75 u76 u77 u78 u79 u80 u81 u82 u83 u84 u85 u86 u87 u88 u89 u90 u91 u92 u93 u94 u95 u96 u97 u98 u99 u100 u101 u102 u103 u104 u105 u106 u107 u108 u109 u110 u111 u112 u113 u114 u115 u116 u117 u118 u119 u120 u121 u122 u123 u124 u125 u126 u127 u128 u129 u130 u131 u132 u133 u134 u135 u136 u137 u138 u139 u140 u141 u142 u143 u144 u145 u146 u147 u148 u149 u150 u151 u152 u153 u154 u155 u156 u157 u158 u159 u160 u161 u162 u163 u164 u165 u166 u167 u168 u169 u170 u171 u172 u173 u174 u175 u176 u177 u178 u179 u180 u181 u182:Value} {K:Act→World→Prop} {X:Nat→Act→World→Prop} (hQ:∀(v54 v55 v56:Value) w',w'=w→K ⟨#[u0,u1,u2,u3,u4,u5,u6,pq R,u8,u9,u10,.pointer (some ⟨sz,0,none⟩),.int .i64 m,.int .i64 (t:Int),u14,u15,u16,u17,u18,u19,u20,u21,u22,u23,u24,u25,u26,u27,u28,u29,u30,u31,u32,u33,u34,u35,u36,u37,u38,u39,u40,u41,u42,u43,u44,u45,u46,u47,u48,u49,u50,u51,u52,u53,v54,v55,v56,u57,u58,u59,u60,u61,u62,u63,u64,u65,u66,u67,u68,u69,u70,u71,u72,u73,u74,u75,u76,u77,u78,u79,u80,u81,u82,u83,u84,u85,u86,u87,u88,u89,u90,u91,u92,u93,u94,u95,u96,u97,u98,u99,u100,u101,u102,u103,u104,u105,u106,u107,u108,u109,u110,u111,u112,u113,u114,u115,u116,u117,u118,u119,u120,u121,u122,u123,u124,u125,u126,u127,u128,u129,u130,u131,u132,u133,u134,u135,u136,u137,u138,u139,u140,u141,u142,u143,u144,u145,u146,u147,u148,u149,u150,u151,u152,u153,u154,u155,u156,u157,u158,u159,u160,u161,u162,u163,u164,u165,u166,u167,u168,u169,u170,u171,u172,u173,u174,u175,u176,u177,u178,u179,u180,u181,u182],[]⟩ w'):Code.wp Tryz.prog head10 (QX K X) ⟨#[u0,u1,u2,u3,u4,u5,u6,pq R,u8,u9,u10,.pointer (some ⟨sz,0,none⟩),.int .i64 m,.int .i64 (t:Int),u14,u15,u16,u17,u18,u19,u20,u21,u22,u23,u24,u25,u26,u27,u28,u29,u30,u31,u32,u33,u34,u35,u36,u37,u38,u39,u40,u41,u42,u43,u44,u45,u46,u47,u48,u49,u50,u51,u52,u53,u54,u55,u56,u57,u58,u59,u60,u61,u62,u63,u64,u65,u66,u67,u68,u69,u70,u71,u72,u73,u74,u75,u76,u77,u78,u79,u80,u81,u82,u83,u84,u85,u86,u87,u88,u89,u90,u91,u92,u93,u94,u95,u96,u97,u98,u99,u100,u101,u102,u103,u104,u105,u106,u107,u108,u109,u110,u111,u112,u113,u114,u115,u116,u117,u118,u119,u120,u121,u122,u123,u124,u125,u126,u127,u128,u129,u130,u131,u132,u133,u134,u135,u136,u137,u138,u139,u140,u141,u142,u143,u144,u145,u146,u147,u148,u149,u150,u151,u152,u153,u154,u155,u156,u157,u158,u159,u160,u161,u162,u163,u164,u165,u166,u167,u168,u169,u170,u171,u172,u173,u174,u175,u176,u177,u178,u179,u180,u181,u182],[]⟩ w:=by
 conv=>arg 2; whnf
 have HL:=Lib.hid hQ
 clear hQ
 go_wp2_with (fail)
 exact HL.out _ _ _ _ rfl
theorem part10_other (L:LawS W0 D R S A) {w:World} {t:Nat} {m:Int} {f:Bool} (inv:S w t m f) (sz:Nat) (what:Int) (hc0:w.cell? ⟨sz,0,none⟩=some (.int .i64 what)) (cs:List Value) (h0:what≠0) (hn:cs.length=25) (hA:A cs) (hrW:w.rangeAt sz 0 cs) {u0 u1 u2 u3 u4 u5 u6 u8 u9 u10 u14 u15 u16 u17 u18 u19 u20 u21 u22 u23 u24 u25 u26 u27 u28 u29 u30 u31 u32 u33 u34 u35 u36 u37 u38 u39 u40 u41 u42 u43 u44 u45 u46 u47 u48 u49 u50 u51 u52 u53 u54 u55 u56 u57 u58 u59 u60 u61 u62 u63 u64 u65 u66 u67 u68 u69 u70 u71 u72 u73 u74 u75 u76 u77 u78 u79 u80 u81 u82 u83 u84 u85 u86 u87 u88 u89 u90 u91 u92 u93 u94 u95 u96 u97 u98 u99 u100 u101 u102 u103 u104 u105 u106 u107 u108 u109 u110 u111 u112 u113 u114 u115 u116 u117 u118 u119 u120 u121 u122 u123 u124 u125 u126 u127 u128 u129 u130 u131 u132 u133 u134 u135 u136 u137 u138 u139 u140 u141 u142 u143 u144 u145 u146 u147 u148 u149 u150 u151 u152 u153 u154 u155 u156 u157 u158 u159 u160 u161 u162 u163 u164 u165 u166 u167 u168 u169 u170 u171 u172 u173 u174 u175 u176 u177 u178 u179 u180 u181 u182:Value} {K:Act→World→Prop} {X:Nat→Act→World→Prop} (hQ:∀(v54 v55 v56 v57 v58 v59 v60 v61 v62 v63 v64 v65 v66 v67 v68 v69 v70 v71 v72 v73 v74 v75 v76 v77 v78 v79 v80 v81 v82 v83:Value) w',(∃f',S w' t m f')→X 1 ⟨#[u0,u1,u2,u3,u4,u5,u6,pq R,u8,u9,u10,.pointer (some ⟨sz,0,none⟩),.int .i64 m,.int .i64 (t:Int),u14,u15,u16,u17,u18,u19,u20,u21,u22,u23,u24,u25,u26,u27,u28,u29,u30,u31,u32,u33,u34,u35,u36,u37,u38,u39,u40,u41,u42,u43,u44,u45,u46,u47,u48,u49,u50,u51,u52,u53,v54,v55,v56,v57,v58,v59,v60,v61,v62,v63,v64,v65,v66,v67,v68,v69,v70,v71,v72,v73,v74,v75,v76,v77,v78,v79,v80,v81,v82,v83,u84,u85,u86,u87,u88,u89,u90,u91,u92,u93,u94,u95,u96,u97,u98,u99,u100,u101,u102,u103,u104,u105,u106,u107,u108,u109,u110,u111,u112,u113,u114,u115,u116,u117,u118,u119,u120,u121,u122,u123,u124,u125,u126,u127,u128,u129,u130,u131,u132,u133,u134,u135,u136,u137,u138,u139,u140,u141,u142,u143,u144,u145,u146,u147,u148,u149,u150,u151,u152,u153,u154,u155,u156,u157,u158,u159,u160,u161,u162,u163,u164,u165,u166,u167,u168,u169,u170,u171,u172,u173,u174,u175,u176,u177,u178,u179,u180,u181,u182],[]⟩ w'):Code.wp Tryz.prog head10 (QX K X) ⟨#[u0,u1,u2,u3,u4,u5,u6,pq R,u8,u9,u10,.pointer (some ⟨sz,0,none⟩),.int .i64 m,.int .i64 (t:Int),u14,u15,u16,u17,u18,u19,u20,u21,u22,u23,u24,u25,u26,u27,u28,u29,u30,u31,u32,u33,u34,u35,u36,u37,u38,u39,u40,u41,u42,u43,u44,u45,u46,u47,u48,u49,u50,u51,u52,u53,u54,u55,u56,u57,u58,u59,u60,u61,u62,u63,u64,u65,u66,u67,u68,u69,u70,u71,u72,u73,u74,u75,u76,u77,u78,u79,u80,u81,u82,u83,u84,u85,u86,u87,u88,u89,u90,u91,u92,u93,u94,u95,u96,u97,u98,u99,u100,u101,u102,u103,u104,u105,u106,u107,u108,u109,u110,u111,u112,u113,u114,u115,u116,u117,u118,u119,u120,u121,u122,u123,u124,u125,u126,u127,u128,u129,u130,u131,u132,u133,u134,u135,u136,u137,u138,u139,u140,u141,u142,u143,u144,u145,u146,u147,u148,u149,u150,u151,u152,u153,u154,u155,u156,u157,u158,u159,u160,u161,u162,u163,u164,u165,u166,u167,u168,u169,u170,u171,u172,u173,u174,u175,u176,u177,u178,u179,u180,u181,u182],[]⟩ w:=by
 have hb:(what != 0)=true:=by simpa using h0
 have hi50:(Tryz.prog.info? 50).map (·.size)=some cs.length:=by rw [hn]; kernel_rfl
 conv=>arg 2; whnf
 have HL:=Lib.hid (And.intro L hQ)
 clear L hQ
 go_wp2_with (refine wpList_load_mid rfl 50 _ rfl sz 0 rfl cs _ hrW Tryz.underlying50 rfl hi50 ?_)
 refine Calls.mono (HL.out.1.other inv hA) ?_
 rintro e w6 ⟨rfl,f',inv6⟩
 obtain ⟨τ,r,B,ln,cp,rd,hR,hrd⟩:=HL.out.1.blk inv6
 clear inv hc0 hrW hi50
 go_wp2_with (fail)
 refine Calls.mono (HL.out.1.mono inv6) ?_
 rintro e w7 ⟨rfl,rfl⟩
 go_wp2_with (fail)
 refine Calls.mono (HL.out.1.raw inv6) ?_
 rintro e w8 ⟨rfl,hf8⟩
 have hR8:=hf8.heap hR (by simp)
 have inv8:=HL.out.1.fr inv6 hf8
 clear hR inv6
 go_wp2_with (fail)
 refine Calls.mono (HL.out.1.bound inv8) ?_
 rintro e w9 ⟨⟨x,rfl,hx⟩,hf9⟩
 have hxl:(x < 0)=False:=eq_false (by omega)
 go_wp2_with (fail)
 exact HL.out.2 _ _ _ _ _ _ _ _ _ _ _ _ _ _ _ _ _ _ _ _ _ _ _ _ _ _ _ _ _ _ _ ⟨f',HL.out.1.fr inv8 hf9⟩
theorem read_ok (L:LawS W0 D R S A) {w:World} {t:Nat} {m:Int} {f:Bool} (inv:S w t m f) (sz:Nat) (nn:Nat) (hc3:w.cell? ⟨sz,3,none⟩=some (.int .u64 (nn:Int))) (mask:Int) {u0 u1 u2 u3 u4 u5 u6 u8 u10 u14 u15 u16 u17 u18 u19 u20 u21 u22 u23 u24 u25 u26 u27 u28 u29 u30 u31 u32 u33 u34 u35 u36 u37 u38 u39 u40 u41 u42 u43 u44 u45 u46 u47 u48 u49 u50 u51 u52 u53 u54 u55 u56 u57 u58 u59 u60 u61 u62 u63 u64 u65 u66 u67 u68 u69 u70 u71 u72 u73 u74 u75 u76 u77 u78 u79 u80 u81 u82 u83 u84 u85 u86 u87 u88 u89 u90 u91 u92 u93 u94 u95 u96 u97 u98 u99 u100 u101 u102 u103 u104 u105 u106 u107 u108 u109 u110 u111 u112 u113 u114 u115 u116 u117 u118 u119 u120 u121 u122 u123 u124 u125 u126 u127 u128 u129 u130 u131 u132 u133 u134 u135 u136 u137 u138 u139 u140 u141 u142 u143 u144 u145 u146 u147 u148 u149 u150 u151 u152 u153 u154 u155 u156 u157 u158 u159 u160 u161 u162 u163 u164 u165 u166 u167 u168 u169 u170 u171 u172 u173 u174 u175 u176 u177 u178 u179 u180 u181 u182:Value} {K:Act→World→Prop} {X:Nat→Act→World→Prop} (hQ:∀(v14 v15 v16 v17 v18 v84 v85 v86 v87 v88 v89 v90 v91 v92 v93 v94 v95 v96 v97 v98 v99 v100 v101 v102 v103 v104 v105 v106 v107 v108 v109 v110 v111 v112 v113 v114 v115 v116 v117 v118 v119 v120 v121 v122 v123 v124 v125 v126 v127 v128 v129 v130 v131 v132 v133 v134 v135 v136 v137 v138 v139 v140 v141 v142 v143 v144 v145 v146 v147 v148 v149 v150 v151 v152 v153 v154 v155 v156 v157 v158 v159 v160 v161 v162 v163 v164 v165 v166 v167 v168 v169 v170 v171 v172 v173 v174 v175 v176 v177 v178 v179 v180:Value) w',(∃t m f,S w' t m f)→K ⟨#[u0,u1,u2,u3,u4,u5,u6,pq R,u8,.int .u64 mask,u10,.pointer (some ⟨sz,0,none⟩),.int .i64 m,.int .i64 (t:Int),v14,v15,v16,v17,v18,u19,u20,u21,u22,u23,u24,u25,u26,u27,u28,u29,u30,u31,u32,u33,u34,u35,u36,u37,u38,u39,u40,u41,u42,u43,u44,u45,u46,u47,u48,u49,u50,u51,u52,u53,u54,u55,u56,u57,u58,u59,u60,u61,u62,u63,u64,u65,u66,u67,u68,u69,u70,u71,u72,u73,u74,u75,u76,u77,u78,u79,u80,u81,u82,u83,v84,v85,v86,v87,v88,v89,v90,v91,v92,v93,v94,v95,v96,v97,v98,v99,v100,v101,v102,v103,v104,v105,v106,v107,v108,v109,v110,v111,v112,v113,v114,v115,v116,v117,v118,v119,v120,v121,v122,v123,v124,v125,v126,v127,v128,v129,v130,v131,v132,v133,v134,v135,v136,v137,v138,v139,v140,v141,v142,v143,v144,v145,v146,v147,v148,v149,v150,v151,v152,v153,v154,v155,v156,v157,v158,v159,v160,v161,v162,v163,v164,v165,v166,v167,v168,v169,v170,v171,v172,v173,v174,v175,v176,v177,v178,v179,v180,u181,u182],[]⟩ w'):Code.wp Tryz.prog tail14 (QX K X) ⟨#[u0,u1,u2,u3,u4,u5,u6,pq R,u8,.int .u64 mask,u10,.pointer (some ⟨sz,0,none⟩),.int .i64 m,.int .i64 (t:Int),u14,u15,u16,u17,u18,u19,u20,u21,u22,u23,u24,u25,u26,u27,u28,u29,u30,u31,u32,u33,u34,u35,u36,u37,u38,u39,u40,u41,u42,u43,u44,u45,u46,u47,u48,u49,u50,u51,u52,u53,u54,u55,u56,u57,u58,u59,u60,u61,u62,u63,u64,u65,u66,u67,u68,u69,u70,u71,u72,u73,u74,u75,u76,u77,u78,u79,u80,u81,u82,u83,u84,u85,u86,u87,u88,u89,u90,u91,u92,u93,u94,u95,u96,u97,u98,u99,u100,u101,u102,u103,u104,u105,u106,u107,u108,u109,u110,u111,u112,u113,u114,u115,u116,u117,u118,u119,u120,u121,u122,u123,u124,u125,u126,u127,u128,u129,u130,u131,u132,u133,u134,u135,u136,u137,u138,u139,u140,u141,u142,u143,u144,u145,u146,u147,u148,u149,u150,u151,u152,u153,u154,u155,u156,u157,u158,u159,u160,u161,u162,u163,u164,u165,u166,u167,u168,u169,u170,u171,u172,u173,u174,u175,u176,u177,u178,u179,u180,u181,u182],[]⟩ w:=by
 have b0:=L.bnd inv
 rw [tail14_eq]
 refine QX.seq (reg14_ok L inv sz nn hc3 mask ?_)
 intro x84 x85 x86 x87 x88 x89 x90 x91 x92 x93 x94 x95 x96 w1 inv1
 show Code.wp Tryz.prog tail15 _ _ _
 rw [tail15_eq]
 refine QX.seq (reg15_ok L inv1 ?_)
 rintro x14 x15 x97 x98 x99 x100 x101 x102 x103 x104 x105 x106 x107 x108 w2 ⟨kk,t',m',f',rfl,inv2,h2,h3,h4,h5⟩
 have b2:=L.bnd inv2
 show Code.wp Tryz.prog tail16 _ _ _
 rw [tail16_eq]
 obtain ⟨rr,hrr⟩:∃rr:Int,(t':Int) - t=rr:=⟨_,rfl⟩
 obtain ⟨mm,hmm⟩:∃mm:Int,m' - m=mm:=⟨_,rfl⟩
 rw [hrr,hmm] at h5
 have e1:IntKind.i64.wrap (m' - m)=mm:=by rw [hmm]; exact IntWalk.i64_in _ ⟨by omega,by omega⟩
 have e2:IntKind.i64.wrap ((t':Int) - (t:Int))=rr:=by rw [hrr]; exact IntWalk.i64_in _ ⟨by omega,by omega⟩
 refine QX.seq (reg16_ok L inv2 m t mm rr e1 e2 ?_)
 intro x109 x110 x111 x112 x113 x114 x115 x116 x117 x118 x119 x120 x121 x122 w3 hf3
 have inv3:=L.fr inv2 hf3
 obtain ⟨p,hp⟩:∃p:Int,rr.tdiv 1125899906842624=p:=⟨_,rfl⟩
 obtain ⟨d,hd⟩:∃d:Int,rr.tdiv 2000=d:=⟨_,rfl⟩
 have hp':rr / 1125899906842624=p:=by rw [←hp,Int.tdiv_eq_ediv_of_nonneg (by omega)]
 have hd':rr / 2000=d:=by rw [←hd,Int.tdiv_eq_ediv_of_nonneg (by omega)]
 rw [hp,hd] at h5
 show Code.wp Tryz.prog tail17 _ _ _
 rw [tail17_eq]
 refine QX.seq (reg17_ok rr p hp ⟨by omega,by omega⟩ ?_)
 rintro x123 x124 x125 w4 rfl
 show Code.wp Tryz.prog tail18 _ _ _
 rw [tail18_eq]
 refine QX.seq (part18_ok L inv3 kk mm rr (by omega) (by omega) (fun h=>by have:=h4 h; omega) ?_)
 intro x126 x127 x128 x129 x130 x131 x132 x133 x134 x135 x136 x137 x138 x139 x140 x141 x142 x143 x144 x145 x146 x147 x148 x149 x150 x151 w5 inv5
 refine tail20_ok L inv5 mm rr p d (p+1) hd rfl ⟨⟨by omega,by omega⟩,⟨by omega,by omega⟩,⟨by omega,by omega⟩,⟨by omega,by omega⟩⟩ h5 ?_
 intro x152 x153 x154 x155 x156 x157 x158 x159 x160 x161 x162 x163 x164 x165 x166 x167 x168 x169 x170 x171 x172 x173 x174 x175 x176 x177 x178 x179 x180 w6 inv6
 exact hQ _ _ _ _ _ _ _ _ _ _ _ _ _ _ _ _ _ _ _ _ _ _ _ _ _ _ _ _ _ _ _ _ _ _ _ _ _ _ _ _ _ _ _ _ _ _ _ _ _ _ _ _ _ _ _ _ _ _ _ _ _ _ _ _ _ _ _ _ _ _ _ _ _ _ _ _ _ _ _ _ _ _ _ _ _ _ _ _ _ _ _ _ _ _ _ _ _ _ _ _ _ _ _ ⟨t',m',f',inv6⟩
end Go.Proofs.YtdohkfgflpdkcaaGreatDoor
