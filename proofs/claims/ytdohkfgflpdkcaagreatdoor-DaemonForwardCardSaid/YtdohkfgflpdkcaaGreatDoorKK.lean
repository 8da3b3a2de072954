/-
  PROVED HERE: a part of the proof of DaemonForward (texts KB15 of the prover, joined). No condition of its own.
-/
import Derived.Test.YtdohkfgflpdkcaaGreatDoorKJ
set_option linter.unusedVariables false
set_option linter.unusedSimpArgs false
namespace Go.Proofs.YtdohkfgflpdkcaaGreatDoor.sym
open Go Go.Eng
noncomputable section
set_option maxRecDepth 100000
def l_l2:List Value:=[v_ak,v_eo,v_ep,v_ew,v_fO,v_fP,v_fQ,.slice (some ⟨72,0,none⟩) 5 18446744073709551621,v_eq,v_fR,v_a,v_a,v_a,v_x,v_a,v_a]
def e_l3:(Nat×O):=(64,.ro l_l2)
def e_l4:(Nat×O):=(72,.ro [v_jU,v_kq,v_kX,v_hI,v_hz])
def l_l5:List Value:=([v_aL,v_Q,v_Q,v_hC,.pointer (some ⟨107,0,none⟩),v_hH,.pointer (some ⟨110,0,none⟩)]++rp 6 v_a)
def e_l6:(Nat×O):=(105,.ro l_l5)
def e_l7:(Nat×O):=(106,.ro l_6)
def e_l8:(Nat×O):=(107,.ro l_ah)
def e_l9:(Nat×O):=(108,.ro l_I)
def l_ma:List Value:=([.pointer (some ⟨109,0,none⟩)]++rp 24 v_a++[v_an,v_a,UB])
def e_mb:(Nat×O):=(110,.ro l_ma)
def e_mc:(Nat×O):=(109,.ro l_I)
def h_md:Hp:=[e_l3,e_fT,e_fU,e_fZ,e_f0,e_f1,e_f2,e_f3,e_f4,(74,o_fL),e_l4,e_jX,e_jY,e_jZ,e_j0,e_j2,e_j3,e_kt,e_ku,e_kv,e_kw,e_ky,e_kz,e_k0,e_k1,e_k2,e_k3,e_k5,e_k6,e_lx,e_ly,e_lz,e_lA,e_lC,e_lD,e_l6,e_l7,e_l8,e_l9,e_mb,e_mc]
def h_me:Hp:=[e_l3,e_fT,e_fU,e_fZ,e_f0,e_f1,e_f2,e_f3,e_l4,e_f4,(74,o_fL),e_jX,e_jY,e_jZ,e_j0,e_j3,e_j2,e_kt,e_ku,e_kv,e_kw,e_kz,e_ky,e_k0,e_k1,e_k2,e_k3,e_k6,e_k5,e_lx,e_ly,e_lz,e_lA,e_lD,e_lC,e_l6,e_l7,e_l8,e_l9,e_mc,e_mb]
def e_mf:(Nat×O):=(64,.cells l_l2)
def e_mg:(Nat×O):=(105,.cells l_l5)
def e_mh:(Nat×O):=(106,.cells l_6)
def e_mi:(Nat×O):=(107,.cells l_ah)
def e_mj:(Nat×O):=(110,.cells l_ma)
def h_mk:Hp:=[e_a8,e_l3,e_fT,e_fU,e_fZ,e_f0,e_f1,e_f2,e_f3,e_l4,e_f4,(74,o_fL),e_j8,e_j9,e_ka,e_j0,e_j3,e_kb,e_kF,e_kG,e_kH,e_kw,e_kz,e_kI,e_ld,e_le,e_lf,e_k3,e_k6,e_lg,e_lM,e_lN,e_lO,e_lA,e_lD,e_lP,e_mg,e_mh,e_mi,e_l9,e_mc,e_mj]
def u_ml:Ow:=(v_eI,h_mk,113)
def u_mm:Ow:=(.tuple ⟨[.slice (some ⟨296,0,none⟩) 12 18446744073709551628,v_c]⟩,[e_a8,e_l3,e_fT,e_fU,e_fZ,e_f0,e_f1,e_f2,e_f3,e_l4,e_f4,(74,o_fL),e_j8,e_j9,e_ka,e_j0,e_j3,e_kb,e_kF,e_kG,e_kH,e_kw,e_kz,e_kI,e_ld,e_le,e_lf,e_k3,e_k6,e_lg,e_lM,e_lN,e_lO,e_lA,e_lD,e_lP,e_mg,e_mh,e_mi,e_l9,e_mc,e_mj,(296,o_eH)],297)
def u_mn:Ow:=(.tuple ⟨[.slice (some ⟨284,0,none⟩) 48 48,v_c]⟩,[e_a8,e_l3,e_fT,e_fU,e_fZ,e_f0,e_f1,e_f2,e_f3,e_l4,e_f4,(74,o_fL),e_j8,e_j9,e_ka,e_j0,e_j3,e_kb,e_kF,e_kG,e_kH,e_kw,e_kz,e_kI,e_ld,e_le,e_lf,e_k3,e_k6,e_lg,e_lM,e_lN,e_lO,e_lA,e_lD,e_lP,e_mg,e_mh,e_mi,e_l9,e_mc,e_mj,(284,o_c8)],340)
def u_mo:Ow:=(.tuple ⟨[.slice (some ⟨355,0,none⟩) 60 18446744073709551676,v_c]⟩,[e_a8,e_l3,e_fT,e_fU,e_fZ,e_f0,e_f1,e_f2,e_f3,e_l4,e_f4,(74,o_fL),e_j8,e_j9,e_ka,e_j0,e_j3,e_kb,e_kF,e_kG,e_kH,e_kw,e_kz,e_kI,e_ld,e_le,e_lf,e_k3,e_k6,e_lg,e_lM,e_lN,e_lO,e_lA,e_lD,e_lP,e_mg,e_mh,e_mi,e_l9,e_mc,e_mj,(355,o_eG)],356)
def u_mp:Ow:=(v_eE,h_mk,281)
def u_mq:Ow:=(.tuple ⟨[.chan (some 120),v_c]⟩,[e_a8,e_l3,e_fT,e_fU,e_fZ,e_f0,e_f1,e_f2,e_f3,e_l4,e_f4,(74,o_fL),e_j8,e_j9,e_ka,e_j0,e_j3,e_kb,e_kF,e_kG,e_kH,e_kw,e_kz,e_kI,e_ld,e_le,e_lf,e_k3,e_k6,e_lg,e_lM,e_lN,e_lO,e_lA,e_lD,e_lP,e_mg,e_mh,e_mi,e_l9,e_mc,e_mj,(120,o_dd)],182)
def w_mr:Outs:=[(v_c6,h_mk,111)]
def w_ms:Outs:=[(v_eJ,h_mk,113),u_ml,u_mm,u_mn,u_mo,u_mp,u_mq]
def h_mt:Hp:=[e_a8,e_mf,e_fT,e_fU,e_jJ,e_jK,e_jL,e_jM,e_f3,e_l4,e_f4,(74,o_fL),(75,o_cG),e_j8,e_j9,e_ka,e_j0,e_j3,e_kb,e_kF,e_kG,e_kH,e_kw,e_kz,e_kI,e_ld,e_le,e_lf,e_k3,e_k6,e_lg,e_lM,e_lN,e_lO,e_lA,e_lD,e_lP,e_mg,e_mh,e_mi,e_l9,e_mc,e_mj]
def w_mu:Outs:=[(v_ae,h_mt,5426)]
def w_mv:Outs:=[(v_C,h_mt,111)]
def c_cand5:Con:=⟨73,[v_F],h_md,111,[(v_aq,h_me,1901),(.slice (some ⟨1902,0,none⟩) 1 18446744073709551617,[e_l3,e_fT,e_fU,e_fZ,e_f0,e_f1,e_f2,e_f3,e_l4,e_f4,(74,o_fL),e_jX,e_jY,e_jZ,e_j0,e_j3,e_j2,e_kt,e_ku,e_kv,e_kw,e_kz,e_ky,e_k0,e_k1,e_k2,e_k3,e_k6,e_k5,e_lx,e_ly,e_lz,e_lA,e_lD,e_lC,e_l6,e_l7,e_l8,e_l9,e_mc,e_mb,(1902,.opn 5 [v_s,v_a,v_x,v_x,v_a])],1903),(.slice (some ⟨1544,0,none⟩) 1 18446744073709551617,[e_l3,e_fT,e_fU,e_fZ,e_f0,e_f1,e_f2,e_f3,e_l4,e_f4,(74,o_fL),e_jX,e_jY,e_jZ,e_j0,e_j3,e_j2,e_kt,e_ku,e_kv,e_kw,e_kz,e_ky,e_k0,e_k1,e_k2,e_k3,e_k6,e_k5,e_lx,e_ly,e_lz,e_lA,e_lD,e_lC,e_l6,e_l7,e_l8,e_l9,e_mc,e_mb,(1544,o_lG)],1903),(.slice (some ⟨1904,0,none⟩) 2 18446744073709551618,[e_l3,e_fT,e_fU,e_fZ,e_f0,e_f1,e_f2,e_f3,e_l4,e_f4,(74,o_fL),e_jX,e_jY,e_jZ,e_j0,e_j3,e_j2,e_kt,e_ku,e_kv,e_kw,e_kz,e_ky,e_k0,e_k1,e_k2,e_k3,e_k6,e_k5,e_lx,e_ly,e_lz,e_lA,e_lD,e_lC,e_l6,e_l7,e_l8,e_l9,e_mc,e_mb,(1904,.opn 5 [v_aZ,v_a,v_x,v_x,v_a,v_s,v_a,v_x,v_x,v_a])],1905),(.slice (some ⟨1186,0,none⟩) 1 18446744073709551617,[e_l3,e_fT,e_fU,e_fZ,e_f0,e_f1,e_f2,e_f3,e_l4,e_f4,(74,o_fL),e_jX,e_jY,e_jZ,e_j0,e_j3,e_j2,e_kt,e_ku,e_kv,e_kw,e_kz,e_ky,e_k0,e_k1,e_k2,e_k3,e_k6,e_k5,e_lx,e_ly,e_lz,e_lA,e_lD,e_lC,e_l6,e_l7,e_l8,e_l9,e_mc,e_mb,(1186,o_k9)],1903),(.slice (some ⟨1546,0,none⟩) 2 18446744073709551618,[e_l3,e_fT,e_fU,e_fZ,e_f0,e_f1,e_f2,e_f3,e_l4,e_f4,(74,o_fL),e_jX,e_jY,e_jZ,e_j0,e_j3,e_j2,e_kt,e_ku,e_kv,e_kw,e_kz,e_ky,e_k0,e_k1,e_k2,e_k3,e_k6,e_k5,e_lx,e_ly,e_lz,e_lA,e_lD,e_lC,e_l6,e_l7,e_l8,e_l9,e_mc,e_mb,(1546,o_lH)],1905),(.slice (some ⟨1906,0,none⟩) 3 18446744073709551619,[e_l3,e_fT,e_fU,e_fZ,e_f0,e_f1,e_f2,e_f3,e_l4,e_f4,(74,o_fL),e_jX,e_jY,e_jZ,e_j0,e_j3,e_j2,e_kt,e_ku,e_kv,e_kw,e_kz,e_ky,e_k0,e_k1,e_k2,e_k3,e_k6,e_k5,e_lx,e_ly,e_lz,e_lA,e_lD,e_lC,e_l6,e_l7,e_l8,e_l9,e_mc,e_mb,(1906,.opn 5 [v_aW,v_a,v_x,v_x,v_a,UI .i64 (.ofNat 1) (.ofNat 3),v_a,v_x,v_x,v_a,v_s,v_a,v_x,v_x,v_a])],1907),(.slice (some ⟨828,0,none⟩) 1 18446744073709551617,[e_l3,e_fT,e_fU,e_fZ,e_f0,e_f1,e_f2,e_f3,e_l4,e_f4,(74,o_fL),e_jX,e_jY,e_jZ,e_j0,e_j3,e_j2,e_kt,e_ku,e_kv,e_kw,e_kz,e_ky,e_k0,e_k1,e_k2,e_k3,e_k6,e_k5,e_lx,e_ly,e_lz,e_lA,e_lD,e_lC,e_l6,e_l7,e_l8,e_l9,e_mc,e_mb,(828,o_kC)],1903),(.slice (some ⟨1188,0,none⟩) 2 18446744073709551618,[e_l3,e_fT,e_fU,e_fZ,e_f0,e_f1,e_f2,e_f3,e_l4,e_f4,(74,o_fL),e_jX,e_jY,e_jZ,e_j0,e_j3,e_j2,e_kt,e_ku,e_kv,e_kw,e_kz,e_ky,e_k0,e_k1,e_k2,e_k3,e_k6,e_k5,e_lx,e_ly,e_lz,e_lA,e_lD,e_lC,e_l6,e_l7,e_l8,e_l9,e_mc,e_mb,(1188,o_la)],1905),(.slice (some ⟨1548,0,none⟩) 3 18446744073709551619,[e_l3,e_fT,e_fU,e_fZ,e_f0,e_f1,e_f2,e_f3,e_l4,e_f4,(74,o_fL),e_jX,e_jY,e_jZ,e_j0,e_j3,e_j2,e_kt,e_ku,e_kv,e_kw,e_kz,e_ky,e_k0,e_k1,e_k2,e_k3,e_k6,e_k5,e_lx,e_ly,e_lz,e_lA,e_lD,e_lC,e_l6,e_l7,e_l8,e_l9,e_mc,e_mb,(1548,o_lJ)],1907),(.slice (some ⟨1908,0,none⟩) 4 18446744073709551620,[e_l3,e_fT,e_fU,e_fZ,e_f0,e_f1,e_f2,e_f3,e_l4,e_f4,(74,o_fL),e_jX,e_jY,e_jZ,e_j0,e_j3,e_j2,e_kt,e_ku,e_kv,e_kw,e_kz,e_ky,e_k0,e_k1,e_k2,e_k3,e_k6,e_k5,e_lx,e_ly,e_lz,e_lA,e_lD,e_lC,e_l6,e_l7,e_l8,e_l9,e_mc,e_mb,(1908,.opn 5 [v_P,v_a,v_x,v_x,v_a,v_lI,v_a,v_x,v_x,v_a,UI .i64 (.ofNat 2) (.ofNat 3),v_a,v_x,v_x,v_a,v_s,v_a,v_x,v_x,v_a])],1909),(.slice (some ⟨470,0,none⟩) 1 18446744073709551617,[e_l3,e_fT,e_fU,e_fZ,e_f0,e_f1,e_f2,e_f3,e_l4,e_f4,(74,o_fL),e_jX,e_jY,e_jZ,e_j0,e_j3,e_j2,e_kt,e_ku,e_kv,e_kw,e_kz,e_ky,e_k0,e_k1,e_k2,e_k3,e_k6,e_k5,e_lx,e_ly,e_lz,e_lA,e_lD,e_lC,e_l6,e_l7,e_l8,e_l9,e_mc,e_mb,(470,o_j6)],1903),(.slice (some ⟨830,0,none⟩) 2 18446744073709551618,[e_l3,e_fT,e_fU,e_fZ,e_f0,e_f1,e_f2,e_f3,e_l4,e_f4,(74,o_fL),e_jX,e_jY,e_jZ,e_j0,e_j3,e_j2,e_kt,e_ku,e_kv,e_kw,e_kz,e_ky,e_k0,e_k1,e_k2,e_k3,e_k6,e_k5,e_lx,e_ly,e_lz,e_lA,e_lD,e_lC,e_l6,e_l7,e_l8,e_l9,e_mc,e_mb,(830,o_kD)],1905),(.slice (some ⟨1190,0,none⟩) 3 18446744073709551619,[e_l3,e_fT,e_fU,e_fZ,e_f0,e_f1,e_f2,e_f3,e_l4,e_f4,(74,o_fL),e_jX,e_jY,e_jZ,e_j0,e_j3,e_j2,e_kt,e_ku,e_kv,e_kw,e_kz,e_ky,e_k0,e_k1,e_k2,e_k3,e_k6,e_k5,e_lx,e_ly,e_lz,e_lA,e_lD,e_lC,e_l6,e_l7,e_l8,e_l9,e_mc,e_mb,(1190,o_lb)],1907),(.slice (some ⟨1550,0,none⟩) 4 18446744073709551620,[e_l3,e_fT,e_fU,e_fZ,e_f0,e_f1,e_f2,e_f3,e_l4,e_f4,(74,o_fL),e_jX,e_jY,e_jZ,e_j0,e_j3,e_j2,e_kt,e_ku,e_kv,e_kw,e_kz,e_ky,e_k0,e_k1,e_k2,e_k3,e_k6,e_k5,e_lx,e_ly,e_lz,e_lA,e_lD,e_lC,e_l6,e_l7,e_l8,e_l9,e_mc,e_mb,(1550,o_lK)],1909),(.slice (some ⟨1910,0,none⟩) 5 18446744073709551621,[e_l3,e_fT,e_fU,e_fZ,e_f0,e_f1,e_f2,e_f3,e_l4,e_f4,(74,o_fL),e_jX,e_jY,e_jZ,e_j0,e_j3,e_j2,e_kt,e_ku,e_kv,e_kw,e_kz,e_ky,e_k0,e_k1,e_k2,e_k3,e_k6,e_k5,e_lx,e_ly,e_lz,e_lA,e_lD,e_lC,e_l6,e_l7,e_l8,e_l9,e_mc,e_mb,(1910,.opn 5 [v_c,v_a,v_x,v_x,v_a,v_C,v_a,v_x,v_x,v_a,v_au,v_a,v_x,v_x,v_a,v_ax,v_a,v_x,v_x,v_a,v_s,v_a,v_x,v_x,v_a])],1911)]⟩
theorem c_cand5_ok:CF c_cand5:=cn t_takeA4 tu_stretch4
def l_cand5:List Con:=c_cand5::l_takeA4
theorem t_cand5:TF l_cand5:=ad c_cand5_ok t_takeA4
def c_stretch5:Con:=⟨336,[v_F],h_md,111,[(v_a,h_me,111)]⟩
theorem c_stretch5_ok:CT c_stretch5:=cn tu_stretch4 tu_stretch4
def l_stretch5:List Con:=c_stretch5::l_cand5
theorem t_stretch5:TF l_stretch5:=ad c_stretch5_ok.down t_cand5
def lu_stretch5:List Con:=c_stretch5::lu_stretch4
theorem tu_stretch5:TT lu_stretch5:=ad c_stretch5_ok tu_stretch4
def c_upd5:Con:=⟨74,l_jH,[e_mf,e_fT,e_fU,e_jJ,e_jK,e_jL,e_jM,e_f3,e_f4,(74,o_fL),e_l4,e_jX,e_jY,e_jZ,e_j0,e_j2,e_j3,e_kt,e_ku,e_kv,e_kw,e_ky,e_kz,e_k0,e_k1,e_k2,e_k3,e_k5,e_k6,e_lx,e_ly,e_lz,e_lA,e_lC,e_lD,e_l6,e_l7,e_l8,e_l9,e_mb,e_mc],111,[(v_aX,[e_mf,e_fT,e_fU,e_jJ,e_jK,e_jL,e_jM,e_f3,e_l4,e_f4,(74,o_fL),e_jX,e_jY,e_jZ,e_j0,e_j3,e_j2,e_kt,e_ku,e_kv,e_kw,e_kz,e_ky,e_k0,e_k1,e_k2,e_k3,e_k6,e_k5,e_lx,e_ly,e_lz,e_lA,e_lD,e_lC,e_l6,e_l7,e_l8,e_l9,e_mc,e_mb],120)]⟩
theorem c_upd5_ok:CF c_upd5:=cn t_stretch5 tu_stretch5
def l_upd5:List Con:=c_upd5::l_stretch5
theorem t_upd5:TF l_upd5:=ad c_upd5_ok t_stretch5
def c_ask5:Con:=⟨12,l_jO,[e_l3,e_fT,e_fU,e_fZ,e_f0,e_f1,e_f2,e_f3,e_f4,(74,o_fL),e_l4,e_j8,e_j9,e_ka,e_j0,e_kb,e_j3,e_kF,e_kG,e_kH,e_kw,e_kI,e_kz,e_ld,e_le,e_lf,e_k3,e_lg,e_k6,e_lM,e_lN,e_lO,e_lA,e_lP,e_lD,e_mg,e_mh,e_mi,e_l9,e_mj,e_mc,e_a8],111,[(v_kc,h_mk,113),u_ml,u_mm,u_mn,u_mo,u_mp,u_mq]⟩
def o_c_ask5_0:Outs:=w_mr
theorem c_ask5_0_ok:CF (setTo c_ask5 true 0 1 (mkU .i64 mn m1) o_c_ask5_0):=cn t_upd5 tu_stretch5
def o_c_ask5_1:Outs:=w_ms
theorem c_ask5_1_ok:CF (setTo c_ask5 true 0 1 (mkU .i64 z0 z0) o_c_ask5_1):=cn t_upd5 tu_stretch5
def o_c_ask5_2:Outs:=w_ms
theorem c_ask5_2_ok:CF (setTo c_ask5 true 0 1 (mkU .i64 (.ofNat 1) (.ofNat 1)) o_c_ask5_2):=cn t_upd5 tu_stretch5
def o_c_ask5_3:Outs:=w_ms
theorem c_ask5_3_ok:CF (setTo c_ask5 true 0 1 (mkU .i64 (.ofNat 2) (.ofNat 2)) o_c_ask5_3):=cn t_upd5 tu_stretch5
def o_c_ask5_4:Outs:=w_ms
theorem c_ask5_4_ok:CF (setTo c_ask5 true 0 1 (mkU .i64 (.ofNat 3) (.ofNat 3)) o_c_ask5_4):=cn t_upd5 tu_stretch5
def o_c_ask5_5:Outs:=w_ms
theorem c_ask5_5_ok:CF (setTo c_ask5 true 0 1 (mkU .i64 (.ofNat 4) (.ofNat 4)) o_c_ask5_5):=cn t_upd5 tu_stretch5
def o_c_ask5_6:Outs:=w_mr
theorem c_ask5_6_ok:CF (setTo c_ask5 true 0 1 (mkU .i64 (.ofNat 5) mx) o_c_ask5_6):=cn t_upd5 tu_stretch5
theorem c_ask5_ok:CF c_ask5:=.cut (kd:=.i64) (k2:=.i64) (lo:=mn) (hi:=mx) true 0 1 (by kernel_rfl) ⟨by kernel_rfl,by kernel_rfl⟩ (by kernel_rfl) [(m1,o_c_ask5_0),(z0,o_c_ask5_1),((.ofNat 1),o_c_ask5_2),((.ofNat 2),o_c_ask5_3),((.ofNat 3),o_c_ask5_4),((.ofNat 4),o_c_ask5_5),(mx,o_c_ask5_6)] ⟨c_ask5_0_ok,by kernel_rfl,⟨c_ask5_1_ok,by kernel_rfl,⟨c_ask5_2_ok,by kernel_rfl,⟨c_ask5_3_ok,by kernel_rfl,⟨c_ask5_4_ok,by kernel_rfl,⟨c_ask5_5_ok,by kernel_rfl,⟨c_ask5_6_ok,by kernel_rfl,(segs_nil (by kernel_rfl))⟩⟩⟩⟩⟩⟩⟩
def l_ask5:List Con:=c_ask5::l_upd5
theorem t_ask5:TF l_ask5:=ad c_ask5_ok t_upd5
def c_takeA5:Con:=⟨18,l_jQ,[e_mf,e_fT,e_fU,e_jJ,e_jK,e_jL,e_jM,e_f3,e_f4,(74,o_fL),e_l4,e_j8,e_j9,e_ka,e_j0,e_kb,e_j3,e_kF,e_kG,e_kH,e_kw,e_kI,e_kz,e_ld,e_le,e_lf,e_k3,e_lg,e_k6,e_lM,e_lN,e_lO,e_lA,e_lP,e_lD,e_mg,e_mh,e_mi,e_l9,e_mj,e_mc,(75,o_cG),e_a8],111,w_mu⟩
def o_c_takeA5_0:Outs:=w_mv
theorem c_takeA5_0_ok:CF (setTo c_takeA5 true 0 1 (mkU .i64 mn m1) o_c_takeA5_0):=cn t_ask5 tu_stretch5
def o_c_takeA5_1:Outs:=w_mu
theorem c_takeA5_1_ok:CF (setTo c_takeA5 true 0 1 (mkU .i64 z0 z0) o_c_takeA5_1):=cn t_ask5 tu_stretch5
def o_c_takeA5_2:Outs:=w_mu
theorem c_takeA5_2_ok:CF (setTo c_takeA5 true 0 1 (mkU .i64 (.ofNat 1) (.ofNat 1)) o_c_takeA5_2):=cn t_ask5 tu_stretch5
def o_c_takeA5_3:Outs:=w_mu
theorem c_takeA5_3_ok:CF (setTo c_takeA5 true 0 1 (mkU .i64 (.ofNat 2) (.ofNat 2)) o_c_takeA5_3):=cn t_ask5 tu_stretch5
def o_c_takeA5_4:Outs:=w_mu
theorem c_takeA5_4_ok:CF (setTo c_takeA5 true 0 1 (mkU .i64 (.ofNat 3) (.ofNat 3)) o_c_takeA5_4):=cn t_ask5 tu_stretch5
def o_c_takeA5_5:Outs:=w_mu
theorem c_takeA5_5_ok:CF (setTo c_takeA5 true 0 1 (mkU .i64 (.ofNat 4) (.ofNat 4)) o_c_takeA5_5):=cn t_ask5 tu_stretch5
def o_c_takeA5_6:Outs:=w_mv
theorem c_takeA5_6_ok:CF (setTo c_takeA5 true 0 1 (mkU .i64 (.ofNat 5) mx) o_c_takeA5_6):=cn t_ask5 tu_stretch5
theorem c_takeA5_ok:CF c_takeA5:=.cut (kd:=.i64) (k2:=.i64) (lo:=mn) (hi:=mx) true 0 1 (by kernel_rfl) ⟨by kernel_rfl,by kernel_rfl⟩ (by kernel_rfl) [(m1,o_c_takeA5_0),(z0,o_c_takeA5_1),((.ofNat 1),o_c_takeA5_2),((.ofNat 2),o_c_takeA5_3),((.ofNat 3),o_c_takeA5_4),((.ofNat 4),o_c_takeA5_5),(mx,o_c_takeA5_6)] ⟨c_takeA5_0_ok,by kernel_rfl,⟨c_takeA5_1_ok,by kernel_rfl,⟨c_takeA5_2_ok,by kernel_rfl,⟨c_takeA5_3_ok,by kernel_rfl,⟨c_takeA5_4_ok,by kernel_rfl,⟨c_takeA5_5_ok,by kernel_rfl,⟨c_takeA5_6_ok,by kernel_rfl,(segs_nil (by kernel_rfl))⟩⟩⟩⟩⟩⟩⟩
def l_takeA5:List Con:=c_takeA5::l_ask5
theorem t_takeA5:TF l_takeA5:=ad c_takeA5_ok t_ask5
end
end Go.Proofs.YtdohkfgflpdkcaaGreatDoor.sym
