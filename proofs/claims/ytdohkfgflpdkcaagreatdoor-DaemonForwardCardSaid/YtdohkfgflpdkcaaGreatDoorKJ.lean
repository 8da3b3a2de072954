/-
  PROVED HERE: a part of the proof of DaemonForward (texts KB14 of the prover, joined). No condition of its own.
-/
import Derived.Test.YtdohkfgflpdkcaaGreatDoorKI
set_option linter.unusedVariables false
set_option linter.unusedSimpArgs false
namespace Go.Proofs.YtdohkfgflpdkcaaGreatDoor.sym
open Go Go.Eng
noncomputable section
set_option maxRecDepth 100000
def l_lt:List Value:=[v_ak,v_eo,v_ep,v_ew,v_fO,v_fP,v_fQ,.slice (some ⟨72,0,none⟩) 4 18446744073709551620,v_eq,v_fR,v_a,v_a,v_a,v_x,v_a,v_a]
def e_lu:(Nat×O):=(64,.ro l_lt)
def e_lv:(Nat×O):=(72,.ro [v_jU,v_kq,v_kX,v_hI])
def l_lw:List Value:=([v_aL,v_Q,v_Q,v_hJ,v_hF,v_hw,v_hy]++rp 6 v_a)
def e_lx:(Nat×O):=(99,.ro l_lw)
def e_ly:(Nat×O):=(100,.ro l_6)
def e_lz:(Nat×O):=(101,.ro l_ah)
def e_lA:(Nat×O):=(102,.ro l_I)
def l_lB:List Value:=([v_hx]++rp 24 v_a++[v_an,v_a,UB])
def e_lC:(Nat×O):=(104,.ro l_lB)
def e_lD:(Nat×O):=(103,.ro l_I)
def h_lE:Hp:=[e_lu,e_fT,e_fU,e_fZ,e_f0,e_f1,e_f2,e_f3,e_f4,(74,o_fL),e_lv,e_jX,e_jY,e_jZ,e_j0,e_j2,e_j3,e_kt,e_ku,e_kv,e_kw,e_ky,e_kz,e_k0,e_k1,e_k2,e_k3,e_k5,e_k6,e_lx,e_ly,e_lz,e_lA,e_lC,e_lD]
def h_lF:Hp:=[e_lu,e_fT,e_fU,e_fZ,e_f0,e_f1,e_f2,e_f3,e_lv,e_f4,(74,o_fL),e_jX,e_jY,e_jZ,e_j0,e_j3,e_j2,e_kt,e_ku,e_kv,e_kw,e_kz,e_ky,e_k0,e_k1,e_k2,e_k3,e_k6,e_k5,e_lx,e_ly,e_lz,e_lA,e_lD,e_lC]
def o_lG:O:=.opn 5 [v_ax,v_a,v_x,v_x,v_a]
def o_lH:O:=.opn 5 [v_aW,v_a,v_x,v_x,v_a,v_ax,v_a,v_x,v_x,v_a]
def v_lI:Value:=UI .i64 (.ofNat 1) (.ofNat 2)
def o_lJ:O:=.opn 5 [v_P,v_a,v_x,v_x,v_a,v_lI,v_a,v_x,v_x,v_a,v_ax,v_a,v_x,v_x,v_a]
def o_lK:O:=.opn 5 [v_c,v_a,v_x,v_x,v_a,v_C,v_a,v_x,v_x,v_a,v_au,v_a,v_x,v_x,v_a,v_ax,v_a,v_x,v_x,v_a]
def e_lL:(Nat×O):=(64,.cells l_lt)
def e_lM:(Nat×O):=(99,.cells l_lw)
def e_lN:(Nat×O):=(100,.cells l_6)
def e_lO:(Nat×O):=(101,.cells l_ah)
def e_lP:(Nat×O):=(104,.cells l_lB)
def h_lQ:Hp:=[e_a8,e_lu,e_fT,e_fU,e_fZ,e_f0,e_f1,e_f2,e_f3,e_lv,e_f4,(74,o_fL),e_j8,e_j9,e_ka,e_j0,e_j3,e_kb,e_kF,e_kG,e_kH,e_kw,e_kz,e_kI,e_ld,e_le,e_lf,e_k3,e_k6,e_lg,e_lM,e_lN,e_lO,e_lA,e_lD,e_lP]
def u_lR:Ow:=(v_eI,h_lQ,107)
def u_lS:Ow:=(.tuple ⟨[.slice (some ⟨290,0,none⟩) 12 18446744073709551628,v_c]⟩,[e_a8,e_lu,e_fT,e_fU,e_fZ,e_f0,e_f1,e_f2,e_f3,e_lv,e_f4,(74,o_fL),e_j8,e_j9,e_ka,e_j0,e_j3,e_kb,e_kF,e_kG,e_kH,e_kw,e_kz,e_kI,e_ld,e_le,e_lf,e_k3,e_k6,e_lg,e_lM,e_lN,e_lO,e_lA,e_lD,e_lP,(290,o_eH)],291)
def u_lT:Ow:=(.tuple ⟨[.slice (some ⟨278,0,none⟩) 48 48,v_c]⟩,[e_a8,e_lu,e_fT,e_fU,e_fZ,e_f0,e_f1,e_f2,e_f3,e_lv,e_f4,(74,o_fL),e_j8,e_j9,e_ka,e_j0,e_j3,e_kb,e_kF,e_kG,e_kH,e_kw,e_kz,e_kI,e_ld,e_le,e_lf,e_k3,e_k6,e_lg,e_lM,e_lN,e_lO,e_lA,e_lD,e_lP,(278,o_c8)],334)
def u_lU:Ow:=(.tuple ⟨[.slice (some ⟨349,0,none⟩) 60 18446744073709551676,v_c]⟩,[e_a8,e_lu,e_fT,e_fU,e_fZ,e_f0,e_f1,e_f2,e_f3,e_lv,e_f4,(74,o_fL),e_j8,e_j9,e_ka,e_j0,e_j3,e_kb,e_kF,e_kG,e_kH,e_kw,e_kz,e_kI,e_ld,e_le,e_lf,e_k3,e_k6,e_lg,e_lM,e_lN,e_lO,e_lA,e_lD,e_lP,(349,o_eG)],350)
def u_lV:Ow:=(v_eE,h_lQ,275)
def u_lW:Ow:=(.tuple ⟨[.chan (some 114),v_c]⟩,[e_a8,e_lu,e_fT,e_fU,e_fZ,e_f0,e_f1,e_f2,e_f3,e_lv,e_f4,(74,o_fL),e_j8,e_j9,e_ka,e_j0,e_j3,e_kb,e_kF,e_kG,e_kH,e_kw,e_kz,e_kI,e_ld,e_le,e_lf,e_k3,e_k6,e_lg,e_lM,e_lN,e_lO,e_lA,e_lD,e_lP,(114,o_dd)],176)
def w_lX:Outs:=[(v_c6,h_lQ,105)]
def w_lY:Outs:=[(v_eJ,h_lQ,107),u_lR,u_lS,u_lT,u_lU,u_lV,u_lW]
def h_lZ:Hp:=[e_a8,e_lL,e_fT,e_fU,e_jJ,e_jK,e_jL,e_jM,e_f3,e_lv,e_f4,(74,o_fL),(75,o_cG),e_j8,e_j9,e_ka,e_j0,e_j3,e_kb,e_kF,e_kG,e_kH,e_kw,e_kz,e_kI,e_ld,e_le,e_lf,e_k3,e_k6,e_lg,e_lM,e_lN,e_lO,e_lA,e_lD,e_lP]
def w_l0:Outs:=[(v_ae,h_lZ,4198)]
def w_l1:Outs:=[(v_C,h_lZ,105)]
def c_cand4:Con:=⟨73,[v_F],h_lE,105,[(v_aq,h_lF,1537),(.slice (some ⟨1538,0,none⟩) 1 18446744073709551617,[e_lu,e_fT,e_fU,e_fZ,e_f0,e_f1,e_f2,e_f3,e_lv,e_f4,(74,o_fL),e_jX,e_jY,e_jZ,e_j0,e_j3,e_j2,e_kt,e_ku,e_kv,e_kw,e_kz,e_ky,e_k0,e_k1,e_k2,e_k3,e_k6,e_k5,e_lx,e_ly,e_lz,e_lA,e_lD,e_lC,(1538,o_lG)],1539),(.slice (some ⟨1180,0,none⟩) 1 18446744073709551617,[e_lu,e_fT,e_fU,e_fZ,e_f0,e_f1,e_f2,e_f3,e_lv,e_f4,(74,o_fL),e_jX,e_jY,e_jZ,e_j0,e_j3,e_j2,e_kt,e_ku,e_kv,e_kw,e_kz,e_ky,e_k0,e_k1,e_k2,e_k3,e_k6,e_k5,e_lx,e_ly,e_lz,e_lA,e_lD,e_lC,(1180,o_k9)],1539),(.slice (some ⟨1540,0,none⟩) 2 18446744073709551618,[e_lu,e_fT,e_fU,e_fZ,e_f0,e_f1,e_f2,e_f3,e_lv,e_f4,(74,o_fL),e_jX,e_jY,e_jZ,e_j0,e_j3,e_j2,e_kt,e_ku,e_kv,e_kw,e_kz,e_ky,e_k0,e_k1,e_k2,e_k3,e_k6,e_k5,e_lx,e_ly,e_lz,e_lA,e_lD,e_lC,(1540,o_lH)],1541),(.slice (some ⟨822,0,none⟩) 1 18446744073709551617,[e_lu,e_fT,e_fU,e_fZ,e_f0,e_f1,e_f2,e_f3,e_lv,e_f4,(74,o_fL),e_jX,e_jY,e_jZ,e_j0,e_j3,e_j2,e_kt,e_ku,e_kv,e_kw,e_kz,e_ky,e_k0,e_k1,e_k2,e_k3,e_k6,e_k5,e_lx,e_ly,e_lz,e_lA,e_lD,e_lC,(822,o_kC)],1539),(.slice (some ⟨1182,0,none⟩) 2 18446744073709551618,[e_lu,e_fT,e_fU,e_fZ,e_f0,e_f1,e_f2,e_f3,e_lv,e_f4,(74,o_fL),e_jX,e_jY,e_jZ,e_j0,e_j3,e_j2,e_kt,e_ku,e_kv,e_kw,e_kz,e_ky,e_k0,e_k1,e_k2,e_k3,e_k6,e_k5,e_lx,e_ly,e_lz,e_lA,e_lD,e_lC,(1182,o_la)],1541),(.slice (some ⟨1542,0,none⟩) 3 18446744073709551619,[e_lu,e_fT,e_fU,e_fZ,e_f0,e_f1,e_f2,e_f3,e_lv,e_f4,(74,o_fL),e_jX,e_jY,e_jZ,e_j0,e_j3,e_j2,e_kt,e_ku,e_kv,e_kw,e_kz,e_ky,e_k0,e_k1,e_k2,e_k3,e_k6,e_k5,e_lx,e_ly,e_lz,e_lA,e_lD,e_lC,(1542,o_lJ)],1543),(.slice (some ⟨464,0,none⟩) 1 18446744073709551617,[e_lu,e_fT,e_fU,e_fZ,e_f0,e_f1,e_f2,e_f3,e_lv,e_f4,(74,o_fL),e_jX,e_jY,e_jZ,e_j0,e_j3,e_j2,e_kt,e_ku,e_kv,e_kw,e_kz,e_ky,e_k0,e_k1,e_k2,e_k3,e_k6,e_k5,e_lx,e_ly,e_lz,e_lA,e_lD,e_lC,(464,o_j6)],1539),(.slice (some ⟨824,0,none⟩) 2 18446744073709551618,[e_lu,e_fT,e_fU,e_fZ,e_f0,e_f1,e_f2,e_f3,e_lv,e_f4,(74,o_fL),e_jX,e_jY,e_jZ,e_j0,e_j3,e_j2,e_kt,e_ku,e_kv,e_kw,e_kz,e_ky,e_k0,e_k1,e_k2,e_k3,e_k6,e_k5,e_lx,e_ly,e_lz,e_lA,e_lD,e_lC,(824,o_kD)],1541),(.slice (some ⟨1184,0,none⟩) 3 18446744073709551619,[e_lu,e_fT,e_fU,e_fZ,e_f0,e_f1,e_f2,e_f3,e_lv,e_f4,(74,o_fL),e_jX,e_jY,e_jZ,e_j0,e_j3,e_j2,e_kt,e_ku,e_kv,e_kw,e_kz,e_ky,e_k0,e_k1,e_k2,e_k3,e_k6,e_k5,e_lx,e_ly,e_lz,e_lA,e_lD,e_lC,(1184,o_lb)],1543),(.slice (some ⟨1544,0,none⟩) 4 18446744073709551620,[e_lu,e_fT,e_fU,e_fZ,e_f0,e_f1,e_f2,e_f3,e_lv,e_f4,(74,o_fL),e_jX,e_jY,e_jZ,e_j0,e_j3,e_j2,e_kt,e_ku,e_kv,e_kw,e_kz,e_ky,e_k0,e_k1,e_k2,e_k3,e_k6,e_k5,e_lx,e_ly,e_lz,e_lA,e_lD,e_lC,(1544,o_lK)],1545)]⟩
theorem c_cand4_ok:CF c_cand4:=cn t_takeA3 tu_stretch3
def l_cand4:List Con:=c_cand4::l_takeA3
theorem t_cand4:TF l_cand4:=ad c_cand4_ok t_takeA3
def c_stretch4:Con:=⟨336,[v_F],h_lE,105,[(v_a,h_lF,105)]⟩
theorem c_stretch4_ok:CT c_stretch4:=cn tu_stretch3 tu_stretch3
def l_stretch4:List Con:=c_stretch4::l_cand4
theorem t_stretch4:TF l_stretch4:=ad c_stretch4_ok.down t_cand4
def lu_stretch4:List Con:=c_stretch4::lu_stretch3
theorem tu_stretch4:TT lu_stretch4:=ad c_stretch4_ok tu_stretch3
def c_upd4:Con:=⟨74,l_jH,[e_lL,e_fT,e_fU,e_jJ,e_jK,e_jL,e_jM,e_f3,e_f4,(74,o_fL),e_lv,e_jX,e_jY,e_jZ,e_j0,e_j2,e_j3,e_kt,e_ku,e_kv,e_kw,e_ky,e_kz,e_k0,e_k1,e_k2,e_k3,e_k5,e_k6,e_lx,e_ly,e_lz,e_lA,e_lC,e_lD],105,[(v_aX,[e_lL,e_fT,e_fU,e_jJ,e_jK,e_jL,e_jM,e_f3,e_lv,e_f4,(74,o_fL),e_jX,e_jY,e_jZ,e_j0,e_j3,e_j2,e_kt,e_ku,e_kv,e_kw,e_kz,e_ky,e_k0,e_k1,e_k2,e_k3,e_k6,e_k5,e_lx,e_ly,e_lz,e_lA,e_lD,e_lC],114)]⟩
theorem c_upd4_ok:CF c_upd4:=cn t_stretch4 tu_stretch4
def l_upd4:List Con:=c_upd4::l_stretch4
theorem t_upd4:TF l_upd4:=ad c_upd4_ok t_stretch4
def c_ask4:Con:=⟨12,l_jO,[e_lu,e_fT,e_fU,e_fZ,e_f0,e_f1,e_f2,e_f3,e_f4,(74,o_fL),e_lv,e_j8,e_j9,e_ka,e_j0,e_kb,e_j3,e_kF,e_kG,e_kH,e_kw,e_kI,e_kz,e_ld,e_le,e_lf,e_k3,e_lg,e_k6,e_lM,e_lN,e_lO,e_lA,e_lP,e_lD,e_a8],105,[(v_kc,h_lQ,107),u_lR,u_lS,u_lT,u_lU,u_lV,u_lW]⟩
def o_c_ask4_0:Outs:=w_lX
theorem c_ask4_0_ok:CF (setTo c_ask4 true 0 1 (mkU .i64 mn m1) o_c_ask4_0):=cn t_upd4 tu_stretch4
def o_c_ask4_1:Outs:=w_lY
theorem c_ask4_1_ok:CF (setTo c_ask4 true 0 1 (mkU .i64 z0 z0) o_c_ask4_1):=cn t_upd4 tu_stretch4
def o_c_ask4_2:Outs:=w_lY
theorem c_ask4_2_ok:CF (setTo c_ask4 true 0 1 (mkU .i64 (.ofNat 1) (.ofNat 1)) o_c_ask4_2):=cn t_upd4 tu_stretch4
def o_c_ask4_3:Outs:=w_lY
theorem c_ask4_3_ok:CF (setTo c_ask4 true 0 1 (mkU .i64 (.ofNat 2) (.ofNat 2)) o_c_ask4_3):=cn t_upd4 tu_stretch4
def o_c_ask4_4:Outs:=w_lY
theorem c_ask4_4_ok:CF (setTo c_ask4 true 0 1 (mkU .i64 (.ofNat 3) (.ofNat 3)) o_c_ask4_4):=cn t_upd4 tu_stretch4
def o_c_ask4_5:Outs:=w_lX
theorem c_ask4_5_ok:CF (setTo c_ask4 true 0 1 (mkU .i64 (.ofNat 4) mx) o_c_ask4_5):=cn t_upd4 tu_stretch4
theorem c_ask4_ok:CF c_ask4:=.cut (kd:=.i64) (k2:=.i64) (lo:=mn) (hi:=mx) true 0 1 (by kernel_rfl) ⟨by kernel_rfl,by kernel_rfl⟩ (by kernel_rfl) [(m1,o_c_ask4_0),(z0,o_c_ask4_1),((.ofNat 1),o_c_ask4_2),((.ofNat 2),o_c_ask4_3),((.ofNat 3),o_c_ask4_4),(mx,o_c_ask4_5)] ⟨c_ask4_0_ok,by kernel_rfl,⟨c_ask4_1_ok,by kernel_rfl,⟨c_ask4_2_ok,by kernel_rfl,⟨c_ask4_3_ok,by kernel_rfl,⟨c_ask4_4_ok,by kernel_rfl,⟨c_ask4_5_ok,by kernel_rfl,(segs_nil (by kernel_rfl))⟩⟩⟩⟩⟩⟩
def l_ask4:List Con:=c_ask4::l_upd4
theorem t_ask4:TF l_ask4:=ad c_ask4_ok t_upd4
def c_takeA4:Con:=⟨18,l_jQ,[e_lL,e_fT,e_fU,e_jJ,e_jK,e_jL,e_jM,e_f3,e_f4,(74,o_fL),e_lv,e_j8,e_j9,e_ka,e_j0,e_kb,e_j3,e_kF,e_kG,e_kH,e_kw,e_kI,e_kz,e_ld,e_le,e_lf,e_k3,e_lg,e_k6,e_lM,e_lN,e_lO,e_lA,e_lP,e_lD,(75,o_cG),e_a8],105,w_l0⟩
def o_c_takeA4_0:Outs:=w_l1
theorem c_takeA4_0_ok:CF (setTo c_takeA4 true 0 1 (mkU .i64 mn m1) o_c_takeA4_0):=cn t_ask4 tu_stretch4
def o_c_takeA4_1:Outs:=w_l0
theorem c_takeA4_1_ok:CF (setTo c_takeA4 true 0 1 (mkU .i64 z0 z0) o_c_takeA4_1):=cn t_ask4 tu_stretch4
def o_c_takeA4_2:Outs:=w_l0
theorem c_takeA4_2_ok:CF (setTo c_takeA4 true 0 1 (mkU .i64 (.ofNat 1) (.ofNat 1)) o_c_takeA4_2):=cn t_ask4 tu_stretch4
def o_c_takeA4_3:Outs:=w_l0
theorem c_takeA4_3_ok:CF (setTo c_takeA4 true 0 1 (mkU .i64 (.ofNat 2) (.ofNat 2)) o_c_takeA4_3):=cn t_ask4 tu_stretch4
def o_c_takeA4_4:Outs:=w_l0
theorem c_takeA4_4_ok:CF (setTo c_takeA4 true 0 1 (mkU .i64 (.ofNat 3) (.ofNat 3)) o_c_takeA4_4):=cn t_ask4 tu_stretch4
def o_c_takeA4_5:Outs:=w_l1
theorem c_takeA4_5_ok:CF (setTo c_takeA4 true 0 1 (mkU .i64 (.ofNat 4) mx) o_c_takeA4_5):=cn t_ask4 tu_stretch4
theorem c_takeA4_ok:CF c_takeA4:=.cut (kd:=.i64) (k2:=.i64) (lo:=mn) (hi:=mx) true 0 1 (by kernel_rfl) ⟨by kernel_rfl,by kernel_rfl⟩ (by kernel_rfl) [(m1,o_c_takeA4_0),(z0,o_c_takeA4_1),((.ofNat 1),o_c_takeA4_2),((.ofNat 2),o_c_takeA4_3),((.ofNat 3),o_c_takeA4_4),(mx,o_c_takeA4_5)] ⟨c_takeA4_0_ok,by kernel_rfl,⟨c_takeA4_1_ok,by kernel_rfl,⟨c_takeA4_2_ok,by kernel_rfl,⟨c_takeA4_3_ok,by kernel_rfl,⟨c_takeA4_4_ok,by kernel_rfl,⟨c_takeA4_5_ok,by kernel_rfl,(segs_nil (by kernel_rfl))⟩⟩⟩⟩⟩⟩
def l_takeA4:List Con:=c_takeA4::l_ask4
theorem t_takeA4:TF l_takeA4:=ad c_takeA4_ok t_ask4
end
end Go.Proofs.YtdohkfgflpdkcaaGreatDoor.sym
