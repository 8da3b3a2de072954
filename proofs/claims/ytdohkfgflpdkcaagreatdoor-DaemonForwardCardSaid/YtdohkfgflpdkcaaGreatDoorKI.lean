/-
  PROVED HERE: a part of the proof of DaemonForward (texts KB13 of the prover, joined). No condition of its own.
-/
import Derived.Test.YtdohkfgflpdkcaaGreatDoorKH
set_option linter.unusedVariables false
set_option linter.unusedSimpArgs false
namespace Go.Proofs.YtdohkfgflpdkcaaGreatDoor.sym
open Go Go.Eng
noncomputable section
set_option maxRecDepth 100000
def l_kV:List Value:=[v_ak,v_eo,v_ep,v_ew,v_fO,v_fP,v_fQ,.slice (some ⟨72,0,none⟩) 3 18446744073709551619,v_eq,v_fR,v_a,v_a,v_a,v_x,v_a,v_a]
def e_kW:(Nat×O):=(64,.ro l_kV)
def v_kX:Value:=.pointer (some ⟨93,0,none⟩)
def e_kY:(Nat×O):=(72,.ro [v_jU,v_kq,v_kX])
def l_kZ:List Value:=([v_aL,v_Q,v_Q,v_hr,.pointer (some ⟨95,0,none⟩),.pointer (some ⟨96,0,none⟩),v_hO]++rp 6 v_a)
def e_k0:(Nat×O):=(93,.ro l_kZ)
def e_k1:(Nat×O):=(94,.ro l_6)
def e_k2:(Nat×O):=(95,.ro l_ah)
def e_k3:(Nat×O):=(96,.ro l_I)
def l_k4:List Value:=([v_hl]++rp 24 v_a++[v_an,v_a,UB])
def e_k5:(Nat×O):=(98,.ro l_k4)
def e_k6:(Nat×O):=(97,.ro l_I)
def h_k7:Hp:=[e_kW,e_fT,e_fU,e_fZ,e_f0,e_f1,e_f2,e_f3,e_f4,(74,o_fL),e_kY,e_jX,e_jY,e_jZ,e_j0,e_j2,e_j3,e_kt,e_ku,e_kv,e_kw,e_ky,e_kz,e_k0,e_k1,e_k2,e_k3,e_k5,e_k6]
def h_k8:Hp:=[e_kW,e_fT,e_fU,e_fZ,e_f0,e_f1,e_f2,e_f3,e_kY,e_f4,(74,o_fL),e_jX,e_jY,e_jZ,e_j0,e_j3,e_j2,e_kt,e_ku,e_kv,e_kw,e_kz,e_ky,e_k0,e_k1,e_k2,e_k3,e_k6,e_k5]
def o_k9:O:=.opn 5 [v_au,v_a,v_x,v_x,v_a]
def o_la:O:=.opn 5 [v_P,v_a,v_x,v_x,v_a,v_au,v_a,v_x,v_x,v_a]
def o_lb:O:=.opn 5 [v_c,v_a,v_x,v_x,v_a,v_C,v_a,v_x,v_x,v_a,v_au,v_a,v_x,v_x,v_a]
def e_lc:(Nat×O):=(64,.cells l_kV)
def e_ld:(Nat×O):=(93,.cells l_kZ)
def e_le:(Nat×O):=(94,.cells l_6)
def e_lf:(Nat×O):=(95,.cells l_ah)
def e_lg:(Nat×O):=(98,.cells l_k4)
def h_lh:Hp:=[e_a8,e_kW,e_fT,e_fU,e_fZ,e_f0,e_f1,e_f2,e_f3,e_kY,e_f4,(74,o_fL),e_j8,e_j9,e_ka,e_j0,e_j3,e_kb,e_kF,e_kG,e_kH,e_kw,e_kz,e_kI,e_ld,e_le,e_lf,e_k3,e_k6,e_lg]
def u_li:Ow:=(v_eI,h_lh,101)
def u_lj:Ow:=(.tuple ⟨[.slice (some ⟨284,0,none⟩) 12 18446744073709551628,v_c]⟩,[e_a8,e_kW,e_fT,e_fU,e_fZ,e_f0,e_f1,e_f2,e_f3,e_kY,e_f4,(74,o_fL),e_j8,e_j9,e_ka,e_j0,e_j3,e_kb,e_kF,e_kG,e_kH,e_kw,e_kz,e_kI,e_ld,e_le,e_lf,e_k3,e_k6,e_lg,(284,o_eH)],285)
def u_lk:Ow:=(.tuple ⟨[.slice (some ⟨272,0,none⟩) 48 48,v_c]⟩,[e_a8,e_kW,e_fT,e_fU,e_fZ,e_f0,e_f1,e_f2,e_f3,e_kY,e_f4,(74,o_fL),e_j8,e_j9,e_ka,e_j0,e_j3,e_kb,e_kF,e_kG,e_kH,e_kw,e_kz,e_kI,e_ld,e_le,e_lf,e_k3,e_k6,e_lg,(272,o_c8)],328)
def u_ll:Ow:=(.tuple ⟨[.slice (some ⟨343,0,none⟩) 60 18446744073709551676,v_c]⟩,[e_a8,e_kW,e_fT,e_fU,e_fZ,e_f0,e_f1,e_f2,e_f3,e_kY,e_f4,(74,o_fL),e_j8,e_j9,e_ka,e_j0,e_j3,e_kb,e_kF,e_kG,e_kH,e_kw,e_kz,e_kI,e_ld,e_le,e_lf,e_k3,e_k6,e_lg,(343,o_eG)],344)
def u_lm:Ow:=(v_eE,h_lh,269)
def u_ln:Ow:=(.tuple ⟨[.chan (some 108),v_c]⟩,[e_a8,e_kW,e_fT,e_fU,e_fZ,e_f0,e_f1,e_f2,e_f3,e_kY,e_f4,(74,o_fL),e_j8,e_j9,e_ka,e_j0,e_j3,e_kb,e_kF,e_kG,e_kH,e_kw,e_kz,e_kI,e_ld,e_le,e_lf,e_k3,e_k6,e_lg,(108,o_dd)],170)
def w_lo:Outs:=[(v_c6,h_lh,99)]
def w_lp:Outs:=[(v_eJ,h_lh,101),u_li,u_lj,u_lk,u_ll,u_lm,u_ln]
def h_lq:Hp:=[e_a8,e_lc,e_fT,e_fU,e_jJ,e_jK,e_jL,e_jM,e_f3,e_kY,e_f4,(74,o_fL),(75,o_cG),e_j8,e_j9,e_ka,e_j0,e_j3,e_kb,e_kF,e_kG,e_kH,e_kw,e_kz,e_kI,e_ld,e_le,e_lf,e_k3,e_k6,e_lg]
def w_lr:Outs:=[(v_ae,h_lq,3173)]
def w_ls:Outs:=[(v_C,h_lq,99)]
def c_cand3:Con:=⟨73,[v_F],h_k7,99,[(v_aq,h_k8,1173),(.slice (some ⟨1174,0,none⟩) 1 18446744073709551617,[e_kW,e_fT,e_fU,e_fZ,e_f0,e_f1,e_f2,e_f3,e_kY,e_f4,(74,o_fL),e_jX,e_jY,e_jZ,e_j0,e_j3,e_j2,e_kt,e_ku,e_kv,e_kw,e_kz,e_ky,e_k0,e_k1,e_k2,e_k3,e_k6,e_k5,(1174,o_k9)],1175),(.slice (some ⟨816,0,none⟩) 1 18446744073709551617,[e_kW,e_fT,e_fU,e_fZ,e_f0,e_f1,e_f2,e_f3,e_kY,e_f4,(74,o_fL),e_jX,e_jY,e_jZ,e_j0,e_j3,e_j2,e_kt,e_ku,e_kv,e_kw,e_kz,e_ky,e_k0,e_k1,e_k2,e_k3,e_k6,e_k5,(816,o_kC)],1175),(.slice (some ⟨1176,0,none⟩) 2 18446744073709551618,[e_kW,e_fT,e_fU,e_fZ,e_f0,e_f1,e_f2,e_f3,e_kY,e_f4,(74,o_fL),e_jX,e_jY,e_jZ,e_j0,e_j3,e_j2,e_kt,e_ku,e_kv,e_kw,e_kz,e_ky,e_k0,e_k1,e_k2,e_k3,e_k6,e_k5,(1176,o_la)],1177),(.slice (some ⟨458,0,none⟩) 1 18446744073709551617,[e_kW,e_fT,e_fU,e_fZ,e_f0,e_f1,e_f2,e_f3,e_kY,e_f4,(74,o_fL),e_jX,e_jY,e_jZ,e_j0,e_j3,e_j2,e_kt,e_ku,e_kv,e_kw,e_kz,e_ky,e_k0,e_k1,e_k2,e_k3,e_k6,e_k5,(458,o_j6)],1175),(.slice (some ⟨818,0,none⟩) 2 18446744073709551618,[e_kW,e_fT,e_fU,e_fZ,e_f0,e_f1,e_f2,e_f3,e_kY,e_f4,(74,o_fL),e_jX,e_jY,e_jZ,e_j0,e_j3,e_j2,e_kt,e_ku,e_kv,e_kw,e_kz,e_ky,e_k0,e_k1,e_k2,e_k3,e_k6,e_k5,(818,o_kD)],1177),(.slice (some ⟨1178,0,none⟩) 3 18446744073709551619,[e_kW,e_fT,e_fU,e_fZ,e_f0,e_f1,e_f2,e_f3,e_kY,e_f4,(74,o_fL),e_jX,e_jY,e_jZ,e_j0,e_j3,e_j2,e_kt,e_ku,e_kv,e_kw,e_kz,e_ky,e_k0,e_k1,e_k2,e_k3,e_k6,e_k5,(1178,o_lb)],1179)]⟩
theorem c_cand3_ok:CF c_cand3:=cn t_takeA2 tu_stretch2
def l_cand3:List Con:=c_cand3::l_takeA2
theorem t_cand3:TF l_cand3:=ad c_cand3_ok t_takeA2
def c_stretch3:Con:=⟨336,[v_F],h_k7,99,[(v_a,h_k8,99)]⟩
theorem c_stretch3_ok:CT c_stretch3:=cn tu_stretch2 tu_stretch2
def l_stretch3:List Con:=c_stretch3::l_cand3
theorem t_stretch3:TF l_stretch3:=ad c_stretch3_ok.down t_cand3
def lu_stretch3:List Con:=c_stretch3::lu_stretch2
theorem tu_stretch3:TT lu_stretch3:=ad c_stretch3_ok tu_stretch2
def c_upd3:Con:=⟨74,l_jH,[e_lc,e_fT,e_fU,e_jJ,e_jK,e_jL,e_jM,e_f3,e_f4,(74,o_fL),e_kY,e_jX,e_jY,e_jZ,e_j0,e_j2,e_j3,e_kt,e_ku,e_kv,e_kw,e_ky,e_kz,e_k0,e_k1,e_k2,e_k3,e_k5,e_k6],99,[(v_aX,[e_lc,e_fT,e_fU,e_jJ,e_jK,e_jL,e_jM,e_f3,e_kY,e_f4,(74,o_fL),e_jX,e_jY,e_jZ,e_j0,e_j3,e_j2,e_kt,e_ku,e_kv,e_kw,e_kz,e_ky,e_k0,e_k1,e_k2,e_k3,e_k6,e_k5],108)]⟩
theorem c_upd3_ok:CF c_upd3:=cn t_stretch3 tu_stretch3
def l_upd3:List Con:=c_upd3::l_stretch3
theorem t_upd3:TF l_upd3:=ad c_upd3_ok t_stretch3
def c_ask3:Con:=⟨12,l_jO,[e_kW,e_fT,e_fU,e_fZ,e_f0,e_f1,e_f2,e_f3,e_f4,(74,o_fL),e_kY,e_j8,e_j9,e_ka,e_j0,e_kb,e_j3,e_kF,e_kG,e_kH,e_kw,e_kI,e_kz,e_ld,e_le,e_lf,e_k3,e_lg,e_k6,e_a8],99,[(v_kc,h_lh,101),u_li,u_lj,u_lk,u_ll,u_lm,u_ln]⟩
def o_c_ask3_0:Outs:=w_lo
theorem c_ask3_0_ok:CF (setTo c_ask3 true 0 1 (mkU .i64 mn m1) o_c_ask3_0):=cn t_upd3 tu_stretch3
def o_c_ask3_1:Outs:=w_lp
theorem c_ask3_1_ok:CF (setTo c_ask3 true 0 1 (mkU .i64 z0 z0) o_c_ask3_1):=cn t_upd3 tu_stretch3
def o_c_ask3_2:Outs:=w_lp
theorem c_ask3_2_ok:CF (setTo c_ask3 true 0 1 (mkU .i64 (.ofNat 1) (.ofNat 1)) o_c_ask3_2):=cn t_upd3 tu_stretch3
def o_c_ask3_3:Outs:=w_lp
theorem c_ask3_3_ok:CF (setTo c_ask3 true 0 1 (mkU .i64 (.ofNat 2) (.ofNat 2)) o_c_ask3_3):=cn t_upd3 tu_stretch3
def o_c_ask3_4:Outs:=w_lo
theorem c_ask3_4_ok:CF (setTo c_ask3 true 0 1 (mkU .i64 (.ofNat 3) mx) o_c_ask3_4):=cn t_upd3 tu_stretch3
theorem c_ask3_ok:CF c_ask3:=.cut (kd:=.i64) (k2:=.i64) (lo:=mn) (hi:=mx) true 0 1 (by kernel_rfl) ⟨by kernel_rfl,by kernel_rfl⟩ (by kernel_rfl) [(m1,o_c_ask3_0),(z0,o_c_ask3_1),((.ofNat 1),o_c_ask3_2),((.ofNat 2),o_c_ask3_3),(mx,o_c_ask3_4)] ⟨c_ask3_0_ok,by kernel_rfl,⟨c_ask3_1_ok,by kernel_rfl,⟨c_ask3_2_ok,by kernel_rfl,⟨c_ask3_3_ok,by kernel_rfl,⟨c_ask3_4_ok,by kernel_rfl,(segs_nil (by kernel_rfl))⟩⟩⟩⟩⟩
def l_ask3:List Con:=c_ask3::l_upd3
theorem t_ask3:TF l_ask3:=ad c_ask3_ok t_upd3
def c_takeA3:Con:=⟨18,l_jQ,[e_lc,e_fT,e_fU,e_jJ,e_jK,e_jL,e_jM,e_f3,e_f4,(74,o_fL),e_kY,e_j8,e_j9,e_ka,e_j0,e_kb,e_j3,e_kF,e_kG,e_kH,e_kw,e_kI,e_kz,e_ld,e_le,e_lf,e_k3,e_lg,e_k6,(75,o_cG),e_a8],99,w_lr⟩
def o_c_takeA3_0:Outs:=w_ls
theorem c_takeA3_0_ok:CF (setTo c_takeA3 true 0 1 (mkU .i64 mn m1) o_c_takeA3_0):=cn t_ask3 tu_stretch3
def o_c_takeA3_1:Outs:=w_lr
theorem c_takeA3_1_ok:CF (setTo c_takeA3 true 0 1 (mkU .i64 z0 z0) o_c_takeA3_1):=cn t_ask3 tu_stretch3
def o_c_takeA3_2:Outs:=w_lr
theorem c_takeA3_2_ok:CF (setTo c_takeA3 true 0 1 (mkU .i64 (.ofNat 1) (.ofNat 1)) o_c_takeA3_2):=cn t_ask3 tu_stretch3
def o_c_takeA3_3:Outs:=w_lr
theorem c_takeA3_3_ok:CF (setTo c_takeA3 true 0 1 (mkU .i64 (.ofNat 2) (.ofNat 2)) o_c_takeA3_3):=cn t_ask3 tu_stretch3
def o_c_takeA3_4:Outs:=w_ls
theorem c_takeA3_4_ok:CF (setTo c_takeA3 true 0 1 (mkU .i64 (.ofNat 3) mx) o_c_takeA3_4):=cn t_ask3 tu_stretch3
theorem c_takeA3_ok:CF c_takeA3:=.cut (kd:=.i64) (k2:=.i64) (lo:=mn) (hi:=mx) true 0 1 (by kernel_rfl) ⟨by kernel_rfl,by kernel_rfl⟩ (by kernel_rfl) [(m1,o_c_takeA3_0),(z0,o_c_takeA3_1),((.ofNat 1),o_c_takeA3_2),((.ofNat 2),o_c_takeA3_3),(mx,o_c_takeA3_4)] ⟨c_takeA3_0_ok,by kernel_rfl,⟨c_takeA3_1_ok,by kernel_rfl,⟨c_takeA3_2_ok,by kernel_rfl,⟨c_takeA3_3_ok,by kernel_rfl,⟨c_takeA3_4_ok,by kernel_rfl,(segs_nil (by kernel_rfl))⟩⟩⟩⟩⟩
def l_takeA3:List Con:=c_takeA3::l_ask3
theorem t_takeA3:TF l_takeA3:=ad c_takeA3_ok t_ask3
end
end Go.Proofs.YtdohkfgflpdkcaaGreatDoor.sym
