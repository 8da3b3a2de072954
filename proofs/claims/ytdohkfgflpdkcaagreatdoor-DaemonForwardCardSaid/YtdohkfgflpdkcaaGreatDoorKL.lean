/-
  PROVED HERE: a part of the proof of DaemonForward (texts KB16, KB17, KB18, KB19, KB20, KB21 of the prover, joined). No condition of its own.
-/
import Derived.Test.YtdohkfgflpdkcaaGreatDoorKK
set_option linter.unusedVariables false
set_option linter.unusedSimpArgs false
namespace Go.Proofs.YtdohkfgflpdkcaaGreatDoor.sym
open Go Go.Eng
noncomputable section
set_option maxRecDepth 100000
def v_mw:Value:=.chan (some 123)
def l_mx:List Value:=[v_hX,.agg ⟨([UI .i64 mn z0,v_a,v_a,v_Q,v_a,v_a,v_a]++rp 4 v_4++[v_bb,v_bb,v_aL,v_aL,v_aL]++rp 4 v_Q++[v_mw,UB,v_aL,v_Q,unk])⟩]
def e_my:(Nat×O):=(120,.cells ([v_F,v_a,v_Q]++rp 6 v_a++[.chan (some 121),.chan (some 122),.chan (some 119),v_a]++rp 6 v_Q))
def h_mz:Hp:=[e_my,(121,o_gQ),(122,o_f7),e_jI,e_fT,e_fU,e_jJ,e_jK,e_jL,e_jM,e_f3,e_f4,(74,o_fL),e_a8]
def w_mA:Outs:=[(.tuple ⟨[]⟩,[e_a8,e_jI,e_fT,e_fU,e_jJ,e_jK,e_jL,e_jM,e_f3,e_f4,(74,o_fL),e_my,(121,o_gQ),(122,o_f7)],125)]
def l_mB:List Value:=[v_hX,.agg ⟨([v_C,v_a,v_a,v_Q,v_a,v_a,v_a]++rp 4 v_4++[v_bb,v_bb,v_aL,v_aL,v_aL]++rp 4 v_Q++[v_mw,UB,v_aL,v_Q,unk])⟩]
def l_mC:List Value:=[v_hX,.agg ⟨([v_au,v_a,v_a,v_Q,v_a,v_a,v_a]++rp 4 v_4++[v_bb,v_bb,v_aL,v_aL,v_aL]++rp 4 v_Q++[v_mw,UB,v_aL,v_Q,unk])⟩]
def l_mD:List Value:=[v_hX,.agg ⟨([UI .i64 (.ofNat 4) mx,v_a,v_a,v_Q,v_a,v_a,v_a]++rp 4 v_4++[v_bb,v_bb,v_aL,v_aL,v_aL]++rp 4 v_Q++[v_mw,UB,v_aL,v_Q,unk])⟩]
def c_othera_0:Con:=⟨28,l_mx,h_mz,124,w_mA⟩
theorem c_othera_0_ok:CF c_othera_0:=cn t_takeA5 tu_stretch5
def l_othera_0:List Con:=c_othera_0::l_takeA5
theorem t_othera_0:TF l_othera_0:=ad c_othera_0_ok t_takeA5
def c_otherb_0:Con:=⟨28,l_mB,h_mz,124,w_mA⟩
theorem c_otherb_0_ok:CF c_otherb_0:=cn t_othera_0 tu_stretch5
def l_otherb_0:List Con:=c_otherb_0::l_othera_0
theorem t_otherb_0:TF l_otherb_0:=ad c_otherb_0_ok t_othera_0
def c_otherc_0:Con:=⟨28,l_mC,h_mz,124,w_mA⟩
theorem c_otherc_0_ok:CF c_otherc_0:=cn t_otherb_0 tu_stretch5
def l_otherc_0:List Con:=c_otherc_0::l_otherb_0
theorem t_otherc_0:TF l_otherc_0:=ad c_otherc_0_ok t_otherb_0
def c_otherd_0:Con:=⟨28,l_mD,h_mz,124,w_mA⟩
theorem c_otherd_0_ok:CF c_otherd_0:=cn t_otherc_0 tu_stretch5
def l_otherd_0:List Con:=c_otherd_0::l_otherc_0
theorem t_otherd_0:TF l_otherd_0:=ad c_otherd_0_ok t_otherc_0
end
end Go.Proofs.YtdohkfgflpdkcaaGreatDoor.sym
namespace Go.Proofs.YtdohkfgflpdkcaaGreatDoor.sym
open Go Go.Eng
noncomputable section
set_option maxRecDepth 100000
def h_mE:Hp:=[e_my,(121,o_gA),(122,o_f7),e_j7,e_fT,e_fU,e_jJ,e_jK,e_jL,e_jM,e_f3,e_f4,(74,o_fL),e_jV,e_j8,e_j9,e_ka,e_j0,e_kb,e_j3,e_a8]
def h_mF:Hp:=[e_a8,e_j7,e_fT,e_fU,e_jJ,e_jK,e_jL,e_jM,e_f3,e_jV,e_f4,(74,o_fL),e_j8,e_j9,e_ka,e_j0,e_j3,e_kb,e_my,(121,o_gA),(122,o_f7)]
def w_mG:Outs:=[(.tuple ⟨[]⟩,h_mF,125)]
def c_othera_1:Con:=⟨28,l_mx,h_mE,124,w_mG⟩
theorem c_othera_1_ok:CF c_othera_1:=cn t_otherd_0 tu_stretch5
def l_othera_1:List Con:=c_othera_1::l_otherd_0
theorem t_othera_1:TF l_othera_1:=ad c_othera_1_ok t_otherd_0
def c_otherb_1:Con:=⟨28,l_mB,h_mE,124,[(.tuple ⟨[]⟩,h_mF,370)]⟩
theorem c_otherb_1_ok:CF c_otherb_1:=cn t_othera_1 tu_stretch5
def l_otherb_1:List Con:=c_otherb_1::l_othera_1
theorem t_otherb_1:TF l_otherb_1:=ad c_otherb_1_ok t_othera_1
def c_otherc_1:Con:=⟨28,l_mC,h_mE,124,[(.tuple ⟨[]⟩,h_mF,2908)]⟩
theorem c_otherc_1_ok:CF c_otherc_1:=cn t_otherb_1 tu_stretch5
def l_otherc_1:List Con:=c_otherc_1::l_otherb_1
theorem t_otherc_1:TF l_otherc_1:=ad c_otherc_1_ok t_otherb_1
def c_otherd_1:Con:=⟨28,l_mD,h_mE,124,w_mG⟩
theorem c_otherd_1_ok:CF c_otherd_1:=cn t_otherc_1 tu_stretch5
def l_otherd_1:List Con:=c_otherd_1::l_otherc_1
theorem t_otherd_1:TF l_otherd_1:=ad c_otherd_1_ok t_otherc_1
end
end Go.Proofs.YtdohkfgflpdkcaaGreatDoor.sym
namespace Go.Proofs.YtdohkfgflpdkcaaGreatDoor.sym
open Go Go.Eng
noncomputable section
set_option maxRecDepth 100000
def h_mH:Hp:=[e_my,(121,o_gD),(122,o_f7),e_kE,e_fT,e_fU,e_jJ,e_jK,e_jL,e_jM,e_f3,e_f4,(74,o_fL),e_kr,e_j8,e_j9,e_ka,e_j0,e_kb,e_j3,e_kF,e_kG,e_kH,e_kw,e_kI,e_kz,e_a8]
def h_mI:Hp:=[e_a8,e_kE,e_fT,e_fU,e_jJ,e_jK,e_jL,e_jM,e_f3,e_kr,e_f4,(74,o_fL),e_j8,e_j9,e_ka,e_j0,e_j3,e_kb,e_kF,e_kG,e_kH,e_kw,e_kz,e_kI,e_my,(121,o_gD),(122,o_f7)]
def w_mJ:Outs:=[(.tuple ⟨[]⟩,h_mI,125)]
def c_othera_2:Con:=⟨28,l_mx,h_mH,124,w_mJ⟩
theorem c_othera_2_ok:CF c_othera_2:=cn t_otherd_1 tu_stretch5
def l_othera_2:List Con:=c_othera_2::l_otherd_1
theorem t_othera_2:TF l_othera_2:=ad c_othera_2_ok t_otherd_1
def c_otherb_2:Con:=⟨28,l_mB,h_mH,124,[(.tuple ⟨[]⟩,h_mI,370)]⟩
theorem c_otherb_2_ok:CF c_otherb_2:=cn t_othera_2 tu_stretch5
def l_otherb_2:List Con:=c_otherb_2::l_othera_2
theorem t_otherb_2:TF l_otherb_2:=ad c_otherb_2_ok t_othera_2
def c_otherc_2:Con:=⟨28,l_mC,h_mH,124,[(.tuple ⟨[]⟩,h_mI,3366)]⟩
theorem c_otherc_2_ok:CF c_otherc_2:=cn t_otherb_2 tu_stretch5
def l_otherc_2:List Con:=c_otherc_2::l_otherb_2
theorem t_otherc_2:TF l_otherc_2:=ad c_otherc_2_ok t_otherb_2
def c_otherd_2:Con:=⟨28,l_mD,h_mH,124,w_mJ⟩
theorem c_otherd_2_ok:CF c_otherd_2:=cn t_otherc_2 tu_stretch5
def l_otherd_2:List Con:=c_otherd_2::l_otherc_2
theorem t_otherd_2:TF l_otherd_2:=ad c_otherd_2_ok t_otherc_2
end
end Go.Proofs.YtdohkfgflpdkcaaGreatDoor.sym
namespace Go.Proofs.YtdohkfgflpdkcaaGreatDoor.sym
open Go Go.Eng
noncomputable section
set_option maxRecDepth 100000
def h_mK:Hp:=[e_my,(121,o_gG),(122,o_f7),e_lc,e_fT,e_fU,e_jJ,e_jK,e_jL,e_jM,e_f3,e_f4,(74,o_fL),e_kY,e_j8,e_j9,e_ka,e_j0,e_kb,e_j3,e_kF,e_kG,e_kH,e_kw,e_kI,e_kz,e_ld,e_le,e_lf,e_k3,e_lg,e_k6,e_a8]
def h_mL:Hp:=[e_a8,e_lc,e_fT,e_fU,e_jJ,e_jK,e_jL,e_jM,e_f3,e_kY,e_f4,(74,o_fL),e_j8,e_j9,e_ka,e_j0,e_j3,e_kb,e_kF,e_kG,e_kH,e_kw,e_kz,e_kI,e_ld,e_le,e_lf,e_k3,e_k6,e_lg,e_my,(121,o_gG),(122,o_f7)]
def w_mM:Outs:=[(.tuple ⟨[]⟩,h_mL,125)]
def c_othera_3:Con:=⟨28,l_mx,h_mK,124,w_mM⟩
theorem c_othera_3_ok:CF c_othera_3:=cn t_otherd_2 tu_stretch5
def l_othera_3:List Con:=c_othera_3::l_otherd_2
theorem t_othera_3:TF l_othera_3:=ad c_othera_3_ok t_otherd_2
def c_otherb_3:Con:=⟨28,l_mB,h_mK,124,[(.tuple ⟨[]⟩,h_mL,370)]⟩
theorem c_otherb_3_ok:CF c_otherb_3:=cn t_othera_3 tu_stretch5
def l_otherb_3:List Con:=c_otherb_3::l_othera_3
theorem t_otherb_3:TF l_otherb_3:=ad c_otherb_3_ok t_othera_3
def c_otherc_3:Con:=⟨28,l_mC,h_mK,124,[(.tuple ⟨[]⟩,h_mL,3824)]⟩
theorem c_otherc_3_ok:CF c_otherc_3:=cn t_otherb_3 tu_stretch5
def l_otherc_3:List Con:=c_otherc_3::l_otherb_3
theorem t_otherc_3:TF l_otherc_3:=ad c_otherc_3_ok t_otherb_3
def c_otherd_3:Con:=⟨28,l_mD,h_mK,124,w_mM⟩
theorem c_otherd_3_ok:CF c_otherd_3:=cn t_otherc_3 tu_stretch5
def l_otherd_3:List Con:=c_otherd_3::l_otherc_3
theorem t_otherd_3:TF l_otherd_3:=ad c_otherd_3_ok t_otherc_3
end
end Go.Proofs.YtdohkfgflpdkcaaGreatDoor.sym
namespace Go.Proofs.YtdohkfgflpdkcaaGreatDoor.sym
open Go Go.Eng
noncomputable section
set_option maxRecDepth 100000
def h_mN:Hp:=[e_my,(121,o_gJ),(122,o_f7),e_lL,e_fT,e_fU,e_jJ,e_jK,e_jL,e_jM,e_f3,e_f4,(74,o_fL),e_lv,e_j8,e_j9,e_ka,e_j0,e_kb,e_j3,e_kF,e_kG,e_kH,e_kw,e_kI,e_kz,e_ld,e_le,e_lf,e_k3,e_lg,e_k6,e_lM,e_lN,e_lO,e_lA,e_lP,e_lD,e_a8]
def h_mO:Hp:=[e_a8,e_lL,e_fT,e_fU,e_jJ,e_jK,e_jL,e_jM,e_f3,e_lv,e_f4,(74,o_fL),e_j8,e_j9,e_ka,e_j0,e_j3,e_kb,e_kF,e_kG,e_kH,e_kw,e_kz,e_kI,e_ld,e_le,e_lf,e_k3,e_k6,e_lg,e_lM,e_lN,e_lO,e_lA,e_lD,e_lP,e_my,(121,o_gJ),(122,o_f7)]
def w_mP:Outs:=[(.tuple ⟨[]⟩,h_mO,125)]
def c_othera_4:Con:=⟨28,l_mx,h_mN,124,w_mP⟩
theorem c_othera_4_ok:CF c_othera_4:=cn t_otherd_3 tu_stretch5
def l_othera_4:List Con:=c_othera_4::l_otherd_3
theorem t_othera_4:TF l_othera_4:=ad c_othera_4_ok t_otherd_3
def c_otherb_4:Con:=⟨28,l_mB,h_mN,124,[(.tuple ⟨[]⟩,h_mO,370)]⟩
theorem c_otherb_4_ok:CF c_otherb_4:=cn t_othera_4 tu_stretch5
def l_otherb_4:List Con:=c_otherb_4::l_othera_4
theorem t_otherb_4:TF l_otherb_4:=ad c_otherb_4_ok t_othera_4
def c_otherc_4:Con:=⟨28,l_mC,h_mN,124,[(.tuple ⟨[]⟩,h_mO,4843)]⟩
theorem c_otherc_4_ok:CF c_otherc_4:=cn t_otherb_4 tu_stretch5
def l_otherc_4:List Con:=c_otherc_4::l_otherb_4
theorem t_otherc_4:TF l_otherc_4:=ad c_otherc_4_ok t_otherb_4
def c_otherd_4:Con:=⟨28,l_mD,h_mN,124,w_mP⟩
theorem c_otherd_4_ok:CF c_otherd_4:=cn t_otherc_4 tu_stretch5
def l_otherd_4:List Con:=c_otherd_4::l_otherc_4
theorem t_otherd_4:TF l_otherd_4:=ad c_otherd_4_ok t_otherc_4
end
end Go.Proofs.YtdohkfgflpdkcaaGreatDoor.sym
namespace Go.Proofs.YtdohkfgflpdkcaaGreatDoor.sym
open Go Go.Eng
noncomputable section
set_option maxRecDepth 100000
def h_mQ:Hp:=[e_my,(121,o_gM),(122,o_f7),e_mf,e_fT,e_fU,e_jJ,e_jK,e_jL,e_jM,e_f3,e_f4,(74,o_fL),e_l4,e_j8,e_j9,e_ka,e_j0,e_kb,e_j3,e_kF,e_kG,e_kH,e_kw,e_kI,e_kz,e_ld,e_le,e_lf,e_k3,e_lg,e_k6,e_lM,e_lN,e_lO,e_lA,e_lP,e_lD,e_mg,e_mh,e_mi,e_l9,e_mj,e_mc,e_a8]
def h_mR:Hp:=[e_a8,e_mf,e_fT,e_fU,e_jJ,e_jK,e_jL,e_jM,e_f3,e_l4,e_f4,(74,o_fL),e_j8,e_j9,e_ka,e_j0,e_j3,e_kb,e_kF,e_kG,e_kH,e_kw,e_kz,e_kI,e_ld,e_le,e_lf,e_k3,e_k6,e_lg,e_lM,e_lN,e_lO,e_lA,e_lD,e_lP,e_mg,e_mh,e_mi,e_l9,e_mc,e_mj,e_my,(121,o_gM),(122,o_f7)]
def w_mS:Outs:=[(.tuple ⟨[]⟩,h_mR,125)]
def c_othera_5:Con:=⟨28,l_mx,h_mQ,124,w_mS⟩
theorem c_othera_5_ok:CF c_othera_5:=cn t_otherd_4 tu_stretch5
def l_othera_5:List Con:=c_othera_5::l_otherd_4
theorem t_othera_5:TF l_othera_5:=ad c_othera_5_ok t_otherd_4
def c_otherb_5:Con:=⟨28,l_mB,h_mQ,124,[(.tuple ⟨[]⟩,h_mR,370)]⟩
theorem c_otherb_5_ok:CF c_otherb_5:=cn t_othera_5 tu_stretch5
def l_otherb_5:List Con:=c_otherb_5::l_othera_5
theorem t_otherb_5:TF l_otherb_5:=ad c_otherb_5_ok t_othera_5
def c_otherc_5:Con:=⟨28,l_mC,h_mQ,124,[(.tuple ⟨[]⟩,h_mR,6065)]⟩
theorem c_otherc_5_ok:CF c_otherc_5:=cn t_otherb_5 tu_stretch5
def l_otherc_5:List Con:=c_otherc_5::l_otherb_5
theorem t_otherc_5:TF l_otherc_5:=ad c_otherc_5_ok t_otherb_5
def c_otherd_5:Con:=⟨28,l_mD,h_mQ,124,w_mS⟩
theorem c_otherd_5_ok:CF c_otherd_5:=cn t_otherc_5 tu_stretch5
def l_otherd_5:List Con:=c_otherd_5::l_otherc_5
theorem t_otherd_5:TF l_otherd_5:=ad c_otherd_5_ok t_otherc_5
end
end Go.Proofs.YtdohkfgflpdkcaaGreatDoor.sym
