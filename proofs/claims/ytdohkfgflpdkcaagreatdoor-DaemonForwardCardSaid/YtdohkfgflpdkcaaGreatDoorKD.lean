/-
  PROVED HERE: a part of the proof of DaemonForward (texts KB4 of the prover, joined). No condition of its own.
-/
import Derived.Test.YtdohkfgflpdkcaaGreatDoorKC
set_option linter.unusedVariables false
set_option linter.unusedSimpArgs false
namespace Go.Proofs.YtdohkfgflpdkcaaGreatDoor.sym
open Go Go.Eng
noncomputable section
set_option maxRecDepth 100000
def h_cZ:Hp:=[(64,.cells (rp 4 v_Q))]
def l_c0:List Value:=[v_aL,v_Q,v_Q]
def l_c1:List Value:=[.agg ⟨l_c0⟩,.slice (some ⟨64,0,none⟩) 1 1]
def e_c2:(Nat×O):=(64,.ro [v_bm])
def h_c3:Hp:=[e_c2,(65,.frz [v_4] 1 100000 false)]
def h_c4:Hp:=[(64,.ro [.slice (some ⟨65,0,none⟩) 48 48]),(65,.ro (rp 48 v_4))]
def v_c5:Value:=.agg ⟨(rp 4 v_4++[v_bb,v_bb,v_aL,v_aL,v_aL]++rp 4 v_Q++[unk,UB,v_aL,v_Q])⟩
def v_c6:Value:=.tuple ⟨[v_aq,v_C]⟩
def u_c7:Ow:=(v_c6,[e_a8],66)
def o_c8:O:=.cells (rp 48 v_4)
def u_c9:Ow:=(.tuple ⟨[.slice (some ⟨69,0,none⟩) 48 48,v_c]⟩,[e_a8,(69,o_c8)],125)
def w_da:Outs:=[u_c7,u_c9]
def v_db:Value:=UI .u8 (.ofNat 1) (.ofNat 4)
def l_dc:List Value:=[.agg ⟨([v_a9,v_db,v_ba,v_4,v_bb,v_bb,v_aL,v_aL,v_aL]++rp 4 v_Q++[v_aq,UB,v_aL,v_Q])⟩]
def o_dd:O:=.frz [v_4] 48 48 true
def v_de:Value:=.slice (some ⟨64,0,none⟩) 1 18446744073709551617
def l_df:List Value:=[.agg ⟨([v_a9,v_db,v_ba,v_4,v_bb,v_bb,v_aL,v_aL,v_aL]++rp 4 v_Q++[v_de,UB,v_aL,v_Q])⟩]
def e_dg:(Nat×O):=(64,.opn 2 [v_bv,v_bm])
def h_dh:Hp:=[e_dg,(65,o_by),e_a8]
def o_di:O:=.frz [v_4] 64 516 true
def v_dj:Value:=.slice (some ⟨64,0,none⟩) 2 18446744073709551618
def l_dk:List Value:=[.agg ⟨([v_a9,v_db,v_ba,v_4,v_bb,v_bb,v_aL,v_aL,v_aL]++rp 4 v_Q++[v_dj,UB,v_aL,v_Q])⟩]
def e_dl:(Nat×O):=(64,.opn 2 [v_bv,v_bm,v_bv,v_bw])
def h_dm:Hp:=[e_dl,(65,o_by),(66,o_by),e_a8]
def o_dn:O:=.frz [v_4] 80 984 true
def v_do:Value:=.slice (some ⟨64,0,none⟩) 3 18446744073709551619
def l_dp:List Value:=[.agg ⟨([v_a9,v_db,v_ba,v_4,v_bb,v_bb,v_aL,v_aL,v_aL]++rp 4 v_Q++[v_do,UB,v_aL,v_Q])⟩]
def e_dq:(Nat×O):=(64,.opn 2 [v_bv,v_bm,v_bv,v_bw,v_bv,v_bt])
def h_dr:Hp:=[e_dq,(65,o_by),(66,o_by),(67,o_by),e_a8]
def o_ds:O:=.frz [v_4] 96 1452 true
def v_dt:Value:=.slice (some ⟨64,0,none⟩) 4 18446744073709551620
def l_du:List Value:=[.agg ⟨([v_a9,v_db,v_ba,v_4,v_bb,v_bb,v_aL,v_aL,v_aL]++rp 4 v_Q++[v_dt,UB,v_aL,v_Q])⟩]
def e_dv:(Nat×O):=(64,.opn 2 [v_bv,v_bm,v_bv,v_bw,v_bv,v_bt,v_bv,v_bB])
def h_dw:Hp:=[e_dv,(65,o_by),(66,o_by),(67,o_by),(68,o_by),e_a8]
def o_dx:O:=.frz [v_4] 112 1920 true
def v_dy:Value:=.slice (some ⟨64,0,none⟩) 5 18446744073709551621
def l_dz:List Value:=[.agg ⟨([v_a9,v_db,v_ba,v_4,v_bb,v_bb,v_aL,v_aL,v_aL]++rp 4 v_Q++[v_dy,UB,v_aL,v_Q])⟩]
def e_dA:(Nat×O):=(64,.opn 2 [v_bv,v_bm,v_bv,v_bw,v_bv,v_bt,v_bv,v_bB,v_bv,v_bG])
def h_dB:Hp:=[e_dA,(65,o_by),(66,o_by),(67,o_by),(68,o_by),(69,o_by),e_a8]
def o_dC:O:=.frz [v_4] 128 2388 true
def v_dD:Value:=.slice (some ⟨64,0,none⟩) 6 18446744073709551622
def l_dE:List Value:=[.agg ⟨([v_a9,v_db,v_ba,v_4,v_bb,v_bb,v_aL,v_aL,v_aL]++rp 4 v_Q++[v_dD,UB,v_aL,v_Q])⟩]
def e_dF:(Nat×O):=(64,.opn 2 [v_bv,v_bm,v_bv,v_bw,v_bv,v_bt,v_bv,v_bB,v_bv,v_bG,v_bv,v_bL])
def h_dG:Hp:=[e_dF,(65,o_by),(66,o_by),(67,o_by),(68,o_by),(69,o_by),(70,o_by),e_a8]
def o_dH:O:=.frz [v_4] 144 2856 true
def v_dI:Value:=.slice (some ⟨64,0,none⟩) 7 18446744073709551623
def l_dJ:List Value:=[.agg ⟨([v_a9,v_db,v_ba,v_4,v_bb,v_bb,v_aL,v_aL,v_aL]++rp 4 v_Q++[v_dI,UB,v_aL,v_Q])⟩]
def e_dK:(Nat×O):=(64,.opn 2 [v_bv,v_bm,v_bv,v_bw,v_bv,v_bt,v_bv,v_bB,v_bv,v_bG,v_bv,v_bL,v_bv,v_bQ])
def h_dL:Hp:=[e_dK,(65,o_by),(66,o_by),(67,o_by),(68,o_by),(69,o_by),(70,o_by),(71,o_by),e_a8]
def o_dM:O:=.frz [v_4] 160 3324 true
def v_dN:Value:=.slice (some ⟨64,0,none⟩) 8 18446744073709551624
def l_dO:List Value:=[.agg ⟨([v_a9,v_db,v_ba,v_4,v_bb,v_bb,v_aL,v_aL,v_aL]++rp 4 v_Q++[v_dN,UB,v_aL,v_Q])⟩]
def e_dP:(Nat×O):=(64,.opn 2 [v_bv,v_bm,v_bv,v_bw,v_bv,v_bt,v_bv,v_bB,v_bv,v_bG,v_bv,v_bL,v_bv,v_bQ,v_bv,v_bV])
def h_dQ:Hp:=[e_dP,(65,o_by),(66,o_by),(67,o_by),(68,o_by),(69,o_by),(70,o_by),(71,o_by),(72,o_by),e_a8]
def o_dR:O:=.frz [v_4] 176 3792 true
def v_dS:Value:=.agg ⟨(rp 4 v_4++[v_bb,v_bb,v_aL,v_aL,v_aL]++rp 4 v_Q++[v_aq,UB,v_aL,v_Q])⟩
def l_dT:List Value:=[v_dS,.agg ⟨l_c0⟩]
def w_dU:Outs:=[(UB,[e_a8],223)]
def w_dV:Outs:=[(.bool false,[e_a8],71)]
def h_dW:Hp:=[e_a8,e_dg,(65,o_by)]
def w_dX:Outs:=[(UB,h_dW,265)]
def w_dY:Outs:=[(.bool false,h_dW,72)]
def h_dZ:Hp:=[e_a8,e_dl,(65,o_by),(66,o_by)]
def w_d0:Outs:=[(UB,h_dZ,305)]
def w_d1:Outs:=[(.bool false,h_dZ,73)]
def h_d2:Hp:=[e_a8,e_dq,(65,o_by),(66,o_by),(67,o_by)]
def w_d3:Outs:=[(UB,h_d2,345)]
def w_d4:Outs:=[(.bool false,h_d2,74)]
def h_d5:Hp:=[e_a8,e_dv,(65,o_by),(66,o_by),(67,o_by),(68,o_by)]
def w_d6:Outs:=[(UB,h_d5,385)]
def w_d7:Outs:=[(.bool false,h_d5,75)]
def h_d8:Hp:=[e_a8,e_dA,(65,o_by),(66,o_by),(67,o_by),(68,o_by),(69,o_by)]
def w_d9:Outs:=[(UB,h_d8,425)]
def w_ea:Outs:=[(.bool false,h_d8,76)]
def h_eb:Hp:=[e_a8,e_dF,(65,o_by),(66,o_by),(67,o_by),(68,o_by),(69,o_by),(70,o_by)]
def w_ec:Outs:=[(UB,h_eb,465)]
def w_ed:Outs:=[(.bool false,h_eb,77)]
def h_ee:Hp:=[e_a8,e_dK,(65,o_by),(66,o_by),(67,o_by),(68,o_by),(69,o_by),(70,o_by),(71,o_by)]
def w_ef:Outs:=[(UB,h_ee,505)]
def w_eg:Outs:=[(.bool false,h_ee,78)]
def h_eh:Hp:=[e_a8,e_dP,(65,o_by),(66,o_by),(67,o_by),(68,o_by),(69,o_by),(70,o_by),(71,o_by),(72,o_by)]
def w_ei:Outs:=[(UB,h_eh,545)]
def w_ej:Outs:=[(.bool false,h_eh,79)]
def c_mtake:Con:=⟨285,[v_F,v_Q],h_cZ,65,[(.tuple ⟨[]⟩,h_cZ,67)]⟩
theorem c_mtake_ok:CT c_mtake:=cn tu_extparse0 tu_extparse0
def l_mtake:List Con:=c_mtake::l_parse
theorem t_mtake:TF l_mtake:=ad c_mtake_ok.down t_parse
def lu_mtake:List Con:=c_mtake::lu_extparse0
theorem tu_mtake:TT lu_mtake:=ad c_mtake_ok tu_extparse0
def c_mrounds:Con:=⟨286,[v_F,v_s],h_cZ,65,[(.tuple ⟨[]⟩,h_cZ,69)]⟩
theorem c_mrounds_ok:CT c_mrounds:=cn tu_mtake tu_mtake
def l_mrounds:List Con:=c_mrounds::l_mtake
theorem t_mrounds:TF l_mrounds:=ad c_mrounds_ok.down t_mtake
def lu_mrounds:List Con:=c_mrounds::lu_mtake
theorem tu_mrounds:TT lu_mrounds:=ad c_mrounds_ok tu_mtake
def c_tagF:Con:=⟨209,l_c1,h_c3,66,[(v_Q,h_c3,76)]⟩
theorem c_tagF_ok:CT c_tagF:=cn tu_mrounds tu_mrounds
def l_tagF:List Con:=c_tagF::l_mrounds
theorem t_tagF:TF l_tagF:=ad c_tagF_ok.down t_mrounds
def lu_tagF:List Con:=c_tagF::lu_mrounds
theorem tu_tagF:TT lu_tagF:=ad c_tagF_ok tu_mrounds
def c_tag48:Con:=⟨209,l_c1,h_c4,66,[(v_Q,h_c4,86)]⟩
theorem c_tag48_ok:CT c_tag48:=cn tu_tagF tu_tagF
def l_tag48:List Con:=c_tag48::l_tagF
theorem t_tag48:TF l_tag48:=ad c_tag48_ok.down t_tagF
def lu_tag48:List Con:=c_tag48::lu_tagF
theorem tu_tag48:TT lu_tag48:=ad c_tag48_ok tu_tagF
def c_hput:Con:=⟨283,[v_c5],[e_a8],64,w_da⟩
def o_c_hput_0:Outs:=w_da
def o_c_hput_0_0:Outs:=[u_c7]
theorem c_hput_0_0_ok:CT (Con.part (Con.part c_hput 0 0 (mkU .u8 z0 (.ofNat 3)) o_c_hput_0) 0 1 (mkU .u8 z0 z0) o_c_hput_0_0):=cn tu_tag48 tu_tag48
def o_c_hput_0_1:Outs:=[u_c9,u_c7]
def o_c_hput_0_1_0:Outs:=[u_c9]
theorem c_hput_0_1_0_ok:CT (Con.part (Con.part (Con.part c_hput 0 0 (mkU .u8 z0 (.ofNat 3)) o_c_hput_0) 0 1 (mkU .u8 (.ofNat 1) (.ofNat 4)) o_c_hput_0_1) 0 2 (mkU .u8 z0 (.ofNat 7)) o_c_hput_0_1_0):=cn tu_tag48 tu_tag48
def o_c_hput_0_1_1:Outs:=[u_c7]
theorem c_hput_0_1_1_ok:CT (Con.part (Con.part (Con.part c_hput 0 0 (mkU .u8 z0 (.ofNat 3)) o_c_hput_0) 0 1 (mkU .u8 (.ofNat 1) (.ofNat 4)) o_c_hput_0_1) 0 2 (mkU .u8 (.ofNat 8) (.ofNat 255)) o_c_hput_0_1_1):=cn tu_tag48 tu_tag48
theorem c_hput_0_1_ok:CT (Con.part (Con.part c_hput 0 0 (mkU .u8 z0 (.ofNat 3)) o_c_hput_0) 0 1 (mkU .u8 (.ofNat 1) (.ofNat 4)) o_c_hput_0_1):=.cutA (kd:=.u8) (k2:=.u8) (lo:=z0) (hi:=(.ofNat 255)) 0 2 (by kernel_rfl) ⟨by kernel_rfl,by kernel_rfl⟩ (by kernel_rfl) [((.ofNat 7),o_c_hput_0_1_0),((.ofNat 255),o_c_hput_0_1_1)] ⟨c_hput_0_1_0_ok,by kernel_rfl,⟨c_hput_0_1_1_ok,by kernel_rfl,(segsA_nil (by kernel_rfl))⟩⟩
def o_c_hput_0_2:Outs:=[u_c7]
theorem c_hput_0_2_ok:CT (Con.part (Con.part c_hput 0 0 (mkU .u8 z0 (.ofNat 3)) o_c_hput_0) 0 1 (mkU .u8 (.ofNat 5) (.ofNat 255)) o_c_hput_0_2):=cn tu_tag48 tu_tag48
theorem c_hput_0_ok:CT (Con.part c_hput 0 0 (mkU .u8 z0 (.ofNat 3)) o_c_hput_0):=.cutA (kd:=.u8) (k2:=.u8) (lo:=z0) (hi:=(.ofNat 255)) 0 1 (by kernel_rfl) ⟨by kernel_rfl,by kernel_rfl⟩ (by kernel_rfl) [(z0,o_c_hput_0_0),((.ofNat 4),o_c_hput_0_1),((.ofNat 255),o_c_hput_0_2)] ⟨c_hput_0_0_ok,by kernel_rfl,⟨c_hput_0_1_ok,by kernel_rfl,⟨c_hput_0_2_ok,by kernel_rfl,(segsA_nil (by kernel_rfl))⟩⟩⟩
def o_c_hput_1:Outs:=[u_c7]
theorem c_hput_1_ok:CT (Con.part c_hput 0 0 (mkU .u8 (.ofNat 4) (.ofNat 255)) o_c_hput_1):=cn tu_tag48 tu_tag48
theorem c_hput_ok:CT c_hput:=.cutA (kd:=.u8) (k2:=.u8) (lo:=z0) (hi:=(.ofNat 255)) 0 0 (by kernel_rfl) ⟨by kernel_rfl,by kernel_rfl⟩ (by kernel_rfl) [((.ofNat 3),o_c_hput_0),((.ofNat 255),o_c_hput_1)] ⟨c_hput_0_ok,by kernel_rfl,⟨c_hput_1_ok,by kernel_rfl,(segsA_nil (by kernel_rfl))⟩⟩
def l_hput:List Con:=c_hput::l_tag48
theorem t_hput:TF l_hput:=ad c_hput_ok.down t_tag48
def lu_hput:List Con:=c_hput::lu_tag48
theorem tu_hput:TT lu_hput:=ad c_hput_ok tu_tag48
def c_hputB:Con:=⟨283,[.agg ⟨([v_a9,v_db,v_ba,v_4,v_bb,v_bb,v_aL,v_aL,v_aL]++rp 4 v_Q++[unk,UB,v_aL,v_Q])⟩],[e_a8],64,[u_c9]⟩
theorem c_hputB_ok:CT c_hputB:=cn tu_hput tu_hput
def l_hputB:List Con:=c_hputB::l_hput
theorem t_hputB:TF l_hputB:=ad c_hputB_ok.down t_hput
def lu_hputB:List Con:=c_hputB::lu_hput
theorem tu_hputB:TT lu_hputB:=ad c_hputB_ok tu_hput
def c_body0:Con:=⟨208,l_dc,[e_a8],65,[(v_bm,[e_a8,(65,o_dd)],127)]⟩
def r_body0:Con:=⟨208,l_dc,[e_a8],65,[(.slice (some ⟨71,0,none⟩) 48 48,[e_a8,(71,o_c8)],127)]⟩
theorem r_body0_ok:CT r_body0:=cn tu_hputB tu_hputB
def q_body0:Outs:=[(v_bm,[(65,o_dd),e_a8],127)]
theorem c_body0_ok:CT c_body0:=ConM.told (k:={r_body0 with outs:=q_body0}) (os:=c_body0.outs) (ConM.ren (k:={r_body0 with outs:=frzOuts [UI .u8 0 255] r_body0.n0 r_body0.outs}) (ConM.frz r_body0_ok [UI .u8 0 255]) [[(71,65)]] (by kernel_rfl)) (by kernel_rfl) (by kernel_rfl)
def l_body0:List Con:=c_body0::l_hputB
theorem t_body0:TF l_body0:=ad c_body0_ok.down t_hputB
def lu_body0:List Con:=c_body0::lu_hputB
theorem tu_body0:TT lu_body0:=ad c_body0_ok tu_hputB
def c_body1:Con:=⟨208,l_df,h_dh,66,[(v_bw,[e_a8,e_dg,(65,o_by),(66,.frz [v_4] 48 516 true)],148)]⟩
def r_body1:Con:=⟨208,l_df,h_dh,66,[(.slice (some ⟨72,0,none⟩) 48 48,[e_a8,e_dg,(65,o_by),(72,o_c8)],129),(.chan (some 147),[e_a8,e_dg,(65,o_by),(147,o_di)],148)]⟩
theorem r_body1_ok:CT r_body1:=cn tu_body0 tu_body0
def q_body1:Outs:=[(v_bw,[(66,o_dd),e_a8,e_dg,(65,o_by)],129),(v_bw,[e_a8,e_dg,(65,o_by),(66,o_di)],148)]
theorem c_body1_ok:CT c_body1:=ConM.told (k:={r_body1 with outs:=q_body1}) (os:=c_body1.outs) (ConM.ren (k:={r_body1 with outs:=frzOuts [UI .u8 0 255] r_body1.n0 r_body1.outs}) (ConM.frz r_body1_ok [UI .u8 0 255]) [[(72,66)],[(147,66)]] (by kernel_rfl)) (by kernel_rfl) (by kernel_rfl)
def l_body1:List Con:=c_body1::l_body0
theorem t_body1:TF l_body1:=ad c_body1_ok.down t_body0
def lu_body1:List Con:=c_body1::lu_body0
theorem tu_body1:TT lu_body1:=ad c_body1_ok tu_body0
def c_body2:Con:=⟨208,l_dk,h_dm,67,[(v_bt,[e_a8,e_dl,(65,o_by),(66,o_by),(67,.frz [v_4] 48 984 true)],168)]⟩
def r_body2:Con:=⟨208,l_dk,h_dm,67,[(.slice (some ⟨73,0,none⟩) 48 48,[e_a8,e_dl,(65,o_by),(66,o_by),(73,o_c8)],131),(.chan (some 167),[e_a8,e_dl,(65,o_by),(66,o_by),(167,o_dn)],168)]⟩
theorem r_body2_ok:CT r_body2:=cn tu_body1 tu_body1
def q_body2:Outs:=[(v_bt,[(67,o_dd),e_a8,e_dl,(65,o_by),(66,o_by)],131),(v_bt,[e_a8,e_dl,(65,o_by),(66,o_by),(67,o_dn)],168)]
theorem c_body2_ok:CT c_body2:=ConM.told (k:={r_body2 with outs:=q_body2}) (os:=c_body2.outs) (ConM.ren (k:={r_body2 with outs:=frzOuts [UI .u8 0 255] r_body2.n0 r_body2.outs}) (ConM.frz r_body2_ok [UI .u8 0 255]) [[(73,67)],[(167,67)]] (by kernel_rfl)) (by kernel_rfl) (by kernel_rfl)
def l_body2:List Con:=c_body2::l_body1
theorem t_body2:TF l_body2:=ad c_body2_ok.down t_body1
def lu_body2:List Con:=c_body2::lu_body1
theorem tu_body2:TT lu_body2:=ad c_body2_ok tu_body1
def c_body3:Con:=⟨208,l_dp,h_dr,68,[(v_bB,[e_a8,e_dq,(65,o_by),(66,o_by),(67,o_by),(68,.frz [v_4] 48 1452 true)],188)]⟩
def r_body3:Con:=⟨208,l_dp,h_dr,68,[(.slice (some ⟨74,0,none⟩) 48 48,[e_a8,e_dq,(65,o_by),(66,o_by),(67,o_by),(74,o_c8)],133),(.chan (some 187),[e_a8,e_dq,(65,o_by),(66,o_by),(67,o_by),(187,o_ds)],188)]⟩
theorem r_body3_ok:CT r_body3:=cn tu_body2 tu_body2
def q_body3:Outs:=[(v_bB,[(68,o_dd),e_a8,e_dq,(65,o_by),(66,o_by),(67,o_by)],133),(v_bB,[e_a8,e_dq,(65,o_by),(66,o_by),(67,o_by),(68,o_ds)],188)]
theorem c_body3_ok:CT c_body3:=ConM.told (k:={r_body3 with outs:=q_body3}) (os:=c_body3.outs) (ConM.ren (k:={r_body3 with outs:=frzOuts [UI .u8 0 255] r_body3.n0 r_body3.outs}) (ConM.frz r_body3_ok [UI .u8 0 255]) [[(74,68)],[(187,68)]] (by kernel_rfl)) (by kernel_rfl) (by kernel_rfl)
def l_body3:List Con:=c_body3::l_body2
theorem t_body3:TF l_body3:=ad c_body3_ok.down t_body2
def lu_body3:List Con:=c_body3::lu_body2
theorem tu_body3:TT lu_body3:=ad c_body3_ok tu_body2
def c_body4:Con:=⟨208,l_du,h_dw,69,[(v_bG,[e_a8,e_dv,(65,o_by),(66,o_by),(67,o_by),(68,o_by),(69,.frz [v_4] 48 1920 true)],208)]⟩
def r_body4:Con:=⟨208,l_du,h_dw,69,[(.slice (some ⟨75,0,none⟩) 48 48,[e_a8,e_dv,(65,o_by),(66,o_by),(67,o_by),(68,o_by),(75,o_c8)],135),(.chan (some 207),[e_a8,e_dv,(65,o_by),(66,o_by),(67,o_by),(68,o_by),(207,o_dx)],208)]⟩
theorem r_body4_ok:CT r_body4:=cn tu_body3 tu_body3
def q_body4:Outs:=[(v_bG,[(69,o_dd),e_a8,e_dv,(65,o_by),(66,o_by),(67,o_by),(68,o_by)],135),(v_bG,[e_a8,e_dv,(65,o_by),(66,o_by),(67,o_by),(68,o_by),(69,o_dx)],208)]
theorem c_body4_ok:CT c_body4:=ConM.told (k:={r_body4 with outs:=q_body4}) (os:=c_body4.outs) (ConM.ren (k:={r_body4 with outs:=frzOuts [UI .u8 0 255] r_body4.n0 r_body4.outs}) (ConM.frz r_body4_ok [UI .u8 0 255]) [[(75,69)],[(207,69)]] (by kernel_rfl)) (by kernel_rfl) (by kernel_rfl)
def l_body4:List Con:=c_body4::l_body3
theorem t_body4:TF l_body4:=ad c_body4_ok.down t_body3
def lu_body4:List Con:=c_body4::lu_body3
theorem tu_body4:TT lu_body4:=ad c_body4_ok tu_body3
def c_body5:Con:=⟨208,l_dz,h_dB,70,[(v_bL,[e_a8,e_dA,(65,o_by),(66,o_by),(67,o_by),(68,o_by),(69,o_by),(70,.frz [v_4] 48 2388 true)],228)]⟩
def r_body5:Con:=⟨208,l_dz,h_dB,70,[(.slice (some ⟨76,0,none⟩) 48 48,[e_a8,e_dA,(65,o_by),(66,o_by),(67,o_by),(68,o_by),(69,o_by),(76,o_c8)],137),(v_cz,[e_a8,e_dA,(65,o_by),(66,o_by),(67,o_by),(68,o_by),(69,o_by),(227,o_dC)],228)]⟩
theorem r_body5_ok:CT r_body5:=cn tu_body4 tu_body4
def q_body5:Outs:=[(v_bL,[(70,o_dd),e_a8,e_dA,(65,o_by),(66,o_by),(67,o_by),(68,o_by),(69,o_by)],137),(v_bL,[e_a8,e_dA,(65,o_by),(66,o_by),(67,o_by),(68,o_by),(69,o_by),(70,o_dC)],228)]
theorem c_body5_ok:CT c_body5:=ConM.told (k:={r_body5 with outs:=q_body5}) (os:=c_body5.outs) (ConM.ren (k:={r_body5 with outs:=frzOuts [UI .u8 0 255] r_body5.n0 r_body5.outs}) (ConM.frz r_body5_ok [UI .u8 0 255]) [[(76,70)],[(227,70)]] (by kernel_rfl)) (by kernel_rfl) (by kernel_rfl)
def l_body5:List Con:=c_body5::l_body4
theorem t_body5:TF l_body5:=ad c_body5_ok.down t_body4
def lu_body5:List Con:=c_body5::lu_body4
theorem tu_body5:TT lu_body5:=ad c_body5_ok tu_body4
def c_body6:Con:=⟨208,l_dE,h_dG,71,[(v_bQ,[e_a8,e_dF,(65,o_by),(66,o_by),(67,o_by),(68,o_by),(69,o_by),(70,o_by),(71,.frz [v_4] 48 2856 true)],248)]⟩
def r_body6:Con:=⟨208,l_dE,h_dG,71,[(.slice (some ⟨77,0,none⟩) 48 48,[e_a8,e_dF,(65,o_by),(66,o_by),(67,o_by),(68,o_by),(69,o_by),(70,o_by),(77,o_c8)],139),(.chan (some 247),[e_a8,e_dF,(65,o_by),(66,o_by),(67,o_by),(68,o_by),(69,o_by),(70,o_by),(247,o_dH)],248)]⟩
theorem r_body6_ok:CT r_body6:=cn tu_body5 tu_body5
def q_body6:Outs:=[(v_bQ,[(71,o_dd),e_a8,e_dF,(65,o_by),(66,o_by),(67,o_by),(68,o_by),(69,o_by),(70,o_by)],139),(v_bQ,[e_a8,e_dF,(65,o_by),(66,o_by),(67,o_by),(68,o_by),(69,o_by),(70,o_by),(71,o_dH)],248)]
theorem c_body6_ok:CT c_body6:=ConM.told (k:={r_body6 with outs:=q_body6}) (os:=c_body6.outs) (ConM.ren (k:={r_body6 with outs:=frzOuts [UI .u8 0 255] r_body6.n0 r_body6.outs}) (ConM.frz r_body6_ok [UI .u8 0 255]) [[(77,71)],[(247,71)]] (by kernel_rfl)) (by kernel_rfl) (by kernel_rfl)
def l_body6:List Con:=c_body6::l_body5
theorem t_body6:TF l_body6:=ad c_body6_ok.down t_body5
def lu_body6:List Con:=c_body6::lu_body5
theorem tu_body6:TT lu_body6:=ad c_body6_ok tu_body5
def c_body7:Con:=⟨208,l_dJ,h_dL,72,[(v_bV,[e_a8,e_dK,(65,o_by),(66,o_by),(67,o_by),(68,o_by),(69,o_by),(70,o_by),(71,o_by),(72,.frz [v_4] 48 3324 true)],268)]⟩
def r_body7:Con:=⟨208,l_dJ,h_dL,72,[(.slice (some ⟨78,0,none⟩) 48 48,[e_a8,e_dK,(65,o_by),(66,o_by),(67,o_by),(68,o_by),(69,o_by),(70,o_by),(71,o_by),(78,o_c8)],141),(.chan (some 267),[e_a8,e_dK,(65,o_by),(66,o_by),(67,o_by),(68,o_by),(69,o_by),(70,o_by),(71,o_by),(267,o_dM)],268)]⟩
theorem r_body7_ok:CT r_body7:=cn tu_body6 tu_body6
def q_body7:Outs:=[(v_bV,[(72,o_dd),e_a8,e_dK,(65,o_by),(66,o_by),(67,o_by),(68,o_by),(69,o_by),(70,o_by),(71,o_by)],141),(v_bV,[e_a8,e_dK,(65,o_by),(66,o_by),(67,o_by),(68,o_by),(69,o_by),(70,o_by),(71,o_by),(72,o_dM)],268)]
theorem c_body7_ok:CT c_body7:=ConM.told (k:={r_body7 with outs:=q_body7}) (os:=c_body7.outs) (ConM.ren (k:={r_body7 with outs:=frzOuts [UI .u8 0 255] r_body7.n0 r_body7.outs}) (ConM.frz r_body7_ok [UI .u8 0 255]) [[(78,72)],[(267,72)]] (by kernel_rfl)) (by kernel_rfl) (by kernel_rfl)
def l_body7:List Con:=c_body7::l_body6
theorem t_body7:TF l_body7:=ad c_body7_ok.down t_body6
def lu_body7:List Con:=c_body7::lu_body6
theorem tu_body7:TT lu_body7:=ad c_body7_ok tu_body6
def c_body8:Con:=⟨208,l_dO,h_dQ,73,[(v_b0,[e_a8,e_dP,(65,o_by),(66,o_by),(67,o_by),(68,o_by),(69,o_by),(70,o_by),(71,o_by),(72,o_by),(73,.frz [v_4] 48 3792 true)],288)]⟩
def r_body8:Con:=⟨208,l_dO,h_dQ,73,[(.slice (some ⟨79,0,none⟩) 48 48,[e_a8,e_dP,(65,o_by),(66,o_by),(67,o_by),(68,o_by),(69,o_by),(70,o_by),(71,o_by),(72,o_by),(79,o_c8)],143),(.chan (some 287),[e_a8,e_dP,(65,o_by),(66,o_by),(67,o_by),(68,o_by),(69,o_by),(70,o_by),(71,o_by),(72,o_by),(287,o_dR)],288)]⟩
theorem r_body8_ok:CT r_body8:=cn tu_body7 tu_body7
def q_body8:Outs:=[(v_b0,[(73,o_dd),e_a8,e_dP,(65,o_by),(66,o_by),(67,o_by),(68,o_by),(69,o_by),(70,o_by),(71,o_by),(72,o_by)],143),(v_b0,[e_a8,e_dP,(65,o_by),(66,o_by),(67,o_by),(68,o_by),(69,o_by),(70,o_by),(71,o_by),(72,o_by),(73,o_dR)],288)]
theorem c_body8_ok:CT c_body8:=ConM.told (k:={r_body8 with outs:=q_body8}) (os:=c_body8.outs) (ConM.ren (k:={r_body8 with outs:=frzOuts [UI .u8 0 255] r_body8.n0 r_body8.outs}) (ConM.frz r_body8_ok [UI .u8 0 255]) [[(79,73)],[(287,73)]] (by kernel_rfl)) (by kernel_rfl) (by kernel_rfl)
def l_body8:List Con:=c_body8::l_body7
theorem t_body8:TF l_body8:=ad c_body8_ok.down t_body7
def lu_body8:List Con:=c_body8::lu_body7
theorem tu_body8:TT lu_body8:=ad c_body8_ok tu_body7
def c_right0:Con:=⟨222,l_dT,[e_a8],65,w_dU⟩
def o_c_right0_0:Outs:=w_dU
def o_c_right0_0_0:Outs:=w_dV
theorem c_right0_0_0_ok:CT (Con.part (Con.part c_right0 0 0 (mkU .u8 z0 (.ofNat 3)) o_c_right0_0) 0 1 (mkU .u8 z0 z0) o_c_right0_0_0):=cn tu_body8 tu_body8
def o_c_right0_0_1:Outs:=w_dU
def o_c_right0_0_1_0:Outs:=w_dU
theorem c_right0_0_1_0_ok:CT (Con.part (Con.part (Con.part c_right0 0 0 (mkU .u8 z0 (.ofNat 3)) o_c_right0_0) 0 1 (mkU .u8 (.ofNat 1) (.ofNat 4)) o_c_right0_0_1) 0 2 (mkU .u8 z0 (.ofNat 7)) o_c_right0_0_1_0):=cn tu_body8 tu_body8
def o_c_right0_0_1_1:Outs:=w_dV
theorem c_right0_0_1_1_ok:CT (Con.part (Con.part (Con.part c_right0 0 0 (mkU .u8 z0 (.ofNat 3)) o_c_right0_0) 0 1 (mkU .u8 (.ofNat 1) (.ofNat 4)) o_c_right0_0_1) 0 2 (mkU .u8 (.ofNat 8) (.ofNat 255)) o_c_right0_0_1_1):=cn tu_body8 tu_body8
theorem c_right0_0_1_ok:CT (Con.part (Con.part c_right0 0 0 (mkU .u8 z0 (.ofNat 3)) o_c_right0_0) 0 1 (mkU .u8 (.ofNat 1) (.ofNat 4)) o_c_right0_0_1):=.cutA (kd:=.u8) (k2:=.u8) (lo:=z0) (hi:=(.ofNat 255)) 0 2 (by kernel_rfl) ⟨by kernel_rfl,by kernel_rfl⟩ (by kernel_rfl) [((.ofNat 7),o_c_right0_0_1_0),((.ofNat 255),o_c_right0_0_1_1)] ⟨c_right0_0_1_0_ok,by kernel_rfl,⟨c_right0_0_1_1_ok,by kernel_rfl,(segsA_nil (by kernel_rfl))⟩⟩
def o_c_right0_0_2:Outs:=w_dV
theorem c_right0_0_2_ok:CT (Con.part (Con.part c_right0 0 0 (mkU .u8 z0 (.ofNat 3)) o_c_right0_0) 0 1 (mkU .u8 (.ofNat 5) (.ofNat 255)) o_c_right0_0_2):=cn tu_body8 tu_body8
theorem c_right0_0_ok:CT (Con.part c_right0 0 0 (mkU .u8 z0 (.ofNat 3)) o_c_right0_0):=.cutA (kd:=.u8) (k2:=.u8) (lo:=z0) (hi:=(.ofNat 255)) 0 1 (by kernel_rfl) ⟨by kernel_rfl,by kernel_rfl⟩ (by kernel_rfl) [(z0,o_c_right0_0_0),((.ofNat 4),o_c_right0_0_1),((.ofNat 255),o_c_right0_0_2)] ⟨c_right0_0_0_ok,by kernel_rfl,⟨c_right0_0_1_ok,by kernel_rfl,⟨c_right0_0_2_ok,by kernel_rfl,(segsA_nil (by kernel_rfl))⟩⟩⟩
def o_c_right0_1:Outs:=w_dV
theorem c_right0_1_ok:CT (Con.part c_right0 0 0 (mkU .u8 (.ofNat 4) (.ofNat 255)) o_c_right0_1):=cn tu_body8 tu_body8
theorem c_right0_ok:CT c_right0:=.cutA (kd:=.u8) (k2:=.u8) (lo:=z0) (hi:=(.ofNat 255)) 0 0 (by kernel_rfl) ⟨by kernel_rfl,by kernel_rfl⟩ (by kernel_rfl) [((.ofNat 3),o_c_right0_0),((.ofNat 255),o_c_right0_1)] ⟨c_right0_0_ok,by kernel_rfl,⟨c_right0_1_ok,by kernel_rfl,(segsA_nil (by kernel_rfl))⟩⟩
def l_right0:List Con:=c_right0::l_body8
theorem t_right0:TF l_right0:=ad c_right0_ok.down t_body8
def lu_right0:List Con:=c_right0::lu_body8
theorem tu_right0:TT lu_right0:=ad c_right0_ok tu_body8
def c_right1:Con:=⟨222,[.agg ⟨(rp 4 v_4++[v_bb,v_bb,v_aL,v_aL,v_aL]++rp 4 v_Q++[v_de,UB,v_aL,v_Q])⟩,.agg ⟨l_c0⟩],h_dh,66,w_dX⟩
def o_c_right1_0:Outs:=w_dX
def o_c_right1_0_0:Outs:=w_dY
theorem c_right1_0_0_ok:CF (Con.part (Con.part c_right1 0 0 (mkU .u8 z0 (.ofNat 3)) o_c_right1_0) 0 1 (mkU .u8 z0 z0) o_c_right1_0_0):=cn t_right0 tu_right0
def o_c_right1_0_1:Outs:=w_dX
def o_c_right1_0_1_0:Outs:=w_dX
theorem c_right1_0_1_0_ok:CF (Con.part (Con.part (Con.part c_right1 0 0 (mkU .u8 z0 (.ofNat 3)) o_c_right1_0) 0 1 (mkU .u8 (.ofNat 1) (.ofNat 4)) o_c_right1_0_1) 0 2 (mkU .u8 z0 (.ofNat 7)) o_c_right1_0_1_0):=cn t_right0 tu_right0
def o_c_right1_0_1_1:Outs:=w_dY
theorem c_right1_0_1_1_ok:CF (Con.part (Con.part (Con.part c_right1 0 0 (mkU .u8 z0 (.ofNat 3)) o_c_right1_0) 0 1 (mkU .u8 (.ofNat 1) (.ofNat 4)) o_c_right1_0_1) 0 2 (mkU .u8 (.ofNat 8) (.ofNat 255)) o_c_right1_0_1_1):=cn t_right0 tu_right0
theorem c_right1_0_1_ok:CF (Con.part (Con.part c_right1 0 0 (mkU .u8 z0 (.ofNat 3)) o_c_right1_0) 0 1 (mkU .u8 (.ofNat 1) (.ofNat 4)) o_c_right1_0_1):=.cutA (kd:=.u8) (k2:=.u8) (lo:=z0) (hi:=(.ofNat 255)) 0 2 (by kernel_rfl) ⟨by kernel_rfl,by kernel_rfl⟩ (by kernel_rfl) [((.ofNat 7),o_c_right1_0_1_0),((.ofNat 255),o_c_right1_0_1_1)] ⟨c_right1_0_1_0_ok,by kernel_rfl,⟨c_right1_0_1_1_ok,by kernel_rfl,(segsA_nil (by kernel_rfl))⟩⟩
def o_c_right1_0_2:Outs:=w_dY
theorem c_right1_0_2_ok:CF (Con.part (Con.part c_right1 0 0 (mkU .u8 z0 (.ofNat 3)) o_c_right1_0) 0 1 (mkU .u8 (.ofNat 5) (.ofNat 255)) o_c_right1_0_2):=cn t_right0 tu_right0
theorem c_right1_0_ok:CF (Con.part c_right1 0 0 (mkU .u8 z0 (.ofNat 3)) o_c_right1_0):=.cutA (kd:=.u8) (k2:=.u8) (lo:=z0) (hi:=(.ofNat 255)) 0 1 (by kernel_rfl) ⟨by kernel_rfl,by kernel_rfl⟩ (by kernel_rfl) [(z0,o_c_right1_0_0),((.ofNat 4),o_c_right1_0_1),((.ofNat 255),o_c_right1_0_2)] ⟨c_right1_0_0_ok,by kernel_rfl,⟨c_right1_0_1_ok,by kernel_rfl,⟨c_right1_0_2_ok,by kernel_rfl,(segsA_nil (by kernel_rfl))⟩⟩⟩
def o_c_right1_1:Outs:=w_dY
theorem c_right1_1_ok:CF (Con.part c_right1 0 0 (mkU .u8 (.ofNat 4) (.ofNat 255)) o_c_right1_1):=cn t_right0 tu_right0
theorem c_right1_ok:CF c_right1:=.cutA (kd:=.u8) (k2:=.u8) (lo:=z0) (hi:=(.ofNat 255)) 0 0 (by kernel_rfl) ⟨by kernel_rfl,by kernel_rfl⟩ (by kernel_rfl) [((.ofNat 3),o_c_right1_0),((.ofNat 255),o_c_right1_1)] ⟨c_right1_0_ok,by kernel_rfl,⟨c_right1_1_ok,by kernel_rfl,(segsA_nil (by kernel_rfl))⟩⟩
def l_right1:List Con:=c_right1::l_right0
theorem t_right1:TF l_right1:=ad c_right1_ok t_right0
def c_right2:Con:=⟨222,[.agg ⟨(rp 4 v_4++[v_bb,v_bb,v_aL,v_aL,v_aL]++rp 4 v_Q++[v_dj,UB,v_aL,v_Q])⟩,.agg ⟨l_c0⟩],h_dm,67,w_d0⟩
def o_c_right2_0:Outs:=w_d0
def o_c_right2_0_0:Outs:=w_d1
theorem c_right2_0_0_ok:CF (Con.part (Con.part c_right2 0 0 (mkU .u8 z0 (.ofNat 3)) o_c_right2_0) 0 1 (mkU .u8 z0 z0) o_c_right2_0_0):=cn t_right1 tu_right0
def o_c_right2_0_1:Outs:=w_d0
def o_c_right2_0_1_0:Outs:=w_d0
theorem c_right2_0_1_0_ok:CF (Con.part (Con.part (Con.part c_right2 0 0 (mkU .u8 z0 (.ofNat 3)) o_c_right2_0) 0 1 (mkU .u8 (.ofNat 1) (.ofNat 4)) o_c_right2_0_1) 0 2 (mkU .u8 z0 (.ofNat 7)) o_c_right2_0_1_0):=cn t_right1 tu_right0
def o_c_right2_0_1_1:Outs:=w_d1
theorem c_right2_0_1_1_ok:CF (Con.part (Con.part (Con.part c_right2 0 0 (mkU .u8 z0 (.ofNat 3)) o_c_right2_0) 0 1 (mkU .u8 (.ofNat 1) (.ofNat 4)) o_c_right2_0_1) 0 2 (mkU .u8 (.ofNat 8) (.ofNat 255)) o_c_right2_0_1_1):=cn t_right1 tu_right0
theorem c_right2_0_1_ok:CF (Con.part (Con.part c_right2 0 0 (mkU .u8 z0 (.ofNat 3)) o_c_right2_0) 0 1 (mkU .u8 (.ofNat 1) (.ofNat 4)) o_c_right2_0_1):=.cutA (kd:=.u8) (k2:=.u8) (lo:=z0) (hi:=(.ofNat 255)) 0 2 (by kernel_rfl) ⟨by kernel_rfl,by kernel_rfl⟩ (by kernel_rfl) [((.ofNat 7),o_c_right2_0_1_0),((.ofNat 255),o_c_right2_0_1_1)] ⟨c_right2_0_1_0_ok,by kernel_rfl,⟨c_right2_0_1_1_ok,by kernel_rfl,(segsA_nil (by kernel_rfl))⟩⟩
def o_c_right2_0_2:Outs:=w_d1
theorem c_right2_0_2_ok:CF (Con.part (Con.part c_right2 0 0 (mkU .u8 z0 (.ofNat 3)) o_c_right2_0) 0 1 (mkU .u8 (.ofNat 5) (.ofNat 255)) o_c_right2_0_2):=cn t_right1 tu_right0
theorem c_right2_0_ok:CF (Con.part c_right2 0 0 (mkU .u8 z0 (.ofNat 3)) o_c_right2_0):=.cutA (kd:=.u8) (k2:=.u8) (lo:=z0) (hi:=(.ofNat 255)) 0 1 (by kernel_rfl) ⟨by kernel_rfl,by kernel_rfl⟩ (by kernel_rfl) [(z0,o_c_right2_0_0),((.ofNat 4),o_c_right2_0_1),((.ofNat 255),o_c_right2_0_2)] ⟨c_right2_0_0_ok,by kernel_rfl,⟨c_right2_0_1_ok,by kernel_rfl,⟨c_right2_0_2_ok,by kernel_rfl,(segsA_nil (by kernel_rfl))⟩⟩⟩
def o_c_right2_1:Outs:=w_d1
theorem c_right2_1_ok:CF (Con.part c_right2 0 0 (mkU .u8 (.ofNat 4) (.ofNat 255)) o_c_right2_1):=cn t_right1 tu_right0
theorem c_right2_ok:CF c_right2:=.cutA (kd:=.u8) (k2:=.u8) (lo:=z0) (hi:=(.ofNat 255)) 0 0 (by kernel_rfl) ⟨by kernel_rfl,by kernel_rfl⟩ (by kernel_rfl) [((.ofNat 3),o_c_right2_0),((.ofNat 255),o_c_right2_1)] ⟨c_right2_0_ok,by kernel_rfl,⟨c_right2_1_ok,by kernel_rfl,(segsA_nil (by kernel_rfl))⟩⟩
def l_right2:List Con:=c_right2::l_right1
theorem t_right2:TF l_right2:=ad c_right2_ok t_right1
def c_right3:Con:=⟨222,[.agg ⟨(rp 4 v_4++[v_bb,v_bb,v_aL,v_aL,v_aL]++rp 4 v_Q++[v_do,UB,v_aL,v_Q])⟩,.agg ⟨l_c0⟩],h_dr,68,w_d3⟩
def o_c_right3_0:Outs:=w_d3
def o_c_right3_0_0:Outs:=w_d4
theorem c_right3_0_0_ok:CF (Con.part (Con.part c_right3 0 0 (mkU .u8 z0 (.ofNat 3)) o_c_right3_0) 0 1 (mkU .u8 z0 z0) o_c_right3_0_0):=cn t_right2 tu_right0
def o_c_right3_0_1:Outs:=w_d3
def o_c_right3_0_1_0:Outs:=w_d3
theorem c_right3_0_1_0_ok:CF (Con.part (Con.part (Con.part c_right3 0 0 (mkU .u8 z0 (.ofNat 3)) o_c_right3_0) 0 1 (mkU .u8 (.ofNat 1) (.ofNat 4)) o_c_right3_0_1) 0 2 (mkU .u8 z0 (.ofNat 7)) o_c_right3_0_1_0):=cn t_right2 tu_right0
def o_c_right3_0_1_1:Outs:=w_d4
theorem c_right3_0_1_1_ok:CF (Con.part (Con.part (Con.part c_right3 0 0 (mkU .u8 z0 (.ofNat 3)) o_c_right3_0) 0 1 (mkU .u8 (.ofNat 1) (.ofNat 4)) o_c_right3_0_1) 0 2 (mkU .u8 (.ofNat 8) (.ofNat 255)) o_c_right3_0_1_1):=cn t_right2 tu_right0
theorem c_right3_0_1_ok:CF (Con.part (Con.part c_right3 0 0 (mkU .u8 z0 (.ofNat 3)) o_c_right3_0) 0 1 (mkU .u8 (.ofNat 1) (.ofNat 4)) o_c_right3_0_1):=.cutA (kd:=.u8) (k2:=.u8) (lo:=z0) (hi:=(.ofNat 255)) 0 2 (by kernel_rfl) ⟨by kernel_rfl,by kernel_rfl⟩ (by kernel_rfl) [((.ofNat 7),o_c_right3_0_1_0),((.ofNat 255),o_c_right3_0_1_1)] ⟨c_right3_0_1_0_ok,by kernel_rfl,⟨c_right3_0_1_1_ok,by kernel_rfl,(segsA_nil (by kernel_rfl))⟩⟩
def o_c_right3_0_2:Outs:=w_d4
theorem c_right3_0_2_ok:CF (Con.part (Con.part c_right3 0 0 (mkU .u8 z0 (.ofNat 3)) o_c_right3_0) 0 1 (mkU .u8 (.ofNat 5) (.ofNat 255)) o_c_right3_0_2):=cn t_right2 tu_right0
theorem c_right3_0_ok:CF (Con.part c_right3 0 0 (mkU .u8 z0 (.ofNat 3)) o_c_right3_0):=.cutA (kd:=.u8) (k2:=.u8) (lo:=z0) (hi:=(.ofNat 255)) 0 1 (by kernel_rfl) ⟨by kernel_rfl,by kernel_rfl⟩ (by kernel_rfl) [(z0,o_c_right3_0_0),((.ofNat 4),o_c_right3_0_1),((.ofNat 255),o_c_right3_0_2)] ⟨c_right3_0_0_ok,by kernel_rfl,⟨c_right3_0_1_ok,by kernel_rfl,⟨c_right3_0_2_ok,by kernel_rfl,(segsA_nil (by kernel_rfl))⟩⟩⟩
def o_c_right3_1:Outs:=w_d4
theorem c_right3_1_ok:CF (Con.part c_right3 0 0 (mkU .u8 (.ofNat 4) (.ofNat 255)) o_c_right3_1):=cn t_right2 tu_right0
theorem c_right3_ok:CF c_right3:=.cutA (kd:=.u8) (k2:=.u8) (lo:=z0) (hi:=(.ofNat 255)) 0 0 (by kernel_rfl) ⟨by kernel_rfl,by kernel_rfl⟩ (by kernel_rfl) [((.ofNat 3),o_c_right3_0),((.ofNat 255),o_c_right3_1)] ⟨c_right3_0_ok,by kernel_rfl,⟨c_right3_1_ok,by kernel_rfl,(segsA_nil (by kernel_rfl))⟩⟩
def l_right3:List Con:=c_right3::l_right2
theorem t_right3:TF l_right3:=ad c_right3_ok t_right2
def c_right4:Con:=⟨222,[.agg ⟨(rp 4 v_4++[v_bb,v_bb,v_aL,v_aL,v_aL]++rp 4 v_Q++[v_dt,UB,v_aL,v_Q])⟩,.agg ⟨l_c0⟩],h_dw,69,w_d6⟩
def o_c_right4_0:Outs:=w_d6
def o_c_right4_0_0:Outs:=w_d7
theorem c_right4_0_0_ok:CF (Con.part (Con.part c_right4 0 0 (mkU .u8 z0 (.ofNat 3)) o_c_right4_0) 0 1 (mkU .u8 z0 z0) o_c_right4_0_0):=cn t_right3 tu_right0
def o_c_right4_0_1:Outs:=w_d6
def o_c_right4_0_1_0:Outs:=w_d6
theorem c_right4_0_1_0_ok:CF (Con.part (Con.part (Con.part c_right4 0 0 (mkU .u8 z0 (.ofNat 3)) o_c_right4_0) 0 1 (mkU .u8 (.ofNat 1) (.ofNat 4)) o_c_right4_0_1) 0 2 (mkU .u8 z0 (.ofNat 7)) o_c_right4_0_1_0):=cn t_right3 tu_right0
def o_c_right4_0_1_1:Outs:=w_d7
theorem c_right4_0_1_1_ok:CF (Con.part (Con.part (Con.part c_right4 0 0 (mkU .u8 z0 (.ofNat 3)) o_c_right4_0) 0 1 (mkU .u8 (.ofNat 1) (.ofNat 4)) o_c_right4_0_1) 0 2 (mkU .u8 (.ofNat 8) (.ofNat 255)) o_c_right4_0_1_1):=cn t_right3 tu_right0
theorem c_right4_0_1_ok:CF (Con.part (Con.part c_right4 0 0 (mkU .u8 z0 (.ofNat 3)) o_c_right4_0) 0 1 (mkU .u8 (.ofNat 1) (.ofNat 4)) o_c_right4_0_1):=.cutA (kd:=.u8) (k2:=.u8) (lo:=z0) (hi:=(.ofNat 255)) 0 2 (by kernel_rfl) ⟨by kernel_rfl,by kernel_rfl⟩ (by kernel_rfl) [((.ofNat 7),o_c_right4_0_1_0),((.ofNat 255),o_c_right4_0_1_1)] ⟨c_right4_0_1_0_ok,by kernel_rfl,⟨c_right4_0_1_1_ok,by kernel_rfl,(segsA_nil (by kernel_rfl))⟩⟩
def o_c_right4_0_2:Outs:=w_d7
theorem c_right4_0_2_ok:CF (Con.part (Con.part c_right4 0 0 (mkU .u8 z0 (.ofNat 3)) o_c_right4_0) 0 1 (mkU .u8 (.ofNat 5) (.ofNat 255)) o_c_right4_0_2):=cn t_right3 tu_right0
theorem c_right4_0_ok:CF (Con.part c_right4 0 0 (mkU .u8 z0 (.ofNat 3)) o_c_right4_0):=.cutA (kd:=.u8) (k2:=.u8) (lo:=z0) (hi:=(.ofNat 255)) 0 1 (by kernel_rfl) ⟨by kernel_rfl,by kernel_rfl⟩ (by kernel_rfl) [(z0,o_c_right4_0_0),((.ofNat 4),o_c_right4_0_1),((.ofNat 255),o_c_right4_0_2)] ⟨c_right4_0_0_ok,by kernel_rfl,⟨c_right4_0_1_ok,by kernel_rfl,⟨c_right4_0_2_ok,by kernel_rfl,(segsA_nil (by kernel_rfl))⟩⟩⟩
def o_c_right4_1:Outs:=w_d7
theorem c_right4_1_ok:CF (Con.part c_right4 0 0 (mkU .u8 (.ofNat 4) (.ofNat 255)) o_c_right4_1):=cn t_right3 tu_right0
theorem c_right4_ok:CF c_right4:=.cutA (kd:=.u8) (k2:=.u8) (lo:=z0) (hi:=(.ofNat 255)) 0 0 (by kernel_rfl) ⟨by kernel_rfl,by kernel_rfl⟩ (by kernel_rfl) [((.ofNat 3),o_c_right4_0),((.ofNat 255),o_c_right4_1)] ⟨c_right4_0_ok,by kernel_rfl,⟨c_right4_1_ok,by kernel_rfl,(segsA_nil (by kernel_rfl))⟩⟩
def l_right4:List Con:=c_right4::l_right3
theorem t_right4:TF l_right4:=ad c_right4_ok t_right3
def c_right5:Con:=⟨222,[.agg ⟨(rp 4 v_4++[v_bb,v_bb,v_aL,v_aL,v_aL]++rp 4 v_Q++[v_dy,UB,v_aL,v_Q])⟩,.agg ⟨l_c0⟩],h_dB,70,w_d9⟩
def o_c_right5_0:Outs:=w_d9
def o_c_right5_0_0:Outs:=w_ea
theorem c_right5_0_0_ok:CF (Con.part (Con.part c_right5 0 0 (mkU .u8 z0 (.ofNat 3)) o_c_right5_0) 0 1 (mkU .u8 z0 z0) o_c_right5_0_0):=cn t_right4 tu_right0
def o_c_right5_0_1:Outs:=w_d9
def o_c_right5_0_1_0:Outs:=w_d9
theorem c_right5_0_1_0_ok:CF (Con.part (Con.part (Con.part c_right5 0 0 (mkU .u8 z0 (.ofNat 3)) o_c_right5_0) 0 1 (mkU .u8 (.ofNat 1) (.ofNat 4)) o_c_right5_0_1) 0 2 (mkU .u8 z0 (.ofNat 7)) o_c_right5_0_1_0):=cn t_right4 tu_right0
def o_c_right5_0_1_1:Outs:=w_ea
theorem c_right5_0_1_1_ok:CF (Con.part (Con.part (Con.part c_right5 0 0 (mkU .u8 z0 (.ofNat 3)) o_c_right5_0) 0 1 (mkU .u8 (.ofNat 1) (.ofNat 4)) o_c_right5_0_1) 0 2 (mkU .u8 (.ofNat 8) (.ofNat 255)) o_c_right5_0_1_1):=cn t_right4 tu_right0
theorem c_right5_0_1_ok:CF (Con.part (Con.part c_right5 0 0 (mkU .u8 z0 (.ofNat 3)) o_c_right5_0) 0 1 (mkU .u8 (.ofNat 1) (.ofNat 4)) o_c_right5_0_1):=.cutA (kd:=.u8) (k2:=.u8) (lo:=z0) (hi:=(.ofNat 255)) 0 2 (by kernel_rfl) ⟨by kernel_rfl,by kernel_rfl⟩ (by kernel_rfl) [((.ofNat 7),o_c_right5_0_1_0),((.ofNat 255),o_c_right5_0_1_1)] ⟨c_right5_0_1_0_ok,by kernel_rfl,⟨c_right5_0_1_1_ok,by kernel_rfl,(segsA_nil (by kernel_rfl))⟩⟩
def o_c_right5_0_2:Outs:=w_ea
theorem c_right5_0_2_ok:CF (Con.part (Con.part c_right5 0 0 (mkU .u8 z0 (.ofNat 3)) o_c_right5_0) 0 1 (mkU .u8 (.ofNat 5) (.ofNat 255)) o_c_right5_0_2):=cn t_right4 tu_right0
theorem c_right5_0_ok:CF (Con.part c_right5 0 0 (mkU .u8 z0 (.ofNat 3)) o_c_right5_0):=.cutA (kd:=.u8) (k2:=.u8) (lo:=z0) (hi:=(.ofNat 255)) 0 1 (by kernel_rfl) ⟨by kernel_rfl,by kernel_rfl⟩ (by kernel_rfl) [(z0,o_c_right5_0_0),((.ofNat 4),o_c_right5_0_1),((.ofNat 255),o_c_right5_0_2)] ⟨c_right5_0_0_ok,by kernel_rfl,⟨c_right5_0_1_ok,by kernel_rfl,⟨c_right5_0_2_ok,by kernel_rfl,(segsA_nil (by kernel_rfl))⟩⟩⟩
def o_c_right5_1:Outs:=w_ea
theorem c_right5_1_ok:CF (Con.part c_right5 0 0 (mkU .u8 (.ofNat 4) (.ofNat 255)) o_c_right5_1):=cn t_right4 tu_right0
theorem c_right5_ok:CF c_right5:=.cutA (kd:=.u8) (k2:=.u8) (lo:=z0) (hi:=(.ofNat 255)) 0 0 (by kernel_rfl) ⟨by kernel_rfl,by kernel_rfl⟩ (by kernel_rfl) [((.ofNat 3),o_c_right5_0),((.ofNat 255),o_c_right5_1)] ⟨c_right5_0_ok,by kernel_rfl,⟨c_right5_1_ok,by kernel_rfl,(segsA_nil (by kernel_rfl))⟩⟩
def l_right5:List Con:=c_right5::l_right4
theorem t_right5:TF l_right5:=ad c_right5_ok t_right4
def c_right6:Con:=⟨222,[.agg ⟨(rp 4 v_4++[v_bb,v_bb,v_aL,v_aL,v_aL]++rp 4 v_Q++[v_dD,UB,v_aL,v_Q])⟩,.agg ⟨l_c0⟩],h_dG,71,w_ec⟩
def o_c_right6_0:Outs:=w_ec
def o_c_right6_0_0:Outs:=w_ed
theorem c_right6_0_0_ok:CF (Con.part (Con.part c_right6 0 0 (mkU .u8 z0 (.ofNat 3)) o_c_right6_0) 0 1 (mkU .u8 z0 z0) o_c_right6_0_0):=cn t_right5 tu_right0
def o_c_right6_0_1:Outs:=w_ec
def o_c_right6_0_1_0:Outs:=w_ec
theorem c_right6_0_1_0_ok:CF (Con.part (Con.part (Con.part c_right6 0 0 (mkU .u8 z0 (.ofNat 3)) o_c_right6_0) 0 1 (mkU .u8 (.ofNat 1) (.ofNat 4)) o_c_right6_0_1) 0 2 (mkU .u8 z0 (.ofNat 7)) o_c_right6_0_1_0):=cn t_right5 tu_right0
def o_c_right6_0_1_1:Outs:=w_ed
theorem c_right6_0_1_1_ok:CF (Con.part (Con.part (Con.part c_right6 0 0 (mkU .u8 z0 (.ofNat 3)) o_c_right6_0) 0 1 (mkU .u8 (.ofNat 1) (.ofNat 4)) o_c_right6_0_1) 0 2 (mkU .u8 (.ofNat 8) (.ofNat 255)) o_c_right6_0_1_1):=cn t_right5 tu_right0
theorem c_right6_0_1_ok:CF (Con.part (Con.part c_right6 0 0 (mkU .u8 z0 (.ofNat 3)) o_c_right6_0) 0 1 (mkU .u8 (.ofNat 1) (.ofNat 4)) o_c_right6_0_1):=.cutA (kd:=.u8) (k2:=.u8) (lo:=z0) (hi:=(.ofNat 255)) 0 2 (by kernel_rfl) ⟨by kernel_rfl,by kernel_rfl⟩ (by kernel_rfl) [((.ofNat 7),o_c_right6_0_1_0),((.ofNat 255),o_c_right6_0_1_1)] ⟨c_right6_0_1_0_ok,by kernel_rfl,⟨c_right6_0_1_1_ok,by kernel_rfl,(segsA_nil (by kernel_rfl))⟩⟩
def o_c_right6_0_2:Outs:=w_ed
theorem c_right6_0_2_ok:CF (Con.part (Con.part c_right6 0 0 (mkU .u8 z0 (.ofNat 3)) o_c_right6_0) 0 1 (mkU .u8 (.ofNat 5) (.ofNat 255)) o_c_right6_0_2):=cn t_right5 tu_right0
theorem c_right6_0_ok:CF (Con.part c_right6 0 0 (mkU .u8 z0 (.ofNat 3)) o_c_right6_0):=.cutA (kd:=.u8) (k2:=.u8) (lo:=z0) (hi:=(.ofNat 255)) 0 1 (by kernel_rfl) ⟨by kernel_rfl,by kernel_rfl⟩ (by kernel_rfl) [(z0,o_c_right6_0_0),((.ofNat 4),o_c_right6_0_1),((.ofNat 255),o_c_right6_0_2)] ⟨c_right6_0_0_ok,by kernel_rfl,⟨c_right6_0_1_ok,by kernel_rfl,⟨c_right6_0_2_ok,by kernel_rfl,(segsA_nil (by kernel_rfl))⟩⟩⟩
def o_c_right6_1:Outs:=w_ed
theorem c_right6_1_ok:CF (Con.part c_right6 0 0 (mkU .u8 (.ofNat 4) (.ofNat 255)) o_c_right6_1):=cn t_right5 tu_right0
theorem c_right6_ok:CF c_right6:=.cutA (kd:=.u8) (k2:=.u8) (lo:=z0) (hi:=(.ofNat 255)) 0 0 (by kernel_rfl) ⟨by kernel_rfl,by kernel_rfl⟩ (by kernel_rfl) [((.ofNat 3),o_c_right6_0),((.ofNat 255),o_c_right6_1)] ⟨c_right6_0_ok,by kernel_rfl,⟨c_right6_1_ok,by kernel_rfl,(segsA_nil (by kernel_rfl))⟩⟩
def l_right6:List Con:=c_right6::l_right5
theorem t_right6:TF l_right6:=ad c_right6_ok t_right5
def c_right7:Con:=⟨222,[.agg ⟨(rp 4 v_4++[v_bb,v_bb,v_aL,v_aL,v_aL]++rp 4 v_Q++[v_dI,UB,v_aL,v_Q])⟩,.agg ⟨l_c0⟩],h_dL,72,w_ef⟩
def o_c_right7_0:Outs:=w_ef
def o_c_right7_0_0:Outs:=w_eg
theorem c_right7_0_0_ok:CF (Con.part (Con.part c_right7 0 0 (mkU .u8 z0 (.ofNat 3)) o_c_right7_0) 0 1 (mkU .u8 z0 z0) o_c_right7_0_0):=cn t_right6 tu_right0
def o_c_right7_0_1:Outs:=w_ef
def o_c_right7_0_1_0:Outs:=w_ef
theorem c_right7_0_1_0_ok:CF (Con.part (Con.part (Con.part c_right7 0 0 (mkU .u8 z0 (.ofNat 3)) o_c_right7_0) 0 1 (mkU .u8 (.ofNat 1) (.ofNat 4)) o_c_right7_0_1) 0 2 (mkU .u8 z0 (.ofNat 7)) o_c_right7_0_1_0):=cn t_right6 tu_right0
def o_c_right7_0_1_1:Outs:=w_eg
theorem c_right7_0_1_1_ok:CF (Con.part (Con.part (Con.part c_right7 0 0 (mkU .u8 z0 (.ofNat 3)) o_c_right7_0) 0 1 (mkU .u8 (.ofNat 1) (.ofNat 4)) o_c_right7_0_1) 0 2 (mkU .u8 (.ofNat 8) (.ofNat 255)) o_c_right7_0_1_1):=cn t_right6 tu_right0
theorem c_right7_0_1_ok:CF (Con.part (Con.part c_right7 0 0 (mkU .u8 z0 (.ofNat 3)) o_c_right7_0) 0 1 (mkU .u8 (.ofNat 1) (.ofNat 4)) o_c_right7_0_1):=.cutA (kd:=.u8) (k2:=.u8) (lo:=z0) (hi:=(.ofNat 255)) 0 2 (by kernel_rfl) ⟨by kernel_rfl,by kernel_rfl⟩ (by kernel_rfl) [((.ofNat 7),o_c_right7_0_1_0),((.ofNat 255),o_c_right7_0_1_1)] ⟨c_right7_0_1_0_ok,by kernel_rfl,⟨c_right7_0_1_1_ok,by kernel_rfl,(segsA_nil (by kernel_rfl))⟩⟩
def o_c_right7_0_2:Outs:=w_eg
theorem c_right7_0_2_ok:CF (Con.part (Con.part c_right7 0 0 (mkU .u8 z0 (.ofNat 3)) o_c_right7_0) 0 1 (mkU .u8 (.ofNat 5) (.ofNat 255)) o_c_right7_0_2):=cn t_right6 tu_right0
theorem c_right7_0_ok:CF (Con.part c_right7 0 0 (mkU .u8 z0 (.ofNat 3)) o_c_right7_0):=.cutA (kd:=.u8) (k2:=.u8) (lo:=z0) (hi:=(.ofNat 255)) 0 1 (by kernel_rfl) ⟨by kernel_rfl,by kernel_rfl⟩ (by kernel_rfl) [(z0,o_c_right7_0_0),((.ofNat 4),o_c_right7_0_1),((.ofNat 255),o_c_right7_0_2)] ⟨c_right7_0_0_ok,by kernel_rfl,⟨c_right7_0_1_ok,by kernel_rfl,⟨c_right7_0_2_ok,by kernel_rfl,(segsA_nil (by kernel_rfl))⟩⟩⟩
def o_c_right7_1:Outs:=w_eg
theorem c_right7_1_ok:CF (Con.part c_right7 0 0 (mkU .u8 (.ofNat 4) (.ofNat 255)) o_c_right7_1):=cn t_right6 tu_right0
theorem c_right7_ok:CF c_right7:=.cutA (kd:=.u8) (k2:=.u8) (lo:=z0) (hi:=(.ofNat 255)) 0 0 (by kernel_rfl) ⟨by kernel_rfl,by kernel_rfl⟩ (by kernel_rfl) [((.ofNat 3),o_c_right7_0),((.ofNat 255),o_c_right7_1)] ⟨c_right7_0_ok,by kernel_rfl,⟨c_right7_1_ok,by kernel_rfl,(segsA_nil (by kernel_rfl))⟩⟩
def l_right7:List Con:=c_right7::l_right6
theorem t_right7:TF l_right7:=ad c_right7_ok t_right6
def c_right8:Con:=⟨222,[.agg ⟨(rp 4 v_4++[v_bb,v_bb,v_aL,v_aL,v_aL]++rp 4 v_Q++[v_dN,UB,v_aL,v_Q])⟩,.agg ⟨l_c0⟩],h_dQ,73,w_ei⟩
def o_c_right8_0:Outs:=w_ei
def o_c_right8_0_0:Outs:=w_ej
theorem c_right8_0_0_ok:CF (Con.part (Con.part c_right8 0 0 (mkU .u8 z0 (.ofNat 3)) o_c_right8_0) 0 1 (mkU .u8 z0 z0) o_c_right8_0_0):=cn t_right7 tu_right0
def o_c_right8_0_1:Outs:=w_ei
def o_c_right8_0_1_0:Outs:=w_ei
theorem c_right8_0_1_0_ok:CF (Con.part (Con.part (Con.part c_right8 0 0 (mkU .u8 z0 (.ofNat 3)) o_c_right8_0) 0 1 (mkU .u8 (.ofNat 1) (.ofNat 4)) o_c_right8_0_1) 0 2 (mkU .u8 z0 (.ofNat 7)) o_c_right8_0_1_0):=cn t_right7 tu_right0
def o_c_right8_0_1_1:Outs:=w_ej
theorem c_right8_0_1_1_ok:CF (Con.part (Con.part (Con.part c_right8 0 0 (mkU .u8 z0 (.ofNat 3)) o_c_right8_0) 0 1 (mkU .u8 (.ofNat 1) (.ofNat 4)) o_c_right8_0_1) 0 2 (mkU .u8 (.ofNat 8) (.ofNat 255)) o_c_right8_0_1_1):=cn t_right7 tu_right0
theorem c_right8_0_1_ok:CF (Con.part (Con.part c_right8 0 0 (mkU .u8 z0 (.ofNat 3)) o_c_right8_0) 0 1 (mkU .u8 (.ofNat 1) (.ofNat 4)) o_c_right8_0_1):=.cutA (kd:=.u8) (k2:=.u8) (lo:=z0) (hi:=(.ofNat 255)) 0 2 (by kernel_rfl) ⟨by kernel_rfl,by kernel_rfl⟩ (by kernel_rfl) [((.ofNat 7),o_c_right8_0_1_0),((.ofNat 255),o_c_right8_0_1_1)] ⟨c_right8_0_1_0_ok,by kernel_rfl,⟨c_right8_0_1_1_ok,by kernel_rfl,(segsA_nil (by kernel_rfl))⟩⟩
def o_c_right8_0_2:Outs:=w_ej
theorem c_right8_0_2_ok:CF (Con.part (Con.part c_right8 0 0 (mkU .u8 z0 (.ofNat 3)) o_c_right8_0) 0 1 (mkU .u8 (.ofNat 5) (.ofNat 255)) o_c_right8_0_2):=cn t_right7 tu_right0
theorem c_right8_0_ok:CF (Con.part c_right8 0 0 (mkU .u8 z0 (.ofNat 3)) o_c_right8_0):=.cutA (kd:=.u8) (k2:=.u8) (lo:=z0) (hi:=(.ofNat 255)) 0 1 (by kernel_rfl) ⟨by kernel_rfl,by kernel_rfl⟩ (by kernel_rfl) [(z0,o_c_right8_0_0),((.ofNat 4),o_c_right8_0_1),((.ofNat 255),o_c_right8_0_2)] ⟨c_right8_0_0_ok,by kernel_rfl,⟨c_right8_0_1_ok,by kernel_rfl,⟨c_right8_0_2_ok,by kernel_rfl,(segsA_nil (by kernel_rfl))⟩⟩⟩
def o_c_right8_1:Outs:=w_ej
theorem c_right8_1_ok:CF (Con.part c_right8 0 0 (mkU .u8 (.ofNat 4) (.ofNat 255)) o_c_right8_1):=cn t_right7 tu_right0
theorem c_right8_ok:CF c_right8:=.cutA (kd:=.u8) (k2:=.u8) (lo:=z0) (hi:=(.ofNat 255)) 0 0 (by kernel_rfl) ⟨by kernel_rfl,by kernel_rfl⟩ (by kernel_rfl) [((.ofNat 3),o_c_right8_0),((.ofNat 255),o_c_right8_1)] ⟨c_right8_0_ok,by kernel_rfl,⟨c_right8_1_ok,by kernel_rfl,(segsA_nil (by kernel_rfl))⟩⟩
def l_right8:List Con:=c_right8::l_right7
theorem t_right8:TF l_right8:=ad c_right8_ok t_right7
end
end Go.Proofs.YtdohkfgflpdkcaaGreatDoor.sym
