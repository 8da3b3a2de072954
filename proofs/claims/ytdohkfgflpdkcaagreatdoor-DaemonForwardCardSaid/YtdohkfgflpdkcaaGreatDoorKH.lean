/-
  PROVED HERE: a part of the proof of DaemonForward (texts KB9, KB10, KB11, KB12 of the prover, joined). No condition of its own.
-/
import Derived.Test.YtdohkfgflpdkcaaGreatDoorKG
set_option linter.unusedVariables false
set_option linter.unusedSimpArgs false
namespace Go.Proofs.YtdohkfgflpdkcaaGreatDoor.sym
open Go Go.Eng
noncomputable section
set_option maxRecDepth 100000
def h_iP:Hp:=[(64,.ro [v_ak,v_eo,.map (some 67),v_Q,v_Q]),(65,.ro [v_aq,.map (some 68),v_hb]),(66,.ro [v_aq,.map (some 69),v_hb])]
def w_iQ:Outs:=[(v_Q,[],64)]
def v_iR:Value:=.slice (some ⟨64,0,none⟩) 48 18446744073709551664
def h_iS:Hp:=[(64,.opn 1 (rp 48 v_4))]
def u_iT:Ow:=(v_ek,[e_a8],70)
def w_iU:Outs:=[u_iT,(v_em,[e_a8],480)]
def u_iV:Ow:=(v_c6,[e_a8],67)
def v_iW:Value:=UI .u8 z0 (.ofNat 231)
def o_iX:O:=.opn 1 ([v_iW]++rp 47 v_4)
def o_iY:O:=.opn 1 ([v_iW]++rp 59 v_4)
def w_iZ:Outs:=[u_iV,(.tuple ⟨[v_iR,v_c]⟩,[e_a8,(64,o_iX)],262),(.tuple ⟨[.slice (some ⟨64,0,none⟩) 60 18446744073709551676,v_c]⟩,[e_a8,(64,o_iY)],266)]
def u_i0:Ow:=(.tuple ⟨[.slice (some ⟨261,0,none⟩) 48 18446744073709551664,v_c]⟩,[e_a8,(261,o_iX)],262)
def u_i1:Ow:=(.tuple ⟨[.slice (some ⟨265,0,none⟩) 60 18446744073709551676,v_c]⟩,[e_a8,(265,o_iY)],266)
def w_i2:Outs:=[u_iV,u_i0,u_i1]
def w_i3:Outs:=[u_i0,u_i1,u_iV]
def v_i4:Value:=.agg ⟨([v_a,v_a,v_a,v_Q,v_a,v_a,v_a]++rp 4 v_4++[v_bb,v_bb,v_aL,v_aL,v_aL]++rp 4 v_Q++[v_bt,UB,v_aL,v_Q,unk])⟩
def l_i5:List Value:=[v_gy,v_i4,v_gz,v_Q,v_a]
def h_i6:Hp:=[(64,o_gA),(65,o_f7),e_a8]
def e_i7:(Nat×O):=(68,.frz [v_4] 0 60 false)
def v_i8:Value:=.slice (some ⟨75,0,none⟩) 60 18446744073709551676
def v_i9:Value:=.slice (some ⟨75,0,none⟩) 48 18446744073709551664
def e_ja:(Nat×O):=(74,.cells l_c0)
def v_jb:Value:=.slice (some ⟨491,0,none⟩) 60 18446744073709551676
def v_jc:Value:=.slice (some ⟨491,0,none⟩) 48 18446744073709551664
def v_jd:Value:=.slice (some ⟨81,0,none⟩) 60 18446744073709551676
def v_je:Value:=.slice (some ⟨81,0,none⟩) 48 18446744073709551664
def w_jf:Outs:=[(v_i8,[e_a8,(64,o_gA),(65,o_f7),(75,o_iY)],277),(v_i9,[e_a8,(64,o_gA),(65,o_f7),(75,o_iX)],273),(v_aq,[e_a8,(64,o_gA),(65,o_f7),e_ja],494),(v_jb,[e_a8,(64,o_gA),(65,o_f7),(491,o_iY)],693),(v_jc,[e_a8,(64,o_gA),(65,o_f7),(491,o_iX)],689),(v_jd,[e_a8,(64,o_gA),(65,o_f7),(81,o_iY)],283),(v_je,[e_a8,(64,o_gA),(65,o_f7),(81,o_iX)],279)]
def e_jg:(Nat×O):=(68,.frz [v_4] 60 60 true)
def h_jh:Hp:=[e_jg,e_a8,(64,o_gA),(65,o_f7)]
def h_ji:Hp:=[(68,o_dd),e_a8,(64,o_gA),(65,o_f7)]
def e_jj:(Nat×O):=(68,.frz [v_4] 0 0 false)
def l_jk:List Value:=[v_gy,v_i4,v_P,v_Q,v_a]
def h_jl:Hp:=[(64,o_gD),(65,o_f7),e_a8]
def w_jm:Outs:=[(v_i8,[e_a8,(64,o_gD),(65,o_f7),(75,o_iY)],277),(v_i9,[e_a8,(64,o_gD),(65,o_f7),(75,o_iX)],273),(v_aq,[e_a8,(64,o_gD),(65,o_f7),e_ja],494),(v_jb,[e_a8,(64,o_gD),(65,o_f7),(491,o_iY)],693),(v_jc,[e_a8,(64,o_gD),(65,o_f7),(491,o_iX)],689),(v_jd,[e_a8,(64,o_gD),(65,o_f7),(81,o_iY)],283),(v_je,[e_a8,(64,o_gD),(65,o_f7),(81,o_iX)],279)]
def h_jn:Hp:=[e_jg,e_a8,(64,o_gD),(65,o_f7)]
def h_jo:Hp:=[(68,o_dd),e_a8,(64,o_gD),(65,o_f7)]
def l_jp:List Value:=[v_gy,v_i4,v_aW,v_Q,v_a]
def h_jq:Hp:=[(64,o_gG),(65,o_f7),e_a8]
def w_jr:Outs:=[(v_i8,[e_a8,(64,o_gG),(65,o_f7),(75,o_iY)],277),(v_i9,[e_a8,(64,o_gG),(65,o_f7),(75,o_iX)],273),(v_aq,[e_a8,(64,o_gG),(65,o_f7),e_ja],494),(v_jb,[e_a8,(64,o_gG),(65,o_f7),(491,o_iY)],693),(v_jc,[e_a8,(64,o_gG),(65,o_f7),(491,o_iX)],689),(v_jd,[e_a8,(64,o_gG),(65,o_f7),(81,o_iY)],283),(v_je,[e_a8,(64,o_gG),(65,o_f7),(81,o_iX)],279)]
def h_js:Hp:=[e_jg,e_a8,(64,o_gG),(65,o_f7)]
def h_jt:Hp:=[(68,o_dd),e_a8,(64,o_gG),(65,o_f7)]
def l_ju:List Value:=[v_gy,v_i4,v_aZ,v_Q,v_a]
def h_jv:Hp:=[(64,o_gJ),(65,o_f7),e_a8]
def w_jw:Outs:=[(v_i8,[e_a8,(64,o_gJ),(65,o_f7),(75,o_iY)],277),(v_i9,[e_a8,(64,o_gJ),(65,o_f7),(75,o_iX)],273),(v_aq,[e_a8,(64,o_gJ),(65,o_f7),e_ja],494),(v_jb,[e_a8,(64,o_gJ),(65,o_f7),(491,o_iY)],693),(v_jc,[e_a8,(64,o_gJ),(65,o_f7),(491,o_iX)],689),(v_jd,[e_a8,(64,o_gJ),(65,o_f7),(81,o_iY)],283),(v_je,[e_a8,(64,o_gJ),(65,o_f7),(81,o_iX)],279)]
def h_jx:Hp:=[e_jg,e_a8,(64,o_gJ),(65,o_f7)]
def h_jy:Hp:=[(68,o_dd),e_a8,(64,o_gJ),(65,o_f7)]
def l_jz:List Value:=[v_gy,v_i4,v_aT,v_Q,v_a]
def h_jA:Hp:=[(64,o_gM),(65,o_f7),e_a8]
def w_jB:Outs:=[(v_i8,[e_a8,(64,o_gM),(65,o_f7),(75,o_iY)],277),(v_i9,[e_a8,(64,o_gM),(65,o_f7),(75,o_iX)],273),(v_aq,[e_a8,(64,o_gM),(65,o_f7),e_ja],494),(v_jb,[e_a8,(64,o_gM),(65,o_f7),(491,o_iY)],693),(v_jc,[e_a8,(64,o_gM),(65,o_f7),(491,o_iX)],689),(v_jd,[e_a8,(64,o_gM),(65,o_f7),(81,o_iY)],283),(v_je,[e_a8,(64,o_gM),(65,o_f7),(81,o_iX)],279)]
def h_jC:Hp:=[e_jg,e_a8,(64,o_gM),(65,o_f7)]
def h_jD:Hp:=[(68,o_dd),e_a8,(64,o_gM),(65,o_f7)]
def c_fire:Con:=⟨59,l_aS,h_iP,70,[(v_aq,h_iP,78)]⟩
theorem c_fire_ok:CT c_fire:=cn tu_key5 tu_key5
def l_fire:List Con:=c_fire::l_new5
theorem t_fire:TF l_fire:=ad c_fire_ok.down t_new5
def lu_fire:List Con:=c_fire::lu_key5
theorem tu_fire:TT lu_fire:=ad c_fire_ok tu_key5
def c_awake:Con:=⟨8,[],[e_a8],64,[(.bool true,[e_a8],171)]⟩
theorem c_awake_ok:CF c_awake:=cn none_told none_told
def l_awake:List Con:=c_awake::l_fire
theorem t_awake:TF l_awake:=ad c_awake_ok t_fire
def c_rturn13:Con:=⟨214,[v_Q,.int .i64 (.ofNat 13)],[],64,w_iQ⟩
theorem c_rturn13_ok:CT c_rturn13:=cn tu_fire tu_fire
def l_rturn13:List Con:=c_rturn13::l_awake
theorem t_rturn13:TF l_rturn13:=ad c_rturn13_ok.down t_awake
def lu_rturn13:List Con:=c_rturn13::lu_fire
theorem tu_rturn13:TT lu_rturn13:=ad c_rturn13_ok tu_fire
def c_rturn32:Con:=⟨214,[v_Q,.int .i64 (.ofNat 32)],[],64,w_iQ⟩
theorem c_rturn32_ok:CT c_rturn32:=cn tu_rturn13 tu_rturn13
def l_rturn32:List Con:=c_rturn32::l_rturn13
theorem t_rturn32:TF l_rturn32:=ad c_rturn32_ok.down t_rturn13
def lu_rturn32:List Con:=c_rturn32::lu_rturn13
theorem tu_rturn32:TT lu_rturn32:=ad c_rturn32_ok tu_rturn13
def c_rturn16:Con:=⟨214,[v_Q,.int .i64 (.ofNat 16)],[],64,w_iQ⟩
theorem c_rturn16_ok:CT c_rturn16:=cn tu_rturn32 tu_rturn32
def l_rturn16:List Con:=c_rturn16::l_rturn32
theorem t_rturn16:TF l_rturn16:=ad c_rturn16_ok.down t_rturn32
def lu_rturn16:List Con:=c_rturn16::lu_rturn32
theorem tu_rturn16:TT lu_rturn16:=ad c_rturn16_ok tu_rturn32
def c_rturn21:Con:=⟨214,[v_Q,.int .i64 (.ofNat 21)],[],64,w_iQ⟩
theorem c_rturn21_ok:CT c_rturn21:=cn tu_rturn16 tu_rturn16
def l_rturn21:List Con:=c_rturn21::l_rturn16
theorem t_rturn21:TF l_rturn21:=ad c_rturn21_ok.down t_rturn16
def lu_rturn21:List Con:=c_rturn21::lu_rturn16
theorem tu_rturn21:TT lu_rturn21:=ad c_rturn21_ok tu_rturn16
def c_rturn17:Con:=⟨214,[v_Q,.int .i64 (.ofNat 17)],[],64,w_iQ⟩
theorem c_rturn17_ok:CT c_rturn17:=cn tu_rturn21 tu_rturn21
def l_rturn17:List Con:=c_rturn17::l_rturn21
theorem t_rturn17:TF l_rturn17:=ad c_rturn17_ok.down t_rturn21
def lu_rturn17:List Con:=c_rturn17::lu_rturn21
theorem tu_rturn17:TT lu_rturn17:=ad c_rturn17_ok tu_rturn21
def c_rround:Con:=⟨143,[v_F],h_cZ,65,[(.tuple ⟨[]⟩,h_cZ,65)]⟩
theorem c_rround_ok:CT c_rround:=cn tu_rturn17 tu_rturn17
def l_rround:List Con:=c_rround::l_rturn17
theorem t_rround:TF l_rround:=ad c_rround_ok.down t_rturn17
def lu_rround:List Con:=c_rround::lu_rturn17
theorem tu_rround:TT lu_rround:=ad c_rround_ok tu_rturn17
def c_rtag48:Con:=⟨67,[.agg ⟨l_c0⟩,v_iR],h_iS,65,[(v_Q,h_iS,81)]⟩
theorem c_rtag48_ok:CT c_rtag48:=cn tu_rround tu_rround
def l_rtag48:List Con:=c_rtag48::l_rround
theorem t_rtag48:TF l_rtag48:=ad c_rtag48_ok.down t_rround
def lu_rtag48:List Con:=c_rtag48::lu_rround
theorem tu_rtag48:TT lu_rtag48:=ad c_rtag48_ok tu_rround
def c_rsign:Con:=⟨16,l_dT,[e_a8],64,w_iU⟩
def o_c_rsign_0:Outs:=w_iU
def o_c_rsign_0_0:Outs:=[u_iT]
theorem c_rsign_0_0_ok:CT (Con.part (Con.part c_rsign 0 0 (mkU .u8 z0 (.ofNat 3)) o_c_rsign_0) 0 1 (mkU .u8 z0 z0) o_c_rsign_0_0):=cn tu_rtag48 tu_rtag48
def o_c_rsign_0_1:Outs:=w_iU
def o_c_rsign_0_1_0:Outs:=w_iU
theorem c_rsign_0_1_0_ok:CT (Con.part (Con.part (Con.part c_rsign 0 0 (mkU .u8 z0 (.ofNat 3)) o_c_rsign_0) 0 1 (mkU .u8 (.ofNat 1) (.ofNat 4)) o_c_rsign_0_1) 0 2 (mkU .u8 z0 (.ofNat 7)) o_c_rsign_0_1_0):=cn tu_rtag48 tu_rtag48
def o_c_rsign_0_1_1:Outs:=[u_iT]
theorem c_rsign_0_1_1_ok:CT (Con.part (Con.part (Con.part c_rsign 0 0 (mkU .u8 z0 (.ofNat 3)) o_c_rsign_0) 0 1 (mkU .u8 (.ofNat 1) (.ofNat 4)) o_c_rsign_0_1) 0 2 (mkU .u8 (.ofNat 8) (.ofNat 255)) o_c_rsign_0_1_1):=cn tu_rtag48 tu_rtag48
theorem c_rsign_0_1_ok:CT (Con.part (Con.part c_rsign 0 0 (mkU .u8 z0 (.ofNat 3)) o_c_rsign_0) 0 1 (mkU .u8 (.ofNat 1) (.ofNat 4)) o_c_rsign_0_1):=.cutA (kd:=.u8) (k2:=.u8) (lo:=z0) (hi:=(.ofNat 255)) 0 2 (by kernel_rfl) ⟨by kernel_rfl,by kernel_rfl⟩ (by kernel_rfl) [((.ofNat 7),o_c_rsign_0_1_0),((.ofNat 255),o_c_rsign_0_1_1)] ⟨c_rsign_0_1_0_ok,by kernel_rfl,⟨c_rsign_0_1_1_ok,by kernel_rfl,(segsA_nil (by kernel_rfl))⟩⟩
def o_c_rsign_0_2:Outs:=[u_iT]
theorem c_rsign_0_2_ok:CT (Con.part (Con.part c_rsign 0 0 (mkU .u8 z0 (.ofNat 3)) o_c_rsign_0) 0 1 (mkU .u8 (.ofNat 5) (.ofNat 255)) o_c_rsign_0_2):=cn tu_rtag48 tu_rtag48
theorem c_rsign_0_ok:CT (Con.part c_rsign 0 0 (mkU .u8 z0 (.ofNat 3)) o_c_rsign_0):=.cutA (kd:=.u8) (k2:=.u8) (lo:=z0) (hi:=(.ofNat 255)) 0 1 (by kernel_rfl) ⟨by kernel_rfl,by kernel_rfl⟩ (by kernel_rfl) [(z0,o_c_rsign_0_0),((.ofNat 4),o_c_rsign_0_1),((.ofNat 255),o_c_rsign_0_2)] ⟨c_rsign_0_0_ok,by kernel_rfl,⟨c_rsign_0_1_ok,by kernel_rfl,⟨c_rsign_0_2_ok,by kernel_rfl,(segsA_nil (by kernel_rfl))⟩⟩⟩
def o_c_rsign_1:Outs:=[u_iT]
theorem c_rsign_1_ok:CT (Con.part c_rsign 0 0 (mkU .u8 (.ofNat 4) (.ofNat 255)) o_c_rsign_1):=cn tu_rtag48 tu_rtag48
theorem c_rsign_ok:CT c_rsign:=.cutA (kd:=.u8) (k2:=.u8) (lo:=z0) (hi:=(.ofNat 255)) 0 0 (by kernel_rfl) ⟨by kernel_rfl,by kernel_rfl⟩ (by kernel_rfl) [((.ofNat 3),o_c_rsign_0),((.ofNat 255),o_c_rsign_1)] ⟨c_rsign_0_ok,by kernel_rfl,⟨c_rsign_1_ok,by kernel_rfl,(segsA_nil (by kernel_rfl))⟩⟩
def l_rsign:List Con:=c_rsign::l_rtag48
theorem t_rsign:TF l_rsign:=ad c_rsign_ok.down t_rtag48
def lu_rsign:List Con:=c_rsign::lu_rtag48
theorem tu_rsign:TT lu_rsign:=ad c_rsign_ok tu_rtag48
def c_rput:Con:=⟨17,[v_dS],[e_a8],64,w_iZ⟩
def r_rput:Con:=⟨17,[v_dS],[e_a8],64,w_i2⟩
def o_c_rput_0:Outs:=w_i2
def o_c_rput_0_0:Outs:=[u_iV]
theorem c_rput_0_0_ok:CT (Con.part (Con.part r_rput 0 0 (mkU .u8 z0 (.ofNat 3)) o_c_rput_0) 0 1 (mkU .u8 z0 z0) o_c_rput_0_0):=cn tu_rsign tu_rsign
def o_c_rput_0_1:Outs:=w_i3
def o_c_rput_0_1_0:Outs:=w_i3
theorem c_rput_0_1_0_ok:CT (Con.part (Con.part (Con.part r_rput 0 0 (mkU .u8 z0 (.ofNat 3)) o_c_rput_0) 0 1 (mkU .u8 (.ofNat 1) (.ofNat 4)) o_c_rput_0_1) 0 2 (mkU .u8 z0 (.ofNat 7)) o_c_rput_0_1_0):=cn tu_rsign tu_rsign
def o_c_rput_0_1_1:Outs:=[u_iV]
theorem c_rput_0_1_1_ok:CT (Con.part (Con.part (Con.part r_rput 0 0 (mkU .u8 z0 (.ofNat 3)) o_c_rput_0) 0 1 (mkU .u8 (.ofNat 1) (.ofNat 4)) o_c_rput_0_1) 0 2 (mkU .u8 (.ofNat 8) (.ofNat 255)) o_c_rput_0_1_1):=cn tu_rsign tu_rsign
theorem c_rput_0_1_ok:CT (Con.part (Con.part r_rput 0 0 (mkU .u8 z0 (.ofNat 3)) o_c_rput_0) 0 1 (mkU .u8 (.ofNat 1) (.ofNat 4)) o_c_rput_0_1):=.cutA (kd:=.u8) (k2:=.u8) (lo:=z0) (hi:=(.ofNat 255)) 0 2 (by kernel_rfl) ⟨by kernel_rfl,by kernel_rfl⟩ (by kernel_rfl) [((.ofNat 7),o_c_rput_0_1_0),((.ofNat 255),o_c_rput_0_1_1)] ⟨c_rput_0_1_0_ok,by kernel_rfl,⟨c_rput_0_1_1_ok,by kernel_rfl,(segsA_nil (by kernel_rfl))⟩⟩
def o_c_rput_0_2:Outs:=[u_iV]
theorem c_rput_0_2_ok:CT (Con.part (Con.part r_rput 0 0 (mkU .u8 z0 (.ofNat 3)) o_c_rput_0) 0 1 (mkU .u8 (.ofNat 5) (.ofNat 255)) o_c_rput_0_2):=cn tu_rsign tu_rsign
theorem c_rput_0_ok:CT (Con.part r_rput 0 0 (mkU .u8 z0 (.ofNat 3)) o_c_rput_0):=.cutA (kd:=.u8) (k2:=.u8) (lo:=z0) (hi:=(.ofNat 255)) 0 1 (by kernel_rfl) ⟨by kernel_rfl,by kernel_rfl⟩ (by kernel_rfl) [(z0,o_c_rput_0_0),((.ofNat 4),o_c_rput_0_1),((.ofNat 255),o_c_rput_0_2)] ⟨c_rput_0_0_ok,by kernel_rfl,⟨c_rput_0_1_ok,by kernel_rfl,⟨c_rput_0_2_ok,by kernel_rfl,(segsA_nil (by kernel_rfl))⟩⟩⟩
def o_c_rput_1:Outs:=[u_iV]
theorem c_rput_1_ok:CT (Con.part r_rput 0 0 (mkU .u8 (.ofNat 4) (.ofNat 255)) o_c_rput_1):=cn tu_rsign tu_rsign
theorem r_rput_ok:CT r_rput:=.cutA (kd:=.u8) (k2:=.u8) (lo:=z0) (hi:=(.ofNat 255)) 0 0 (by kernel_rfl) ⟨by kernel_rfl,by kernel_rfl⟩ (by kernel_rfl) [((.ofNat 3),o_c_rput_0),((.ofNat 255),o_c_rput_1)] ⟨c_rput_0_ok,by kernel_rfl,⟨c_rput_1_ok,by kernel_rfl,(segsA_nil (by kernel_rfl))⟩⟩
def q_rput:Outs:=w_iZ
theorem c_rput_ok:CT c_rput:=ConM.told (k:={r_rput with outs:=q_rput}) (os:=c_rput.outs) (ConM.ren r_rput_ok [[],[(261,64)],[(265,64)]] (by kernel_rfl)) (by kernel_rfl) (by kernel_rfl)
def l_rput:List Con:=c_rput::l_rsign
theorem t_rput:TF l_rput:=ad c_rput_ok.down t_rsign
def lu_rput:List Con:=c_rput::lu_rsign
theorem tu_rput:TT lu_rput:=ad c_rput_ok tu_rsign
def c_answer1:Con:=⟨19,l_i5,h_i6,68,[(v_bB,[e_a8,(64,o_gA),(65,o_f7),e_i7],693)]⟩
def r_answer1:Con:=⟨19,l_i5,h_i6,68,w_jf⟩
def o_c_answer1_0:Outs:=w_jf
theorem c_answer1_0_ok:CT (setTo r_answer1 true 0 2 (mkU .i64 z0 z0) o_c_answer1_0):=cn tu_rput tu_rput
theorem r_answer1_ok:CT r_answer1:=.cut (kd:=.i64) (k2:=.i64) (lo:=z0) (hi:=z0) true 0 2 (by kernel_rfl) ⟨by kernel_rfl,by kernel_rfl⟩ (by kernel_rfl) [(z0,o_c_answer1_0)] ⟨c_answer1_0_ok,by kernel_rfl,(segs_nil (by kernel_rfl))⟩
def q_answer1:Outs:=[(v_bB,h_jh,277),(v_bB,h_ji,273),(v_bB,[e_jj,e_a8,(64,o_gA),(65,o_f7)],494),(v_bB,h_jh,693),(v_bB,h_ji,689),(v_bB,h_jh,283),(v_bB,h_ji,279)]
theorem c_answer1_ok:CT c_answer1:=ConM.told (k:={r_answer1 with outs:=q_answer1}) (os:=c_answer1.outs) (ConM.ren (k:={r_answer1 with outs:=frzOuts [UI .u8 0 255] r_answer1.n0 r_answer1.outs}) (ConM.frz r_answer1_ok [UI .u8 0 255]) [[(75,68)],[(75,68)],[(74,68)],[(491,68)],[(491,68)],[(81,68)],[(81,68)]] (by kernel_rfl)) (by kernel_rfl) (by kernel_rfl)
def l_answer1:List Con:=c_answer1::l_rput
theorem t_answer1:TF l_answer1:=ad c_answer1_ok.down t_rput
def lu_answer1:List Con:=c_answer1::lu_rput
theorem tu_answer1:TT lu_answer1:=ad c_answer1_ok tu_rput
def c_answer2:Con:=⟨19,l_jk,h_jl,68,[(v_bB,[e_a8,(64,o_gD),(65,o_f7),e_i7],693)]⟩
def r_answer2:Con:=⟨19,l_jk,h_jl,68,w_jm⟩
def o_c_answer2_0:Outs:=w_jm
theorem c_answer2_0_ok:CT (setTo r_answer2 true 0 2 (mkU .i64 z0 z0) o_c_answer2_0):=cn tu_answer1 tu_answer1
def o_c_answer2_1:Outs:=w_jm
theorem c_answer2_1_ok:CT (setTo r_answer2 true 0 2 (mkU .i64 (.ofNat 1) (.ofNat 1)) o_c_answer2_1):=cn tu_answer1 tu_answer1
theorem r_answer2_ok:CT r_answer2:=.cut (kd:=.i64) (k2:=.i64) (lo:=z0) (hi:=(.ofNat 1)) true 0 2 (by kernel_rfl) ⟨by kernel_rfl,by kernel_rfl⟩ (by kernel_rfl) [(z0,o_c_answer2_0),((.ofNat 1),o_c_answer2_1)] ⟨c_answer2_0_ok,by kernel_rfl,⟨c_answer2_1_ok,by kernel_rfl,(segs_nil (by kernel_rfl))⟩⟩
def q_answer2:Outs:=[(v_bB,h_jn,277),(v_bB,h_jo,273),(v_bB,[e_jj,e_a8,(64,o_gD),(65,o_f7)],494),(v_bB,h_jn,693),(v_bB,h_jo,689),(v_bB,h_jn,283),(v_bB,h_jo,279)]
theorem c_answer2_ok:CT c_answer2:=ConM.told (k:={r_answer2 with outs:=q_answer2}) (os:=c_answer2.outs) (ConM.ren (k:={r_answer2 with outs:=frzOuts [UI .u8 0 255] r_answer2.n0 r_answer2.outs}) (ConM.frz r_answer2_ok [UI .u8 0 255]) [[(75,68)],[(75,68)],[(74,68)],[(491,68)],[(491,68)],[(81,68)],[(81,68)]] (by kernel_rfl)) (by kernel_rfl) (by kernel_rfl)
def l_answer2:List Con:=c_answer2::l_answer1
theorem t_answer2:TF l_answer2:=ad c_answer2_ok.down t_answer1
def lu_answer2:List Con:=c_answer2::lu_answer1
theorem tu_answer2:TT lu_answer2:=ad c_answer2_ok tu_answer1
def c_answer3:Con:=⟨19,l_jp,h_jq,68,[(v_bB,[e_a8,(64,o_gG),(65,o_f7),e_i7],693)]⟩
def r_answer3:Con:=⟨19,l_jp,h_jq,68,w_jr⟩
def o_c_answer3_0:Outs:=w_jr
theorem c_answer3_0_ok:CT (setTo r_answer3 true 0 2 (mkU .i64 z0 z0) o_c_answer3_0):=cn tu_answer2 tu_answer2
def o_c_answer3_1:Outs:=w_jr
theorem c_answer3_1_ok:CT (setTo r_answer3 true 0 2 (mkU .i64 (.ofNat 1) (.ofNat 1)) o_c_answer3_1):=cn tu_answer2 tu_answer2
def o_c_answer3_2:Outs:=w_jr
theorem c_answer3_2_ok:CT (setTo r_answer3 true 0 2 (mkU .i64 (.ofNat 2) (.ofNat 2)) o_c_answer3_2):=cn tu_answer2 tu_answer2
theorem r_answer3_ok:CT r_answer3:=.cut (kd:=.i64) (k2:=.i64) (lo:=z0) (hi:=(.ofNat 2)) true 0 2 (by kernel_rfl) ⟨by kernel_rfl,by kernel_rfl⟩ (by kernel_rfl) [(z0,o_c_answer3_0),((.ofNat 1),o_c_answer3_1),((.ofNat 2),o_c_answer3_2)] ⟨c_answer3_0_ok,by kernel_rfl,⟨c_answer3_1_ok,by kernel_rfl,⟨c_answer3_2_ok,by kernel_rfl,(segs_nil (by kernel_rfl))⟩⟩⟩
def q_answer3:Outs:=[(v_bB,h_js,277),(v_bB,h_jt,273),(v_bB,[e_jj,e_a8,(64,o_gG),(65,o_f7)],494),(v_bB,h_js,693),(v_bB,h_jt,689),(v_bB,h_js,283),(v_bB,h_jt,279)]
theorem c_answer3_ok:CT c_answer3:=ConM.told (k:={r_answer3 with outs:=q_answer3}) (os:=c_answer3.outs) (ConM.ren (k:={r_answer3 with outs:=frzOuts [UI .u8 0 255] r_answer3.n0 r_answer3.outs}) (ConM.frz r_answer3_ok [UI .u8 0 255]) [[(75,68)],[(75,68)],[(74,68)],[(491,68)],[(491,68)],[(81,68)],[(81,68)]] (by kernel_rfl)) (by kernel_rfl) (by kernel_rfl)
def l_answer3:List Con:=c_answer3::l_answer2
theorem t_answer3:TF l_answer3:=ad c_answer3_ok.down t_answer2
def lu_answer3:List Con:=c_answer3::lu_answer2
theorem tu_answer3:TT lu_answer3:=ad c_answer3_ok tu_answer2
def c_answer4:Con:=⟨19,l_ju,h_jv,68,[(v_bB,[e_a8,(64,o_gJ),(65,o_f7),e_i7],693)]⟩
def r_answer4:Con:=⟨19,l_ju,h_jv,68,w_jw⟩
def o_c_answer4_0:Outs:=w_jw
theorem c_answer4_0_ok:CT (setTo r_answer4 true 0 2 (mkU .i64 z0 z0) o_c_answer4_0):=cn tu_answer3 tu_answer3
def o_c_answer4_1:Outs:=w_jw
theorem c_answer4_1_ok:CT (setTo r_answer4 true 0 2 (mkU .i64 (.ofNat 1) (.ofNat 1)) o_c_answer4_1):=cn tu_answer3 tu_answer3
def o_c_answer4_2:Outs:=w_jw
theorem c_answer4_2_ok:CT (setTo r_answer4 true 0 2 (mkU .i64 (.ofNat 2) (.ofNat 2)) o_c_answer4_2):=cn tu_answer3 tu_answer3
def o_c_answer4_3:Outs:=w_jw
theorem c_answer4_3_ok:CT (setTo r_answer4 true 0 2 (mkU .i64 (.ofNat 3) (.ofNat 3)) o_c_answer4_3):=cn tu_answer3 tu_answer3
theorem r_answer4_ok:CT r_answer4:=.cut (kd:=.i64) (k2:=.i64) (lo:=z0) (hi:=(.ofNat 3)) true 0 2 (by kernel_rfl) ⟨by kernel_rfl,by kernel_rfl⟩ (by kernel_rfl) [(z0,o_c_answer4_0),((.ofNat 1),o_c_answer4_1),((.ofNat 2),o_c_answer4_2),((.ofNat 3),o_c_answer4_3)] ⟨c_answer4_0_ok,by kernel_rfl,⟨c_answer4_1_ok,by kernel_rfl,⟨c_answer4_2_ok,by kernel_rfl,⟨c_answer4_3_ok,by kernel_rfl,(segs_nil (by kernel_rfl))⟩⟩⟩⟩
def q_answer4:Outs:=[(v_bB,h_jx,277),(v_bB,h_jy,273),(v_bB,[e_jj,e_a8,(64,o_gJ),(65,o_f7)],494),(v_bB,h_jx,693),(v_bB,h_jy,689),(v_bB,h_jx,283),(v_bB,h_jy,279)]
theorem c_answer4_ok:CT c_answer4:=ConM.told (k:={r_answer4 with outs:=q_answer4}) (os:=c_answer4.outs) (ConM.ren (k:={r_answer4 with outs:=frzOuts [UI .u8 0 255] r_answer4.n0 r_answer4.outs}) (ConM.frz r_answer4_ok [UI .u8 0 255]) [[(75,68)],[(75,68)],[(74,68)],[(491,68)],[(491,68)],[(81,68)],[(81,68)]] (by kernel_rfl)) (by kernel_rfl) (by kernel_rfl)
def l_answer4:List Con:=c_answer4::l_answer3
theorem t_answer4:TF l_answer4:=ad c_answer4_ok.down t_answer3
def lu_answer4:List Con:=c_answer4::lu_answer3
theorem tu_answer4:TT lu_answer4:=ad c_answer4_ok tu_answer3
def c_answer5:Con:=⟨19,l_jz,h_jA,68,[(v_bB,[e_a8,(64,o_gM),(65,o_f7),e_i7],693)]⟩
def r_answer5:Con:=⟨19,l_jz,h_jA,68,w_jB⟩
def o_c_answer5_0:Outs:=w_jB
theorem c_answer5_0_ok:CT (setTo r_answer5 true 0 2 (mkU .i64 z0 z0) o_c_answer5_0):=cn tu_answer4 tu_answer4
def o_c_answer5_1:Outs:=w_jB
theorem c_answer5_1_ok:CT (setTo r_answer5 true 0 2 (mkU .i64 (.ofNat 1) (.ofNat 1)) o_c_answer5_1):=cn tu_answer4 tu_answer4
def o_c_answer5_2:Outs:=w_jB
theorem c_answer5_2_ok:CT (setTo r_answer5 true 0 2 (mkU .i64 (.ofNat 2) (.ofNat 2)) o_c_answer5_2):=cn tu_answer4 tu_answer4
def o_c_answer5_3:Outs:=w_jB
theorem c_answer5_3_ok:CT (setTo r_answer5 true 0 2 (mkU .i64 (.ofNat 3) (.ofNat 3)) o_c_answer5_3):=cn tu_answer4 tu_answer4
def o_c_answer5_4:Outs:=w_jB
theorem c_answer5_4_ok:CT (setTo r_answer5 true 0 2 (mkU .i64 (.ofNat 4) (.ofNat 4)) o_c_answer5_4):=cn tu_answer4 tu_answer4
theorem r_answer5_ok:CT r_answer5:=.cut (kd:=.i64) (k2:=.i64) (lo:=z0) (hi:=(.ofNat 4)) true 0 2 (by kernel_rfl) ⟨by kernel_rfl,by kernel_rfl⟩ (by kernel_rfl) [(z0,o_c_answer5_0),((.ofNat 1),o_c_answer5_1),((.ofNat 2),o_c_answer5_2),((.ofNat 3),o_c_answer5_3),((.ofNat 4),o_c_answer5_4)] ⟨c_answer5_0_ok,by kernel_rfl,⟨c_answer5_1_ok,by kernel_rfl,⟨c_answer5_2_ok,by kernel_rfl,⟨c_answer5_3_ok,by kernel_rfl,⟨c_answer5_4_ok,by kernel_rfl,(segs_nil (by kernel_rfl))⟩⟩⟩⟩⟩
def q_answer5:Outs:=[(v_bB,h_jC,277),(v_bB,h_jD,273),(v_bB,[e_jj,e_a8,(64,o_gM),(65,o_f7)],494),(v_bB,h_jC,693),(v_bB,h_jD,689),(v_bB,h_jC,283),(v_bB,h_jD,279)]
theorem c_answer5_ok:CT c_answer5:=ConM.told (k:={r_answer5 with outs:=q_answer5}) (os:=c_answer5.outs) (ConM.ren (k:={r_answer5 with outs:=frzOuts [UI .u8 0 255] r_answer5.n0 r_answer5.outs}) (ConM.frz r_answer5_ok [UI .u8 0 255]) [[(75,68)],[(75,68)],[(74,68)],[(491,68)],[(491,68)],[(81,68)],[(81,68)]] (by kernel_rfl)) (by kernel_rfl) (by kernel_rfl)
def l_answer5:List Con:=c_answer5::l_answer4
theorem t_answer5:TF l_answer5:=ad c_answer5_ok.down t_answer4
def lu_answer5:List Con:=c_answer5::lu_answer4
theorem tu_answer5:TT lu_answer5:=ad c_answer5_ok tu_answer4
end
end Go.Proofs.YtdohkfgflpdkcaaGreatDoor.sym
namespace Go.Proofs.YtdohkfgflpdkcaaGreatDoor.sym
open Go Go.Eng
noncomputable section
set_option maxRecDepth 100000
def l_jE:List Value:=[v_ak,v_eo,v_ep,v_ew,v_fO,v_fP,v_fQ,v_aq,v_eq,v_fR,v_a,v_a,v_a,v_x,v_a,v_a]
def e_jF:(Nat×O):=(64,.ro l_jE)
def h_jG:Hp:=[e_jF,e_fT,e_fU,e_fZ,e_f0,e_f1,e_f2,e_f3,e_f4,(74,o_fL)]
def l_jH:List Value:=[v_F,.agg ⟨(rp 5 v_a++[unk])⟩]
def e_jI:(Nat×O):=(64,.cells l_jE)
def e_jJ:(Nat×O):=(67,.cells l_fY)
def e_jK:(Nat×O):=(68,.cells l_aM)
def e_jL:(Nat×O):=(69,.cells l_aP)
def e_jM:(Nat×O):=(70,.cells l_aU)
def h_jN:Hp:=[e_jI,e_fT,e_fU,e_jJ,e_jK,e_jL,e_jM,e_f3,e_f4,(74,o_fL)]
def l_jO:List Value:=[v_F,v_a,v_Q]
def w_jP:Outs:=[(v_c6,[e_a8,e_jF,e_fT,e_fU,e_fZ,e_f0,e_f1,e_f2,e_f3,e_f4,(74,o_fL)],81)]
def l_jQ:List Value:=[v_F,v_a,.chan (some 75)]
def w_jR:Outs:=[(v_C,[e_a8,e_jI,e_fT,e_fU,e_jJ,e_jK,e_jL,e_jM,e_f3,e_f4,(74,o_fL),(75,o_cG)],81)]
def c_cand0:Con:=⟨73,[v_F],h_jG,81,[(v_aq,h_jG,81)]⟩
theorem c_cand0_ok:CF c_cand0:=cn t_answer5 tu_answer5
def l_cand0:List Con:=c_cand0::l_answer5
theorem t_cand0:TF l_cand0:=ad c_cand0_ok t_answer5
def c_stretch0:Con:=⟨336,[v_F],h_jG,81,[(v_ac,h_jG,81)]⟩
theorem c_stretch0_ok:CT c_stretch0:=cn tu_answer5 tu_answer5
def l_stretch0:List Con:=c_stretch0::l_cand0
theorem t_stretch0:TF l_stretch0:=ad c_stretch0_ok.down t_cand0
def lu_stretch0:List Con:=c_stretch0::lu_answer5
theorem tu_stretch0:TT lu_stretch0:=ad c_stretch0_ok tu_answer5
def c_upd0:Con:=⟨74,l_jH,h_jN,81,[(v_aX,h_jN,90)]⟩
theorem c_upd0_ok:CF c_upd0:=cn t_stretch0 tu_stretch0
def l_upd0:List Con:=c_upd0::l_stretch0
theorem t_upd0:TF l_upd0:=ad c_upd0_ok t_stretch0
def c_ask0:Con:=⟨12,l_jO,[e_jF,e_fT,e_fU,e_fZ,e_f0,e_f1,e_f2,e_f3,e_f4,(74,o_fL),e_a8],81,w_jP⟩
def o_c_ask0_0:Outs:=w_jP
theorem c_ask0_0_ok:CF (setTo c_ask0 true 0 1 (mkU .i64 mn m1) o_c_ask0_0):=cn t_upd0 tu_stretch0
def o_c_ask0_1:Outs:=w_jP
theorem c_ask0_1_ok:CF (setTo c_ask0 true 0 1 (mkU .i64 z0 mx) o_c_ask0_1):=cn t_upd0 tu_stretch0
theorem c_ask0_ok:CF c_ask0:=.cut (kd:=.i64) (k2:=.i64) (lo:=mn) (hi:=mx) true 0 1 (by kernel_rfl) ⟨by kernel_rfl,by kernel_rfl⟩ (by kernel_rfl) [(m1,o_c_ask0_0),(mx,o_c_ask0_1)] ⟨c_ask0_0_ok,by kernel_rfl,⟨c_ask0_1_ok,by kernel_rfl,(segs_nil (by kernel_rfl))⟩⟩
def l_ask0:List Con:=c_ask0::l_upd0
theorem t_ask0:TF l_ask0:=ad c_ask0_ok t_upd0
def c_takeA0:Con:=⟨18,l_jQ,[e_jI,e_fT,e_fU,e_jJ,e_jK,e_jL,e_jM,e_f3,e_f4,(74,o_fL),(75,o_cG),e_a8],81,w_jR⟩
def o_c_takeA0_0:Outs:=w_jR
theorem c_takeA0_0_ok:CF (setTo c_takeA0 true 0 1 (mkU .i64 mn m1) o_c_takeA0_0):=cn t_ask0 tu_stretch0
def o_c_takeA0_1:Outs:=w_jR
theorem c_takeA0_1_ok:CF (setTo c_takeA0 true 0 1 (mkU .i64 z0 mx) o_c_takeA0_1):=cn t_ask0 tu_stretch0
theorem c_takeA0_ok:CF c_takeA0:=.cut (kd:=.i64) (k2:=.i64) (lo:=mn) (hi:=mx) true 0 1 (by kernel_rfl) ⟨by kernel_rfl,by kernel_rfl⟩ (by kernel_rfl) [(m1,o_c_takeA0_0),(mx,o_c_takeA0_1)] ⟨c_takeA0_0_ok,by kernel_rfl,⟨c_takeA0_1_ok,by kernel_rfl,(segs_nil (by kernel_rfl))⟩⟩
def l_takeA0:List Con:=c_takeA0::l_ask0
theorem t_takeA0:TF l_takeA0:=ad c_takeA0_ok t_ask0
end
end Go.Proofs.YtdohkfgflpdkcaaGreatDoor.sym
namespace Go.Proofs.YtdohkfgflpdkcaaGreatDoor.sym
open Go Go.Eng
noncomputable section
set_option maxRecDepth 100000
def l_jS:List Value:=[v_ak,v_eo,v_ep,v_ew,v_fO,v_fP,v_fQ,.slice (some ⟨72,0,none⟩) 1 18446744073709551617,v_eq,v_fR,v_a,v_a,v_a,v_x,v_a,v_a]
def e_jT:(Nat×O):=(64,.ro l_jS)
def v_jU:Value:=.pointer (some ⟨81,0,none⟩)
def e_jV:(Nat×O):=(72,.ro [v_jU])
def l_jW:List Value:=([v_aL,v_Q,v_Q,v_hg,v_hh,v_hi,v_hk]++rp 6 v_a)
def e_jX:(Nat×O):=(81,.ro l_jW)
def e_jY:(Nat×O):=(82,.ro l_6)
def e_jZ:(Nat×O):=(83,.ro l_ah)
def e_j0:(Nat×O):=(84,.ro l_I)
def l_j1:List Value:=([v_hn]++rp 24 v_a++[v_an,v_a,UB])
def e_j2:(Nat×O):=(86,.ro l_j1)
def e_j3:(Nat×O):=(85,.ro l_I)
def h_j4:Hp:=[e_jT,e_fT,e_fU,e_fZ,e_f0,e_f1,e_f2,e_f3,e_f4,(74,o_fL),e_jV,e_jX,e_jY,e_jZ,e_j0,e_j2,e_j3]
def h_j5:Hp:=[e_jT,e_fT,e_fU,e_fZ,e_f0,e_f1,e_f2,e_f3,e_jV,e_f4,(74,o_fL),e_jX,e_jY,e_jZ,e_j0,e_j3,e_j2]
def o_j6:O:=.opn 5 [v_c,v_a,v_x,v_x,v_a]
def e_j7:(Nat×O):=(64,.cells l_jS)
def e_j8:(Nat×O):=(81,.cells l_jW)
def e_j9:(Nat×O):=(82,.cells l_6)
def e_ka:(Nat×O):=(83,.cells l_ah)
def e_kb:(Nat×O):=(86,.cells l_j1)
def v_kc:Value:=.tuple ⟨[v_aq,UI .i64 (.ofNat 1) (.ofNat 35)]⟩
def h_kd:Hp:=[e_a8,e_jT,e_fT,e_fU,e_fZ,e_f0,e_f1,e_f2,e_f3,e_jV,e_f4,(74,o_fL),e_j8,e_j9,e_ka,e_j0,e_j3,e_kb]
def u_ke:Ow:=(v_eI,h_kd,89)
def u_kf:Ow:=(.tuple ⟨[.slice (some ⟨272,0,none⟩) 12 18446744073709551628,v_c]⟩,[e_a8,e_jT,e_fT,e_fU,e_fZ,e_f0,e_f1,e_f2,e_f3,e_jV,e_f4,(74,o_fL),e_j8,e_j9,e_ka,e_j0,e_j3,e_kb,(272,o_eH)],273)
def u_kg:Ow:=(.tuple ⟨[.slice (some ⟨260,0,none⟩) 48 48,v_c]⟩,[e_a8,e_jT,e_fT,e_fU,e_fZ,e_f0,e_f1,e_f2,e_f3,e_jV,e_f4,(74,o_fL),e_j8,e_j9,e_ka,e_j0,e_j3,e_kb,(260,o_c8)],316)
def u_kh:Ow:=(.tuple ⟨[.slice (some ⟨331,0,none⟩) 60 18446744073709551676,v_c]⟩,[e_a8,e_jT,e_fT,e_fU,e_fZ,e_f0,e_f1,e_f2,e_f3,e_jV,e_f4,(74,o_fL),e_j8,e_j9,e_ka,e_j0,e_j3,e_kb,(331,o_eG)],332)
def u_ki:Ow:=(v_eE,h_kd,257)
def u_kj:Ow:=(.tuple ⟨[.chan (some 96),v_c]⟩,[e_a8,e_jT,e_fT,e_fU,e_fZ,e_f0,e_f1,e_f2,e_f3,e_jV,e_f4,(74,o_fL),e_j8,e_j9,e_ka,e_j0,e_j3,e_kb,(96,o_dd)],158)
def w_kk:Outs:=[(v_c6,h_kd,87)]
def h_kl:Hp:=[e_a8,e_j7,e_fT,e_fU,e_jJ,e_jK,e_jL,e_jM,e_f3,e_jV,e_f4,(74,o_fL),(75,o_cG),e_j8,e_j9,e_ka,e_j0,e_j3,e_kb]
def w_km:Outs:=[(v_ae,h_kl,2245)]
def w_kn:Outs:=[(v_C,h_kl,87)]
def c_cand1:Con:=⟨73,[v_F],h_j4,87,[(v_aq,h_j5,445),(.slice (some ⟨446,0,none⟩) 1 18446744073709551617,[e_jT,e_fT,e_fU,e_fZ,e_f0,e_f1,e_f2,e_f3,e_jV,e_f4,(74,o_fL),e_jX,e_jY,e_jZ,e_j0,e_j3,e_j2,(446,o_j6)],447)]⟩
theorem c_cand1_ok:CF c_cand1:=cn t_takeA0 tu_stretch0
def l_cand1:List Con:=c_cand1::l_takeA0
theorem t_cand1:TF l_cand1:=ad c_cand1_ok t_takeA0
def c_stretch1:Con:=⟨336,[v_F],h_j4,87,[(v_a,h_j5,87)]⟩
theorem c_stretch1_ok:CT c_stretch1:=cn tu_stretch0 tu_stretch0
def l_stretch1:List Con:=c_stretch1::l_cand1
theorem t_stretch1:TF l_stretch1:=ad c_stretch1_ok.down t_cand1
def lu_stretch1:List Con:=c_stretch1::lu_stretch0
theorem tu_stretch1:TT lu_stretch1:=ad c_stretch1_ok tu_stretch0
def c_upd1:Con:=⟨74,l_jH,[e_j7,e_fT,e_fU,e_jJ,e_jK,e_jL,e_jM,e_f3,e_f4,(74,o_fL),e_jV,e_jX,e_jY,e_jZ,e_j0,e_j2,e_j3],87,[(v_aX,[e_j7,e_fT,e_fU,e_jJ,e_jK,e_jL,e_jM,e_f3,e_jV,e_f4,(74,o_fL),e_jX,e_jY,e_jZ,e_j0,e_j3,e_j2],96)]⟩
theorem c_upd1_ok:CF c_upd1:=cn t_stretch1 tu_stretch1
def l_upd1:List Con:=c_upd1::l_stretch1
theorem t_upd1:TF l_upd1:=ad c_upd1_ok t_stretch1
def c_ask1:Con:=⟨12,l_jO,[e_jT,e_fT,e_fU,e_fZ,e_f0,e_f1,e_f2,e_f3,e_f4,(74,o_fL),e_jV,e_j8,e_j9,e_ka,e_j0,e_kb,e_j3,e_a8],87,[(v_kc,h_kd,89),u_ke,u_kf,u_kg,u_kh,u_ki,u_kj]⟩
def o_c_ask1_0:Outs:=w_kk
theorem c_ask1_0_ok:CF (setTo c_ask1 true 0 1 (mkU .i64 mn m1) o_c_ask1_0):=cn t_upd1 tu_stretch1
def o_c_ask1_1:Outs:=[(v_eJ,h_kd,89),u_ke,u_kf,u_kg,u_kh,u_ki,u_kj]
theorem c_ask1_1_ok:CF (setTo c_ask1 true 0 1 (mkU .i64 z0 z0) o_c_ask1_1):=cn t_upd1 tu_stretch1
def o_c_ask1_2:Outs:=w_kk
theorem c_ask1_2_ok:CF (setTo c_ask1 true 0 1 (mkU .i64 (.ofNat 1) mx) o_c_ask1_2):=cn t_upd1 tu_stretch1
theorem c_ask1_ok:CF c_ask1:=.cut (kd:=.i64) (k2:=.i64) (lo:=mn) (hi:=mx) true 0 1 (by kernel_rfl) ⟨by kernel_rfl,by kernel_rfl⟩ (by kernel_rfl) [(m1,o_c_ask1_0),(z0,o_c_ask1_1),(mx,o_c_ask1_2)] ⟨c_ask1_0_ok,by kernel_rfl,⟨c_ask1_1_ok,by kernel_rfl,⟨c_ask1_2_ok,by kernel_rfl,(segs_nil (by kernel_rfl))⟩⟩⟩
def l_ask1:List Con:=c_ask1::l_upd1
theorem t_ask1:TF l_ask1:=ad c_ask1_ok t_upd1
def c_takeA1:Con:=⟨18,l_jQ,[e_j7,e_fT,e_fU,e_jJ,e_jK,e_jL,e_jM,e_f3,e_f4,(74,o_fL),e_jV,e_j8,e_j9,e_ka,e_j0,e_kb,e_j3,(75,o_cG),e_a8],87,w_km⟩
def o_c_takeA1_0:Outs:=w_kn
theorem c_takeA1_0_ok:CF (setTo c_takeA1 true 0 1 (mkU .i64 mn m1) o_c_takeA1_0):=cn t_ask1 tu_stretch1
def o_c_takeA1_1:Outs:=w_km
theorem c_takeA1_1_ok:CF (setTo c_takeA1 true 0 1 (mkU .i64 z0 z0) o_c_takeA1_1):=cn t_ask1 tu_stretch1
def o_c_takeA1_2:Outs:=w_kn
theorem c_takeA1_2_ok:CF (setTo c_takeA1 true 0 1 (mkU .i64 (.ofNat 1) mx) o_c_takeA1_2):=cn t_ask1 tu_stretch1
theorem c_takeA1_ok:CF c_takeA1:=.cut (kd:=.i64) (k2:=.i64) (lo:=mn) (hi:=mx) true 0 1 (by kernel_rfl) ⟨by kernel_rfl,by kernel_rfl⟩ (by kernel_rfl) [(m1,o_c_takeA1_0),(z0,o_c_takeA1_1),(mx,o_c_takeA1_2)] ⟨c_takeA1_0_ok,by kernel_rfl,⟨c_takeA1_1_ok,by kernel_rfl,⟨c_takeA1_2_ok,by kernel_rfl,(segs_nil (by kernel_rfl))⟩⟩⟩
def l_takeA1:List Con:=c_takeA1::l_ask1
theorem t_takeA1:TF l_takeA1:=ad c_takeA1_ok t_ask1
end
end Go.Proofs.YtdohkfgflpdkcaaGreatDoor.sym
namespace Go.Proofs.YtdohkfgflpdkcaaGreatDoor.sym
open Go Go.Eng
noncomputable section
set_option maxRecDepth 100000
def l_ko:List Value:=[v_ak,v_eo,v_ep,v_ew,v_fO,v_fP,v_fQ,.slice (some ⟨72,0,none⟩) 2 18446744073709551618,v_eq,v_fR,v_a,v_a,v_a,v_x,v_a,v_a]
def e_kp:(Nat×O):=(64,.ro l_ko)
def v_kq:Value:=.pointer (some ⟨87,0,none⟩)
def e_kr:(Nat×O):=(72,.ro [v_jU,v_kq])
def l_ks:List Value:=([v_aL,v_Q,v_Q,.pointer (some ⟨88,0,none⟩),.pointer (some ⟨89,0,none⟩),.pointer (some ⟨90,0,none⟩),.pointer (some ⟨92,0,none⟩)]++rp 6 v_a)
def e_kt:(Nat×O):=(87,.ro l_ks)
def e_ku:(Nat×O):=(88,.ro l_6)
def e_kv:(Nat×O):=(89,.ro l_ah)
def e_kw:(Nat×O):=(90,.ro l_I)
def l_kx:List Value:=([.pointer (some ⟨91,0,none⟩)]++rp 24 v_a++[v_an,v_a,UB])
def e_ky:(Nat×O):=(92,.ro l_kx)
def e_kz:(Nat×O):=(91,.ro l_I)
def h_kA:Hp:=[e_kp,e_fT,e_fU,e_fZ,e_f0,e_f1,e_f2,e_f3,e_f4,(74,o_fL),e_kr,e_jX,e_jY,e_jZ,e_j0,e_j2,e_j3,e_kt,e_ku,e_kv,e_kw,e_ky,e_kz]
def h_kB:Hp:=[e_kp,e_fT,e_fU,e_fZ,e_f0,e_f1,e_f2,e_f3,e_kr,e_f4,(74,o_fL),e_jX,e_jY,e_jZ,e_j0,e_j3,e_j2,e_kt,e_ku,e_kv,e_kw,e_kz,e_ky]
def o_kC:O:=.opn 5 [v_C,v_a,v_x,v_x,v_a]
def o_kD:O:=.opn 5 [v_c,v_a,v_x,v_x,v_a,v_C,v_a,v_x,v_x,v_a]
def e_kE:(Nat×O):=(64,.cells l_ko)
def e_kF:(Nat×O):=(87,.cells l_ks)
def e_kG:(Nat×O):=(88,.cells l_6)
def e_kH:(Nat×O):=(89,.cells l_ah)
def e_kI:(Nat×O):=(92,.cells l_kx)
def h_kJ:Hp:=[e_a8,e_kp,e_fT,e_fU,e_fZ,e_f0,e_f1,e_f2,e_f3,e_kr,e_f4,(74,o_fL),e_j8,e_j9,e_ka,e_j0,e_j3,e_kb,e_kF,e_kG,e_kH,e_kw,e_kz,e_kI]
def u_kK:Ow:=(v_eI,h_kJ,95)
def u_kL:Ow:=(.tuple ⟨[.slice (some ⟨278,0,none⟩) 12 18446744073709551628,v_c]⟩,[e_a8,e_kp,e_fT,e_fU,e_fZ,e_f0,e_f1,e_f2,e_f3,e_kr,e_f4,(74,o_fL),e_j8,e_j9,e_ka,e_j0,e_j3,e_kb,e_kF,e_kG,e_kH,e_kw,e_kz,e_kI,(278,o_eH)],279)
def u_kM:Ow:=(.tuple ⟨[.slice (some ⟨266,0,none⟩) 48 48,v_c]⟩,[e_a8,e_kp,e_fT,e_fU,e_fZ,e_f0,e_f1,e_f2,e_f3,e_kr,e_f4,(74,o_fL),e_j8,e_j9,e_ka,e_j0,e_j3,e_kb,e_kF,e_kG,e_kH,e_kw,e_kz,e_kI,(266,o_c8)],322)
def u_kN:Ow:=(.tuple ⟨[.slice (some ⟨337,0,none⟩) 60 18446744073709551676,v_c]⟩,[e_a8,e_kp,e_fT,e_fU,e_fZ,e_f0,e_f1,e_f2,e_f3,e_kr,e_f4,(74,o_fL),e_j8,e_j9,e_ka,e_j0,e_j3,e_kb,e_kF,e_kG,e_kH,e_kw,e_kz,e_kI,(337,o_eG)],338)
def u_kO:Ow:=(v_eE,h_kJ,263)
def u_kP:Ow:=(.tuple ⟨[.chan (some 102),v_c]⟩,[e_a8,e_kp,e_fT,e_fU,e_fZ,e_f0,e_f1,e_f2,e_f3,e_kr,e_f4,(74,o_fL),e_j8,e_j9,e_ka,e_j0,e_j3,e_kb,e_kF,e_kG,e_kH,e_kw,e_kz,e_kI,(102,o_dd)],164)
def w_kQ:Outs:=[(v_c6,h_kJ,93)]
def w_kR:Outs:=[(v_eJ,h_kJ,95),u_kK,u_kL,u_kM,u_kN,u_kO,u_kP]
def h_kS:Hp:=[e_a8,e_kE,e_fT,e_fU,e_jJ,e_jK,e_jL,e_jM,e_f3,e_kr,e_f4,(74,o_fL),(75,o_cG),e_j8,e_j9,e_ka,e_j0,e_j3,e_kb,e_kF,e_kG,e_kH,e_kw,e_kz,e_kI]
def w_kT:Outs:=[(v_ae,h_kS,2709)]
def w_kU:Outs:=[(v_C,h_kS,93)]
def c_cand2:Con:=⟨73,[v_F],h_kA,93,[(v_aq,h_kB,809),(.slice (some ⟨810,0,none⟩) 1 18446744073709551617,[e_kp,e_fT,e_fU,e_fZ,e_f0,e_f1,e_f2,e_f3,e_kr,e_f4,(74,o_fL),e_jX,e_jY,e_jZ,e_j0,e_j3,e_j2,e_kt,e_ku,e_kv,e_kw,e_kz,e_ky,(810,o_kC)],811),(.slice (some ⟨452,0,none⟩) 1 18446744073709551617,[e_kp,e_fT,e_fU,e_fZ,e_f0,e_f1,e_f2,e_f3,e_kr,e_f4,(74,o_fL),e_jX,e_jY,e_jZ,e_j0,e_j3,e_j2,e_kt,e_ku,e_kv,e_kw,e_kz,e_ky,(452,o_j6)],811),(.slice (some ⟨812,0,none⟩) 2 18446744073709551618,[e_kp,e_fT,e_fU,e_fZ,e_f0,e_f1,e_f2,e_f3,e_kr,e_f4,(74,o_fL),e_jX,e_jY,e_jZ,e_j0,e_j3,e_j2,e_kt,e_ku,e_kv,e_kw,e_kz,e_ky,(812,o_kD)],813)]⟩
theorem c_cand2_ok:CF c_cand2:=cn t_takeA1 tu_stretch1
def l_cand2:List Con:=c_cand2::l_takeA1
theorem t_cand2:TF l_cand2:=ad c_cand2_ok t_takeA1
def c_stretch2:Con:=⟨336,[v_F],h_kA,93,[(v_a,h_kB,93)]⟩
theorem c_stretch2_ok:CT c_stretch2:=cn tu_stretch1 tu_stretch1
def l_stretch2:List Con:=c_stretch2::l_cand2
theorem t_stretch2:TF l_stretch2:=ad c_stretch2_ok.down t_cand2
def lu_stretch2:List Con:=c_stretch2::lu_stretch1
theorem tu_stretch2:TT lu_stretch2:=ad c_stretch2_ok tu_stretch1
def c_upd2:Con:=⟨74,l_jH,[e_kE,e_fT,e_fU,e_jJ,e_jK,e_jL,e_jM,e_f3,e_f4,(74,o_fL),e_kr,e_jX,e_jY,e_jZ,e_j0,e_j2,e_j3,e_kt,e_ku,e_kv,e_kw,e_ky,e_kz],93,[(v_aX,[e_kE,e_fT,e_fU,e_jJ,e_jK,e_jL,e_jM,e_f3,e_kr,e_f4,(74,o_fL),e_jX,e_jY,e_jZ,e_j0,e_j3,e_j2,e_kt,e_ku,e_kv,e_kw,e_kz,e_ky],102)]⟩
theorem c_upd2_ok:CF c_upd2:=cn t_stretch2 tu_stretch2
def l_upd2:List Con:=c_upd2::l_stretch2
theorem t_upd2:TF l_upd2:=ad c_upd2_ok t_stretch2
def c_ask2:Con:=⟨12,l_jO,[e_kp,e_fT,e_fU,e_fZ,e_f0,e_f1,e_f2,e_f3,e_f4,(74,o_fL),e_kr,e_j8,e_j9,e_ka,e_j0,e_kb,e_j3,e_kF,e_kG,e_kH,e_kw,e_kI,e_kz,e_a8],93,[(v_kc,h_kJ,95),u_kK,u_kL,u_kM,u_kN,u_kO,u_kP]⟩
def o_c_ask2_0:Outs:=w_kQ
theorem c_ask2_0_ok:CF (setTo c_ask2 true 0 1 (mkU .i64 mn m1) o_c_ask2_0):=cn t_upd2 tu_stretch2
def o_c_ask2_1:Outs:=w_kR
theorem c_ask2_1_ok:CF (setTo c_ask2 true 0 1 (mkU .i64 z0 z0) o_c_ask2_1):=cn t_upd2 tu_stretch2
def o_c_ask2_2:Outs:=w_kR
theorem c_ask2_2_ok:CF (setTo c_ask2 true 0 1 (mkU .i64 (.ofNat 1) (.ofNat 1)) o_c_ask2_2):=cn t_upd2 tu_stretch2
def o_c_ask2_3:Outs:=w_kQ
theorem c_ask2_3_ok:CF (setTo c_ask2 true 0 1 (mkU .i64 (.ofNat 2) mx) o_c_ask2_3):=cn t_upd2 tu_stretch2
theorem c_ask2_ok:CF c_ask2:=.cut (kd:=.i64) (k2:=.i64) (lo:=mn) (hi:=mx) true 0 1 (by kernel_rfl) ⟨by kernel_rfl,by kernel_rfl⟩ (by kernel_rfl) [(m1,o_c_ask2_0),(z0,o_c_ask2_1),((.ofNat 1),o_c_ask2_2),(mx,o_c_ask2_3)] ⟨c_ask2_0_ok,by kernel_rfl,⟨c_ask2_1_ok,by kernel_rfl,⟨c_ask2_2_ok,by kernel_rfl,⟨c_ask2_3_ok,by kernel_rfl,(segs_nil (by kernel_rfl))⟩⟩⟩⟩
def l_ask2:List Con:=c_ask2::l_upd2
theorem t_ask2:TF l_ask2:=ad c_ask2_ok t_upd2
def c_takeA2:Con:=⟨18,l_jQ,[e_kE,e_fT,e_fU,e_jJ,e_jK,e_jL,e_jM,e_f3,e_f4,(74,o_fL),e_kr,e_j8,e_j9,e_ka,e_j0,e_kb,e_j3,e_kF,e_kG,e_kH,e_kw,e_kI,e_kz,(75,o_cG),e_a8],93,w_kT⟩
def o_c_takeA2_0:Outs:=w_kU
theorem c_takeA2_0_ok:CF (setTo c_takeA2 true 0 1 (mkU .i64 mn m1) o_c_takeA2_0):=cn t_ask2 tu_stretch2
def o_c_takeA2_1:Outs:=w_kT
theorem c_takeA2_1_ok:CF (setTo c_takeA2 true 0 1 (mkU .i64 z0 z0) o_c_takeA2_1):=cn t_ask2 tu_stretch2
def o_c_takeA2_2:Outs:=w_kT
theorem c_takeA2_2_ok:CF (setTo c_takeA2 true 0 1 (mkU .i64 (.ofNat 1) (.ofNat 1)) o_c_takeA2_2):=cn t_ask2 tu_stretch2
def o_c_takeA2_3:Outs:=w_kU
theorem c_takeA2_3_ok:CF (setTo c_takeA2 true 0 1 (mkU .i64 (.ofNat 2) mx) o_c_takeA2_3):=cn t_ask2 tu_stretch2
theorem c_takeA2_ok:CF c_takeA2:=.cut (kd:=.i64) (k2:=.i64) (lo:=mn) (hi:=mx) true 0 1 (by kernel_rfl) ⟨by kernel_rfl,by kernel_rfl⟩ (by kernel_rfl) [(m1,o_c_takeA2_0),(z0,o_c_takeA2_1),((.ofNat 1),o_c_takeA2_2),(mx,o_c_takeA2_3)] ⟨c_takeA2_0_ok,by kernel_rfl,⟨c_takeA2_1_ok,by kernel_rfl,⟨c_takeA2_2_ok,by kernel_rfl,⟨c_takeA2_3_ok,by kernel_rfl,(segs_nil (by kernel_rfl))⟩⟩⟩⟩
def l_takeA2:List Con:=c_takeA2::l_ask2
theorem t_takeA2:TF l_takeA2:=ad c_takeA2_ok t_ask2
end
end Go.Proofs.YtdohkfgflpdkcaaGreatDoor.sym
