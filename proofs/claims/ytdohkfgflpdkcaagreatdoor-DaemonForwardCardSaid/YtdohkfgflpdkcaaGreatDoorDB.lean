/-
  PROVED HERE: a part of the proof of DaemonForward (texts M1 of the prover, joined). No condition of its own.
-/
import Derived.WalkKit
set_option linter.unusedVariables false
set_option linter.unusedSimpArgs false
namespace Go.Proofs.YtdohkfgflpdkcaaGreatDoor
namespace DivMath
theorem digit_eq {U v1 v0 c q r:Nat} (hv1:0 < v1) (hU:q * v1+r=U) (hq:q * v0≤4294967296 * r+c) (hQ:(U * 4294967296+c) / (v1 * 4294967296+v0)≤q):
 q=(U * 4294967296+c) / (v1 * 4294967296+v0):=by
 refine Nat.le_antisymm ?_ hQ
 rw [Nat.le_div_iff_mul_le (by omega)]
 have e:q * (v1 * 4294967296+v0)=(q * v1) * 4294967296+q * v0:=by rw [Nat.mul_add,Nat.mul_assoc]
 rw [e,←hU,Nat.add_mul]
 omega
theorem digit_gt {U v1 v0 c q r:Nat} (hv1:0 < v1) (hU:q * v1+r=U) (hq:4294967296 * r+c < q * v0):
 (U * 4294967296+c) / (v1 * 4294967296+v0) < q:=by
 rw [Nat.div_lt_iff_lt_mul (by omega)]
 have e:q * (v1 * 4294967296+v0)=(q * v1) * 4294967296+q * v0:=by rw [Nat.mul_add,Nat.mul_assoc]
 rw [e,←hU,Nat.add_mul]
 omega
theorem digit_lt {U v c:Nat} (hU:U < v) (hc:c < 4294967296):(U * 4294967296+c) / v < 4294967296:=by
 rw [Nat.div_lt_iff_lt_mul (by omega)]
 omega
theorem first_le {U v1 v0:Nat} (hv:2147483648≤v1) (hv0:v0 < 4294967296) (hU:U < v1 * 4294967296+v0):U / v1≤4294967297:=by
 have h:U / v1 < 4294967298:=by
  rw [Nat.div_lt_iff_lt_mul (by omega)]
  omega
 omega
theorem first_ge {U v1 v0 c:Nat} (hv:0 < v1) (hc:c < 4294967296):(U * 4294967296+c) / (v1 * 4294967296+v0)≤U / v1:=by
 rw [Nat.le_div_iff_mul_le hv]
 have h:=Nat.div_mul_le_self (U * 4294967296+c) (v1 * 4294967296+v0)
 generalize (U * 4294967296+c) / (v1 * 4294967296+v0)=q at *
 have e:q * (v1 * 4294967296+v0)=(q * v1) * 4294967296+q * v0:=by rw [Nat.mul_add,Nat.mul_assoc]
 rw [e] at h
 have:=Nat.zero_le (q * v0)
 omega
theorem wr3 (a b c:Int) (h0:0≤a+b - c) (h1:a+b - c < 18446744073709551616):
 IntKind.u64.wrap (IntKind.u64.wrap (IntKind.u64.wrap a+b) - IntKind.u64.wrap c)=a+b - c:=by
 simp only [IntKind.wrap_u64]; omega
theorem wrapN (a:Nat) (ha:a < 18446744073709551616):IntKind.u64.wrap (a:Int)=(a:Int):=by rw [IntKind.wrap_u64]; omega
theorem wrapM (a:Nat):IntKind.u64.wrap (a:Int)=((a % 18446744073709551616:Nat):Int):=by rw [IntKind.wrap_u64]; omega
theorem wrap_div (a b:Nat) (ha:a < 18446744073709551616):IntKind.u64.wrap ((a:Int) / (b:Int))=((a / b:Nat):Int):=by
 rw [←Int.natCast_ediv,wrapN _ (Nat.lt_of_le_of_lt (Nat.div_le_self _ _) ha)]
theorem wrap_rest (a b q r:Nat) (ha:a < 18446744073709551616) (h:q * b+r=a):IntKind.u64.wrap ((a:Int) - IntKind.u64.wrap ((q:Int) * (b:Int)))=(r:Int):=by
 have e:(q:Int) * (b:Int)=(a:Int) - (r:Int):=by rw [←h,Int.natCast_add,Int.natCast_mul]; omega
 rw [e]
 simp only [IntKind.wrap_u64]
 omega
theorem wrap_left (U c q v u:Nat) (hu:u < 18446744073709551616) (h:U * 4294967296+c=q * v+u):
 IntKind.u64.wrap (IntKind.u64.wrap (IntKind.u64.wrap ((U:Int) * 4294967296)+(c:Int)) - IntKind.u64.wrap ((q:Int) * (v:Int)))=(u:Int):=by
 have e:(q:Int) * (v:Int)=(U:Int) * 4294967296+(c:Int) - (u:Int):=by
  have:=congrArg (fun n:Nat=>(n:Int)) h
  simp only [Int.natCast_add,Int.natCast_mul] at this
  omega
 rw [wr3 _ _ _ (by omega) (by omega),e]
 omega
theorem wrap_nat (n:Int):∃a:Nat,a < 18446744073709551616∧IntKind.u64.wrap n=(a:Int):=by
 refine ⟨(n % 18446744073709551616).toNat,?_,?_⟩
 ·omega
 ·rw [IntKind.wrap_u64]; omega
theorem wrap_steps (U c q v u:Nat) (hu:u < 18446744073709551616) (h:U * 4294967296+c=q * v+u):
 ∃a b d:Nat,a < 18446744073709551616∧b < 18446744073709551616∧d < 18446744073709551616∧IntKind.u64.wrap ((U:Int) * 4294967296)=(a:Int)∧IntKind.u64.wrap ((a:Int)+(c:Int))=(b:Int)∧IntKind.u64.wrap ((q:Int) * (v:Int))=(d:Int)∧IntKind.u64.wrap ((b:Int) - (d:Int))=(u:Int):=by
 have hw:=wrap_left U c q v u hu h
 obtain ⟨a,ha,ea⟩:=wrap_nat ((U:Int) * 4294967296)
 obtain ⟨b,hb,eb⟩:=wrap_nat ((a:Int)+(c:Int))
 obtain ⟨d,hd,ed⟩:=wrap_nat ((q:Int) * (v:Int))
 exact ⟨a,b,d,ha,hb,hd,ea,eb,ed,by rw [←ed,←eb,←ea]; exact hw⟩
theorem norm {hi lo y s:Nat} (hh:hi < y) (hl:lo < 18446744073709551616) (hs:s≤63) (hv1:y * 2 ^ s < 18446744073709551616):
 hi * 2 ^ s+lo / 2 ^ (64 - s) < y * 2 ^ s∧
 (hi * 2 ^ s+lo / 2 ^ (64 - s)) * 18446744073709551616+lo * 2 ^ s % 18446744073709551616=(hi * 18446744073709551616+lo) * 2 ^ s∧
 (hi * 2 ^ s) |||(lo / 2 ^ (64 - s))=hi * 2 ^ s+lo / 2 ^ (64 - s):=by
 have e64:2 ^ (64 - s) * 2 ^ s=18446744073709551616:=by rw [←Nat.pow_add,show 64 - s+s=64 from by omega]
 have hp:0 < 2 ^ s:=Nat.pow_pos (by omega)
 have hp2:0 < 2 ^ (64 - s):=Nat.pow_pos (by omega)
 have hlt:lo / 2 ^ (64 - s) < 2 ^ s:=by
  rw [Nat.div_lt_iff_lt_mul hp2,Nat.mul_comm,e64]; exact hl
 refine ⟨?_,?_,?_⟩
 ·have:(hi+1) * 2 ^ s≤y * 2 ^ s:=Nat.mul_le_mul_right _ hh
  rw [Nat.add_mul] at this
  omega
 ·have e:lo * 2 ^ s / 18446744073709551616=lo / 2 ^ (64 - s):=by
   rw [←e64,Nat.mul_div_mul_right _ _ hp]
  have:=Nat.div_add_mod (lo * 2 ^ s) 18446744073709551616
  rw [e] at this
  generalize lo / 2 ^ (64 - s)=g at *
  rw [Nat.add_mul,Nat.add_mul,Nat.mul_right_comm hi]
  omega
 ·have h:=Nat.shiftLeft_add_eq_or_of_lt hlt hi
  rw [Nat.shiftLeft_eq] at h
  exact h.symm
theorem parts_of (B:Nat) {U C c1 c0 a u b r:Nat} (hC:C=c1 * B+c0) (h1:U * B+c1=a+u) (h2:u * B+c0=b+r):
 U * (B * B)+C=a * B+b+r:=by
 have h3:U * B * B+c1 * B=a * B+u * B:=by
  rw [←Nat.add_mul,h1,Nat.add_mul]
 rw [←Nat.mul_assoc,hC]
 omega
theorem parts {U C c1 c0 a u b r:Nat} (hC:C=c1 * 4294967296+c0) (h1:U * 4294967296+c1=a+u) (h2:u * 4294967296+c0=b+r):
 U * 18446744073709551616+C=a * 4294967296+b+r:=by
 have:=parts_of 4294967296 hC h1 h2
 rwa [show 4294967296 * 4294967296=18446744073709551616 from rfl] at this
theorem whole {hi lo y s v U C c1 c0 q1 q0 u r:Nat} (hy:0 < y) (hv:v=y * 2 ^ s) (hN:U * 18446744073709551616+C=(hi * 18446744073709551616+lo) * 2 ^ s)
 (hC:C=c1 * 4294967296+c0) (h1:U * 4294967296+c1=q1 * v+u) (h2:u * 4294967296+c0=q0 * v+r) (hr:r < v):
 q1 * 4294967296+q0=(hi * 18446744073709551616+lo) / y∧r / 2 ^ s=(hi * 18446744073709551616+lo) % y:=by
 have hp:0 < 2 ^ s:=Nat.pow_pos (by omega)
 have e:(hi * 18446744073709551616+lo) * 2 ^ s=(q1 * 4294967296+q0) * v+r:=by
  have e2:(q1 * 4294967296+q0) * v=(q1 * v) * 4294967296+q0 * v:=by rw [Nat.add_mul,Nat.mul_right_comm]
  rw [←hN,e2]
  generalize q1 * v=a at *
  generalize q0 * v=b at *
  exact parts hC h1 h2
 have ed:(hi * 18446744073709551616+lo) * 2 ^ s / v=q1 * 4294967296+q0:=by
  rw [e,Nat.mul_comm _ v,Nat.mul_add_div (Nat.lt_of_le_of_lt (Nat.zero_le _) hr),Nat.div_eq_of_lt hr,Nat.add_zero]
 have em:(hi * 18446744073709551616+lo) * 2 ^ s % v=r:=by
  rw [e,Nat.mul_comm _ v,Nat.mul_add_mod,Nat.mod_eq_of_lt hr]
 rw [hv,Nat.mul_div_mul_right _ _ hp] at ed
 rw [hv,Nat.mul_mod_mul_right] at em
 exact ⟨ed.symm,by rw [←em,Nat.mul_div_cancel _ hp]⟩
end DivMath
end Go.Proofs.YtdohkfgflpdkcaaGreatDoor
