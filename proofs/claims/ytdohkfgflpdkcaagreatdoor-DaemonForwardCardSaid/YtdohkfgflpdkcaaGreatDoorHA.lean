/-
  PROVED HERE: a part of the proof of DaemonForward (texts K0, HA of the prover, joined). No condition of its own.
-/
import Derived.Test.YtdohkfgflpdkcaaGreatDoorSD
import Derived.Test.YtdohkfgflpdkcaaGreatDoorProg
import Derived.Test.YtdohkfgflpdkcaaGreatDoorChecked
import Derived.Eval
import Derived.Test.YtdohkfgflpdkcaaGreatDoorDD
import Derived.Test.YtdohkfgflpdkcaaGreatDoorDC
import Derived.Test.YtdohkfgflpdkcaaGreatDoorShelf
set_option linter.unusedVariables false
set_option linter.unusedSimpArgs false
namespace Go.Proofs.YtdohkfgflpdkcaaGreatDoor.sym
open Go Go.Eng
theorem mixed:Tryz.prog.follows .mixedOrders=true:=Checked.mixed Tryz.checked
noncomputable abbrev P:=Tryz.prog
abbrev Hp:=List (Nat×O)
abbrev Ow:=Value×List (Nat×O)×Nat
noncomputable def rp {α:Type} (n:Nat) (x:α):List α:=Nat.rec (motive:=fun _=>List α) [] (fun _ l=>x::l) n
def jn (l:List Nat) (f:Nat):Bool:=!(l.any (Nat.beq f))
def hs0:Nat→Nat→List Hint:=fun _ _=>[]
def hsOf:List (Nat×Nat×List Hint)→Nat→Nat→List Hint
 |[],_,_=>[]
 |(f,i,l)::r,g,j=>match Nat.beq f g&&Nat.beq i j with |true=>l |false=>hsOf r g j
noncomputable def clUn (l:List Nat) (t:List Con):Nat→ClL
 |0=>tblCl t
 |n+1=>evalL (tblCl t) (clUn l t n) hs0 (jn l) P 40
theorem clUn_ok {l:List Nat} {t:List Con} (ht:∀k,k∈t→ConM P true k∧hasBody P k.f=true):∀n,ClOKL P true (clUn l t n)
 |0=>tblM_ok ht
 |n+1=>evalL_ok mixed (tblM_ok ht) (clUn_ok ht n) _ _ _
theorem con {μ:Bool} {l:List Nat} {hs:Nat→Nat→List Hint} {t tu:List Con} (ht:∀k,k∈t→ConM P μ k∧hasBody P k.f=true) (hu:∀k,k∈tu→ConM P true k∧hasBody P k.f=true) {k:Con} (hn:Nat.ble 64 k.n0=true) (hv:fitsL k.n0 (bodyL (tblCl t) (clUn l tu 4) hs (jn l) P 40 k.f k.args k.h) k.outs=true):ConM P μ k:=
 conM_of_eval mixed (tblM_ok ht) (clUn_ok hu 4) hn hv
theorem none_told {μ:Bool}:∀k,k∈([]:List Con)→ConM P μ k∧hasBody P k.f=true:=fun k h=>(by cases h)
theorem and_told {μ:Bool} {k:Con} {t:List Con} (h:ConM P μ k) (hb:hasBody P k.f=true) (ht:∀k,k∈t→ConM P μ k∧hasBody P k.f=true):∀k',k'∈k::t→ConM P μ k'∧hasBody P k'.f=true:=fun k' hk=>by
 rcases List.mem_cons.1 hk with rfl |hk
 ·exact ⟨h,hb⟩
 ·exact ht k' hk
abbrev CF (k : Con) : Prop := ConM Tryz.prog false k
abbrev CT (k : Con) : Prop := ConM Tryz.prog true k
abbrev TF (l : List Con) : Prop := ∀ k, k ∈ l → ConM Tryz.prog false k ∧ hasBody Tryz.prog k.f = true
abbrev TT (l : List Con) : Prop := ∀ k, k ∈ l → ConM Tryz.prog true k ∧ hasBody Tryz.prog k.f = true
abbrev mn : Int := .negSucc 9223372036854775807
abbrev mx : Int := .ofNat 9223372036854775807
abbrev mq : Int := .ofNat 18446744073709551615
abbrev z0 : Int := .ofNat 0
abbrev m1 : Int := .negSucc 0
theorem ad {μ : Bool} {k : Con} {t : List Con} (h : ConM P μ k) (ht : ∀ k, k ∈ t → ConM P μ k ∧ hasBody P k.f = true) (hb : hasBody P k.f = true := by kernel_rfl) : ∀ k', k' ∈ k :: t → ConM P μ k' ∧ hasBody P k'.f = true := and_told h hb ht
theorem cl {μ : Bool} (l : List Nat) {t tu : List Con} (ht : ∀ k, k ∈ t → ConM P μ k ∧ hasBody P k.f = true) (hu : ∀ k, k ∈ tu → ConM P true k ∧ hasBody P k.f = true) {k : Con} (hn : Nat.ble 64 k.n0 = true := by kernel_rfl) (hv : fitsL k.n0 (bodyL (tblCl t) (clUn l tu 4) hs0 (jn l) P 40 k.f k.args k.h) k.outs = true := by kernel_rfl) : ConM P μ k := con ht hu hn hv
theorem cn {μ : Bool} {t tu : List Con} (ht : ∀ k, k ∈ t → ConM P μ k ∧ hasBody P k.f = true) (hu : ∀ k, k ∈ tu → ConM P true k ∧ hasBody P k.f = true) {k : Con} (hn : Nat.ble 64 k.n0 = true := by kernel_rfl) (hv : fitsL k.n0 (bodyL (tblCl t) (clUn [118, 333, 244, 140, 323] tu 4) hs0 (jn [118, 333, 244, 140, 323]) P 40 k.f k.args k.h) k.outs = true := by kernel_rfl) : ConM P μ k := con ht hu hn hv
abbrev nl0 : List Nat := [118, 333, 244, 140, 323, 40, 109, 111, 113, 115, 117]
end Go.Proofs.YtdohkfgflpdkcaaGreatDoor.sym
namespace Go.Proofs.YtdohkfgflpdkcaaGreatDoor.sym
open Go Go.Eng
theorem pures {f:FuncId} {args:List Value} {os:List (Value×List (Nat×O)×Nat)} (h0:os.all (fun o=>Nat.beq o.2.2 64&&o.2.1.isEmpty)=true) (h1:os.isEmpty=false)
 (h:∀c w args',Gl c→LR c args args'→Calls P f ⟨args'⟩ w fun e w'=>∃v',e= .returned v'∧(∃o,o∈os∧VR c o.1 v')∧Fr [] w w'):ConC P ⟨f,args,[],64,os⟩:=
 have h2:∀o,o∈os→o.2.2=64∧o.2.1=[]:=fun o ho=>by
  have:=List.all_eq_true.1 h0 o ho
  rw [Bool.and_eq_true,Nat.beq_eq] at this
  exact ⟨this.1,List.isEmpty_iff.1 this.2⟩
 .of_calls (Nat.le_refl _) (by cases os with |nil=>cases h1 |cons o l=>exact ⟨o,List.mem_cons_self ..⟩) (fun o ho=>Nat.le_of_eq (h2 o ho).1.symm) fun m hm c w g H hf args' ha cs=>by
  obtain ⟨e,w',fr,⟨v',rfl,⟨o,ho,hv⟩,q⟩,hst⟩:=h c w args' g ha cs
  refine ⟨_,w',fr,⟨o,ho,c,v',rfl,?_,hv⟩,hst⟩
  rw [(h2 o ho).1,(h2 o ho).2]
  exact ⟨Ext.refl c 64,⟨fun i x hx=>(by cases hx),fun i j x y hx _ _=>(by cases hx)⟩,q.size,fun k hk _=>q.block k hk (by simp),fun i x hx=>(by cases hx),q.os,q.tape,q.output,fun i l _ hx=>(by cases hx),fun i x hx=>(by cases hx)⟩
theorem ui_of {c:Cx} {k:IntKind} {lo hi:Int} {v:Value} (h:VR c (UI k lo hi) v):∃n,v= .int k n∧lo≤n∧n≤hi:=by
 unfold UI at h
 cases h with |ui _ _ h1 h2=>exact ⟨_,rfl,h1,h2⟩
theorem lr1 {c:Cx} {a:Value} {l:List Value} (h:LR c [a] l):∃a',l=[a']∧VR c a a':=by
 cases h with |cons h1 h=>cases h with |nil=>exact ⟨_,rfl,h1⟩
theorem lr2 {c:Cx} {a b:Value} {l:List Value} (h:LR c [a,b] l):∃a' b',l=[a',b']∧VR c a a'∧VR c b b':=by
 cases h with |cons h1 h=>obtain ⟨_,rfl,h2⟩:=lr1 h; exact ⟨_,_,rfl,h1,h2⟩
theorem lr3 {c:Cx} {a b d:Value} {l:List Value} (h:LR c [a,b,d] l):∃a' b' d',l=[a',b',d']∧VR c a a'∧VR c b b'∧VR c d d':=by
 cases h with |cons h1 h=>obtain ⟨_,_,rfl,h2,h3⟩:=lr2 h; exact ⟨_,_,_,rfl,h1,h2,h3⟩
theorem us_of {c:Cx} {v:Value} (h:VR c US v):∃s,v= .string s∧s.size≤1000000:=by
 unfold US at h
 cases h with |us s h=>exact ⟨s,rfl,h⟩
theorem qres_told (up:Bool) (a b c:Int):(qres up a b c).2=0∧I64 (qres up a b c).1∨I64 (qres up a b c).1∧1≤(qres up a b c).2∧(qres up a b c).2≤20:=by
 unfold qres
 split
 ·exact .inr ⟨by unfold I64; omega,by decide,by decide⟩
 ·split
  ·rename_i h; exact .inl ⟨rfl,h⟩
  ·exact .inr ⟨by unfold I64; omega,by decide,by decide⟩
noncomputable def kMul (f:FuncId):Con:=⟨f,[UI .i64 (.negSucc 9223372036854775807) (.ofNat 9223372036854775807),UI .i64 (.negSucc 9223372036854775807) (.ofNat 9223372036854775807),UI .i64 (.negSucc 9223372036854775807) (.ofNat 9223372036854775807)],[],64,
 [(.tuple ⟨[UI .i64 (.negSucc 9223372036854775807) (.ofNat 9223372036854775807),.int .i64 (.ofNat 0)]⟩,[],64),(.tuple ⟨[UI .i64 (.negSucc 9223372036854775807) (.ofNat 9223372036854775807),UI .i64 (.ofNat 1) (.ofNat 20)]⟩,[],64)]⟩
theorem mul_of {f:FuncId} {up:Bool} (h:∀(a b c:Int) (w:World),I64 a→I64 b→I64 c→Calls P f #[.int .i64 a,.int .i64 b,.int .i64 c] w fun e w'=>e= .returned (.tuple #[.int .i64 (qres up a b c).1,.int .i64 (qres up a b c).2])∧Fr [] w w'):ConC P (kMul f):=by
 refine pures (by kernel_rfl) (by kernel_rfl) fun c w args' g ha=>?_
 obtain ⟨_,_,_,rfl,h1,h2,h3⟩:=lr3 ha
 obtain ⟨x,rfl,a1,a2⟩:=ui_of h1
 obtain ⟨y,rfl,b1,b2⟩:=ui_of h2
 obtain ⟨z,rfl,c1,c2⟩:=ui_of h3
 refine (h x y z w ⟨a1,a2⟩ ⟨b1,b2⟩ ⟨c1,c2⟩).mono ?_
 rintro e w' ⟨rfl,hf⟩
 refine ⟨_,rfl,?_,hf⟩
 rcases qres_told up x y z with ⟨h0,h1⟩ |⟨h1,h2,h3⟩
 ·rw [h0]
  exact ⟨_,List.mem_cons_self ..,.tuple (.cons (.ui _ _ h1.1 h1.2) (.cons (.int _ _) .nil))⟩
 ·exact ⟨_,List.mem_cons_of_mem _ (List.mem_cons_self ..),.tuple (.cons (.ui _ _ h1.1 h1.2) (.cons (.ui _ _ h2 h3) .nil))⟩
theorem h_muldiv:ConC P (kMul 169):=mul_of muldiv_any
theorem h_muldivup:ConC P (kMul 255):=mul_of muldivup_any
theorem tick_any (h:Int) (w:World) (h1:1≤h) (h2:h≤1000000000000):
 Calls Tryz.prog 193 #[.int .u64 h] w fun e w'=>(∃t,e= .returned (.int .i64 t)∧1≤t∧t≤1000000000)∧Fr [] w w':=by
 have t0:(h == 0)=false:=by simpa using (by omega:h≠0)
 have t1:¬1000000000000 < h:=by omega
 go_enter Tryz.func193,Tryz.ntmps193
 have hd1:1≤(1000000000+h - 1) / h:=(Int.le_ediv_iff_mul_le (by omega)).2 (by omega)
 have hd2:(1000000000+h - 1) / h≤1000000000:=by
  have:(1000000000+h - 1) / h < 1000000001:=Int.ediv_lt_of_lt_mul (by omega) (by omega)
  omega
 generalize hq:(1000000000+h - 1) / h=q at *
 go_wp2
 go_ret
 exact ⟨⟨_,rfl,hd1,hd2⟩,Fr.refl _ _⟩
theorem h_scaletick:ConC P ⟨193,[UI .u64 (.ofNat 1) (.ofNat 1000000000000)],[],64,[(UI .i64 (.ofNat 1) (.ofNat 1000000000),[],64)]⟩:=by
 refine pures (by kernel_rfl) (by kernel_rfl) fun c w args' g ha=>?_
 obtain ⟨_,rfl,h1⟩:=lr1 ha
 obtain ⟨x,rfl,a1,a2⟩:=ui_of h1
 refine (tick_any x w a1 a2).mono ?_
 rintro e w' ⟨⟨t,rfl,b1,b2⟩,hf⟩
 exact ⟨_,rfl,⟨_,List.mem_cons_self ..,.ui _ _ b1 b2⟩,hf⟩
theorem h_trim:ConC P ⟨304,[US,.string ⟨⟨[0]⟩⟩],[],64,[(US,[],64)]⟩:=by
 refine pures (by kernel_rfl) (by kernel_rfl) fun c w args' g ha=>?_
 obtain ⟨_,_,rfl,h1,h2⟩:=lr2 ha
 obtain ⟨s,rfl,hs⟩:=us_of h1
 cases h2
 refine (Tryz.strings_TrimRight_one s 0 (by decide) w (by omega)).mono ?_
 rintro e w' ⟨rfl,rfl⟩
 refine ⟨_,rfl,⟨_,List.mem_cons_self ..,.us _ ?_⟩,Fr.refl _ _⟩
 have h1:(Lib.trimRightB s.data.toList 0).length≤s.data.toList.length:=by
  unfold Lib.trimRightB
  rw [List.length_reverse]
  exact Nat.le_trans (List.dropWhile_sublist _).length_le (by rw [List.length_reverse]; exact Nat.le_refl _)
 have h2:s.data.toList.length=s.size:=rfl
 show (Lib.trimRightB s.data.toList 0).toArray.size≤1000000
 rw [List.size_toArray]
 omega
end Go.Proofs.YtdohkfgflpdkcaaGreatDoor.sym
