/-
  PROVED HERE: a part of the proof of DaemonForward (texts B0, A1 of the prover, joined). No condition of its own.
-/
import Derived.Test.YtdohkfgflpdkcaaGreatDoorProg
import Derived.WalkKit
import Derived.BigQuiet
import Derived.Deep.QuietTactic
import Derived.Deep.RegionHeld3
import Derived.WalkSpells
import Derived.WalkLawsBesides
import Derived.Outline
import Derived.LoopTactic
import Derived.Deep.LoopGhost
import Derived.Deep.DeepCutAuto
import Derived.Deep.RegionLaw
import Derived.OwnWalk
import Derived.Deep.AppendLies
import Derived.LoopN
import Derived.IntWalk
import Derived.Lib.Hide
set_option linter.unusedVariables false
set_option linter.unusedSimpArgs false
namespace Go.Proofs.YtdohkfgflpdkcaaGreatDoor
open Go.RowKit
variable {τ:TypeId}
structure Fr (S:List Nat) (w w':World):Prop where
 os:w'.os=w.os
 tape:w'.tape=w.tape
 output:w'.output=w.output
 size:w.heap.size≤w'.heap.size
 block:∀k,k < w.heap.size→k ∉ S→w'.heap[k]? =w.heap[k]?
theorem Fr.refl (S) (w:World):Fr S w w:=⟨rfl,rfl,rfl,Nat.le_refl _,fun _ _ _=>rfl⟩
theorem Fr.trans {S S' T:List Nat} {a b c:World} (h:Fr S a b) (k:Fr S' b c) (hS:∀x,x < a.heap.size→x∈S→x∈T) (hS':∀x,x < a.heap.size→x∈S'→x∈T):Fr T a c:=
 ⟨k.os.trans h.os,k.tape.trans h.tape,k.output.trans h.output,Nat.le_trans h.size k.size,fun i hi hn=>
  (k.block i (Nat.lt_of_lt_of_le hi h.size) (fun x=>hn (hS' i hi x))).trans (h.block i hi (fun x=>hn (hS i hi x)))⟩
theorem Fr.then0 {S:List Nat} {a b c:World} (h:Fr S a b) (k:Fr [] b c):Fr S a c:=h.trans k (fun _ _ h=>h) (fun _ _ h=>by cases h)
theorem Fr.drew {S} {a w:World} (h:Fr S a w):Fr S a w.drew:=⟨h.os,h.tape,h.output,h.size,h.block⟩
theorem Fr.drewN {S} {a w:World} (h:Fr S a w) (n):Fr S a (w.drewN n):=⟨h.os,h.tape,h.output,h.size,h.block⟩
theorem Fr.alloc {S} {a w:World} (h:Fr S a w) (o:Obj):Fr S a (w.alloc o):=
 ⟨h.os,h.tape,h.output,by have:=h.size; simp; omega,fun k hk hn=>(Below.heap_alloc _ _ _ (by have:=h.size; omega)).trans (h.block k hk hn)⟩
theorem Fr.setCell {S} {a w:World} (h:Fr S a w) {p:Addr} (hp:p.block∈S∨a.heap.size≤p.block) (u:Value):Fr S a (w.setCell p u):=
 ⟨h.os,h.tape,h.output,by have:=h.size; simpa [World.setCell] using this,fun k hk hn=>(Below.heap_setCell _ _ _ _ (by rintro rfl; rcases hp with hp |hp; exact hn hp; omega)).trans (h.block k hk hn)⟩
theorem Fr.heap {S} {w w':World} (h:Fr S w w') {b:Nat} {o:Obj} (hb:w.heap[b]? =some o) (hn:b ∉ S):w'.heap[b]? =some o:=by
 rw [h.block b (lt_of_block hb) hn]; exact hb
theorem cellOf {w:World} {b o:Nat} {ob:Obj} (h:w.heap[b]? =some ob):w.cell? ⟨b,o,none⟩=(match ob with |.cells c _ _=>c[o]? |_=>none):=by
 simp only [World.cell?,h]
 cases ob <;> simp
theorem frozenOf {w:World} {b o:Nat} {ob:Obj} (h:w.heap[b]? =some ob):w.frozen? ⟨b,o,none⟩=(match ob with |.cells _ _ f=>(decide (f.1≤o)&&decide (o < f.2)) |_=>false):=by
 simp only [World.frozen?,h]
 cases ob <;> simp
theorem heap_drew (w:World):w.drew.heap=w.heap:=rfl
theorem heap_drewN (w:World) (n):(w.drewN n).heap=w.heap:=rfl
theorem heap_set {w:World} {b o:Nat} {c:Array Value} {t:TypeId} {f:Nat×Nat} (h:w.heap[b]? =some (.cells c t f)) (v:Value):(w.setCell ⟨b,o,none⟩ v).heap[b]? =some (.cells (c.setIfInBounds o v) t f):=by
 simp [World.setCell,Array.getElem?_modify,h]
theorem heap_alloc_new (w:World) (o:Obj):(w.alloc o).heap[w.heap.size]? =some o:=by
 show (w.heap.push o)[w.heap.size]? =_
 simp
theorem heap_alloc_old {w:World} {b:Nat} {o:Obj} (x:Obj) (h:w.heap[b]? =some o):(w.alloc x).heap[b]? =some o:=
 (Below.heap_alloc w x b (lt_of_block h)).trans h
abbrev sc (τ:TypeId) (h t o:Nat):Obj:=.cells #[.int .u64 (h:Int),.int .u64 (t:Int),.int .u64 (o:Int)] τ (0,0)
theorem ret_int {k:IntKind} {a b:Int} (h:a=b):Ending.returned (.int k a)= .returned (.int k b):=by rw [h]
theorem Fr.mono {S T:List Nat} {a b:World} (h:Fr S a b) (hS:∀x,x∈S→x∈T):Fr T a b:=⟨h.os,h.tape,h.output,h.size,fun k hk hn=>h.block k hk (fun hx=>hn (hS k hx))⟩
theorem Fr.cell {S} {w w':World} (h:Fr S w w') {b o:Nat} (hb:b < w.heap.size) (hn:b ∉ S):w'.cell? ⟨b,o,none⟩=w.cell? ⟨b,o,none⟩:=
 World.cell?_of_block (w:=w) (h.block b hb hn)
theorem lt_of_cell {w:World} {b o:Nat} {v:Value} (h:w.cell? ⟨b,o,none⟩=some v):b < w.heap.size:=World.block_lt_of_cell? w _ h
theorem heap_set_ne {w:World} {b p:Nat} {o:Nat} {ob:Obj} (h:w.heap[b]? =some ob) (hne:b≠p) (v:Value):(w.setCell ⟨p,o,none⟩ v).heap[b]? =some ob:=
 (((Fr.refl [p] w).setCell (.inl (by simp)) v).heap h (by simp [hne]))
theorem Fr.below {w w':World} (h:Fr [] w w'):Below w.heap.size w w':=⟨h.os,h.tape,h.output,h.size,fun k hk=>h.block k hk (by simp)⟩
theorem quiet_eq {P:Program} {f:FuncId} {args:Array Value} {w:World} {n:Nat} {v:Value} (h:Calls P f args (w.drewN n) fun e w'=>e= .returned v∧w.drewN n=w'):Calls P f args (w.drewN n) fun e w''=>e= .returned v∧∃m,w''=w.drewN m:=
 h.mono fun _ _ ⟨he,hm⟩=>⟨he,n,hm.symm⟩
theorem wrapI (n m:Int) (h:m=(n+9223372036854775808) % 18446744073709551616 - 9223372036854775808):IntKind.i64.wrap n=m∧wrap64 n=m:=by
 subst h
 exact ⟨by rw [IntKind.wrap_i64],by unfold wrap64; rfl⟩
end Go.Proofs.YtdohkfgflpdkcaaGreatDoor
namespace Go.Proofs.YtdohkfgflpdkcaaGreatDoor
open Go.RowKit
variable {τ:TypeId}
attribute [local go_sem] cellOf frozenOf heap_drew heap_drewN
theorem none_any (w:World):
 Calls Tryz.prog 197 #[] w fun e w'=>e= .returned (.agg #[.int .u64 0,.int .u64 0,.int .u64 0])∧Fr [] w w':=by
 go_enter Tryz.func197,Tryz.ntmps197
 go_wp2
 exact bodyPost_ret (v:=.agg #[.int .u64 0,.int .u64 0,.int .u64 0]) (by simp [results,Tryz.results197,go_sem]) rfl ⟨rfl,((Fr.refl _ _).alloc _).alloc _⟩
def Sc (τ:TypeId) (h t o:Int):Obj:=.cells #[.int .u64 h,.int .u64 t,.int .u64 o] τ (0,0)
set_option maxHeartbeats 400000 in
theorem made_yes (b:Nat) (h t o:Int) (w:World) (hs:w.heap[b]? =some (.cells #[.int .u64 h,.int .u64 t,.int .u64 o] τ (0,0))) (hp:0 < h):
 Calls Tryz.prog 130 #[.pointer (some ⟨b,0,none⟩)] w fun e w'=>e= .returned (.bool true)∧Fr [] w w':=by
 have hne:(h == 0)=false:=by simp; omega
 go_enter Tryz.func130,Tryz.ntmps130
 go_wp2
 go_region_held3 (fun w'=>Fr [] w w'∧w'.heap[b]? =some (.cells #[.int .u64 h,.int .u64 t,.int .u64 o] τ (0,0)))
  (first |exact ⟨(Fr.refl _ _).drew,hs⟩ |exact ⟨Fr.then0 (And.left (by assumption)) (by assumption),Fr.heap (by assumption) (And.right (by assumption)) (by simp)⟩) (first |(go_at_call 197; refine (none_any _).mono ?_; rintro e w1 ⟨rfl,hb1⟩))
 all_goals (have hx:=And.left ‹Fr [] w _∧_›)
 go_wp2
 go_ret
 exact ⟨rfl,hx⟩
end Go.Proofs.YtdohkfgflpdkcaaGreatDoor
