/-
  PROVED HERE: a part of the proof of DaemonForward (texts HB of the prover, joined). No condition of its own.
-/
import Derived.Test.YtdohkfgflpdkcaaGreatDoorHA
import Derived.Test.YtdohkfgflpdkcaaGreatDoorHV
set_option linter.unusedVariables false
set_option linter.unusedSimpArgs false
namespace Go.Proofs.YtdohkfgflpdkcaaGreatDoor.sym
open Go Go.Eng
theorem st_grown {c:Cx} {t:Nat→Option O} {w w':World} (h:HR c t w) (q:Fr [] w w') (hl:∀i x,t i=some x→c.b i < w.heap.size) (n:Nat):St c t w c t w' n n:=
 have hb:∀i x,t i=some x→w'.heap[c.b i]? =w.heap[c.b i]? :=fun i x hx=>q.block _ (hl i x hx) (by simp)
 ⟨Ext.refl c n,⟨fun i x hx=>⟨(h.at_ i x hx).1,by rw [hb i x hx]; exact (h.at_ i x hx).2⟩,h.inj⟩,q.size,fun k hk _=>q.block k hk (by simp),fun i x hx=>.inl ⟨i,x,hx,rfl⟩,q.os,q.tape,q.output,fun i l _ hi=>⟨⟨l,hi⟩,hb i _ hi⟩,fun i x hx hf _=>⟨hb i x hx,h.fz hx hf⟩⟩
abbrev anyI:Value:=UI .i64 (.negSucc 9223372036854775807) (.ofNat 9223372036854775807)
theorem ints_of {c:Cx}:∀{n:Nat} {l:List Value},LR c (List.replicate n anyI) l→∃f:Nat→Int,l.length=n∧∀j,j < n→l[j]? =some (.int .i64 (f j))∧I64 (f j)
 |0,l,h=>by cases h; exact ⟨fun _=>0,rfl,fun j hj=>by omega⟩
 |n+1,l,h=>by
  rw [List.replicate_succ] at h
  cases h with
  |cons h1 h2=>
   obtain ⟨x,rfl,x1,x2⟩:=ui_of h1
   obtain ⟨f,hl,hf⟩:=ints_of h2
   refine ⟨fun j=>match j with |0=>x |j+1=>f j,by simp [hl],fun j hj=>?_⟩
   cases j with
   |zero=>exact ⟨rfl,x1,x2⟩
   |succ j=>exact hf j (by omega)
noncomputable def kHull (n:Nat):Con:=⟨151,[.slice (some ⟨64,0,none⟩) n (18446744073709551616+n)],[(64,.ro (List.replicate (n * 3) anyI))],65,[(.tuple ⟨[anyI,anyI,UI .i64 (.ofNat 0) (.ofNat 33)]⟩,[(64,.ro (List.replicate (n * 3) anyI))],65)]⟩
theorem hull_con (n:Nat) (hn:1≤n) (hn5:n≤5):ConC P (kHull n):=by
 refine .of_calls (show 64≤65 by decide) ⟨_,List.mem_cons_self ..⟩ (fun o ho=>by rw [kHull,List.mem_singleton] at ho; subst ho; exact Nat.le_refl _) fun m hm c w g H hf args' ha cs=>?_
 obtain ⟨v,rfl,hv⟩:=lr1 ha
 have hh:ofL (kHull n).heap 64=some (.ro (List.replicate (n * 3) anyI)):=rfl
 have honly:∀i x,ofL (kHull n).heap i=some x→i=64:=fun i x hx=>by
  by_cases h:i=64
  ·exact h
  ·have e:Nat.beq 64 i=false:=by
    cases hq:Nat.beq 64 i with
    |true=>exact absurd (Nat.eq_of_beq_eq_true hq).symm h
    |false=>rfl
   have:ofL (kHull n).heap i=none:=by simp [kHull,ofL,e]
   rw [this] at hx
   cases hx
 obtain ⟨av,pre,l',post,ty,fr,hx,hpre,hl⟩:=H.at_ 64 _ hh
 obtain ⟨f,hlen,hfs⟩:=ints_of hl
 have hlt:c.b 64 < w.heap.size:=lt_of_block hx
 have key:∀k,big≤k→VR c (.slice (some ⟨64,0,none⟩) n k) v→∃k',v= .slice (some ⟨c.b 64,c.o 64+0,none⟩) n k':=fun k hk h=>by
  cases h with
  |slice h l k hk'=>exact absurd hk' (by omega)
  |open_ h l k k' hk hl' hk' he=>exact ⟨_,rfl⟩
  |loose a s a' k' h=>cases h
 obtain ⟨k',rfl⟩:=key (18446744073709551616+n) (by unfold big; omega) hv
 obtain ⟨e,w',fr',hp,hst⟩:=hull_any (c.b 64) (c.o 64+0) n k' f w hn hn5 hlt (fun j hj=>by
  rw [cellOf hx]
  obtain ⟨h1,_⟩:=hfs j hj
  show (pre++l'++post).toArray[_]? =_
  rw [List.getElem?_toArray,List.append_assoc,List.getElem?_append_right (by omega),show c.o 64+0+j - pre.length=j by omega,List.getElem?_append_left (by omega)]
  exact h1) (fun j hj=>(hfs j hj).2) cs
 obtain ⟨⟨a,b,r,rfl,ha1,hb1,hr1,hr2⟩,hF⟩:=hp
 refine ⟨_,w',fr',⟨_,List.mem_cons_self ..,c,_,rfl,st_grown H hF (fun i x hx=>by obtain rfl:=honly i x hx; exact hlt) 65,.tuple (.cons (.ui _ _ ha1.1 ha1.2) (.cons (.ui _ _ hb1.1 hb1.2) (.cons (.ui _ _ hr1 hr2) .nil)))⟩,hst⟩
theorem h_hull1:ConC P ⟨151,[.slice (some ⟨64,0,none⟩) 1 18446744073709551617],[(64,.ro [UI .i64 (.negSucc 9223372036854775807) (.ofNat 9223372036854775807),UI .i64 (.negSucc 9223372036854775807) (.ofNat 9223372036854775807),UI .i64 (.negSucc 9223372036854775807) (.ofNat 9223372036854775807)])],65,[(.tuple ⟨[UI .i64 (.negSucc 9223372036854775807) (.ofNat 9223372036854775807),UI .i64 (.negSucc 9223372036854775807) (.ofNat 9223372036854775807),UI .i64 (.ofNat 0) (.ofNat 33)]⟩,[(64,.ro [UI .i64 (.negSucc 9223372036854775807) (.ofNat 9223372036854775807),UI .i64 (.negSucc 9223372036854775807) (.ofNat 9223372036854775807),UI .i64 (.negSucc 9223372036854775807) (.ofNat 9223372036854775807)])],65)]⟩:=hull_con 1 (by decide) (by decide)
theorem h_hull2:ConC P ⟨151,[.slice (some ⟨64,0,none⟩) 2 18446744073709551618],[(64,.ro [UI .i64 (.negSucc 9223372036854775807) (.ofNat 9223372036854775807),UI .i64 (.negSucc 9223372036854775807) (.ofNat 9223372036854775807),UI .i64 (.negSucc 9223372036854775807) (.ofNat 9223372036854775807),UI .i64 (.negSucc 9223372036854775807) (.ofNat 9223372036854775807),UI .i64 (.negSucc 9223372036854775807) (.ofNat 9223372036854775807),UI .i64 (.negSucc 9223372036854775807) (.ofNat 9223372036854775807)])],65,[(.tuple ⟨[UI .i64 (.negSucc 9223372036854775807) (.ofNat 9223372036854775807),UI .i64 (.negSucc 9223372036854775807) (.ofNat 9223372036854775807),UI .i64 (.ofNat 0) (.ofNat 33)]⟩,[(64,.ro [UI .i64 (.negSucc 9223372036854775807) (.ofNat 9223372036854775807),UI .i64 (.negSucc 9223372036854775807) (.ofNat 9223372036854775807),UI .i64 (.negSucc 9223372036854775807) (.ofNat 9223372036854775807),UI .i64 (.negSucc 9223372036854775807) (.ofNat 9223372036854775807),UI .i64 (.negSucc 9223372036854775807) (.ofNat 9223372036854775807),UI .i64 (.negSucc 9223372036854775807) (.ofNat 9223372036854775807)])],65)]⟩:=hull_con 2 (by decide) (by decide)
theorem h_hull3:ConC P ⟨151,[.slice (some ⟨64,0,none⟩) 3 18446744073709551619],[(64,.ro [UI .i64 (.negSucc 9223372036854775807) (.ofNat 9223372036854775807),UI .i64 (.negSucc 9223372036854775807) (.ofNat 9223372036854775807),UI .i64 (.negSucc 9223372036854775807) (.ofNat 9223372036854775807),UI .i64 (.negSucc 9223372036854775807) (.ofNat 9223372036854775807),UI .i64 (.negSucc 9223372036854775807) (.ofNat 9223372036854775807),UI .i64 (.negSucc 9223372036854775807) (.ofNat 9223372036854775807),UI .i64 (.negSucc 9223372036854775807) (.ofNat 9223372036854775807),UI .i64 (.negSucc 9223372036854775807) (.ofNat 9223372036854775807),UI .i64 (.negSucc 9223372036854775807) (.ofNat 9223372036854775807)])],65,[(.tuple ⟨[UI .i64 (.negSucc 9223372036854775807) (.ofNat 9223372036854775807),UI .i64 (.negSucc 9223372036854775807) (.ofNat 9223372036854775807),UI .i64 (.ofNat 0) (.ofNat 33)]⟩,[(64,.ro [UI .i64 (.negSucc 9223372036854775807) (.ofNat 9223372036854775807),UI .i64 (.negSucc 9223372036854775807) (.ofNat 9223372036854775807),UI .i64 (.negSucc 9223372036854775807) (.ofNat 9223372036854775807),UI .i64 (.negSucc 9223372036854775807) (.ofNat 9223372036854775807),UI .i64 (.negSucc 9223372036854775807) (.ofNat 9223372036854775807),UI .i64 (.negSucc 9223372036854775807) (.ofNat 9223372036854775807),UI .i64 (.negSucc 9223372036854775807) (.ofNat 9223372036854775807),UI .i64 (.negSucc 9223372036854775807) (.ofNat 9223372036854775807),UI .i64 (.negSucc 9223372036854775807) (.ofNat 9223372036854775807)])],65)]⟩:=hull_con 3 (by decide) (by decide)
theorem h_hull4:ConC P ⟨151,[.slice (some ⟨64,0,none⟩) 4 18446744073709551620],[(64,.ro [UI .i64 (.negSucc 9223372036854775807) (.ofNat 9223372036854775807),UI .i64 (.negSucc 9223372036854775807) (.ofNat 9223372036854775807),UI .i64 (.negSucc 9223372036854775807) (.ofNat 9223372036854775807),UI .i64 (.negSucc 9223372036854775807) (.ofNat 9223372036854775807),UI .i64 (.negSucc 9223372036854775807) (.ofNat 9223372036854775807),UI .i64 (.negSucc 9223372036854775807) (.ofNat 9223372036854775807),UI .i64 (.negSucc 9223372036854775807) (.ofNat 9223372036854775807),UI .i64 (.negSucc 9223372036854775807) (.ofNat 9223372036854775807),UI .i64 (.negSucc 9223372036854775807) (.ofNat 9223372036854775807),UI .i64 (.negSucc 9223372036854775807) (.ofNat 9223372036854775807),UI .i64 (.negSucc 9223372036854775807) (.ofNat 9223372036854775807),UI .i64 (.negSucc 9223372036854775807) (.ofNat 9223372036854775807)])],65,[(.tuple ⟨[UI .i64 (.negSucc 9223372036854775807) (.ofNat 9223372036854775807),UI .i64 (.negSucc 9223372036854775807) (.ofNat 9223372036854775807),UI .i64 (.ofNat 0) (.ofNat 33)]⟩,[(64,.ro [UI .i64 (.negSucc 9223372036854775807) (.ofNat 9223372036854775807),UI .i64 (.negSucc 9223372036854775807) (.ofNat 9223372036854775807),UI .i64 (.negSucc 9223372036854775807) (.ofNat 9223372036854775807),UI .i64 (.negSucc 9223372036854775807) (.ofNat 9223372036854775807),UI .i64 (.negSucc 9223372036854775807) (.ofNat 9223372036854775807),UI .i64 (.negSucc 9223372036854775807) (.ofNat 9223372036854775807),UI .i64 (.negSucc 9223372036854775807) (.ofNat 9223372036854775807),UI .i64 (.negSucc 9223372036854775807) (.ofNat 9223372036854775807),UI .i64 (.negSucc 9223372036854775807) (.ofNat 9223372036854775807),UI .i64 (.negSucc 9223372036854775807) (.ofNat 9223372036854775807),UI .i64 (.negSucc 9223372036854775807) (.ofNat 9223372036854775807),UI .i64 (.negSucc 9223372036854775807) (.ofNat 9223372036854775807)])],65)]⟩:=hull_con 4 (by decide) (by decide)
theorem h_hull5:ConC P ⟨151,[.slice (some ⟨64,0,none⟩) 5 18446744073709551621],[(64,.ro [UI .i64 (.negSucc 9223372036854775807) (.ofNat 9223372036854775807),UI .i64 (.negSucc 9223372036854775807) (.ofNat 9223372036854775807),UI .i64 (.negSucc 9223372036854775807) (.ofNat 9223372036854775807),UI .i64 (.negSucc 9223372036854775807) (.ofNat 9223372036854775807),UI .i64 (.negSucc 9223372036854775807) (.ofNat 9223372036854775807),UI .i64 (.negSucc 9223372036854775807) (.ofNat 9223372036854775807),UI .i64 (.negSucc 9223372036854775807) (.ofNat 9223372036854775807),UI .i64 (.negSucc 9223372036854775807) (.ofNat 9223372036854775807),UI .i64 (.negSucc 9223372036854775807) (.ofNat 9223372036854775807),UI .i64 (.negSucc 9223372036854775807) (.ofNat 9223372036854775807),UI .i64 (.negSucc 9223372036854775807) (.ofNat 9223372036854775807),UI .i64 (.negSucc 9223372036854775807) (.ofNat 9223372036854775807),UI .i64 (.negSucc 9223372036854775807) (.ofNat 9223372036854775807),UI .i64 (.negSucc 9223372036854775807) (.ofNat 9223372036854775807),UI .i64 (.negSucc 9223372036854775807) (.ofNat 9223372036854775807)])],65,[(.tuple ⟨[UI .i64 (.negSucc 9223372036854775807) (.ofNat 9223372036854775807),UI .i64 (.negSucc 9223372036854775807) (.ofNat 9223372036854775807),UI .i64 (.ofNat 0) (.ofNat 33)]⟩,[(64,.ro [UI .i64 (.negSucc 9223372036854775807) (.ofNat 9223372036854775807),UI .i64 (.negSucc 9223372036854775807) (.ofNat 9223372036854775807),UI .i64 (.negSucc 9223372036854775807) (.ofNat 9223372036854775807),UI .i64 (.negSucc 9223372036854775807) (.ofNat 9223372036854775807),UI .i64 (.negSucc 9223372036854775807) (.ofNat 9223372036854775807),UI .i64 (.negSucc 9223372036854775807) (.ofNat 9223372036854775807),UI .i64 (.negSucc 9223372036854775807) (.ofNat 9223372036854775807),UI .i64 (.negSucc 9223372036854775807) (.ofNat 9223372036854775807),UI .i64 (.negSucc 9223372036854775807) (.ofNat 9223372036854775807),UI .i64 (.negSucc 9223372036854775807) (.ofNat 9223372036854775807),UI .i64 (.negSucc 9223372036854775807) (.ofNat 9223372036854775807),UI .i64 (.negSucc 9223372036854775807) (.ofNat 9223372036854775807),UI .i64 (.negSucc 9223372036854775807) (.ofNat 9223372036854775807),UI .i64 (.negSucc 9223372036854775807) (.ofNat 9223372036854775807),UI .i64 (.negSucc 9223372036854775807) (.ofNat 9223372036854775807)])],65)]⟩:=hull_con 5 (by decide) (by decide)
end Go.Proofs.YtdohkfgflpdkcaaGreatDoor.sym
