/-
  PROVED HERE: a part of the proof of DaemonForward (texts HU1, HU2, HU3, HU4, HU5 of the prover, joined). No condition of its own.
-/
import Derived.Test.YtdohkfgflpdkcaaGreatDoorHS
import Derived.Test.YtdohkfgflpdkcaaGreatDoorDD
import Derived.KernelRfl
set_option linter.unusedVariables false
set_option linter.unusedSimpArgs false
namespace Go.Proofs.YtdohkfgflpdkcaaGreatDoor
open Go.RowKit Go.Sort
attribute [local go_sem 10] cellOf frozenOf
attribute [local go_sem] heap_drew heap_drewN
def endsOf (f:Nat→Int):Nat→List Int
 |0=>[]
 |k+1=>endsOf f k++[f (k * 3+1),f (k * 3+2)]
theorem endsOf_length (f:Nat→Int):∀k,(endsOf f k).length=2 * k
 |0=>rfl
 |k+1=>by rw [endsOf,List.length_append,endsOf_length f k]; simp; omega
theorem endsOf_mem (f:Nat→Int):∀{k i},i < k→f (i * 3+1)∈endsOf f k∧f (i * 3+2)∈endsOf f k
 |k+1,i,h=>by
  rw [endsOf]
  rcases Nat.lt_or_eq_of_le (Nat.le_of_lt_succ h) with h |rfl
  ·have:=endsOf_mem f h
   exact ⟨List.mem_append_left _ this.1,List.mem_append_left _ this.2⟩
  ·exact ⟨List.mem_append_right _ (by simp),List.mem_append_right _ (by simp)⟩
theorem compact_rises {zs:List Int} (h:zs.Pairwise (·≤·)):(Lib.compact zs).Pairwise (·≤·):=by
 unfold Lib.compact Lib.compactUpTo
 rw [List.pairwise_map]
 have h1:(List.range zs.length).Pairwise fun a b=>zs.toArray[a]! ≤zs.toArray[b]! :=by
  rw [List.pairwise_iff_getElem]
  intro i j hi hj hij
  rw [List.length_range] at hi hj
  simp only [List.getElem_range]
  rw [getElem!_pos _ _ (by simpa using hi),getElem!_pos _ _ (by simpa using hj)]
  exact List.pairwise_iff_getElem.1 h i j hi hj hij
 exact h1.sublist List.filter_sublist
theorem compact_le (zs:List Int):(Lib.compact zs).length≤zs.length:=by
 unfold Lib.compact Lib.compactUpTo
 rw [List.length_map]
 exact Nat.le_trans (List.length_filter_le _ _) (by simp)
theorem compact_mem {zs:List Int} {x:Int} (h:x∈zs):x∈Lib.compact zs:=by
 obtain ⟨j,hj,rfl⟩:=List.getElem_of_mem h
 have key:∀j,(hj:j < zs.length)→zs.toArray[j]! ∈Lib.compact zs:=by
  intro j
  induction j with
  |zero=>intro hj; exact List.mem_map.2 ⟨0,List.mem_filter.2 ⟨List.mem_range.2 hj,by simp [Lib.keeps]⟩,rfl⟩
  |succ j ih=>
   intro hj
   by_cases hk:Lib.keeps zs.toArray (j+1)=true
   ·exact List.mem_map.2 ⟨j+1,List.mem_filter.2 ⟨List.mem_range.2 hj,hk⟩,rfl⟩
   ·have:zs.toArray[j+1]! =zs.toArray[j]! :=by simpa [Lib.keeps] using hk
    rw [this]
    exact ih (by omega)
 have:=key j hj
 rwa [getElem!_pos _ _ (by simpa using hj)] at this
def sorted (zs:List Int):List Int:=zs.mergeSort fun x y=>decide (x≤y)
theorem sorted_rises (zs:List Int):(sorted zs).Pairwise (·≤·):=by
 have:=List.pairwise_mergeSort (le:=fun x y:Int=>decide (x≤y)) (fun a b c=>by simp; omega) (fun a b=>by simp; omega) zs
 exact this.imp (by simp)
theorem sorted_length (zs:List Int):(sorted zs).length=zs.length:=List.length_mergeSort _
theorem sorted_mem {zs:List Int} {x:Int}:x∈sorted zs ↔ x∈zs:=List.mem_mergeSort
theorem info2:(Tryz.prog.info? 2).map (fun i=>(i.zero,i.size,i.bytes))=some (some (.int .i64 0),1,8):=by kernel_rfl
theorem Fr.grown {w0 w w':World} {row:Option Nat} (h:Fr [] w0 w) (hg:w.grownBy w' row) (hr:∀k,row=some k→w0.heap.size≤k):Fr [] w0 w':=
 ⟨hg.os.trans h.os,hg.tape.trans h.tape,hg.output.trans h.output,Nat.le_trans h.size hg.size,fun k hk hn=>
  (hg.block k (Nat.lt_of_lt_of_le hk h.size) (fun e=>by have:=hr k e.symm; omega)).trans (h.block k hk hn)⟩
theorem own_base {w:World} {base:Nat} {e:TypeId} {size n:Nat} {v:Value} {xs:List Value} (h:w.ownsRow base e size v n xs):∀k,v.ownBlock=some k→base≤k:=fun k hk=>(h.lt k hk).1
theorem own_holds {w:World} {base:Nat} {e:TypeId} {v:Value} {n:Nat} {α:Type} [Inhabited α] (enc:α→Value) {xs:List α} (h:w.ownsRow base e 1 v n (xs.map enc)) (hn:0 < n):xs.length=n∧∃g c,v= .slice (some ⟨g,0,none⟩) n c∧base≤g∧g < w.heap.size∧n≤c∧Holds enc w g 0 xs.toArray:=by
 have hl:xs.length=n:=by have:=h.1; simpa using this
 rcases h.2 with ⟨_,h0⟩ |⟨g,cap,cur,rfl,hb,hg,hc,hm,hs,ht⟩
 ·omega
 ·have hlt:=lt_of_block hg
  refine ⟨hl,g,cap,rfl,hb,hlt,hc,fun j hj=>?_⟩
  have hj':j < xs.length:=by simpa using hj
  have p:(cur.toList.take (n * 1))[j]? =some (enc xs[j]):=by rw [ht]; simp [hj']
  rw [List.getElem?_take_of_lt (by omega)] at p
  rw [cellOf hg,frozenOf hg]
  refine ⟨?_,by simp⟩
  rw [getElem!_pos xs.toArray j hj]
  simpa using p
def Row (w:World) (g:Nat) (l:List Int):Prop:=∀j,j < l.length→w.cell? ⟨g,j,none⟩=some (.int .i64 (l.getD j 0))
theorem Row.fr {w w':World} {g:Nat} {l:List Int} (h:Row w g l) (hf:Fr [] w w') (hg:g < w.heap.size):Row w' g l:=fun j hj=>(hf.cell hg (by simp)).trans (h j hj)
theorem fr_grow (w:World) (os):Fr [] w (Sort.grow w os):=⟨rfl,rfl,rfl,by simp [Sort.grow],fun k hk _=>by simp [Sort.grow,Array.getElem?_append,hk]⟩
theorem fr_put {α:Type} [Inhabited α] {w0 w:World} (h:Fr [] w0 w) (enc:α→Value) {g off:Nat} (d:Array α) (n:Nat) (hg:w0.heap.size≤g):Fr [] w0 (putRow enc (Sort.ahead w n) g off d):=
 ⟨h.os,h.tape,h.output,by rw [size_putRow]; exact h.size,fun k hk hn=>(by
  show ((Sort.ahead w n).heap.modify g _)[k]? =_
  rw [Array.getElem?_modify,if_neg (by omega)]
  exact h.block k hk hn)⟩
theorem holds_row {w:World} {g:Nat} {l m:List Int} (h:Holds (Value.int .i64) w g 0 (l++m).toArray):Row w g l:=fun j hj=>by
 have:=(h j (by simp; omega)).1
 rw [getElem!_pos _ _ (by simp; omega)] at this
 rw [Nat.zero_add] at this
 rw [this]
 simp [hj,List.getD_eq_getElem?_getD]
theorem heap_alloc_two (w:World) (a b:Obj):((w.alloc a).alloc b).heap[w.heap.size+1]? =some b:=by
 have:=heap_alloc_new (w.alloc a) b
 rwa [World.size_alloc] at this
structure Placed (f:Nat→Int) (n:Nat) (L:List Int):Prop where
 rises:L.Pairwise (·≤·)
 len:L.length≤2 * n
 mem:∀i,i < n→f (i * 3+1)∈L∧f (i * 3+2)∈L
def plL (f:Nat→Int) (n:Nat):List Int:=Lib.compact (sorted (endsOf f n))
theorem placed_plL (f:Nat→Int) (n:Nat):Placed f n (plL f n):=⟨compact_rises (sorted_rises _),by
 have:=compact_le (sorted (endsOf f n)); rw [sorted_length,endsOf_length] at this; exact this,fun i hi=>by
 have:=endsOf_mem f hi
 exact ⟨compact_mem (sorted_mem.2 this.1),compact_mem (sorted_mem.2 this.2)⟩⟩
def Pl (f:Nat→Int) (n:Nat) (w:World) (e:Ending) (w':World):Prop:=∃g c,e= .returned (.slice (some ⟨g,0,none⟩) (plL f n).length c)∧w.heap.size≤g∧g < w'.heap.size∧(plL f n).length≤c∧Row w' g (plL f n)∧Fr [] w w'
set_option maxHeartbeats 2000000 in
set_option maxRecDepth 20000 in
theorem places_any (B off n c:Nat) (f:Nat→Int) (w:World) (hn:1≤n) (hn5:n≤5) (hB:B < w.heap.size) (hc:∀j,j < n * 3→w.cell? ⟨B,off+j,none⟩=some (.int .i64 (f j))):
 Calls Tryz.prog 235 #[.slice (some ⟨B,off,none⟩) n c] w (Pl f n w):=by
 obtain ⟨i0,hi,hz0,hz1,hz2⟩:=info_parts info2
 have HC:=Lib.hid hc
 clear hc
 go_enter Tryz.func235,Tryz.ntmps235
 go_wp2_with (fail)
 go_loopg [3,8] n (fun g s3 s8 wr=>∃k:Nat,k+g=n∧s8= .int .i64 k∧wr.ownsRow w.heap.size 2 1 s3 (2 * k) ((endsOf f k).map (Value.int .i64))∧Fr [] w wr)
 case atStart=>exact ⟨0,by omega,rfl,World.ownsRow_nil _ _ _ _,Fr.refl _ _⟩
 case round=>
  obtain ⟨k,hk,rfl,hown,hF⟩:=hrel
  rcases Nat.eq_zero_or_pos gk with rfl |hp0
  ·obtain rfl:k=n:=by omega
   obtain ⟨hl,g,cap,rfl,hbg,hlt,hcap,hH⟩:=own_holds (Value.int .i64) hown (by omega)
   have hS:=AnyM.slices_Sort_int Tryz.laysSlM5_f314 g 0 cap (endsOf f k) wr hH hlt (by rw [endsOf_length]; omega)
   rw [endsOf_length] at hS
   have hS':Calls Tryz.prog 314 #[.slice (some ⟨g,0,none⟩) (2 * k) cap] wr _:=hS
   have HO:=Lib.hid (And.intro hown (And.intro hH hF))
   clear hown hH hF hS
   go_wp2_with (fail)
   refine hS'.mono ?_
   rintro e W1 ⟨rfl,m,os,hw⟩
   have hH1:Holds (Value.int .i64) W1 g 0 (sorted (endsOf f k)).toArray:=by
    rw [hw]
    exact holds_grow _ _ os g 0 _ (by rw [size_putRow]; exact hlt) (holds_putRow _ _ g 0 _ _ (holds_ahead _ wr m g 0 _ HO.out.2.1) (by
     simp))
   have hF1:Fr [] w W1:=by
    rw [hw]
    exact (fr_put HO.out.2.2 (Value.int .i64) _ m hbg).then0 (fr_grow _ _)
   have hlt1:g < W1.heap.size:=by
    rw [hw]
    have:=(fr_grow (putRow (Value.int .i64) (Sort.ahead wr m) g 0 ((endsOf f k).mergeSort fun x y=>decide (x≤y)).toArray) os).size
    rw [size_putRow] at this
    exact Nat.lt_of_lt_of_le hlt this
   clear hS' HO hw
   have hC:=AnyG.slices_Compact_int Tryz.laysSlN43_f315 g 0 cap (sorted (endsOf f k)) W1 hH1 (by rw [sorted_length,endsOf_length]; omega) (by rw [sorted_length,endsOf_length]; exact hcap)
   rw [sorted_length,endsOf_length] at hC
   have hC':Calls Tryz.prog 315 #[.slice (some ⟨g,0,none⟩) (2 * k) cap] W1 _:=hC
   have HO:=Lib.hid (And.intro hH1 hF1)
   clear hC hH1 hF1
   go_wp2_with (fail)
   refine hC'.mono ?_
   rintro e W2 ⟨rfl,q,hw⟩
   clear hC'
   go_wp2_with (fail)
   go_ret
   refine ⟨g,cap,rfl,hbg,?_,?_,?_,?_⟩
   ·rw [size_putRow]; exact hlt1
   ·have:=(placed_plL f k).len; omega
   ·have:=compact_le (sorted (endsOf f k))
    rw [sorted_length,endsOf_length] at this
    exact holds_row (holds_putRow _ _ g 0 _ _ (holds_ahead _ W1 q g 0 _ HO.out.1) (by simp [sorted_length,endsOf_length]; omega))
   ·exact fr_put HO.out.2 _ _ _ hbg
  ·have hk1:k < n:=by omega
   have c0:=(hF.cell (o:=off+k * 3) hB (by simp)).trans (HC.out (k * 3) (by omega))
   have c1:=(hF.cell (o:=off+k * 3+1) hB (by simp)).trans (HC.out (k * 3+1) (by omega))
   have c2:=(hF.cell (o:=off+k * 3+2) hB (by simp)).trans (HC.out (k * 3+2) (by omega))
   generalize hX:f (k * 3)=X at c0
   generalize hY:f (k * 3+1)=Y at c1
   generalize hZ:f (k * 3+2)=Z at c2
   have HXY:=Lib.hid (And.intro hY hZ)
   clear hX hY hZ
   have hsz:=hF.size
   have HO:=Lib.hid (And.intro hown hF)
   clear hown hF
   go_wp2_with (at_builtin; refine wpList_append_own _ rfl _ _ 161 rfl w.heap.size 2 i0 (.int .i64 0) 1 8 Tryz.underlying161 hi hz0 hz1 hz2 rfl (by decide) _ _ _ rfl ((HO.out.1.alloc _).alloc _) ⟨wr.heap.size+1,0,none⟩ 2 2 [.int .i64 Y,.int .i64 Z] rfl rfl (World.news_of_block (heap_alloc_two _ _ _)) (by intro u hu; rcases List.mem_cons.1 hu with rfl |hu; rfl; rcases List.mem_cons.1 hu with rfl |hu; rfl; cases hu) (by unfold maxLen; omega) (by omega) (by simp only [World.size_alloc]; omega) ?_; intro v' w1 hown' hgrow _)
   go_roundg (gk - 1)
   case measure=>omega
   case rel=>
    refine ⟨k+1,by omega,by go_num,?_,((HO.out.2.alloc _).alloc _).grown hgrow (own_base HO.out.1)⟩
    rw [endsOf,List.map_append,HXY.out.1,HXY.out.2,show 2 * (k+1)=2 * k+2 by omega]
    exact hown'
end Go.Proofs.YtdohkfgflpdkcaaGreatDoor
namespace Go.Proofs.YtdohkfgflpdkcaaGreatDoor
open Go.RowKit Go.Sort
attribute [local go_sem 10] cellOf frozenOf
attribute [local go_sem] heap_drew heap_drewN
def fl (n:Int):Nat:=FloatKind.f64.nearest n
def im:Bool→Nat
 |true=>4607182418800017408
 |false=>13830554455654793216
def ordN (i j:Nat):Ordering:=if i < j then .lt else if j < i then .gt else .eq
def ordB:Bool→Bool→Ordering
 |false,true=>.lt
 |true,false=>.gt
 |_,_=>.eq
def cmpI:Ordering→Int
 |.lt=>-1
 |.eq=>0
 |.gt=>1
theorem fl_all:((List.range 10).all fun i=>(List.range 10).all fun j=>FloatKind.f64.format.order (fl i) (fl j) == some (ordN i j))=true:=by kernel_rfl
theorem fl_ord {i j:Nat} (hi:i < 10) (hj:j < 10):FloatKind.f64.format.order (fl i) (fl j)=some (ordN i j):=by
 have:=List.all_eq_true.1 (List.all_eq_true.1 fl_all i (List.mem_range.2 hi)) j (List.mem_range.2 hj)
 exact eq_of_beq this
theorem im_ord:∀a b,FloatKind.f64.format.order (im a) (im b)=some (ordB a b)
 |true,true=>by kernel_rfl
 |true,false=>by kernel_rfl
 |false,true=>by kernel_rfl
 |false,false=>by kernel_rfl
theorem ordN_self (i:Nat):ordN i i= .eq:=by simp [ordN]
theorem isnan_no (a:Nat) (w:World) (ha:FloatKind.f64.format.order a a=some .eq):Calls Tryz.prog 364 #[.float .f64 a] w fun e w'=>e= .returned (.bool false)∧w'=w:=by
 go_enter Tryz.func364,Tryz.ntmps364
 go_wp2_with (fail)
 go_ret
 exact ⟨rfl,rfl⟩
theorem compare_any (a b:Nat) (o:Ordering) (w:World) (ha:FloatKind.f64.format.order a a=some .eq) (hb:FloatKind.f64.format.order b b=some .eq) (ho:FloatKind.f64.format.order a b=some o):
 Calls Tryz.prog 320 #[.float .f64 a,.float .f64 b] w fun e w'=>e= .returned (.int .i64 (cmpI o))∧w'=w:=by
 go_enter Tryz.func320,Tryz.ntmps320
 go_wp2_with (go_at_call 364; refine (isnan_no _ _ (by assumption)).mono ?_; rintro e w' ⟨rfl,rfl⟩)
 all_goals (go_ret; exact ⟨by cases o <;> simp_all [cmpI],rfl⟩)
theorem or_any (g c:Nat) (x y:Int) (w:World) (hb:w.heap[g]? =some (.cells #[.int .i64 x,.int .i64 y] 3 (0,0))):
 Calls Tryz.prog 319 #[.slice (some ⟨g,0,none⟩) 2 c] w fun e w'=>e= .returned (.int .i64 (if x=0 then y else x))∧w'=w:=by
 go_enter Tryz.func319,Tryz.ntmps319
 go_wp2_with (fail)
 go_loopg [8] 2 (fun g s8 wr=>∃k:Nat,k+g=2∧s8= .int .i64 k∧wr=w∧(0 < k→x=0)∧(1 < k→y=0))
 case atStart=>exact ⟨0,rfl,rfl,rfl,by omega,by omega⟩
 case round=>
  obtain ⟨k,hk,rfl,rfl,h1,h2⟩:=hrel
  rcases (show k=0∨k=1∨k=2 by omega) with rfl |rfl |rfl
  ·by_cases hx:x=0
   ·go_wp2_with (fail)
    go_roundg 1
    case measure=>omega
    case rel=>exact ⟨1,rfl,rfl,rfl,fun _=>hx,by omega⟩
   ·go_wp2_with (fail)
    go_ret
    exact ⟨by simp [hx],rfl⟩
  ·obtain rfl:=h1 (by omega)
   by_cases hx:y=0
   ·go_wp2_with (fail)
    go_roundg 0
    case measure=>omega
    case rel=>exact ⟨2,rfl,rfl,rfl,fun _=>by trivial,fun _=>hx⟩
   ·go_wp2_with (fail)
    go_ret
    exact ⟨by simp,rfl⟩
  ·obtain rfl:=h1 (by omega)
   obtain rfl:=h2 (by omega)
   go_wp2_with (fail)
   go_ret
   exact ⟨by simp,rfl⟩
abbrev E2:Type:=Fin 10×Bool
def encE (e:E2):Value:=.complex .f64 (fl e.1.1) (im e.2)
def cfE (a b:E2):Int:=if cmpI (ordN a.1.1 b.1.1)=0 then cmpI (ordB b.2 a.2) else cmpI (ordN a.1.1 b.1.1)
theorem encE_one:OneCell encE:=fun _=>rfl
theorem ends1_any (a b:E2) (w:World):Calls Tryz.prog 318 #[encE a,encE b] w fun e w'=>e= .returned (.int .i64 (cfE a b))∧∃os,w'=Sort.grow w os:=by
 obtain ⟨⟨i,hi⟩,s⟩:=a
 obtain ⟨⟨j,hj⟩,t⟩:=b
 have h1:=fl_ord hi hi
 have h2:=fl_ord hj hj
 have h3:=fl_ord hi hj
 rw [ordN_self] at h1 h2
 have h4:∀b,FloatKind.f64.format.order (im b) (im b)=some .eq:=fun b=>by rw [im_ord]; cases b <;> rfl
 have h5:=im_ord t s
 unfold encE
 simp only
 go_enter Tryz.func318,Tryz.ntmps318
 generalize hx:cmpI (ordN i j)=x
 generalize hy:cmpI (ordB t s)=y
 have c1:=fun w=>compare_any (fl i) (fl j) _ w h1 h2 h3
 have c2:=fun w=>compare_any (im t) (im s) _ w (h4 _) (h4 _) h5
 rw [hx] at c1
 rw [hy] at c2
 obtain ⟨z,hz⟩:∃z,(if x=0 then y else x)=z:=⟨_,rfl⟩
 have c3:=fun g c w h=>or_any g c x y w h
 rw [hz] at c3
 go_wp2_with (fail)
 refine (c1 _).mono ?_
 rintro e w' ⟨rfl,rfl⟩
 go_wp2_with (fail)
 refine (c2 _).mono ?_
 rintro e w' ⟨rfl,rfl⟩
 go_wp2_with (fail)
 refine (c3 _ _ _ (heap_alloc_new _ _)).mono ?_
 rintro e w' ⟨rfl,rfl⟩
 go_wp2_with (fail)
 go_ret
 exact ⟨by simp only [cfE,hx,hy,hz]; rfl,_,alloc_eq_grow _ _⟩
def keyE (a:E2):Int:=2 * (a.1.1:Int)+(if a.2 then 0 else 1)
theorem cfE_lt (a b:E2):ltOf cfE a b=decide (keyE a < keyE b):=by
 obtain ⟨⟨i,hi⟩,s⟩:=a
 obtain ⟨⟨j,hj⟩,t⟩:=b
 unfold ltOf cfE keyE ordN
 simp only
 by_cases h1:i < j
 ·simp only [h1,if_true,cmpI]
  cases s <;> cases t <;> simp [cmpI,ordB] <;> omega
 ·by_cases h2:j < i
  ·simp only [h1,h2,if_true,if_false,cmpI]
   cases s <;> cases t <;> simp [cmpI,ordB] <;> omega
  ·obtain rfl:i=j:=by omega
   simp only [h1,if_false,cmpI]
   cases s <;> cases t <;> simp [cmpI,ordB] <;> omega
theorem swoE:SWO (ltOf cfE):=⟨fun x=>by rw [cfE_lt]; simp,fun x y z=>by rw [cfE_lt,cfE_lt,cfE_lt]; simp; omega,fun x y z=>by rw [cfE_lt,cfE_lt,cfE_lt]; simp; omega⟩
theorem cmpE (g size:Nat) (w:World):CmpLays1 Tryz.prog 318 #[] encE cfE g 0 size w:=fun m os dk hs x y=>(ends1_any x y _).mono fun e w' ⟨h,os',hw⟩=>⟨h,0,os',hw⟩
end Go.Proofs.YtdohkfgflpdkcaaGreatDoor
namespace Go.Proofs.YtdohkfgflpdkcaaGreatDoor
open Go.RowKit Go.Sort
attribute [local go_sem 10] cellOf frozenOf
attribute [local go_sem] heap_drew heap_drewN
theorem rank_lt {L:List Int} {x:Int} (hx:x∈L):L.countP (· < x) < L.length:=by
 have h:=List.length_eq_countP_add_countP (p:=fun y=>decide (y < x)) (l:=L)
 have h2:0 < L.countP (fun y=>decide ¬(decide (y < x)=true)):=List.countP_pos_iff.2 ⟨x,hx,by simp⟩
 omega
theorem end_any (g c:Nat) (L:List Int) (x:Int) (b:Nat) (w:World) (hL:L.Pairwise (·≤·)) (hR:Row w g L) (hl:L.length≤10):
 Calls Tryz.prog 316 #[.slice (some ⟨g,0,none⟩) L.length c,.int .i64 x,.float .f64 b] w fun e w'=>e= .returned (.complex .f64 (fl (L.countP (· < x):Nat)) b)∧∃q,w'=w.drewN q:=by
 have hB:=AnyG.slices_BinarySearch_int Tryz.laysSlN49_f362 g 0 L.length c L x w (Nat.le_refl _) (by omega) (fun j hj=>by rw [Nat.zero_add]; exact hR j hj) (by rw [List.take_length]; exact hL)
 rw [List.take_length] at hB
 have hB':Calls Tryz.prog 362 #[.slice (some ⟨g,0,none⟩) L.length c,.int .i64 x] w _:=hB
 clear hB
 go_enter Tryz.func316,Tryz.ntmps316
 go_wp2_with (fail)
 refine hB'.mono ?_
 rintro e w' ⟨rfl,q,rfl⟩
 go_wp2_with (fail)
 go_ret
 exact ⟨rfl,q,rfl⟩
theorem end_at {w W:World} {g c:Nat} {L:List Int} {x:Int} {b:Nat} (hL:L.Pairwise (·≤·)) (hR:Row W g L) (hl:L.length≤10) (hw:w.heap=W.heap):
 Calls Tryz.prog 316 #[.slice (some ⟨g,0,none⟩) L.length c,.int .i64 x,.float .f64 b] w fun e w'=>e= .returned (.complex .f64 (fl (L.countP (· < x):Nat)) b)∧∃q,w'=w.drewN q:=
 end_any g c L x b w hL (fun j hj=>by have:=hR j hj; unfold World.cell? at *; rw [hw]; exact this) hl
end Go.Proofs.YtdohkfgflpdkcaaGreatDoor
namespace Go.Proofs.YtdohkfgflpdkcaaGreatDoor
open Go.RowKit Go.Sort
attribute [local go_sem 10] cellOf frozenOf
attribute [local go_sem] heap_drew heap_drewN
def rk (L:List Int) (x:Int):Fin 10:=⟨L.countP (· < x) % 10,Nat.mod_lt _ (by decide)⟩
def pairs (L:List Int) (f:Nat→Int):Nat→List E2
 |0=>[]
 |k+1=>pairs L f k++[(rk L (f (k * 3+1)),true),(rk L (f (k * 3+2)),false)]
theorem pairs_length (L f):∀k,(pairs L f k).length=2 * k
 |0=>rfl
 |k+1=>by rw [pairs,List.length_append,pairs_length L f k]; simp; omega
theorem rk_eq {L:List Int} {x:Int} (hx:x∈L) (hl:L.length≤10):((rk L x).1:Nat)=L.countP (· < x):=Nat.mod_eq_of_lt (by have:=rank_lt hx; omega)
theorem rk_lt {L:List Int} {x:Int} (hx:x∈L) (hl:L.length≤10):(rk L x).1 < L.length:=by rw [rk_eq hx hl]; exact rank_lt hx
theorem info335:(Tryz.prog.info? 335).map (fun i=>(i.zero,i.size,i.bytes))=some (some (.complex .f64 0 0),1,16):=by kernel_rfl
def En (f:Nat→Int) (n:Nat) (w:World) (e:Ending) (w':World):Prop:=∃g c xs,e= .returned (.slice (some ⟨g,0,none⟩) (2 * n) c)∧w.heap.size≤g∧g < w'.heap.size∧List.Perm xs (pairs (plL f n) f n)∧Holds encE w' g 0 xs.toArray∧Fr [] w w'
set_option maxHeartbeats 4000000 in
set_option maxRecDepth 20000 in
theorem ends_any (B off n c:Nat) (f:Nat→Int) (w:World) (hn:1≤n) (hn5:n≤5) (hB:B < w.heap.size) (hc:∀j,j < n * 3→w.cell? ⟨B,off+j,none⟩=some (.int .i64 (f j))):
 Calls Tryz.prog 236 #[.slice (some ⟨B,off,none⟩) n c] w (En f n w):=by
 obtain ⟨i0,hi,hz0,hz1,hz2⟩:=info_parts info335
 have hP:=places_any B off n c f w hn hn5 hB hc
 have HC:=Lib.hid hc
 clear hc
 go_enter Tryz.func236,Tryz.ntmps236
 go_wp2_with (fail)
 refine hP.mono ?_
 rintro e w1 ⟨g,gc,rfl,hg0,hg1,hgc,hR,hF1⟩
 clear hP
 obtain ⟨L,hL⟩:∃L,plL f n=L:=⟨_,rfl⟩
 have hpl:=placed_plL f n
 rw [hL] at hR hgc hpl
 simp only [hL]
 have HR:=Lib.hid (And.intro hR (And.intro hF1 hpl))
 have HL:=Lib.hid hL
 clear hR hF1 hpl hL
 go_wp2_with (fail)
 go_loopg [4,11] n (fun g' s4 s11 wr=>∃k:Nat,k+g'=n∧s11= .int .i64 k∧wr.ownsRow w1.heap.size 335 1 s4 (2 * k) ((pairs L f k).map encE)∧Fr [] w1 wr)
 case atStart=>exact ⟨0,by omega,rfl,World.ownsRow_nil _ _ _ _,Fr.refl _ _⟩
 case round=>
  obtain ⟨k,hk,rfl,hown,hF⟩:=hrel
  rcases Nat.eq_zero_or_pos gk with rfl |hp0
  ·obtain rfl:k=n:=by omega
   obtain ⟨hl,g',cap,rfl,hbg,hlt,hcap,hH⟩:=own_holds encE hown (by omega)
   have hF2:Fr [] w wr:=HR.out.2.1.then0 hF
   have hbg2:w.heap.size≤g':=Nat.le_trans HR.out.2.1.size hbg
   have hsz:(pairs L f k).toArray.size=2 * k:=by simpa using hl
   have hS:=Any.slices_SortFunc Tryz.laysSlF6_f317 encE encE_one cfE swoE 318 #[] g' 0 cap (pairs L f k).toArray wr (enters_of Tryz.func318 (by kernel_rfl) rfl) (cmpE g' _ wr) hH hlt (by rw [hsz]; omega)
   rw [hsz] at hS
   have hS':Calls Tryz.prog 317 #[.slice (some ⟨g',0,none⟩) (2 * k) cap,.func (.func 318) #[] #[]] wr _:=hS
   have HO:=Lib.hid (And.intro hF2 (And.intro hH hsz))
   clear hown hF hF2 hS hH hsz
   go_wp2_with (fail)
   refine hS'.mono ?_
   rintro e W1 ⟨rfl,d',m,os,hperm,_,hw⟩
   clear hS'
   go_wp2_with (fail)
   go_ret
   refine ⟨g',cap,d'.toList,rfl,hbg2,?_,?_,?_,?_⟩
   ·have:=(fr_grow (putRow encE (Sort.ahead wr m) g' 0 d') os).size
    rw [size_putRow] at this
    exact Nat.lt_of_lt_of_le hlt this
   ·have hp:=hperm.2.2
    rw [HL.out]
    have e1:d'.extract 0 (2 * k)=d':=by rw [show 2 * k=d'.size from (hperm.1.trans HO.out.2.2).symm]; simp
    have e2:(pairs L f k).toArray.extract 0 (2 * k)=(pairs L f k).toArray:=by rw [show 2 * k=(pairs L f k).toArray.size from HO.out.2.2.symm]; simp
    rw [e1,e2] at hp
    simpa using hp
   ·exact holds_grow _ _ os g' 0 _ (by rw [size_putRow]; exact hlt) (holds_putRow _ _ g' 0 _ _ (holds_ahead _ wr m g' 0 _ HO.out.2.1) (by simpa using hperm.1))
   ·exact (fr_put HO.out.1 _ _ m hbg2).then0 (fr_grow _ _)
  ·have hk1:k < n:=by omega
   have c0:=((HR.out.2.1.then0 hF).cell (o:=off+k * 3) hB (by simp)).trans (HC.out (k * 3) (by omega))
   have c1:=((HR.out.2.1.then0 hF).cell (o:=off+k * 3+1) hB (by simp)).trans (HC.out (k * 3+1) (by omega))
   have c2:=((HR.out.2.1.then0 hF).cell (o:=off+k * 3+2) hB (by simp)).trans (HC.out (k * 3+2) (by omega))
   generalize hX:f (k * 3)=X at c0
   generalize hY:f (k * 3+1)=Y at c1
   generalize hZ:f (k * 3+2)=Z at c2
   have HXY:=Lib.hid (And.intro hY hZ)
   clear hX hY hZ
   have HO:=Lib.hid (And.intro hown hF)
   clear hown hF
   go_upto_region 6 with fail
   have hs0:=heap_alloc_new wr (.cells #[.int .i64 X,.int .i64 Y,.int .i64 Z] 73)
   have hFa:=(Fr.refl [] wr).alloc (.cells #[.int .i64 X,.int .i64 Y,.int .i64 Z] 73)
   have hOa:=HO.out.1.alloc (.cells #[.int .i64 X,.int .i64 Y,.int .i64 Z] 73)
   have hgl:g < wr.heap.size:=Nat.lt_of_lt_of_le hg1 HO.out.2.size
   have hRa:Row (wr.alloc (.cells #[.int .i64 X,.int .i64 Y,.int .i64 Z] 73)) g L:=((HR.out.1.fr HO.out.2 hg1).fr hFa hgl)
   have hbs:w1.heap.size≤(wr.alloc (.cells #[.int .i64 X,.int .i64 Y,.int .i64 Z] 73)).heap.size:=Nat.le_trans HO.out.2.size hFa.size
   generalize hB':wr.heap.size=B' at *
   generalize wr.alloc (.cells #[.int .i64 X,.int .i64 Y,.int .i64 Z] 73)=W at *
   have HW:=Lib.hid (And.intro hFa (And.intro hOa (And.intro hRa hbs)))
   have hl10:L.length≤10:=by have:=HR.out.2.2.len; omega
   have hrs:=Lib.hid HR.out.2.2.rises
   clear hFa hOa hRa hbs
   go_region_law (first
    |(go_simp; go_at_call 316; refine Calls.mono (end_at hrs.out HW.out.2.2.1 hl10 (by rfl)) ?_; rintro e w' ⟨rfl,q,rfl⟩)
    |(refine step_append_lies _ rfl _ _ 336 rfl w1.heap.size 335 i0 (.complex .f64 0 0) 1 16 Tryz.underlying336 hi hz0 hz1 hz2 rfl (by decide) _ (2 * k) _ rfl (HW.out.2.1.alloc _) ⟨W.heap.size,0,none⟩ 2 2 [.complex .f64 (fl (L.countP (· < Y):Nat)) (im true),.complex .f64 (fl (L.countP (· < Z):Nat)) (im false)] rfl rfl (World.news_of_block (heap_alloc_new W _)) (by intro u hu; rcases List.mem_cons.1 hu with rfl |hu; rfl; rcases List.mem_cons.1 hu with rfl |hu; rfl; cases hu) (by decide) (by unfold maxLen; omega) (by omega) (by have:=HW.out.2.2.2; rw [World.size_alloc]; exact Nat.le_succ_of_le this) _ rfl ?_; intro g2 c2 w2 hown2 hgrow2 hor2 hlt2))
   all_goals go_wp2_with (fail)
   all_goals
    go_roundg (gk - 1)
    case measure=>omega
    case rel=>
     refine ⟨k+1,by omega,by go_num,?_,?_⟩
     ·have hm:=HR.out.2.2.mem k hk1
      rw [pairs,List.map_append,HXY.out.1,HXY.out.2]
      rw [HXY.out.1,HXY.out.2] at hm
      simp only [List.map_cons,List.map_nil,encE,rk_eq hm.1 hl10,rk_eq hm.2 hl10]
      exact hown2
     ·have hF:=HO.out.2.then0 HW.out.1
      exact ((hF.drewN _).alloc _).grown hgrow2 (own_base HO.out.1)
end Go.Proofs.YtdohkfgflpdkcaaGreatDoor
namespace Go.Proofs.YtdohkfgflpdkcaaGreatDoor
open Go.RowKit Go.Sort
def hf (n:Nat):Nat:=(FloatKind.f64.format.div (fl n) 4611686018427387904).getD 0
theorem hf_all:((List.range 6).all fun n=>FloatKind.f64.format.div (fl n) 4611686018427387904 == some (hf n))=true:=by kernel_rfl
theorem hf_div {n:Nat} (h:n < 6):FloatKind.f64.format.div (fl n) 4611686018427387904=some (hf n):=eq_of_beq (List.all_eq_true.1 hf_all n (List.mem_range.2 h))
theorem addN_all:((List.range 100).all fun a=>(List.range 10).all fun r=>FloatKind.f64.format.add (fl a) (fl r) == some (fl (a+r:Nat)))=true:=by kernel_rfl
theorem addN {a r:Nat} (ha:a < 100) (hr:r < 10):FloatKind.f64.format.add (fl a) (fl r)=some (fl (a+r:Nat)):=eq_of_beq (List.all_eq_true.1 (List.all_eq_true.1 addN_all a (List.mem_range.2 ha)) r (List.mem_range.2 hr))
def up:Bool→Int
 |true=>1
 |false=>-1
theorem addI_all:((List.range 13).all fun a=>FloatKind.f64.format.add (fl ((a:Int) - 6)) (im true) == some (fl ((a:Int) - 6+1))&&FloatKind.f64.format.add (fl ((a:Int) - 6)) (im false) == some (fl ((a:Int) - 6+-1)))=true:=by kernel_rfl
theorem addI {s:Int} (h1: -6≤s) (h2:s≤6) (b:Bool):FloatKind.f64.format.add (fl s) (im b)=some (fl (s+up b)):=by
 have h:=List.all_eq_true.1 addI_all (s+6).toNat (List.mem_range.2 (by omega))
 rw [show (((s+6).toNat:Nat):Int) - 6=s by omega] at h
 rw [Bool.and_eq_true] at h
 cases b
 ·exact eq_of_beq h.2
 ·exact eq_of_beq h.1
def ordH (s:Int) (n:Nat):Ordering:=if (n:Int) < 2 * s then .gt else if 2 * s < n then .lt else .eq
theorem ordH_all:((List.range 13).all fun a=>(List.range 6).all fun n=>FloatKind.f64.format.order (fl ((a:Int) - 6)) (hf n) == some (ordH ((a:Int) - 6) n))=true:=by kernel_rfl
theorem ordH_eq {s:Int} {n:Nat} (h1: -6≤s) (h2:s≤6) (hn:n < 6):FloatKind.f64.format.order (fl s) (hf n)=some (ordH s n):=by
 have h:=List.all_eq_true.1 (List.all_eq_true.1 ordH_all (s+6).toNat (List.mem_range.2 (by omega))) n (List.mem_range.2 hn)
 rw [show (((s+6).toNat:Nat):Int) - 6=s by omega] at h
 exact eq_of_beq h
theorem toInt_all:((List.range 10).all fun r=>(FloatKind.f64.decode (fl r)).toInt .zero == some (r:Int))=true:=by kernel_rfl
theorem toInt_eq {r:Nat} (h:r < 10):(FloatKind.f64.decode (fl r)).toInt .zero=some (r:Int):=eq_of_beq (List.all_eq_true.1 toInt_all r (List.mem_range.2 h))
def net (l:List E2):Int:=(l.countP (·.2):Int) - (l.countP (fun e=>!e.2):Int)
def rsum (l:List E2):Nat:=(l.map fun e=>e.1.1).sum
theorem net_snoc (l:List E2) (e:E2):net (l++[e])=net l+up e.2:=by
 unfold net
 rw [List.countP_append,List.countP_append]
 obtain ⟨r,b⟩:=e
 cases b <;> simp [up] <;> omega
theorem rsum_snoc (l:List E2) (e:E2):rsum (l++[e])=rsum l+e.1.1:=by simp [rsum]
theorem pairs_count (L f):∀k,(pairs L f k).countP (·.2)=k∧(pairs L f k).countP (fun e=>!e.2)=k
 |0=>⟨rfl,rfl⟩
 |k+1=>by
  have:=pairs_count L f k
  rw [pairs,List.countP_append,List.countP_append]
  simp [this.1,this.2]
theorem net_perm {l m:List E2} (h:l.Perm m):net l=net m:=by unfold net; rw [h.countP_eq,h.countP_eq]
theorem net_pairs (L f k):net (pairs L f k)=0:=by unfold net; rw [(pairs_count L f k).1,(pairs_count L f k).2]; omega
theorem net_take {xs:List E2} {L f k} (h:xs.Perm (pairs L f k)) (i:Nat): -(k:Int)≤net (xs.take i)∧net (xs.take i)≤k:=by
 have h1:(xs.take i).countP (·.2)≤xs.countP (·.2):=(List.take_sublist i xs).countP_le
 have h2:(xs.take i).countP (fun e=>!e.2)≤xs.countP (fun e=>!e.2):=(List.take_sublist i xs).countP_le
 rw [h.countP_eq,(pairs_count L f k).1] at h1
 rw [h.countP_eq,(pairs_count L f k).2] at h2
 unfold net
 omega
theorem rsum_take (xs:List E2):∀i,rsum (xs.take i)≤9 * i
 |0=>by simp [rsum]
 |i+1=>by
  have:=rsum_take xs i
  rcases Nat.lt_or_ge i xs.length with h |h
  ·rw [List.take_succ_eq_append_getElem h,rsum_snoc]
   have:=(xs[i].1).2
   omega
  ·rw [List.take_of_length_le (by omega)]
   rw [List.take_of_length_le h] at this
   omega
theorem pairs_rank {L:List Int} {f:Nat→Int} {n:Nat} (h:Placed f n L) (hl:L.length≤10):∀{k},k≤n→∀e,e∈pairs L f k→e.1.1 < L.length
 |0,_,e,he=>by cases he
 |k+1,hk,e,he=>by
  rw [pairs,List.mem_append] at he
  rcases he with he |he
  ·exact pairs_rank h hl (by omega) e he
  ·have hm:=h.mem k (by omega)
   rcases List.mem_cons.1 he with rfl |he
   ·exact rk_lt hm.1 hl
   ·rcases List.mem_cons.1 he with rfl |he
    ·exact rk_lt hm.2 hl
    ·cases he
theorem compact_of {zs:List Int} {x:Int} (h:x∈Lib.compact zs):x∈zs:=by
 obtain ⟨j,hj,rfl⟩:=List.mem_map.1 h
 have hj:=List.mem_range.1 (List.mem_filter.1 hj).1
 rw [getElem!_pos _ _ (by simpa using hj)]
 simp
theorem endsOf_of {f:Nat→Int} {x:Int}:∀{k},x∈endsOf f k→∃j,j < k * 3∧x=f j
 |k+1,h=>by
  rw [endsOf,List.mem_append] at h
  rcases h with h |h
  ·obtain ⟨j,hj,e⟩:=endsOf_of h
   exact ⟨j,by omega,e⟩
  ·rcases List.mem_cons.1 h with rfl |h
   ·exact ⟨_,by omega,rfl⟩
   ·rcases List.mem_cons.1 h with rfl |h
    ·exact ⟨_,by omega,rfl⟩
    ·cases h
theorem plL_of {f:Nat→Int} {n:Nat} {x:Int} (h:x∈plL f n):∃j,j < n * 3∧x=f j:=endsOf_of (sorted_mem.1 (compact_of h))
end Go.Proofs.YtdohkfgflpdkcaaGreatDoor
