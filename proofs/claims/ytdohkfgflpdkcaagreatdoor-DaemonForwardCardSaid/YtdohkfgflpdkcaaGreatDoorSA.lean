/-
  PROVED HERE: a part of the proof of DaemonForward (texts S1, S2, S3, S4, S5, S6, S7, S8, S9 of the prover, joined). No condition of its own.
-/
import GoSem.Step
import Derived.Orders
import Derived.KernelRfl
import Derived.Calls
import Derived.Laws.CopyRow
import Derived.Laws.Rows
import Derived.Laws.BytesString
set_option linter.unusedVariables false
set_option linter.unusedSimpArgs false
namespace Go.Eng
inductive T (α:Type) where
 |leaf
 |node (l:T α) (v:Option α) (r:T α)
noncomputable def T.get {α:Type} (t:T α):Nat→Option α:=
 T.rec (motive:=fun _=>Nat→Option α) (fun _=>none)
  (fun _ v _ gl gr n=>Bool.rec (Bool.rec (gl (Nat.div n 2)) (gr (Nat.pred (Nat.div n 2))) (Nat.beq (Nat.mod n 2) 0)) v (Nat.beq n 0)) t
noncomputable def T.one {α:Type} (f:Nat):Nat→Option α→T α:=
 Nat.rec (motive:=fun _=>Nat→Option α→T α) (fun _ _=>.leaf)
  (fun _ ih n v=>Bool.rec (Bool.rec (.node (ih (Nat.div n 2) v) none .leaf) (.node .leaf none (ih (Nat.pred (Nat.div n 2)) v)) (Nat.beq (Nat.mod n 2) 0)) (.node .leaf v .leaf) (Nat.beq n 0)) f
noncomputable def T.setK {α β:Type} (t:T α):Nat→Option α→(T α→β)→β:=
 T.rec (motive:=fun _=>Nat→Option α→(T α→β)→β) (fun n v k=>k (T.one (Nat.succ n) n v))
  (fun l o r sl sr n v k=>Bool.rec (Bool.rec (sl (Nat.div n 2) v fun l'=>k (.node l' o r)) (sr (Nat.pred (Nat.div n 2)) v fun r'=>k (.node l o r')) (Nat.beq (Nat.mod n 2) 0)) (k (.node l v r)) (Nat.beq n 0)) t
noncomputable def forceN {β:Type} (n:Nat) (k:Nat→β):β:=Nat.rec (motive:=fun _=>β) (k 0) (fun m _=>k (Nat.succ m)) n
noncomputable def forceI {β:Type} (n:Int) (k:Int→β):β:=Int.rec (motive:=fun _=>β) (fun m=>forceN m fun m=>k (.ofNat m)) (fun m=>forceN m fun m=>k (.negSucc m)) n
noncomputable def forceS {β:Type} (v:Value) (k:Value→β):β:=
 match v with
 |.int q n=>forceI n fun n=>k (.int q n)
 |.bool b=>Bool.rec (k (.bool false)) (k (.bool true)) b
 |.pointer (some ⟨b,o,s⟩)=>forceN b fun b=>forceN o fun o=>k (.pointer (some ⟨b,o,s⟩))
 |.slice (some ⟨b,o,s⟩) l c=>forceN b fun b=>forceN o fun o=>forceN l fun l=>forceN c fun c=>k (.slice (some ⟨b,o,s⟩) l c)
 |.map (some b)=>forceN b fun b=>k (.map (some b))
 |.iface 1 (.tuple ⟨[.int q l,.int r h]⟩)=>forceI l fun l=>forceI h fun h=>k (.iface 1 (.tuple ⟨[.int q l,.int r h]⟩))
 |v=>k v
noncomputable def forceL {β:Type} (l:List Value) (k:List Value→β):β:=
 List.rec (motive:=fun _=>(List Value→β)→β) (fun k=>k []) (fun x _ ih k=>forceS x fun x=>ih fun l=>k (x::l)) l k
noncomputable def force {β:Type} (v:Value) (k:Value→β):β:=
 match v with
 |.agg ⟨cs⟩=>forceL cs fun cs=>k (.agg ⟨cs⟩)
 |.tuple ⟨cs⟩=>forceL cs fun cs=>k (.tuple ⟨cs⟩)
 |v=>forceS v k
def nth {α:Type}:List α→Nat→Option α
 |[],_=>none
 |x::l,n=>match n with |0=>some x |n+1=>nth l n
def cut {α:Type} (l:List α) (o n:Nat):List α:=(l.drop o).take n
def lay {α:Type}:List α→Nat→List α→List α
 |[],_,_=>[]
 |x::l,0,[]=>x::l
 |_::l,0,y::ys=>y::lay l 0 ys
 |x::l,n+1,ys=>x::lay l n ys
structure E where
 key:Value
 val:Value
 born:Nat
inductive O where
 |cells (c:List Value)
 |ro (c:List Value)
 |opn (z:Nat) (c:List Value)
 |map (es:List E) (clock:Nat)
 |loop (state:LoopState) (pending:Option Code) (fn:FuncId) (size:Nat) (tmps:T Value) (params:List Tmp) (assign body:Code)
 |deferred
 |frz (p:List Value) (lo hi:Nat) (own:Bool)
 |mapU (k:IntKind) (v:Value)
structure H where
 t:T O
 next:Nat
structure A where
 size:Nat
 t:T Value
 ds:List Nat
def flat:Nat→Value→Bool
 |0,_=>false
 |n+1,v=>match v with
  |.bool _ |.int _ _ |.float _ _ |.complex _ _ _ |.string _ |.pointer none |.map none |.nilFunc |.nilIface |.slice none _ _=>true
  |.agg ⟨cs⟩=>cs.all (flat n)
  |.tuple ⟨cs⟩=>cs.all (flat n)
  |.func (.func _) ⟨[]⟩ ⟨[]⟩=>true
  |_=>false
noncomputable def A.get (a:A) (i:Nat):Value:=(a.t.get i).getD undef
def unk:Value:=.chan none
noncomputable def A.ev (a:A):Operand→Value
 |.tmp t=>a.get t
 |.const v=>match flat 4 v with |true=>v |false=>unk
 |.global g=>match Nat.blt g 64 with |true=>.pointer (some ⟨g,0,none⟩) |false=>unk
 |.func f=>.func (.func f) #[] #[]
inductive Eff where
 |rd (r:List Nat)
 |new (o:O)
 |grow (o:O)
 |set (b:Nat) (o:O)
 |shift (b o:Nat) (x:O)
def big:Nat:=18446744073709551616
def prog {α:Type} (p:Program):Sem α→Option α
 |.pure a=>some a
 |.program k=>prog p (k p)
 |.mark _ k=>prog p k
 |_=>none
def flats (l:List Value):Bool:=l.all (flat 4)
def sizeT (p:Program) (t:TypeId):Option Nat:=(p.info? t).map (·.size)
def aggT (p:Program) (t:TypeId):Option Bool:=(p.underlying t).map fun |.struct _ |.array _ _=>true |_=>false
def zeroT (p:Program) (t:TypeId):Option Value:=match (p.info? t).bind (·.zero) with |some z=>if flat 4 z then some z else none |none=>none
def cellsL (v:Value):List Value:=match v with |.agg ⟨cs⟩=>cs |v=>[v]
def fromCells (p:Program) (t:TypeId) (cs:List Value) (o:Nat):Option Value:=
 match aggT p t with
 |some false=>nth cs o
 |some true=>match sizeT p t with
  |some n=>if Nat.ble (Nat.add o n) cs.length then some (.agg ⟨cut cs o n⟩) else none
  |none=>none
 |none=>none
def times {α:Type} (l:List α):Nat→List α
 |0=>[]
 |n+1=>l++times l n
noncomputable def rowOf (h:T O) (b:Nat):Option (List Value):=match h.get b with
 |some (.cells c)=>some c
 |some (.ro c)=>some c
 |some (.opn _ c)=>some c
 |some (.frz p lo hi _)=>match Nat.blt 0 lo&&Nat.ble lo hi with |true=>some (times p lo) |false=>none
 |_=>none
noncomputable def rowAt (h:T O) (b:Nat):Option (List Value×(List Value→O)):=match h.get b with
 |some (.cells c)=>some (c,.cells)
 |some (.opn z c)=>some (c,.opn z)
 |_=>none
def pickE (c x y:Value):Option (Value×Eff):=match c with
 |.bool true=>some (x,.rd [])
 |.bool false=>some (y,.rd [])
 |_=>none
def ptr (b:Nat):Value:=.pointer (some ⟨b,0,none⟩)
def allocE (p:Program) (nx:Nat) (t:TypeId):Option (Value×Eff):=match zeroT p t with
 |some z=>some (ptr nx,.new (.cells (cellsL z)))
 |none=>none
def known:Value→Bool
 |.chan none=>false
 |_=>true
def fillL (place:Nat→Option (Nat×Nat)):List (Nat×Value)→List Value→Option (List Value)
 |[],cs=>some cs
 |(i,v)::l,cs=>match place i with
  |none=>none
  |some (o,n)=>match known v&&(Nat.beq (cellsL v).length n&&Nat.ble (Nat.add o n) cs.length) with
   |true=>fillL place l (lay cs o (cellsL v))
   |false=>none
def placesL (p:Program):List Field→Option (List (Nat×Nat))
 |[]=>some []
 |f::l=>match sizeT p f.type,placesL p l with
  |some n,some r=>some ((f.offset,n)::r)
  |_,_=>none
noncomputable def buildE (p:Program) (t:TypeId) (ps:List (Nat×Value)):Option (Value×Eff):=match zeroT p t,p.underlying t with
 |some z,some (.struct ⟨fs⟩)=>match placesL p fs with
  |some pl=>match fillL (nth pl) ps (cellsL z) with
   |some cs=>some (.agg ⟨cs⟩,.rd [])
   |none=>none
  |none=>none
 |some z,some (.array _ e)=>match sizeT p e with
  |some n=>match fillL (fun i=>some (Nat.mul i n,n)) ps (cellsL z) with
   |some cs=>some (.agg ⟨cs⟩,.rd [])
   |none=>none
  |none=>none
 |_,_=>none
noncomputable def buildSliceE (p:Program) (nx:Nat) (t:TypeId) (len:Nat) (ps:List (Nat×Value)):Option (Value×Eff):=match p.underlying t with
 |some (.slice e)=>match sizeT p e,zeroT p e with
  |some n,some z=>match Nat.ble (Nat.mul len n) 65536&&Nat.beq (cellsL z).length n&&Nat.blt 0 n with
   |true=>match fillL (fun i=>some (Nat.mul i n,n)) ps (times (cellsL z) len) with
    |some cs=>some (.slice (some ⟨nx,0,none⟩) len len,.new (.cells cs))
    |none=>none
   |false=>none
  |_,_=>none
 |_=>none
noncomputable def loadE (p:Program) (h:T O) (t:TypeId) (x:Value):Option (Value×Eff):=match x with
 |.pointer (some ⟨b,o,none⟩)=>match rowOf h b with
  |some c=>match fromCells p t c o with
   |some v=>some (v,.rd [b])
   |none=>none
  |none=>none
 |_=>none
def oneV:Value→Bool
 |.agg _ |.tuple _ |.chan none=>false
 |_=>true
noncomputable def storeE (p:Program) (h:T O) (t:TypeId) (x v:Value):Option (Value×Eff):=match x with
 |.pointer (some ⟨b,o,none⟩)=>match rowAt h b,sizeT p t with
  |some (c,g),some n=>match Nat.beq (cellsL v).length n&&(Nat.ble (Nat.add o n) c.length&&(cellsL v).all oneV) with
   |true=>forceL (lay c o (cellsL v)) fun c=>some (undef,.set b (g c))
   |false=>none
  |_,_=>none
 |_=>none
def nilCheckE (x:Value):Option (Value×Eff):=match x with
 |.pointer (some a)=>some (.pointer (some a),.rd [])
 |.func (.func f) x y=>some (.func (.func f) x y,.rd [])
 |.map r=>some (.map r,.rd [])
 |.slice a l c=>some (.slice a l c,.rd [])
 |_=>none
def flatE (p:Program) (s:Sem Value):Option (Value×Eff):=match prog p s with
 |some v=>match flat 4 v with |true=>some (v,.rd []) |false=>none
 |none=>none
noncomputable def intE (p:Program) (op:BinOp) (t:TypeId) (k:IntKind) (a b:Int) (k':IntKind):Option (Value×Eff):=
 match op with
 |.add=>match decide (k=k') with |true=>some (.int k (k.wrap (Int.add a b)),.rd []) |false=>none
 |.sub=>match decide (k=k') with |true=>some (.int k (k.wrap (Int.sub a b)),.rd []) |false=>none
 |op=>flatE p (binOp op t (.int k a) (.int k' b))
def eqE (p:Program) (t:TypeId) (x y:Value):Option Bool:=match p.underlying t,x,y with
 |some (.pointer _),.pointer none,.pointer none=>some true
 |some (.pointer _),.pointer none,.pointer (some _)=>some false
 |some (.pointer _),.pointer (some _),.pointer none=>some false
 |some (.map _ _),.map none,.map none=>some true
 |some (.map _ _),.map none,.map (some _)=>some false
 |some (.map _ _),.map (some _),.map none=>some false
 |some (.slice _),.slice none _ _,.slice none _ _=>some true
 |some (.slice _),.slice none _ _,.slice (some ⟨_,_,none⟩) _ _=>some false
 |some (.slice _),.slice (some ⟨_,_,none⟩) _ _,.slice none _ _=>some false
 |some (.slice _),.slice none _ _,.slice (some ⟨_,_,some 0⟩) _ _=>some false
 |some (.slice _),.slice (some ⟨_,_,some 0⟩) _ _,.slice none _ _=>some false
 |some (.func _ _ _),.nilFunc,.nilFunc=>some true
 |some (.func _ _ _),.nilFunc,.func _ _ _=>some false
 |some (.func _ _ _),.func _ _ _,.nilFunc=>some false
 |_,_,_=>none
noncomputable def binE (p:Program) (op:BinOp) (t:TypeId) (xo yo:Operand) (x y:Value):Option (Value×Eff):=match x,y with
 |.int k a,.int k' b=>intE p op t k a b k'
 |x,y=>match flat 4 x&&flat 4 y with
  |true=>flatE p (do eqGuard op t xo yo x y; binOp op t x y)
  |false=>match op with
   |.eql=>(eqE p t x y).map fun b=>(.bool b,.rd [])
   |.neq=>(eqE p t x y).map fun b=>(.bool !b,.rd [])
   |_=>none
noncomputable def fieldAddrE (p:Program) (t:TypeId) (x:Value) (f:Nat):Option (Value×Eff):=match x,p.underlying t with
 |.pointer (some ⟨b,o,none⟩),some (.struct ⟨fs⟩)=>match nth fs f with
  |some f=>match sizeT p f.type with
   |some (n+1)=>forceN (Nat.add o f.offset) fun o=>some (.pointer (some ⟨b,o,none⟩),.rd [])
   |_=>none
  |none=>none
 |_,_=>none
def fieldE (p:Program) (t:TypeId) (x:Value) (f:Nat):Option (Value×Eff):=match x,p.underlying t with
 |.agg ⟨cs⟩,some (.struct ⟨fs⟩)=>match nth fs f with
  |some f=>(fromCells p f.type cs f.offset).map fun v=>(v,.rd [])
  |none=>none
 |_,_=>none
def toNat? :Value→Option Nat
 |.int _ (.ofNat n)=>some n
 |_=>none
noncomputable def indexAddrE (p:Program) (t:TypeId) (x ix:Value):Option (Value×Eff):=match toNat? ix,p.underlying t,x with
 |some i,some (.array len e),.pointer (some ⟨b,o,none⟩)=>match sizeT p e,Nat.blt i len with
  |some n,true=>forceN (Nat.add o (Nat.mul i n)) fun o=>some (.pointer (some ⟨b,o,none⟩),.rd [])
  |_,_=>none
 |some i,some (.slice e),.slice (some ⟨b,o,none⟩) len _=>match sizeT p e,Nat.blt i len with
  |some n,true=>forceN (Nat.add o (Nat.mul i n)) fun o=>some (.pointer (some ⟨b,o,none⟩),.rd [])
  |_,_=>none
 |_,_,_=>none
def indexE (p:Program) (t:TypeId) (x ix:Value):Option (Value×Eff):=match toNat? ix,p.underlying t,x with
 |some i,some (.array len e),.agg ⟨cs⟩=>match sizeT p e,Nat.blt i len with
  |some n,true=>(fromCells p e cs (Nat.mul i n)).map fun v=>(v,.rd [])
  |_,_=>none
 |some i,some .string,.string s=>flatE p (Instr.index t x ix)
 |_,_,_=>none
def boundsE (len cap:Nat) (lo hi mx:Option Value):Option (Nat×Nat×Nat):=
 match (match mx,hi with
  |none,none=>some (len,cap)
  |none,some v=>match toNat? v with
   |some h=>match Nat.ble h cap with |true=>some (h,cap) |false=>none
   |none=>none
  |some u,some v=>match toNat? u,toNat? v with
   |some m,some h=>match Nat.ble m cap&&Nat.ble h m with |true=>some (h,m) |false=>none
   |_,_=>none
  |some _,none=>none) with
 |none=>none
 |some (h,m)=>match lo with
  |none=>some (0,h,m)
  |some v=>match toNat? v with
   |some l=>match Nat.ble l h with |true=>some (l,h,m) |false=>none
   |none=>none
def cutA (b o l m z:Nat):Addr:=match Nat.beq m l with |true=>⟨b,o,none⟩ |false=>⟨b,Nat.add o (Nat.mul l z),none⟩
def flatO:Option Value→Bool
 |none=>true
 |some v=>flat 4 v
noncomputable def sliceE (p:Program) (h:T O) (t:TypeId) (x:Value) (lo hi mx:Option Value):Option (Value×Eff):=match p.underlying t,x with
 |some .string,.string _=>match flatO lo&&(flatO hi&&flatO mx) with
  |true=>flatE p (Instr.sliceAt t x lo hi mx)
  |false=>none
 |some (.array n e),.pointer (some ⟨b,o,none⟩)=>match sizeT p e,boundsE n n lo hi mx with
  |some z,some (l,h,m)=>match Nat.blt m big with
   |true=>forceN l fun l=>forceN h fun h=>forceN m fun m=>some (.slice (some (cutA b o l m z)) (Nat.sub h l) (Nat.sub m l),.rd [])
   |false=>none
  |_,_=>none
 |some (.slice e),.slice (some ⟨b,o,none⟩) len cap=>match Nat.blt cap big with
  |true=>match sizeT p e,boundsE len cap lo hi mx with
   |some z,some (l,h,m)=>forceN l fun l=>forceN h fun h=>forceN m fun m=>some (.slice (some (cutA b o l m z)) (Nat.sub h l) (Nat.sub m l),.rd [])
   |_,_=>none
  |false=>match sizeT p e,boundsE len (Nat.sub cap big) lo hi mx,h.get b with
   |some z,some (l,h,m),some (.opn z' _)=>match Nat.beq z z',mx with
    |true,some _=>match Nat.blt m big with
     |true=>forceN l fun l=>forceN h fun h=>forceN m fun m=>some (.slice (some (cutA b o l m z)) (Nat.sub h l) (Nat.sub m l),.rd [])
     |false=>none
    |true,none=>match Nat.beq m l&&Nat.blt 0 l with
     |true=>some (.slice (some ⟨b,o,some 0⟩) 0 big,.rd [])
     |false=>forceN l fun l=>forceN h fun h=>some (.slice (some ⟨b,Nat.add o (Nat.mul l z),none⟩) (Nat.sub h l) (Nat.sub cap l),.rd [b])
    |false,_=>none
   |_,_,_=>none
 |some (.slice e),.slice none 0 0=>match sizeT p e,boundsE 0 0 lo hi mx with
  |some _,some (0,0,0)=>some (.slice none 0 0,.rd [])
  |_,_=>none
 |_,_=>none
noncomputable def makeSliceE (p:Program) (nx:Nat) (t:TypeId) (l c:Value):Option (Value×Eff):=match p.underlying t,toNat? l,toNat? c with
 |some (.slice e),some l,some c=>match p.info? e,zeroT p e with
  |some i,some z=>match Nat.ble l c&&(Nat.ble (Nat.mul c i.bytes) 1000000&&(Nat.ble c 65536&&(Nat.beq (cellsL z).length i.size&&Nat.blt 0 i.size))) with
   |true=>some (.slice (some ⟨nx,0,none⟩) l c,.new (.cells (times (cellsL z) c)))
   |false=>none
  |_,_=>none
 |_,_,_=>none
def keyEq:Value→Value→Option Bool
 |.int k a,.int k' b=>match decide (k=k') with |true=>some (decide (a=b)) |false=>none
 |_,_=>none
def findE (k:Value):List E→Nat→Option (Option (Nat×Value))
 |[],_=>some none
 |e::es,i=>match keyEq k e.key with
  |some true=>some (some (i,e.val))
  |some false=>findE k es (Nat.succ i)
  |none=>none
def keyT (p:Program) (t:TypeId):Option TypeId:=match p.underlying t with
 |some (.map k e)=>match p.underlying k with |some (.int _)=>some e |_=>none
 |_=>none
def isInt:Value→Bool
 |.int _ _=>true
 |_=>false
noncomputable def lookupE (p:Program) (h:T O) (t:TypeId) (m k:Value) (ok:Bool):Option (Value×Eff):=match keyT p t,isInt k,m with
 |some e,true,.map r=>match (match r with |none=>some ([],[]) |some b=>match h.get b with |some (.map es _)=>some (es,[b]) |_=>none) with
  |none=>none
  |some (es,rs)=>match findE k es 0,zeroT p e with
   |some (some (_,v)),_=>some (match ok with |true=>.tuple ⟨[v,.bool true]⟩ |false=>v,.rd rs)
   |some none,some z=>some (match ok with |true=>.tuple ⟨[z,.bool false]⟩ |false=>z,.rd rs)
   |_,_=>none
 |_,_,_=>none
def setVal (v:Value):List E→Nat→List E
 |[],_=>[]
 |e::es,0=>{e with val:=v}::es
 |e::es,n+1=>e::setVal v es n
noncomputable def mapSetE (p:Program) (h:T O) (t:TypeId) (m k v:Value):Option (Value×Eff):=match keyT p t,isInt k,m with
 |some _,true,.map (some b)=>match h.get b with
  |some (.map es c)=>match findE k es 0 with
   |some (some (i,_))=>some (undef,.set b (.map (setVal v es i) c))
   |some none=>some (undef,.set b (.map (es++[⟨k,v,c⟩]) (Nat.succ c)))
   |none=>none
  |_=>none
 |_,_,_=>none
def dropN {α:Type}:List α→Nat→List α
 |[],_=>[]
 |_::l,0=>l
 |x::l,n+1=>x::dropN l n
noncomputable def deleteE (p:Program) (h:T O) (t:TypeId) (m k:Value):Option (Value×Eff):=match keyT p t,isInt k,m with
 |some _,true,.map (some b)=>match h.get b with
  |some (.map es c)=>match findE k es 0 with
   |some (some (i,_))=>some (.tuple ⟨[]⟩,.set b (.map (dropN es i) c))
   |some none=>some (.tuple ⟨[]⟩,.set b (.map es c))
   |none=>none
  |_=>none
 |_,_,_=>none
noncomputable def cellsOf (h:T O) (z:Nat) (x:Value):Option (Nat×List Value):=match x with
 |.slice none 0 _=>some (0,[])
 |.slice (some _) 0 _=>some (0,[])
 |.slice (some ⟨b,o,none⟩) l _=>match rowOf h b with
  |some c=>match Nat.ble (Nat.add o (Nat.mul l z)) c.length with
   |true=>some (l,cut c o (Nat.mul l z))
   |false=>none
  |none=>none
 |.string s=>match Nat.beq z 1 with |true=>some (s.size,s.data.toList.map fun b=>.int .u8 b.toNat) |false=>none
 |_=>none
def isIntT (p:Program) (t:TypeId):Bool:=match p.underlying t with |some (.int _)=>true |none=>true |_=>false
noncomputable def appendE (p:Program) (h:T O) (nx:Nat) (ts:List TypeId) (s x:Value):Option (Value×Eff):=match ts with
 |t::u::_=>match p.underlying t,isIntT p u with
  |some (.slice e),false=>match p.info? e,zeroT p e with
   |some i,some zv=>match cellsOf h i.size x,s with
    |some (n,cs),.slice base len cap=>match Nat.ble (Nat.add len n) 100000&&(Nat.ble i.bytes 1000&&(Nat.blt 0 i.bytes&&(Nat.beq (cellsL zv).length i.size&&Nat.beq cs.length (Nat.mul n i.size)))) with
     |false=>none
     |true=>match Nat.blt cap big with
      |true=>match Nat.ble (Nat.add len n) cap with
       |true=>match base with
        |some ⟨b,o,none⟩=>match rowAt h b with
         |some (c,g)=>match Nat.ble (Nat.add o (Nat.mul (Nat.add len n) i.size)) c.length&&cs.all oneV with
          |true=>some (.slice base (Nat.add len n) cap,.set b (g (lay c (Nat.add o (Nat.mul len i.size)) cs)))
          |false=>none
         |none=>none
        |none=>match Nat.beq n 0 with
         |true=>some (.slice none len cap,.rd [])
         |false=>none
        |_=>none
       |false=>match cellsOf h i.size s with
        |some (_,old)=>forceL (old++cs) fun all=>some (.slice (some ⟨nx,0,none⟩) (Nat.add len n) (Nat.add big (Nat.add len n)),.grow (.opn i.size all))
        |none=>none
      |false=>match base with
       |some ⟨b,o,none⟩=>match h.get b,cellsOf h i.size s with
        |some (.opn z row),some (_,old)=>match Nat.beq z i.size&&cs.all oneV with
         |true=>match Nat.ble (Nat.add len n) (Nat.sub cap big)&&Nat.ble (Nat.add o (Nat.mul (Nat.add len n) i.size)) row.length with
          |true=>forceL (lay row (Nat.add o (Nat.mul len i.size)) cs) fun row=>some (.slice (some ⟨b,o,none⟩) (Nat.add len n) cap,.set b (.opn z row))
          |false=>forceL (old++cs) fun all=>some (.slice (some ⟨nx,0,none⟩) (Nat.add len n) (Nat.add big (Nat.add len n)),.shift b o (.opn i.size all))
         |false=>none
        |_,_=>none
       |_=>none
    |_,_=>none
   |_,_=>none
  |_,_=>none
 |_=>none
noncomputable def copyE (p:Program) (h:T O) (ts:List TypeId) (d s:Value):Option (Value×Eff):=match ts with
 |t::_=>match p.underlying t with
  |some (.slice e)=>match sizeT p e,d with
   |some z,.slice base dl _=>match cellsOf h z s with
    |some (n,cs)=>match Nat.min n dl,base with
     |0,_=>some (.int .i64 0,.rd [])
     |m,some ⟨b,o,none⟩=>match rowAt h b with
      |some (c,g)=>match Nat.ble (Nat.add o (Nat.mul m z)) c.length&&cs.all oneV with
       |true=>some (.int .i64 (.ofNat m),.set b (g (lay c o (cut cs 0 (Nat.mul m z)))))
       |false=>none
      |none=>none
     |_,_=>none
    |none=>none
   |_,_=>none
  |_=>none
 |_=>none
noncomputable def clearE (p:Program) (h:T O) (ts:List TypeId) (x:Value):Option (Value×Eff):=match ts with
 |t::_=>match p.underlying t,x with
  |some (.slice e),.slice base n _=>match n,base with
   |0,_=>some (.tuple ⟨[]⟩,.rd [])
   |n,some ⟨b,o,none⟩=>match zeroT p e,rowAt h b with
    |some z,some (c,g)=>match Nat.blt 0 (cellsL z).length&&(Nat.ble (Nat.add o (Nat.mul n (cellsL z).length)) c.length&&(cellsL z).all oneV) with
     |true=>forceL (lay c o (times (cellsL z) n)) fun c=>some (.tuple ⟨[]⟩,.set b (g c))
     |false=>none
    |_,_=>none
   |_,_=>none
  |_,_=>none
 |_=>none
noncomputable def lenE (p:Program) (h:T O) (ts:List TypeId) (x:Value):Option (Value×Eff):=match ts with
 |t::_=>match p.underlying t,x with
  |some .string,.string s=>some (.int .i64 (.ofNat s.size),.rd [])
  |some (.array n _),_=>some (.int .i64 (.ofNat n),.rd [])
  |some (.slice _),.slice _ n _=>some (.int .i64 (.ofNat n),.rd [])
  |some (.map _ _),.map none=>some (.int .i64 0,.rd [])
  |some (.map _ _),.map (some b)=>match h.get b with
   |some (.map es _)=>some (.int .i64 (.ofNat es.length),.rd [b])
   |_=>none
  |_,_=>none
 |_=>none
def bytesOf:List Value→Option (List UInt8)
 |[]=>some []
 |.int .u8 n::l=>(bytesOf l).map (UInt8.ofNat n.toNat::·)
 |_=>none
noncomputable def convE (p:Program) (h:T O) (s d:TypeId) (x:Value):Option (Value×Eff):=match x with
 |.slice (some ⟨b,o,none⟩) l c=>match p.underlying s,p.underlying d with
  |some (.slice e),some .string=>match p.underlying e,rowOf h b with
   |some (.int .u8),some r=>match Nat.ble (Nat.add o l) r.length,bytesOf (cut r o l) with
    |true,some bs=>some (.string ⟨⟨bs⟩⟩,.rd [b])
    |_,_=>none
   |_,_=>none
  |_,_=>none
 |x=>match flat 4 x with
  |true=>flatE p (convert s d x)
  |false=>none
noncomputable def builtinE (p:Program) (h:T O) (nx:Nat) (b:Builtin) (ts:List TypeId) (ty:TypeId) (vs:List Value):Option (Value×Eff):=match b,vs with
 |.append,[s,x]=>appendE p h nx ts s x
 |.copy,[d,s]=>copyE p h ts d s
 |.len,[x]=>lenE p h ts x
 |.clear,[x]=>clearE p h ts x
 |.delete,[m,k]=>match ts with |t::_=>deleteE p h t m k |[]=>none
 |.min,vs=>match flats vs with |true=>flatE p (Builtin.min_ ⟨ts⟩ ty ⟨vs⟩) |false=>none
 |.max,vs=>match flats vs with |true=>flatE p (Builtin.max_ ⟨ts⟩ ty ⟨vs⟩) |false=>none
 |.complex,vs=>match flats vs with |true=>flatE p (Builtin.complex_ ⟨ts⟩ ty ⟨vs⟩) |false=>none
 |.real,vs=>match flats vs with |true=>flatE p (Builtin.real_ ⟨ts⟩ ty ⟨vs⟩) |false=>none
 |.imag,vs=>match flats vs with |true=>flatE p (Builtin.imag_ ⟨ts⟩ ty ⟨vs⟩) |false=>none
 |_,_=>none
noncomputable def evs (a:A):List Operand→List Value
 |[]=>[]
 |x::l=>a.ev x::evs a l
noncomputable def evps (a:A):List (Nat×Operand)→List (Nat×Value)
 |[]=>[]
 |(i,x)::l=>(i,a.ev x)::evps a l
def extractE (x:Value) (i:Nat):Option (Value×Eff):=match x with
 |.tuple ⟨vs⟩=>(nth vs i).map fun v=>(v,.rd [])
 |_=>none
def un (x:Value) (s:Option (Value×Eff)):Option (Value×Eff):=match flat 4 x with |true=>s |false=>none
noncomputable def boxE (nx:Nat) (x:Value):Option (Value×Eff):=match known x with
 |true=>forceL (cellsL x) fun cs=>some (ptr nx,.new (.cells cs))
 |false=>none
noncomputable def opE0 (p:Program) (a:A) (h:T O) (nx:Nat) (o:Op) (ty:TypeId):Option (Value×Eff):=
 match o with
 |.move x=>some (a.ev x,.rd [])
 |.assign x=>some (a.ev x,.rd [])
 |.pick c x y=>pickE (a.ev c) (a.ev x) (a.ev y)
 |.alloc t=>allocE p nx t
 |.box _ x=>boxE nx (a.ev x)
 |.build t ⟨ps⟩=>buildE p t (evps a ps)
 |.buildSlice t n ⟨ps⟩=>buildSliceE p nx t n (evps a ps)
 |.load t x=>loadE p h t (a.ev x)
 |.store t x v=>storeE p h t (a.ev x) (a.ev v)
 |.nilCheck x=>nilCheckE (a.ev x)
 |.binOp op t x y _=>binE p op t x y (a.ev x) (a.ev y)
 |.unOp op _ x=>un (a.ev x) (flatE p (Op.unary op (a.ev x)))
 |.convert s d x=>convE p h s d (a.ev x)
 |.fieldAddr t x f=>fieldAddrE p t (a.ev x) f
 |.field t x f=>fieldE p t (a.ev x) f
 |.indexAddr t x i=>indexAddrE p t (a.ev x) (a.ev i)
 |.index t x i=>indexE p t (a.ev x) (a.ev i)
 |.slice t x lo hi mx=>sliceE p h t (a.ev x) (lo.map a.ev) (hi.map a.ev) (mx.map a.ev)
 |.makeFunc (.func f) ⟨x⟩ ⟨y⟩=>some (.func (.func f) ⟨evs a x⟩ ⟨evs a y⟩,.rd [])
 |.makeMap _ none=>some (.map (some nx),.new (.map [] 0))
 |.makeSlice t l c=>makeSliceE p nx t (a.ev l) (a.ev c)
 |.lookup t m k ok=>lookupE p h t (a.ev m) (a.ev k) ok
 |.mapUpdate t m k v=>mapSetE p h t (a.ev m) (a.ev k) (a.ev v)
 |.insert t m k v=>mapSetE p h t (a.ev m) (a.ev k) (a.ev v)
 |.extract x i=>extractE (a.ev x) i
 |.call {callee:=.builtin b,args:=⟨xs⟩,argTypes:=⟨ts⟩}=>builtinE p h nx b ts ty (evs a xs)
 |_=>none
def UI (k:IntKind) (lo hi:Int):Value:=.iface 1 (.tuple ⟨[.int k lo,.int k hi]⟩)
def UB:Value:=.iface 2 .nilIface
def US:Value:=.iface 3 .nilIface
def leI:Int→Int→Bool
 |.ofNat a,.ofNat b=>Nat.ble a b
 |.ofNat _,.negSucc _=>false
 |.negSucc _,.ofNat _=>true
 |.negSucc a,.negSucc b=>Nat.ble b a
def ltI (a b:Int):Bool:=match leI b a with |true=>false |false=>true
def minI (a b:Int):Int:=match leI a b with |true=>a |false=>b
def maxI (a b:Int):Int:=match leI a b with |true=>b |false=>a
def asU:Value→Option (IntKind×Int×Int)
 |.int k n=>some (k,n,n)
 |.iface 1 (.tuple ⟨[.int k lo,.int _ hi]⟩)=>some (k,lo,hi)
 |.iface 4 (.tuple ⟨[.int k lo,.int _ hi,.slice none _ 0]⟩)=>some (k,lo,hi)
 |.iface 6 (.tuple ⟨[.int k lo,.int _ hi,.slice none _ 0]⟩)=>some (k,lo,hi)
 |.iface 7 (.tuple ⟨[.int k lo,.int _ hi,.slice none _ _,.slice none _ _]⟩)=>some (k,lo,hi)
 |.iface 9 (.tuple ⟨[.int k lo,.int _ hi,.slice none _ _]⟩)=>some (k,lo,hi)
 |_=>none
def asB:Value→Option (Option Bool)
 |.bool b=>some (some b)
 |.iface 2 .nilIface=>some none
 |_=>none
def asS:Value→Bool
 |.string s=>Nat.ble s.size 1000000
 |.iface 3 .nilIface=>true
 |_=>false
def mkU (k:IntKind) (lo hi:Int):Value:=match leI hi lo with
 |true=>match leI lo hi with |true=>.int k lo |false=>UI k lo hi
 |false=>UI k lo hi
def fullU (k:IntKind):Value:=UI k k.min k.max
def fitU (k:IntKind) (lo hi:Int):Value:=match leI k.min lo&&leI hi k.max with
 |true=>mkU k lo hi
 |false=>fullU k
def cmpU (yes no:Bool):Value:=match yes with
 |true=>.bool true
 |false=>match no with |true=>.bool false |false=>UB
noncomputable def intU (op:BinOp) (k:IntKind) (l1 h1:Int) (k2:IntKind) (l2 h2:Int):Option Value:=match op with
 |.shl=>match leI 0 l2 with
  |true=>some (match leI 0 l1&&leI h2 l2 with
   |true=>forceN (Nat.pow 2 (Nat.min l2.toNat k.bits)) fun n=>fitU k (Int.mul l1 (.ofNat n)) (Int.mul h1 (.ofNat n))
   |false=>fullU k)
  |false=>none
 |.shr=>match leI 0 l2 with
  |true=>some (match leI 0 l1&&leI h2 l2 with
   |true=>forceN (Nat.pow 2 (Nat.min l2.toNat k.bits)) fun n=>mkU k (.ofNat (Nat.div l1.toNat n)) (.ofNat (Nat.div h1.toNat n))
   |false=>mkU k (minI l1 0) (maxI h1 0))
  |false=>none
 |op=>match decide (k=k2) with
  |false=>none
  |true=>match op with
   |.add=>some (fitU k (Int.add l1 l2) (Int.add h1 h2))
   |.sub=>some (fitU k (Int.sub l1 h2) (Int.sub h1 l2))
   |.mul=>some (match leI 0 l2&&(leI h2 l2 ||leI 0 l1) with
    |true=>fitU k (Int.mul l1 l2) (Int.mul h1 h2)
    |false=>fullU k)
   |.quo=>match ltI 0 l2 with
    |true=>some (match leI 0 l1 with
     |true=>fitU k (.ofNat (Nat.div l1.toNat h2.toNat)) (.ofNat (Nat.div h1.toNat l2.toNat))
     |false=>fitU k l1 (maxI h1 0))
    |false=>none
   |.rem=>match ltI 0 l2 with
    |true=>some (match leI 0 l1 with
     |true=>mkU k 0 (minI h1 (Int.sub h2 1))
     |false=>mkU k (Int.sub 1 h2) (Int.sub h2 1))
    |false=>none
   |.and=>some (match leI 0 l2 with
    |true=>fitU k 0 h2
    |false=>match leI 0 l1 with
     |true=>fitU k 0 h1
     |false=>fullU k)
   |.or=>some (match leI 0 l1&&leI 0 l2 with
    |true=>forceN (Nat.pred (Nat.pow 2 (Nat.succ (Nat.log2 (Nat.max h1.toNat h2.toNat))))) fun n=>fitU k 0 (.ofNat n)
    |false=>fullU k)
   |.xor=>some (fullU k)
   |.andNot=>some (fullU k)
   |.eql=>some (cmpU (leI h1 l2&&leI h2 l1) (ltI h1 l2 ||ltI h2 l1))
   |.neq=>some (cmpU (ltI h1 l2 ||ltI h2 l1) (leI h1 l2&&leI h2 l1))
   |.lss=>some (cmpU (ltI h1 l2) (leI h2 l1))
   |.leq=>some (cmpU (leI h1 l2) (ltI h2 l1))
   |.gtr=>some (cmpU (ltI h2 l1) (leI h1 l2))
   |.geq=>some (cmpU (leI h2 l1) (ltI h1 l2))
   |_=>none
def isEq:BinOp→Bool
 |.eql=>true
 |.neq=>true
 |_=>false
def andE (a b:Option (Option Bool)):Option (Option Bool):=match a with
 |some (some true)=>b
 |some (some false)=>some (some false)
 |some none=>match b with
  |some (some false)=>some (some false)
  |some _=>some none
  |none=>none
 |none=>none
def eqFs (p:Program) (g:TypeId→Value→Value→Option (Option Bool)) (xs ys:List Value):List Field→Option (Option Bool)
 |[]=>some (some true)
 |f::fs=>match f.name == "_" with
  |true=>eqFs p g xs ys fs
  |false=>match fromCells p f.type xs f.offset,fromCells p f.type ys f.offset with
   |some a,some b=>andE (g f.type a b) (eqFs p g xs ys fs)
   |_,_=>none
def eqEs (p:Program) (g:TypeId→Value→Value→Option (Option Bool)) (xs ys:List Value) (e:TypeId) (z:Nat):Nat→Nat→Option (Option Bool)
 |_,0=>some (some true)
 |i,n+1=>match fromCells p e xs (Nat.mul i z),fromCells p e ys (Nat.mul i z) with
  |some a,some b=>andE (g e a b) (eqEs p g xs ys e z (i+1) n)
  |_,_=>none
noncomputable def eqW (p:Program):Nat→TypeId→Value→Value→Option (Option Bool)
 |0,_,_,_=>none
 |d+1,t,x,y=>match p.underlying t with
  |some .bool=>match asB x,asB y with
   |some (some a),some (some b)=>some (some (a == b))
   |some _,some _=>some none
   |_,_=>none
  |some (.int _)=>match asU x,asU y with
   |some (k,l1,h1),some (k2,l2,h2)=>match decide (k=k2) with
    |true=>match ltI h1 l2 ||ltI h2 l1 with
     |true=>some (some false)
     |false=>match leI h1 l2&&leI h2 l1 with
      |true=>some (some true)
      |false=>some none
    |false=>none
   |_,_=>none
  |some (.struct ⟨fs⟩)=>match p.stoodInHeld t,x,y with
   |false,.agg ⟨xs⟩,.agg ⟨ys⟩=>eqFs p (eqW p d) xs ys fs
   |_,_,_=>none
  |some (.array n e)=>match sizeT p e,x,y with
   |some z,.agg ⟨xs⟩,.agg ⟨ys⟩=>eqEs p (eqW p d) xs ys e z 0 n
   |_,_,_=>none
  |_=>none
def ofB (neg:Bool):Option (Option Bool)→Option Value
 |some (some b)=>some (.bool (b != neg))
 |some none=>some UB
 |none=>none
noncomputable def aggEq (p:Program) (op:BinOp) (t:TypeId) (x y:Value):Option Value:=match x,y with
 |.agg _,.agg _=>match p.eqGuardType p.depth t with
  |true=>none
  |false=>match op with
   |.eql=>ofB false (eqW p 10 t x y)
   |.neq=>ofB true (eqW p 10 t x y)
   |_=>none
 |_,_=>none
noncomputable def binU (p:Program) (op:BinOp) (t:TypeId) (x y:Value):Option Value:=match asU x,asU y with
 |some (k,l1,h1),some (k2,l2,h2)=>intU op k l1 h1 k2 l2 h2
 |_,_=>match isEq op with
  |false=>none
  |true=>match asS x&&asS y with
   |true=>some UB
   |false=>match p.underlying t,asB x,asB y with
    |some .bool,some _,some _=>some UB
    |_,_,_=>aggEq p op t x y
def joinV (x y:Value):Option Value:=match asU x,asU y with
 |some (k,l1,h1),some (k2,l2,h2)=>match decide (k=k2) with
  |true=>some (mkU k (minI l1 l2) (maxI h1 h2))
  |false=>none
 |_,_=>match asB x,asB y with
  |some _,some _=>some UB
  |_,_=>none
def unU (op:UnOp) (x:Value):Option Value:=match op with
 |.not=>match asB x with |some none=>some UB |_=>none
 |.neg=>match asU x with |some (k,lo,hi)=>some (fitU k (Int.neg hi) (Int.neg lo)) |none=>none
 |.xor=>match asU x with |some (k,_,_)=>some (fullU k) |none=>none
 |_=>none
def convU (p:Program) (s d:TypeId) (x:Value):Option Value:=match p.underlying s,p.underlying d,asU x with
 |some _,some (.int k),some (_,lo,hi)=>some (fitU k lo hi)
 |_,_,_=>none
def bytesU:List Value→Bool
 |[]=>true
 |x::l=>match asU x with
  |some (.u8,_,_)=>bytesU l
  |_=>false
noncomputable def strU (p:Program) (h:T O) (s d:TypeId) (x:Value):Option (Value×Eff):=match x with
 |.slice (some ⟨b,o,none⟩) l _=>match p.underlying s,p.underlying d with
  |some (.slice e),some .string=>match p.underlying e,rowOf h b with
   |some (.int .u8),some r=>match Nat.ble (Nat.add o l) r.length&&(Nat.ble l 1000000&&bytesU (cut r o l)) with
    |true=>some (US,.rd [b])
    |false=>none
   |_,_=>none
  |_,_=>none
 |_=>none
def minU (mx:Bool) (x y:Value):Option Value:=match asU x,asU y with
 |some (k,l1,h1),some (_,l2,h2)=>some (match mx with
  |false=>(match leI h1 l2 with |true=>x |false=>mkU k (minI l1 l2) (minI h1 h2))
  |true=>(match leI h2 l1 with |true=>x |false=>mkU k (maxI l1 l2) (maxI h1 h2)))
 |_,_=>none
def minsU (mx:Bool):Value→List Value→Option Value
 |x,[]=>some x
 |x,y::l=>match minU mx x y with |some z=>minsU mx z l |none=>none
def rd0 (v:Option Value):Option (Value×Eff):=match v with |some v=>some (v,.rd []) |none=>none
noncomputable def opX (p:Program) (a:A) (h:T O) (o:Op):Option (Value×Eff):=match o with
 |.pick c x y=>match asB (a.ev c) with
  |some none=>rd0 (joinV (a.ev x) (a.ev y))
  |_=>none
 |.binOp op t x y _=>rd0 (binU p op t (a.ev x) (a.ev y))
 |.unOp op _ x=>rd0 (unU op (a.ev x))
 |.convert s d x=>(match convU p s d (a.ev x) with
  |some v=>some (v,.rd [])
  |none=>strU p h s d (a.ev x))
 |.call {callee:=.builtin .min,args:=⟨x::xs⟩,argTypes:=_}=>rd0 (minsU false (a.ev x) (evs a xs))
 |.call {callee:=.builtin .max,args:=⟨x::xs⟩,argTypes:=_}=>rd0 (minsU true (a.ev x) (evs a xs))
 |_=>none
noncomputable def sameV:Nat→Value→Value→Bool
 |0,_,_=>false
 |n+1,x,y=>match x,y with
  |.bool a,.bool b=>Bool.rec (Bool.rec true false b) b a
  |.int k a,.int k' b=>decide (k=k')&&decide (a=b)
  |.pointer none,.pointer none=>true
  |.pointer (some ⟨a,o,none⟩),.pointer (some ⟨b,q,none⟩)=>Nat.beq a b&&Nat.beq o q
  |.slice none l k,.slice none l' k'=>Nat.beq l l'&&Nat.beq k k'
  |.slice (some ⟨a,o,none⟩) l k,.slice (some ⟨b,q,none⟩) l' k'=>Nat.beq a b&&(Nat.beq o q&&(Nat.beq l l'&&Nat.beq k k'))
  |.map none,.map none=>true
  |.map (some a),.map (some b)=>Nat.beq a b
  |.nilFunc,.nilFunc=>true
  |.nilIface,.nilIface=>true
  |.string a,.string b=>decide (a.data.toList=b.data.toList)
  |.agg ⟨x⟩,.agg ⟨y⟩=>sameL n x y
  |.func (.func f) ⟨x⟩ ⟨y⟩,.func (.func g) ⟨x'⟩ ⟨y'⟩=>Nat.beq f g&&(sameL n x x'&&sameL n y y')
  |.tuple ⟨x⟩,.tuple ⟨y⟩=>sameL n x y
  |.iface 1 x,.iface 1 y=>sameV n x y
  |.iface 2 .nilIface,.iface 2 .nilIface=>true
  |.iface 3 .nilIface,.iface 3 .nilIface=>true
  |.chan none,.chan none=>true
  |.iface 4 x,.iface 4 y=>sameV n x y
  |.iface 5 x,.iface 5 y=>sameV n x y
  |.iface 6 x,.iface 6 y=>sameV n x y
  |.iface 7 x,.iface 7 y=>sameV n x y
  |.iface 8 x,.iface 8 y=>sameV n x y
  |.iface 9 x,.iface 9 y=>sameV n x y
  |.slice (some ⟨a,o,some s⟩) l k,.slice (some ⟨b,q,some s'⟩) l' k'=>Nat.beq a b&&(Nat.beq o q&&(Nat.beq s s'&&(Nat.beq l l'&&Nat.beq k k')))
  |.chan (some a),.chan (some b)=>Nat.beq a b
  |_,_=>false
where
 sameL (n:Nat):List Value→List Value→Bool
  |[],[]=>true
  |x::l,y::m=>sameV n x y&&sameL n l m
  |_,_=>false
noncomputable def joinW:Nat→Value→Value→Value
 |0,_,_=>unk
 |n+1,x,y=>match sameV 5 x y with
  |true=>x
  |false=>match joinV x y with
   |some v=>v
   |none=>match asS x&&asS y with
    |true=>US
    |false=>match x,y with
     |.agg ⟨l⟩,.agg ⟨m⟩=>match Nat.beq l.length m.length with |true=>.agg ⟨joinWs n l m⟩ |false=>unk
     |.tuple ⟨l⟩,.tuple ⟨m⟩=>match Nat.beq l.length m.length with |true=>.tuple ⟨joinWs n l m⟩ |false=>unk
     |_,_=>unk
where
 joinWs (n:Nat):List Value→List Value→List Value
  |x::l,y::m=>joinW n x y::joinWs n l m
  |_,_=>[]
def subV (j lo hi:Nat):Value:=.iface 8 (.slice (some ⟨j,0,none⟩) lo hi)
def leV (k:IntKind) (lo hi:Int) (j f:Nat):Value:=.iface 9 (.tuple ⟨[.int k lo,.int k hi,.slice none j f]⟩)
def fzT (i l:Nat):Value:=.iface 5 (.slice (some ⟨i,l,none⟩) 0 0)
def emp:Value:=.slice (some ⟨0,0,some 7⟩) 0 0
def asF:Value→Option (Nat×Nat)
 |.chan (some i)=>some (i,0)
 |.iface 5 (.slice (some ⟨i,l,none⟩) 0 0)=>some (i,l)
 |_=>none
structure FI where
 i:Nat
 l:Nat
 p:List Value
 lo:Nat
 hi:Nat
 own:Bool
noncomputable def frzAt (h:T O) (x:Value):Option FI:=match asF x with
 |some (i,l)=>(match h.get i with
  |some (.frz p lo hi own)=>(match Nat.ble l lo&&Nat.ble lo hi with
   |true=>forceN (Nat.sub lo l) fun lo=>forceN (Nat.sub hi l) fun hi=>some ⟨i,l,p,lo,hi,own⟩
   |false=>none)
  |_=>none)
 |none=>none
def lnV (i:Nat) (lo hi:Int):Value:=.iface 6 (.tuple ⟨[.int .i64 lo,.int .i64 hi,.slice none i 0]⟩)
def ixV (i z d:Nat) (lo hi:Int):Value:=.iface 7 (.tuple ⟨[.int .i64 lo,.int .i64 hi,.slice none i d,.slice none z 0]⟩)
noncomputable def lenF (p:Program) (h:T O) (t:TypeId) (x:Value):Option (Value×Eff):=match p.underlying t,frzAt h x with
 |some (.slice _),some f=>some (match f.l with
  |0=>(match Nat.beq f.lo f.hi with
   |true=>mkU .i64 (.ofNat f.lo) (.ofNat f.hi)
   |false=>lnV f.i (.ofNat f.lo) (.ofNat f.hi))
  |_=>mkU .i64 (.ofNat f.lo) (.ofNat f.hi),.rd [f.i])
 |_,_=>none
def natO:Option Value→Option Nat
 |none=>some 0
 |some v=>toNat? v
noncomputable def sliceF (p:Program) (h:T O) (t:TypeId) (x:Value) (lo hi mx:Option Value):Option (Value×Eff):=match p.underlying t,frzAt h x with
 |some (.slice e),some f=>(match sizeT p e,natO lo with
  |some z,some l2=>(match Nat.beq z f.p.length with
   |true=>(match hi,mx with
    |none,none=>(match Nat.ble l2 f.lo with
     |true=>forceN (Nat.add f.l l2) fun l=>some (fzT f.i l,.rd [f.i])
     |false=>none)
    |some h2,some m2=>(match toNat? h2,toNat? m2 with
     |some h2,some m2=>(match Nat.ble l2 h2&&(Nat.ble h2 m2&&Nat.ble m2 f.lo) with
      |true=>(match Nat.beq m2 l2 with
       |true=>some (emp,.rd [f.i])
       |false=>forceN (Nat.mul (Nat.add f.l l2) z) fun o=>forceN (Nat.sub h2 l2) fun n=>forceN (Nat.sub m2 l2) fun k=>(match Nat.blt k big with
        |true=>some (.slice (some ⟨f.i,o,none⟩) n k,.rd [f.i])
        |false=>none))
      |false=>none)
     |_,_=>none)
    |_,_=>none)
   |false=>none)
  |_,_=>none)
 |_,_=>none
noncomputable def sliceL (p:Program) (h:T O) (t:TypeId) (x:Value) (lo hi mx:Option Value):Option (Value×Eff):=match p.underlying t,x,lo,hi,mx with
 |some (.slice e),.chan (some i),none,some (.iface 6 (.tuple ⟨[.int _ _,.int _ _,.slice none j 0]⟩)),none=>(match Nat.beq i j,sizeT p e,h.get i with
  |true,some _,some (.frz _ _ _ _)=>some (.chan (some i),.rd [i])
  |_,_,_=>none)
 |_,_,_,_,_=>none
noncomputable def sliceS (p:Program) (h:T O) (t:TypeId) (x:Value) (lo hi mx:Option Value):Option (Value×Eff):=match p.underlying t,x,lo,hi,mx with
 |some (.slice e),.chan (some i),none,some (.iface 9 (.tuple ⟨[.int _ l,.int _ u,.slice none j 0]⟩)),none=>(match Nat.beq i j&&leI 0 l,sizeT p e,h.get i with
  |true,some z,some (.frz q a b _)=>(match Nat.beq z q.length&&(Nat.blt 0 a&&Nat.ble a b) with
   |true=>some (subV i l.toNat u.toNat,.rd [i])
   |false=>none)
  |_,_,_=>none)
 |some (.slice e),.chan (some i),some (.iface 9 (.tuple ⟨[.int _ l,.int _ u,.slice none j 0]⟩)),none,none=>(match Nat.beq i j&&leI 0 l,sizeT p e,h.get i with
  |true,some z,some (.frz q a b _)=>(match Nat.beq z q.length&&(Nat.blt 0 a&&Nat.ble a b) with
   |true=>forceN (Nat.sub a u.toNat) fun lo=>forceN (Nat.sub b l.toNat) fun hi=>some (subV i lo hi,.rd [i])
   |false=>none)
  |_,_,_=>none)
 |_,_,_,_,_=>none
noncomputable def indexF (p:Program) (h:T O) (t:TypeId) (x ix:Value):Option (Value×Eff):=match p.underlying t,frzAt h x with
 |some (.slice e),some f=>(match sizeT p e,toNat? ix with
  |some z,some n=>(match Nat.beq z f.p.length&&(Nat.blt 0 z&&Nat.blt n f.lo) with
   |true=>forceN (Nat.mul (Nat.add f.l n) z) fun o=>some (.pointer (some ⟨f.i,o,none⟩),.rd [f.i])
   |false=>none)
  |_,_=>none)
 |_,_=>none
noncomputable def indexV (p:Program) (h:T O) (t:TypeId) (x ix:Value):Option (Value×Eff):=match p.underlying t,x,ix with
 |some (.slice e),.chan (some i),.iface 7 (.tuple ⟨[.int _ _,.int _ _,.slice none j 0,.slice none z _]⟩)=>(match sizeT p e with
  |some z'=>(match Nat.beq i j&&Nat.beq z z' with
   |true=>some (.pointer (some ⟨i,0,none⟩),.rd [])
   |false=>none)
  |none=>none)
 |_,_,_=>none
def opI (a:A→Operand→Value) (s:A) (o:Op):Option (Value×Eff):=match o with
 |.binOp .lss _ x y _=>(match a s x,a s y with
  |.iface 7 (.tuple ⟨[.int k _,.int _ _,.slice none i 0,.slice none _ _]⟩),.iface 6 (.tuple ⟨[.int k2 _,.int k3 _,.slice none j 0]⟩)=>(match Nat.beq i j&&(decide (k= .i64)&&decide (k2= .i64)) with
   |true=>some (.bool true,.rd [])
   |false=>none)
  |.iface 6 (.tuple ⟨[.int k _,.int _ _,.slice none i 0]⟩),.iface 6 (.tuple ⟨[.int k2 _,.int k3 _,.slice none j 0]⟩)=>(match Nat.beq i j&&(decide (k= .i64)&&decide (k2= .i64)) with
   |true=>some (.bool false,.rd [])
   |false=>none)
  |_,_=>none)
 |.binOp .gtr _ x y _=>(match a s x,a s y with
  |.iface 9 (.tuple ⟨[.int k _,.int _ _,.slice none i f]⟩),.iface 6 (.tuple ⟨[.int k2 _,.int k3 _,.slice none j 0]⟩)=>(match Nat.beq i j&&(decide (k= .i64)&&decide (k2= .i64)) with
   |true=>some (.bool (!(Nat.beq f 0)),.rd [])
   |false=>none)
  |_,_=>none)
 |.binOp .add _ x y _=>(match a s x,a s y with
  |.iface 7 (.tuple ⟨[.int k lo,.int _ hi,.slice none i 0,.slice none z _]⟩),.int k2 1=>(match (decide (k= .i64)&&decide (k2= .i64))&&(leI 0 lo&&leI hi 9223372036854775806) with
   |true=>some (ixV i z 1 (Int.add lo 1) (Int.add hi 1),.rd [])
   |false=>none)
  |_,_=>none)
 |_=>none
noncomputable def nilF (p:Program) (h:T O) (t:TypeId) (x y:Value):Option (Nat×Option Bool):=match p.underlying t,y with
 |some (.slice _),.slice none _ _=>(match frzAt h x with
  |some f=>some (f.i,match f.own ||Nat.blt 0 (Nat.add f.lo f.l) with |true=>some false |false=>none)
  |none=>none)
 |_,_=>none
noncomputable def eqNilF (p:Program) (h:T O) (op:BinOp) (t:TypeId) (x y:Value):Option (Value×Eff):=match isEq op with
 |false=>none
 |true=>(match (match nilF p h t x y with |some r=>some r |none=>nilF p h t y x) with
  |some (i,b)=>(match ofB (match op with |.neq=>true |_=>false) (some b) with
   |some v=>some (v,.rd [i])
   |none=>none)
  |none=>none)
def freeV:Value→Bool
 |.bool _ |.int _ _ |.string _=>true
 |.iface 1 (.tuple ⟨[.int _ _,.int _ _]⟩)=>true
 |.iface 2 .nilIface=>true
 |.iface 3 .nilIface=>true
 |_=>false
noncomputable def fitV (x y:Value):Bool:=sameV 6 (joinW 5 x y) x
noncomputable def fitCyc (ps:List Value):List Value→List Value→Bool
 |_,[]=>true
 |[],c::cs=>(match ps with
  |[]=>false
  |q::r=>fitV q c&&fitCyc ps r cs)
 |q::r,c::cs=>fitV q c&&fitCyc ps r cs
noncomputable def srcP (h:T O) (x:Value):Option FI:=match frzAt h x with
 |some f=>some f
 |none=>(match x with
  |.iface 8 (.slice (some ⟨i,0,none⟩) lo hi)=>(match h.get i with
   |some (.frz p a b _)=>(match Nat.blt 0 a&&Nat.ble a b with |true=>some ⟨i,0,p,lo,hi,false⟩ |false=>none)
   |_=>none)
  |_=>none)
noncomputable def srcF (h:T O) (ps:List Value) (x:Value):Option (Nat×Nat):=match srcP h x with
 |some f=>(match sameV.sameL 6 f.p ps with |true=>some (f.lo,f.hi) |false=>none)
 |none=>(match cellsOf h ps.length x with
  |some (n,cs)=>(match fitCyc ps [] cs&&Nat.beq cs.length (Nat.mul n ps.length) with |true=>some (n,n) |false=>none)
  |none=>none)
noncomputable def appendF (p:Program) (h:T O) (nx:Nat) (ts:List TypeId) (s x:Value):Option (Value×Eff):=match ts with
 |t::u::_=>(match p.underlying t,isIntT p u with
  |some (.slice e),false=>(match p.info? e,zeroT p e with
   |some i,some zv=>(match Nat.ble i.bytes 1000&&(Nat.blt 0 i.bytes&&(Nat.blt 0 i.size&&Nat.beq (cellsL zv).length i.size)) with
    |true=>(match s with
     |.chan (some j)=>(match frzAt h s with
      |some f=>(match f.own&&(Nat.beq f.p.length i.size&&(f.p.all freeV&&Nat.blt 0 f.lo)) with
       |true=>(match srcF h f.p x with
        |some (n1,n2)=>(match Nat.ble (Nat.add f.hi n2) 100000 with
         |true=>forceN (Nat.add f.lo n1) fun a=>forceN (Nat.add f.hi n2) fun b=>some (.chan (some nx),.shift j 0 (.frz f.p a b true))
         |false=>none)
        |none=>none)
       |false=>none)
      |none=>none)
     |.slice base len cap=>(match srcP h x with
      |some f=>(match Nat.beq f.p.length i.size&&(f.p.all freeV&&Nat.ble (Nat.add len f.hi) 100000) with
       |true=>(match base with
        |some ⟨b,o,none⟩=>(match (match h.get b with
         |some (.cells c)=>Nat.ble len cap&&(Nat.blt cap big&&Nat.ble (Nat.add o (Nat.mul cap i.size)) c.length)
         |some (.opn z _)=>Nat.ble big cap&&Nat.beq z i.size
         |_=>false),cellsOf h i.size s with
         |true,some (n,cs)=>(match fitCyc f.p [] cs&&Nat.beq cs.length (Nat.mul n i.size) with
          |true=>forceN (Nat.add len f.lo) fun a=>forceN (Nat.add len f.hi) fun c=>some (.chan (some nx),.shift b 0 (.frz f.p a c true))
          |false=>none)
         |_,_=>none)
        |base=>(match (match base,len,cap with |none,0,0=>true |some ⟨_,_,some 7⟩,0,0=>true |_,_,_=>false) with
         |true=>(match f.hi with
          |0=>some (s,.rd [f.i])
          |_=>(match Nat.blt 0 f.lo with
           |true=>some (.chan (some nx),.grow (.frz f.p f.lo f.hi true))
           |false=>none))
         |false=>none))
       |false=>none)
      |none=>none)
     |_=>none)
    |false=>none)
   |_,_=>none)
  |_,_=>none)
 |_=>none
def isNilE (x y:Value):Bool:=match x,y with
 |.slice (some ⟨0,0,some 7⟩) 0 0,.slice none _ _=>true
 |_,_=>false
def empNil (p:Program) (op:BinOp) (t:TypeId) (x y:Value):Option (Value×Eff):=match isEq op,p.underlying t with
 |true,some (.slice _)=>(match isNilE x y ||isNilE y x with
  |true=>some (UB,.rd [])
  |false=>none)
 |_,_=>none
def subNil (p:Program) (op:BinOp) (t:TypeId) (x y:Value):Option (Value×Eff):=match isEq op,p.underlying t,x,y with
 |true,some (.slice _),.iface 8 (.slice (some ⟨_,0,none⟩) _ _),.slice none _ _=>some (.bool (match op with |.neq=>true |_=>false),.rd [])
 |_,_,_,_=>none
noncomputable def lookupU (p:Program) (h:T O) (t:TypeId) (m k:Value) (ok:Bool):Option (Value×Eff):=match keyT p t,asU k,m with
 |some e,some (q,_,_),.map (some b)=>(match h.get b,zeroT p e with
  |some (.map [] _),some z=>some (match ok with |true=>.tuple ⟨[z,.bool false]⟩ |false=>z,.rd [b])
  |some (.mapU q' y),some z=>(match decide (q=q') with
   |true=>some (match ok with |true=>.tuple ⟨[joinW 5 y z,UB]⟩ |false=>joinW 5 y z,.rd [b])
   |false=>none)
  |_,_=>none)
 |some e,some (q,_,_),.chan (some b)=>(match h.get b,zeroT p e with
  |some (.frz [kp,y] 1 0 _),some z=>(match asU kp with
   |some (q',_,_)=>(match decide (q=q') with
    |true=>some (match ok with |true=>.tuple ⟨[joinW 5 y z,UB]⟩ |false=>joinW 5 y z,.rd [b])
    |false=>none)
   |none=>none)
  |_,_=>none)
 |_,_,_=>none
noncomputable def mapSetU (p:Program) (h:T O) (t:TypeId) (m k v:Value):Option (Value×Eff):=match keyT p t,asU k,m with
 |some _,some (q,_,_),.map (some b)=>(match h.get b with
  |some (.map [] _)=>some (undef,.set b (.mapU q v))
  |some (.mapU q' y)=>(match decide (q=q') with
   |true=>some (undef,.set b (.mapU q (joinW 5 y v)))
   |false=>none)
  |_=>none)
 |_,_,_=>none
noncomputable def opFz (p:Program) (a:A) (h:T O) (nx:Nat) (o:Op):Option (Value×Eff):=match o with
 |.binOp op t x y _=>(match eqNilF p h op t (a.ev x) (a.ev y) with
  |some r=>some r
  |none=>(match empNil p op t (a.ev x) (a.ev y) with
   |some r=>some r
   |none=>subNil p op t (a.ev x) (a.ev y)))
 |.indexAddr t x i=>(match indexF p h t (a.ev x) (a.ev i) with
  |some r=>some r
  |none=>indexV p h t (a.ev x) (a.ev i))
 |.slice t x lo hi mx=>(match sliceF p h t (a.ev x) (lo.map a.ev) (hi.map a.ev) (mx.map a.ev) with
  |some r=>some r
  |none=>(match sliceL p h t (a.ev x) (lo.map a.ev) (hi.map a.ev) (mx.map a.ev) with
   |some r=>some r
   |none=>sliceS p h t (a.ev x) (lo.map a.ev) (hi.map a.ev) (mx.map a.ev)))
 |.lookup t m k ok=>lookupU p h t (a.ev m) (a.ev k) ok
 |.mapUpdate t m k v=>mapSetU p h t (a.ev m) (a.ev k) (a.ev v)
 |.insert t m k v=>mapSetU p h t (a.ev m) (a.ev k) (a.ev v)
 |.call {callee:=.builtin .len,args:=⟨[x]⟩,argTypes:=⟨t::_⟩}=>lenF p h t (a.ev x)
 |.call {callee:=.builtin .append,args:=⟨[s,x]⟩,argTypes:=⟨ts⟩}=>appendF p h nx ts (a.ev s) (a.ev x)
 |_=>none
noncomputable def opE (p:Program) (a:A) (h:T O) (nx:Nat) (o:Op) (ty:TypeId):Option (Value×Eff):=match opE0 p a h nx o ty with
 |some r=>some r
 |none=>(match opI A.ev a o with
  |some r=>some r
  |none=>(match opX p a h o with
   |some r=>some r
   |none=>opFz p a h nx o))
inductive X where
 |normal |exit (id:Nat) |goto (l:Nat) |ret
inductive Req where
 |fn (f:FuncId) (args:List Value)
 |yield (l:Nat) (args:List Value)
abbrev R:=Option (X×A×H)
abbrev Cl:=Req→H→Option (Value×H)
noncomputable def A.put (a:A) (d:Option Tmp) (v:Value):Option A:=match d with
 |none=>some a
 |some d=>match Nat.blt d a.size with
  |true=>force v fun v=>a.t.setK d (some v) fun t=>some ⟨a.size,t,a.ds⟩
  |false=>none
noncomputable def Eff.run (e:Eff) (h:H):H:=match e with
 |.rd _=>h
 |.new o=>h.t.setK h.next (some o) fun t=>forceN (Nat.succ h.next) fun n=>⟨t,n⟩
 |.grow o=>h.t.setK h.next (some o) fun t=>forceN (Nat.succ h.next) fun n=>⟨t,n⟩
 |.set b o=>h.t.setK b (some o) fun t=>⟨t,h.next⟩
 |.shift b _ o=>h.t.setK b none fun t=>t.setK h.next (some o) fun t=>forceN (Nat.succ h.next) fun n=>⟨t,n⟩
noncomputable def reqE (a:A) (c:Call):Option Req:=match c.callee with
 |.value f=>match a.ev f with
  |.func (.func g) ⟨first⟩ ⟨cap⟩=>some (.fn g (first++evs a c.args.toList++cap))
  |.func (.yield l) ⟨[]⟩ ⟨[]⟩=>some (.yield l (evs a c.args.toList))
  |_=>none
 |_=>none
noncomputable def extE (p:Program) (g:FuncId) (args:List Value):Option Value:=match flats args with
 |true=>match prog p (callFunc g ⟨args⟩) with
  |some (.value v)=>match flat 4 v with |true=>some v |false=>none
  |_=>none
 |false=>none
def hasBody (p:Program) (g:FuncId):Bool:=match p.funcs[g]? with
 |some fn=>match fn.body with
  |some _=>!(fn.name == "runtime.NumGoroutine")
  |none=>false
 |none=>false
noncomputable def callE (cl:Cl) (p:Program) (r:Req) (h:H):Option (Value×H):=match r with
 |.yield l args=>cl (.yield l args) h
 |.fn g args=>match hasBody p g with
  |true=>cl (.fn g args) h
  |false=>(extE p g args).map fun v=>(v,h)
inductive K where
 |simple (r:List Nat)
 |fresh (b:Nat)
 |heavy
def Eff.kind (e:Eff) (nx:Nat):K:=match e with
 |.rd r=>.simple r
 |.new _=>.fresh nx
 |_=>.heavy
noncomputable def enterE (cl:Cl) (p:Program) (a:A) (h:H) (o:Op):Option (Value×H):=match o with
 |.call c=>match reqE a c with
  |some r=>callE cl p r h
  |none=>none
 |_=>none
noncomputable def stepE (cl:Cl) (p:Program) (a:A) (h:H) (o:Oper):Option (Value×H×K):=
 match opE p a h.t h.next o.op o.type with
 |some (v,e)=>some (v,e.run h,e.kind h.next)
 |none=>match enterE cl p a h o.op with
  |some (v,h')=>some (v,h',.heavy)
  |none=>none
noncomputable def sameE:List E→List E→Bool
 |[],[]=>true
 |x::l,y::m=>sameV 4 x.key y.key&&(sameV 4 x.val y.val&&(Nat.beq x.born y.born&&sameE l m))
 |_,_=>false
noncomputable def sameO:Option O→Option O→Bool
 |some (.cells x),some (.cells y)=>sameV.sameL 4 x y
 |some (.ro x),some (.ro y)=>sameV.sameL 4 x y
 |some (.opn z x),some (.opn z' y)=>Nat.beq z z'&&sameV.sameL 4 x y
 |some (.map x c),some (.map y d)=>Nat.beq c d&&sameE x y
 |some (.frz p l h w),some (.frz p' l' h' w')=>sameV.sameL 4 p p'&&(Nat.beq l l'&&(Nat.beq h h'&&Bool.rec (Bool.rec true false w') w' w))
 |some (.mapU k v),some (.mapU k' v')=>decide (k=k')&&sameV 4 v v'
 |_,_=>false
noncomputable def wantE (ops:List Oper) (a:A) (o:Oper):Option Bool:=match o.guard with
 |none=>some true
 |some (j,w)=>match nth ops j with
  |some o'=>match o'.dst with
   |some d=>match a.get d with
    |.bool b=>some (Bool.rec (Bool.rec true false w) w b)
    |.tuple ⟨[]⟩=>some false
    |_=>none
   |none=>some false
  |none=>some false
noncomputable def regE (cl:Cl) (p:Program) (all:List Oper):List Oper→A→H→Option (A×H)
 |[],a,h=>some (a,h)
 |o::l,a,h=>match wantE all a o with
  |none=>none
  |some false=>match a.put o.dst undef with
   |some a=>regE cl p all l a h
   |none=>none
  |some true=>match stepE cl p a h o with
   |some (v,h,_)=>match a.put o.dst v with
    |some a=>regE cl p all l a h
    |none=>none
   |none=>none
structure Rec where
 i:Nat
 k:K
 h:T O
 h':T O
noncomputable def calm (h h':T O):List Nat→Bool
 |[]=>true
 |b::l=>sameO (h.get b) (h'.get b)&&calm h h' l
def nothing:Option O→Bool
 |none=>true
 |some _=>false
noncomputable def lacks (c:Nat):List Nat→Bool
 |[]=>true
 |b::l=>Bool.rec (lacks c l) false (Nat.beq c b)
noncomputable def goesWith (bits:Nat) (k:K) (h h':T O) (r:Rec):Bool:=match Nat.testBit bits r.i with
 |true=>true
 |false=>match r.k,k with
  |.simple _,.simple _=>true
  |.simple rs,.fresh c=>lacks c rs
  |.simple rs,.heavy=>calm h h' rs
  |.fresh c,.simple rs=>lacks c rs
  |.heavy,.simple rs=>calm r.h r.h' rs
  |.fresh _,.fresh _=>true
  |.heavy,.fresh c=>nothing (r.h.get c)&&nothing (r.h'.get c)
  |_,.heavy=>false
noncomputable def goesAll (bits:Nat) (k:K) (h h':T O):List Rec→Bool
 |[]=>true
 |r::l=>goesWith bits k h h' r&&goesAll bits k h h' l
def bitsOf (bs:List (Nat×Nat)) (i:Nat):List Edge→Option Nat
 |[]=>some 0
 |e::l=>match bitsOf bs i l with
  |none=>none
  |some s=>match Region.binds .any e with
   |false=>some s
   |true=>match Nat.blt e.on i with
    |true=>match bs.find? (fun x=>Nat.beq x.1 e.on) with
     |some (_,b)=>some (Nat.lor s (Nat.lor b (Nat.shiftLeft 1 e.on)))
     |none=>none
    |false=>none
def apartAll (ops:Array Oper) (bits:Nat) (o:Oper):List Oper→Nat→Bool
 |[],_=>true
 |x::l,j=>(Nat.testBit bits j ||Oper.apart ops x o)&&apartAll ops bits o l (Nat.succ j)
noncomputable def regD (cl:Cl) (p:Program) (all:Array Oper):List Oper→Nat→List (Nat×Nat)→List Rec→A→H→Option (A×H)
 |[],_,_,_,a,h=>some (a,h)
 |o::l,i,bs,rs,a,h=>match bitsOf bs i o.after.toList with
  |none=>none
  |some bits=>match apartAll all bits o (all.toList.take i) 0 with
   |false=>none
   |true=>match wantE all.toList a o with
    |none=>none
    |some false=>match a.put o.dst undef with
     |some a=>regD cl p all l (Nat.succ i) ((i,bits)::bs) rs a h
     |none=>none
    |some true=>match stepE cl p a h o with
     |some (v,h',k)=>match goesAll bits k h.t h'.t rs with
      |true=>match a.put o.dst v with
       |some a=>regD cl p all l (Nat.succ i) ((i,bits)::bs) (⟨i,k,h.t,h'.t⟩::rs) a h'
       |none=>none
      |false=>none
     |none=>none
def lots:Nat:=1000000
noncomputable def again (body:A→H→R):Nat→A→H→R:=
 Nat.rec (motive:=fun _=>A→H→R) (fun _ _=>none) fun _ ih a h=>match body a h with
  |some (.normal,a,h)=>ih a h
  |r=>r
noncomputable def goes (rest:Nat→Option (A→H→R)):Nat→R→R:=
 Nat.rec (motive:=fun _=>R→R) (fun _=>none) fun _ ih r=>match r with
  |some (.goto l,a,h)=>match rest l with
   |some g=>ih (g a h)
   |none=>some (.goto l,a,h)
  |r=>r
noncomputable def outOf (id:Nat) (r:R):R:=match r with
 |some (.exit id',a,h)=>match Nat.beq id' id with
  |true=>some (.normal,a,h)
  |false=>some (.exit id',a,h)
 |r=>r
noncomputable def thenE (r:R) (k:A→H→R):R:=match r with
 |some (.normal,a,h)=>k a h
 |r=>r
noncomputable def condE (c:Value) (x y:R):R:=match c with
 |.bool true=>x
 |.bool false=>y
 |_=>none
noncomputable def rangeB (cl:Cl) (p:Program) (fn:FuncId) (f:Operand) (ps:List Tmp) (assign body:Code) (a:A) (ds:List Nat) (h:H):R:=
 h.t.setK h.next (some (.loop .ready none fn a.size a.t ps assign body)) fun t=>forceN (Nat.succ h.next) fun n=>
  match a.ev f with
  |.func (.func g) ⟨first⟩ ⟨cap⟩=>match callE cl p (.fn g (first++[.func (.yield h.next) ⟨[]⟩ ⟨[]⟩]++cap)) ⟨t,n⟩ with
   |none=>none
   |some (_,h')=>match h'.t.get h.next with
    |some (.loop st pending fn' sz tm ps' as bd)=>match st with
     |.busy=>none
     |_=>h'.t.setK h.next (some (.loop .exhausted pending fn' sz tm ps' as bd)) fun t=>match pending with
      |none=>some (.normal,⟨a.size,a.t,ds⟩,⟨t,h'.next⟩)
      |some .ret=>some (.ret,⟨a.size,a.t,ds⟩,⟨t,h'.next⟩)
      |some (.exit id)=>some (.exit id,⟨a.size,a.t,ds⟩,⟨t,h'.next⟩)
      |some (.goto id)=>some (.goto id,⟨a.size,a.t,ds⟩,⟨t,h'.next⟩)
      |_=>none
    |_=>none
  |_=>none
noncomputable def rangeE (cl:Cl) (p:Program) (fn:FuncId) (rd:Option Nat) (f:Operand) (ps:List Tmp) (assign body:Code) (a:A) (h:H):R:=
 match rd with
 |none=>h.t.setK h.next (some .deferred) fun t=>forceN (Nat.succ h.next) fun n=>rangeB cl p fn f ps assign body a (h.next::a.ds) ⟨t,n⟩
 |some l=>match h.t.get l with
  |some (.loop ..)=>rangeB cl p fn f ps assign body a a.ds h
  |_=>none
noncomputable def codeE (cl:Cl) (p:Program) (fn:FuncId) (rd:Option Nat) (c:Code):(A→H→R)×(Nat→Option (A→H→R)):=
 Code.rec (motive:=fun _=>(A→H→R)×(Nat→Option (A→H→R)))
  (skip:=⟨fun a h=>some (.normal,a,h),fun _=>none⟩)
  (region:=fun _ ops d=>⟨fun a h=>match (match d with |false=>regE cl p ops.toList ops.toList a h |true=>regD cl p ops ops.toList 0 [] [] a h) with |some (a,h)=>some (.normal,a,h) |none=>none,fun _=>none⟩)
  (seq:=fun _ _ x y=>⟨fun a h=>thenE (x.1 a h) y.1,fun l=>match x.2 l with |some g=>some fun a h=>thenE (g a h) y.1 |none=>y.2 l⟩)
  (cond:=fun c _ _ x y=>⟨fun a h=>condE (a.ev c) (x.1 a h) (y.1 a h),fun _=>none⟩)
  (block:=fun id _ b=>⟨fun a h=>outOf id (b.1 a h),fun _=>none⟩)
  (loop:=fun _ b=>⟨fun a h=>again b.1 lots a h,fun _=>none⟩)
  (rangeFunc:=fun f ps assign body _ _=>⟨fun a h=>rangeE cl p fn rd f ps.toList assign body a h,fun _=>none⟩)
  (exit:=fun id=>⟨fun a h=>some (.exit id,a,h),fun _=>none⟩)
  (scope:=fun _ b=>⟨fun a h=>goes b.2 lots (b.1 a h),fun _=>none⟩)
  (label:=fun l=>⟨fun a h=>some (.normal,a,h),fun l'=>Bool.rec none (some fun a h=>some (.normal,a,h)) (Nat.beq l l')⟩)
  (goto:=fun l=>⟨fun a h=>some (.goto l,a,h),fun _=>none⟩)
  (ret:=⟨fun a h=>some (.ret,a,h),fun _=>none⟩)
  (refuse:=fun _=>⟨fun _ _=>none,fun _=>none⟩) c
noncomputable def layT {β:Type} (l:List Value):Nat→T Value→(T Value→β)→β:=
 List.rec (motive:=fun _=>Nat→T Value→(T Value→β)→β) (fun _ t k=>k t) (fun x _ ih n t k=>force x fun x=>t.setK n (some x) fun t=>ih (Nat.succ n) t k) l
noncomputable def resE (p:Program) (h:T O) (a:A):List ResultVar→Option (List Value)
 |[]=>some []
 |.tmp t::l=>(resE p h a l).map (a.get t::·)
 |.cell x t::l=>match loadE p h t (a.get x),resE p h a l with
  |some (v,_),some vs=>some (v::vs)
  |_,_=>none
noncomputable def dropDs (h:H):List Nat→Option H
 |[]=>some h
 |d::l=>match h.t.get d with
  |some .deferred=>h.t.setK d none fun t=>dropDs ⟨t,h.next⟩ l
  |_=>none
def one (vs:List Value):Value:=match vs with |[v]=>v |vs=>.tuple ⟨vs⟩
noncomputable def leaveE (p:Program) (fn:Func) (a:A) (h:H):Option (Value×H):=match dropDs h a.ds with
 |some h=>match resE p h.t a fn.results.toList with
  |some vs=>force (one vs) fun v=>some (v,h)
  |none=>none
 |none=>none
noncomputable def layP {β:Type} (ps:List Tmp):List Value→T Value→(T Value→β)→β:=
 List.rec (motive:=fun _=>List Value→T Value→(T Value→β)→β) (fun _ t k=>k t) (fun d _ ih vs t k=>match vs with
  |v::vs=>force v fun v=>t.setK d (some v) fun t=>ih vs t k
  |[]=>k t) ps
def jumpOf:X→Option Code
 |.normal=>none
 |.ret=>some .ret
 |.exit id=>some (.exit id)
 |.goto l=>some (.goto l)
noncomputable def evalE (p:Program):Nat→Cl:=
 Nat.rec (motive:=fun _=>Cl) (fun _ _=>none) fun _ cl r h=>match r with
  |.fn f args=>match p.funcs[f]? with
   |some fn=>match fn.body with
    |some b=>layT args 0 .leaf fun t=>match (codeE cl p f none b).1 ⟨Nat.max fn.ntmps args.length,t,[]⟩ h with
     |some (.normal,a,h)=>leaveE p fn a h
     |some (.ret,a,h)=>leaveE p fn a h
     |_=>none
    |none=>none
   |none=>none
  |.yield l args=>match h.t.get l with
   |some (.loop .ready pending fn sz tm ps assign body)=>
    match Nat.beq ps.length args.length&&ps.all (fun d=>Nat.blt d sz) with
    |false=>none
    |true=>layP ps args tm fun t=>match (codeE cl p fn (some l) assign).1 ⟨sz,t,[]⟩ h with
     |some (.normal,a,h)=>match h.t.get l with
      |some (.loop .ready pending fn sz tm ps assign body)=>h.t.setK l (some (.loop .busy pending fn sz tm ps assign body)) fun t=>
       match (codeE cl p fn (some l) body).1 a ⟨t,h.next⟩ with
       |some (x,a,h)=>match a.ds with
        |[]=>match h.t.get l with
         |some (.loop _ _ fn sz tm ps assign body)=>match jumpOf x with
          |none=>h.t.setK l (some (.loop .ready none fn sz tm ps assign body)) fun t=>some (.bool true,⟨t,h.next⟩)
          |some j=>h.t.setK l (some (.loop .done (some j) fn sz tm ps assign body)) fun t=>some (.bool false,⟨t,h.next⟩)
         |_=>none
        |_=>none
       |none=>none
      |_=>none
     |_=>none
   |_=>none
abbrev Out:=X×A×H
abbrev RL:=Option (List Out)
abbrev ClL:=Req→H→Option (List (Value×H))
def apL {α:Type} (x y:Option (List α)):Option (List α):=match x with
 |some l=>match y with |some m=>some (l++m) |none=>none
 |none=>none
def flatL {α β:Type} (f:α→Option (List β)):List α→Option (List β)
 |[]=>some []
 |x::l=>apL (f x) (flatL f l)
noncomputable def joinO (x y:Option O):Option O:=match sameO x y with
 |true=>x
 |false=>match x,y with
  |some (.cells l),some (.cells m)=>match Nat.beq l.length m.length with |true=>some (.cells (joinW.joinWs 4 l m)) |false=>none
  |some (.ro l),some (.ro m)=>match Nat.beq l.length m.length with |true=>some (.ro (joinW.joinWs 4 l m)) |false=>none
  |some (.opn z l),some (.opn z' m)=>match Nat.beq z z'&&Nat.beq l.length m.length with |true=>some (.opn z (joinW.joinWs 4 l m)) |false=>none
  |some (.frz p l h w),some (.frz p' l' h' w')=>match sameV.sameL 4 p p'&&(Nat.ble l h&&Nat.ble l' h') with
   |true=>forceN (Nat.min l l') fun l=>forceN (Nat.max h h') fun h=>some (.frz p l h (Bool.rec false w' w))
   |false=>none
  |_,_=>none
def keysT {α:Type}:T α→List Nat
 |.leaf=>[]
 |.node l v r=>(match v with |some _=>[0] |none=>[])++((keysT l).map (fun k=>Nat.succ (Nat.add k k))++(keysT r).map (fun k=>Nat.succ (Nat.succ (Nat.add k k))))
noncomputable def joinT (t u:T O):List Nat→T O→(T O→Value×H)→Value×H:=
 fun ids=>List.rec (motive:=fun _=>T O→(T O→Value×H)→Value×H) (fun s k=>k s) (fun i _ ih s k=>match joinO (t.get i) (u.get i) with
  |some x=>s.setK i (some x) fun s=>ih s k
  |none=>ih s k) ids
noncomputable def joinTwo (ids:List Nat) (x y:Value×H):Value×H:=joinT x.2.t y.2.t ids .leaf fun t=>forceN (Nat.max x.2.next y.2.next) fun n=>(joinW 5 x.1 y.1,⟨t,n⟩)
noncomputable def joinAll (ids:List Nat):Value×H→List (Value×H)→Value×H
 |x,[]=>x
 |x,y::l=>joinAll ids (joinTwo ids x y) l
noncomputable def clOne (cl:ClL):Cl:=fun r h=>match cl r h with
 |some [o]=>some o
 |some (o::l)=>some (joinAll (keysT h.t) o l)
 |_=>none
noncomputable def callL (cl:ClL) (p:Program) (r:Req) (h:H):Option (List (Value×H)):=match r with
 |.yield l args=>cl (.yield l args) h
 |.fn g args=>match hasBody p g with
  |true=>cl (.fn g args) h
  |false=>match extE p g args with |some v=>some [(v,h)] |none=>none
noncomputable def enterL (cl:ClL) (p:Program) (a:A) (h:H) (o:Op):Option (List (Value×H)):=match o with
 |.call c=>match reqE a c with
  |some r=>callL cl p r h
  |none=>none
 |_=>none
noncomputable def stepL (cl:ClL) (p:Program) (a:A) (h:H) (o:Oper):Option (List (Value×H)):=match opE p a h.t h.next o.op o.type with
 |some (v,e)=>some [(v,e.run h)]
 |none=>enterL cl p a h o.op
def partsOf:Op→List Operand
 |.indexAddr _ _ i=>[i]
 |.index _ _ i=>[i]
 |.slice _ _ lo hi mx=>lo.toList++(hi.toList++mx.toList)
 |.binOp .shl _ _ y _=>[y]
 |.lookup _ _ k _=>[k]
 |.mapUpdate _ _ k _=>[k]
 |.insert _ _ k _=>[k]
 |.makeSlice _ l c=>[l,c]
 |_=>[]
def fromTo (lo:Int):Nat→List Int
 |0=>[]
 |n+1=>lo::fromTo (lo+1) n
noncomputable def eachTmp (a:A) (d:Nat) (k:IntKind):List Int→Option (List A)
 |[]=>some []
 |n::l=>match a.put (some d) (.int k n),eachTmp a d k l with
  |some b,some bs=>some (b::bs)
  |_,_=>none
noncomputable def splits (a:A):List Operand→Option (List A)
 |[]=>none
 |.tmp d::l=>match a.get d with
  |.iface 1 (.tuple ⟨[.int k lo,.int _ hi]⟩)=>match leI hi (Int.add lo 32) with
   |true=>eachTmp a d k (fromTo lo (Nat.succ (Int.sub hi lo).toNat))
   |false=>splits a l
  |_=>splits a l
 |_::l=>splits a l
inductive Wa where
 |no |yes |bad
 |ask (d:Tmp) (w:Bool)
noncomputable def wantL (ops:List Oper) (a:A) (o:Oper):Wa:=match o.guard with
 |none=>.yes
 |some (j,w)=>match nth ops j with
  |some o'=>match o'.dst with
   |some d=>match a.get d with
    |.bool b=>Bool.rec (Bool.rec .yes .no w) (Bool.rec .no .yes w) b
    |.tuple ⟨[]⟩=>.no
    |.iface 2 .nilIface=>.ask d w
    |_=>.bad
   |none=>.no
  |none=>.no
noncomputable def onward (a:A) (d:Option Tmp) (k:A→H→Option (List (A×H))):List (Value×H)→Option (List (A×H)):=flatL fun o=>match a.put d o.1 with
 |some a=>k a o.2
 |none=>none
noncomputable def doOp (cl:ClL) (p:Program) (o:Oper) (k:A→H→Option (List (A×H))) (a:A) (h:H):Option (List (A×H)):=match stepL cl p a h o with
 |some outs=>onward a o.dst k outs
 |none=>match splits a (partsOf o.op) with
  |none=>none
  |some as=>flatL (fun a=>match stepL cl p a h o with
   |some outs=>onward a o.dst k outs
   |none=>match splits a (partsOf o.op) with
    |none=>none
    |some as=>flatL (fun a=>match stepL cl p a h o with
     |some outs=>onward a o.dst k outs
     |none=>none) as) as
noncomputable def skipOp (o:Oper) (k:A→H→Option (List (A×H))) (a:A) (h:H):Option (List (A×H)):=match a.put o.dst undef with
 |some a=>k a h
 |none=>none
noncomputable def regL (cl:ClL) (p:Program) (all:List Oper):List Oper→A→H→Option (List (A×H))
 |[],a,h=>some [(a,h)]
 |o::l,a,h=>match wantL all a o with
  |.bad=>none
  |.no=>skipOp o (regL cl p all l) a h
  |.yes=>doOp cl p o (regL cl p all l) a h
  |.ask d w=>match a.put (some d) (.bool w),a.put (some d) (.bool !w) with
   |some a1,some a2=>apL (doOp cl p o (regL cl p all l) a1 h) (skipOp o (regL cl p all l) a2 h)
   |_,_=>none
inductive Dr where
 |fail
 |ask (j:Nat)
 |done (a:A) (h:H)
abbrev Al:=List (Nat×Bool)
def tell (al:Al) (i:Nat):Option Bool:=match al with
 |[]=>none
 |(j,b)::l=>match Nat.beq j i with |true=>some b |false=>tell l i
def takenFor (al:Al) (i:Nat) (d:Option Tmp) (v:Value):Option Value:=match tell al i with
 |none=>some v
 |some b=>match v,d with
  |.iface 2 .nilIface,some _=>some (.bool b)
  |_,_=>none
noncomputable def asksOf (ops:List Oper) (a:A) (o:Oper):Option Nat:=match o.guard with
 |none=>none
 |some (j,_)=>match nth ops j with
  |some o'=>match o'.dst with
   |some d=>match a.get d with
    |.iface 2 .nilIface=>some j
    |_=>none
   |none=>none
  |none=>none
noncomputable def regDA (cl:Cl) (p:Program) (all:Array Oper) (al:Al):List Oper→Nat→List (Nat×Nat)→List Rec→A→H→Dr
 |[],_,_,_,a,h=>.done a h
 |o::l,i,bs,rs,a,h=>match bitsOf bs i o.after.toList with
  |none=>.fail
  |some bits=>match apartAll all bits o (all.toList.take i) 0 with
   |false=>.fail
   |true=>match wantE all.toList a o with
    |none=>(match asksOf all.toList a o with
     |some j=>.ask j
     |none=>.fail)
    |some false=>(match a.put o.dst undef with
     |some a=>regDA cl p all al l (Nat.succ i) ((i,bits)::bs) rs a h
     |none=>.fail)
    |some true=>(match stepE cl p a h o with
     |some (v0,h',k)=>(match takenFor al i o.dst v0 with
      |some v=>(match goesAll bits k h.t h'.t rs with
       |true=>(match a.put o.dst v with
        |some a=>regDA cl p all al l (Nat.succ i) ((i,bits)::bs) (⟨i,k,h.t,h'.t⟩::rs) a h'
        |none=>.fail)
       |false=>.fail)
      |none=>.fail)
     |none=>.fail)
noncomputable def regDs (cl:Cl) (p:Program) (all:Array Oper) (a:A) (h:H):Nat→Al→Option (List (A×H))
 |0,_=>none
 |n+1,al=>match regDA cl p all al all.toList 0 [] [] a h with
  |.fail=>none
  |.done a h=>some [(a,h)]
  |.ask j=>match tell al j with
   |some _=>none
   |none=>apL (regDs cl p all a h n ((j,true)::al)) (regDs cl p all a h n ((j,false)::al))
def isCallOp:Op→Bool
 |.call {callee:=.value _,..}=>true
 |_=>false
def callsChk (al:Al):List Oper→Nat→List (Nat×Nat)→Bool
 |[],_,_=>true
 |o::l,i,bs=>match bitsOf bs i o.after.toList with
  |none=>false
  |some bits=>(match isCallOp o.op with |true=>al.all fun p=>Nat.testBit bits p.1 |false=>true)&&callsChk al l (Nat.succ i) ((i,bits)::bs)
noncomputable def regDs2 (cl:Cl) (p:Program) (all:Array Oper) (a:A) (h:H):Nat→Al→Option (List (A×H))
 |0,_=>none
 |n+1,al=>match regDA cl p all al all.toList 0 [] [] a h with
  |.fail=>none
  |.done a h=>(match callsChk al all.toList 0 [] with |true=>some [(a,h)] |false=>none)
  |.ask j=>match tell al j with
   |some _=>none
   |none=>apL (regDs2 cl p all a h n ((j,true)::al)) (regDs2 cl p all a h n ((j,false)::al))
def readsOp:Op→Bool
 |.load _ _=>true
 |.fieldAddr _ _ _=>true
 |.move _=>true
 |.nilCheck _=>true
 |_=>false
def behindChk (i0:Nat):List Oper→Nat→List (Nat×Nat)→Bool
 |[],_,_=>true
 |o::l,i,bs=>match bitsOf bs i o.after.toList with
  |none=>false
  |some bits=>(match Nat.beq i i0 with |true=>isCallOp o.op&&(match o.guard with |none=>true |_=>false) |false=>!(isCallOp o.op)&&(Nat.testBit bits i0 ||readsOp o.op))&&behindChk i0 l (Nat.succ i) ((i,bits)::bs)
def callAt:List Oper→Nat→Option Nat
 |[],_=>none
 |o::l,i=>match isCallOp o.op with |true=>some i |false=>callAt l (Nat.succ i)
def pickK (cl:ClL) (k:Nat):Cl:=fun r h=>match cl r h with
 |some outs=>(match Nat.ble outs.length 4 with
  |true=>(match nth outs k with |some o=>some o |none=>nth outs 0)
  |false=>none)
 |none=>none
noncomputable def regDM (cl:ClL) (p:Program) (ops:Array Oper) (a:A) (h:H):Option (List (A×H)):=match callAt ops.toList 0 with
 |none=>none
 |some i0=>(match behindChk i0 ops.toList 0 [] with
  |false=>none
  |true=>(match regDA (pickK cl 0) p ops [] ops.toList 0 [] [] a h,regDA (pickK cl 1) p ops [] ops.toList 0 [] [] a h,regDA (pickK cl 2) p ops [] ops.toList 0 [] [] a h,regDA (pickK cl 3) p ops [] ops.toList 0 [] [] a h with
   |.done a0 h0,.done a1 h1,.done a2 h2,.done a3 h3=>some [(a0,h0),(a1,h1),(a2,h2),(a3,h3)]
   |_,_,_,_=>none))
noncomputable def regDd (cl clU:ClL) (p:Program) (ops:Array Oper) (a:A) (h:H):Option (List (A×H)):=match regDA (clOne cl) p ops [] ops.toList 0 [] [] a h with
 |.done a h=>some [(a,h)]
 |.ask _=>(match regDs2 (clOne cl) p ops a h 9 [] with
  |some l=>some l
  |none=>regDs (clOne clU) p ops a h 9 [])
 |.fail=>regDM cl p ops a h
noncomputable def regDx (cl clU:ClL) (p:Program) (ops:Array Oper) (a:A) (h:H):Option (List (A×H)):=match regDd cl clU p ops a h with
 |some l=>some l
 |none=>(match splits a (ops.toList.flatMap fun o=>o.op.operands.toList) with
  |some (b::bs)=>flatL (fun b=>regDd cl clU p ops b h) (b::bs)
  |_=>none)
def withX (l:Option (List (A×H))):RL:=match l with
 |some l=>some (l.map fun x=>(.normal,x.1,x.2))
 |none=>none
inductive Hint where
 |forget (d:Nat)
 |view (d:Nat)
 |lens (d:Nat) (l:List Nat)
 |ints (d:Nat) (l:List Int)
 |cmp (d e:Nat)
def segsN (lo hi:Nat):List Nat→List (Nat×Nat)
 |[]=>[(lo,hi)]
 |m::l=>match Nat.blt m lo with
  |true=>segsN lo hi l
  |false=>match Nat.ble hi m with
   |true=>[(lo,hi)]
   |false=>(lo,m)::segsN (Nat.succ m) hi l
def segsI (lo hi:Int):List Int→List (Int×Int)
 |[]=>[(lo,hi)]
 |m::l=>match ltI m lo with
  |true=>segsI lo hi l
  |false=>match leI hi m with
   |true=>[(lo,hi)]
   |false=>(lo,m)::segsI (Int.add m 1) hi l
noncomputable def lensH (a:A) (h:H) (j:Nat) (p:List Value) (w:Bool):List (Nat×Nat)→List (A×H)
 |[]=>[]
 |(s,e)::l=>(a,h.t.setK j (some (.frz p s e w)) fun t=>⟨t,h.next⟩)::lensH a h j p w l
noncomputable def intsA (a:A) (h:H) (d:Nat) (k:IntKind):List (Int×Int)→Option (List (A×H))
 |[]=>some []
 |(s,e)::l=>match a.put (some d) (mkU k s e),intsA a h d k l with
  |some b,some r=>some ((b,h)::r)
  |_,_=>none
noncomputable def viewH (a:A) (h:H) (d j lo hi:Nat):Option (List (A×H)):=match h.t.get j with
 |some (.frz p l0 u0 _)=>match Nat.ble l0 u0,a.put (some d) (.chan (some h.next)) with
  |true,some b=>h.t.setK j none fun t=>t.setK h.next (some (.frz p lo hi false)) fun t=>forceN (Nat.succ h.next) fun n=>some [(b,⟨t,n⟩)]
  |_,_=>none
 |_=>none
noncomputable def cmpA (a:A) (h:H) (d:Nat) (lo hi:Int) (j l u:Nat):Option (List (A×H)):=
 match a.put (some d) (leV .i64 lo (minI hi (.ofNat u)) j 0),a.put (some d) (leV .i64 (maxI lo (.ofNat (Nat.succ l))) hi j 1) with
 |some b,some b2=>match leI lo (.ofNat u),leI (.ofNat (Nat.succ l)) hi with
  |true,true=>some [(b,h),(b2,h)]
  |true,false=>some [(b,h)]
  |false,true=>some [(b2,h)]
  |false,false=>none
 |_,_=>none
noncomputable def hint1 (x:Hint) (a:A) (h:H):Option (List (A×H)):=match x with
 |.forget d=>match a.put (some d) unk with
  |some b=>some [(b,h)]
  |none=>none
 |.view d=>match a.get d with
  |.iface 8 (.slice (some ⟨j,0,none⟩) lo hi)=>viewH a h d j lo hi
  |.iface 5 (.slice (some ⟨j,l,none⟩) 0 0)=>match h.t.get j with
   |some (.frz _ l0 u0 _)=>match Nat.ble l l0 with
    |true=>forceN (Nat.sub l0 l) fun lo=>forceN (Nat.sub u0 l) fun hi=>viewH a h d j lo hi
    |false=>none
   |_=>none
  |.chan (some _)=>some [(a,h)]
  |_=>none
 |.lens d l=>match a.get d with
  |.chan (some j)=>match h.t.get j with
   |some (.frz p lo hi w)=>match Nat.ble lo hi with
    |true=>some (lensH a h j p w (segsN lo hi l))
    |false=>none
   |_=>none
  |_=>none
 |.ints d l=>match asU (a.get d) with
  |some (k,lo,hi)=>intsA a h d k (segsI lo hi l)
  |none=>none
 |.cmp d e=>match asU (a.get d),a.get e with
  |some (.i64,lo,hi),.chan (some j)=>match h.t.get j with
   |some (.frz _ l u _)=>match Nat.ble l u with
    |true=>cmpA a h d lo hi j l u
    |false=>none
   |_=>none
  |_,_=>none
noncomputable def hintsL:List Hint→A→H→Option (List (A×H))
 |[],a,h=>some [(a,h)]
 |x::l,a,h=>match hint1 x a h with
  |some sts=>flatL (fun s=>hintsL l s.1 s.2) sts
  |none=>none
noncomputable def sameT (x y:T Value):Bool:=T.rec (motive:=fun _=>T Value→Bool)
 (fun y=>match y with |.leaf=>true |_=>false)
 (fun l o r fl fr y=>match y with
   |.node l' o' r'=>(match o,o' with |none,none=>true |some a,some b=>sameV 5 a b |_,_=>false)&&(fl l'&&fr r')
   |.leaf=>false) x y
noncomputable def sameTO (x y:T O):Bool:=T.rec (motive:=fun _=>T O→Bool)
 (fun y=>match y with |.leaf=>true |_=>false)
 (fun l o r fl fr y=>match y with
   |.node l' o' r'=>(match o,o' with |none,none=>true |some a,some b=>sameO (some a) (some b) |_,_=>false)&&(fl l'&&fr r')
   |.leaf=>false) x y
noncomputable def eqNs:List Nat→List Nat→Bool
 |[],[]=>true
 |x::l,y::m=>Nat.beq x y&&eqNs l m
 |_,_=>false
noncomputable def sameS (x y:A×H):Bool:=Nat.beq x.2.next y.2.next&&(Nat.beq x.1.size y.1.size&&(eqNs x.1.ds y.1.ds&&(sameT x.1.t y.1.t&&sameTO x.2.t y.2.t)))
noncomputable def hasS (x:A×H):List (A×H)→Bool
 |[]=>false
 |y::l=>Bool.rec (hasS x l) true (sameS x y)
noncomputable def onceS:List (A×H)→List (A×H)
 |[]=>[]
 |x::l=>Bool.rec (x::onceS l) (onceS l) (hasS x l)
def normals:List Out→List (A×H)
 |[]=>[]
 |(.normal,a,h)::l=>(a,h)::normals l
 |_::l=>normals l
def others:List Out→List Out
 |[]=>[]
 |(.normal,_,_)::l=>others l
 |x::l=>x::others l
noncomputable def thenL (r:RL) (k:A→H→RL):RL:=match r with
 |some outs=>apL (some (others outs)) (flatL (fun s=>k s.1 s.2) (onceS (normals outs)))
 |none=>none
noncomputable def roundsL (body:A→H→RL):Nat→List (A×H)→RL:=
 Nat.rec (motive:=fun _=>List (A×H)→RL) (fun _=>none) fun _ ih sts=>match sts with
  |[]=>some []
  |sts=>match flatL (fun s=>body s.1 s.2) sts with
   |some outs=>apL (some (others outs)) (ih (onceS (normals outs)))
   |none=>none
def outOfL (id:Nat) (r:RL):RL:=match r with
 |some outs=>some (outs.map fun o=>match o with
  |(.exit id',a,h)=>(match Nat.beq id' id with |true=>(.normal,a,h) |false=>(.exit id',a,h))
  |o=>o)
 |none=>none
noncomputable def condL (c:Value) (x y:RL):RL:=match c with
 |.bool true=>x
 |.bool false=>y
 |.iface 2 .nilIface=>apL x y
 |_=>none
noncomputable def goesL (rest:Nat→Option (A→H→RL)):Nat→RL→RL:=
 Nat.rec (motive:=fun _=>RL→RL) (fun _=>none) fun _ ih r=>match r with
  |some outs=>flatL (fun o=>match o with
   |(.goto l,a,h)=>(match rest l with
    |some g=>ih (g a h)
    |none=>some [(.goto l,a,h)])
   |o=>some [o]) outs
  |none=>none
def wayOf:Option Code→Option X
 |none=>some .normal
 |some .ret=>some .ret
 |some (.exit id)=>some (.exit id)
 |some (.goto l)=>some (.goto l)
 |_=>none
noncomputable def rangeEnd (l:Nat) (a:A) (ds:List Nat) (h':H):RL:=match h'.t.get l with
 |some (.loop st pending fn' sz tm ps' as bd)=>match st with
  |.busy=>none
  |_=>match wayOf pending with
   |some x=>h'.t.setK l (some (.loop .exhausted pending fn' sz tm ps' as bd)) fun t=>some [(x,⟨a.size,a.t,ds⟩,⟨t,h'.next⟩)]
   |none=>none
 |_=>none
noncomputable def rangeBL (cl:ClL) (p:Program) (fn:FuncId) (f:Operand) (ps:List Tmp) (assign body:Code) (a:A) (ds:List Nat) (h:H):RL:=
 h.t.setK h.next (some (.loop .ready none fn a.size a.t ps assign body)) fun t=>forceN (Nat.succ h.next) fun n=>
  match a.ev f with
  |.func (.func g) ⟨first⟩ ⟨cap⟩=>match callL cl p (.fn g (first++[.func (.yield h.next) ⟨[]⟩ ⟨[]⟩]++cap)) ⟨t,n⟩ with
   |none=>none
   |some outs=>flatL (fun o=>rangeEnd h.next a ds o.2) outs
  |_=>none
noncomputable def rangeL (cl:ClL) (p:Program) (fn:FuncId) (rd:Option Nat) (f:Operand) (ps:List Tmp) (assign body:Code) (a:A) (h:H):RL:=
 match rd with
 |none=>h.t.setK h.next (some .deferred) fun t=>forceN (Nat.succ h.next) fun n=>rangeBL cl p fn f ps assign body a (h.next::a.ds) ⟨t,n⟩
 |some l=>match h.t.get l with
  |some (.loop ..)=>rangeBL cl p fn f ps assign body a a.ds h
  |_=>none
def keeps (n i:Nat):Nat→Value→Bool
 |0,_=>false
 |d+1,v=>match v with
  |.bool _ |.int _ _ |.float _ _ |.complex _ _ _ |.string _ |.pointer none |.slice none _ _ |.map none |.nilFunc |.nilIface |.chan none=>true
  |.pointer (some ⟨b,_,none⟩)=>Nat.blt b n&&!(Nat.beq b i)
  |.slice (some ⟨0,0,some 7⟩) 0 0=>true
  |.slice (some ⟨b,_,none⟩) _ _=>Nat.blt b n&&!(Nat.beq b i)
  |.map (some b)=>Nat.blt b n
  |.chan (some b)=>Nat.blt b n
  |.func (.func _) ⟨x⟩ ⟨y⟩=>x.all (keeps n i d)&&y.all (keeps n i d)
  |.iface 1 (.tuple ⟨[.int _ _,.int _ _]⟩)=>true
  |.iface 2 .nilIface=>true
  |.iface 3 .nilIface=>true
  |.iface 4 (.tuple ⟨[.int _ _,.int _ _,.slice none b 0]⟩)=>Nat.blt b n
  |.iface 5 (.slice (some ⟨b,_,none⟩) 0 0)=>Nat.blt b n
  |.iface 6 (.tuple ⟨[.int _ _,.int _ _,.slice none b 0]⟩)=>Nat.blt b n
  |.iface 7 (.tuple ⟨[.int _ _,.int _ _,.slice none b _,.slice none _ _]⟩)=>Nat.blt b n&&!(Nat.beq b i)
  |.agg ⟨l⟩=>l.all (keeps n i d)
  |.tuple ⟨l⟩=>l.all (keeps n i d)
  |_=>false
def keepsO (n i:Nat):O→Bool
 |.cells l=>l.all (keeps n i 6)
 |.ro l=>l.all (keeps n i 6)
 |.opn _ l=>l.all (keeps n i 6)
 |.map es _=>es.all fun e=>keeps n i 6 e.key&&keeps n i 6 e.val
 |.mapU _ v=>keeps n i 6 v
 |.frz _ _ _ _=>true
 |_=>false
noncomputable def fromK {α:Type} (l:List (Nat×O)):T O→(T O→α)→α:=
 List.rec (motive:=fun _=>T O→(T O→α)→α) (fun t k=>k t) (fun x _ ih t k=>t.setK x.1 (some x.2) fun t=>ih t k) l
noncomputable def listT (t:T O):List Nat→List (Nat×O)
 |[]=>[]
 |j::l=>match t.get j with |some o=>(j,o)::listT t l |none=>listT t l
noncomputable def covO (y:O) (x:Option O):Bool:=match y,x with
 |.mapU _ _,some (.map [] _)=>true
 |y,x=>sameO (joinO (some y) x) (some y)
noncomputable def covL (t:T O):List (Nat×O)→Bool
 |[]=>true
 |(j,y)::l=>match covO y (t.get j) with |true=>covL t l |false=>false
noncomputable def covB (n i:Nat) (t:T O):List (Nat×O)→Bool
 |[]=>true
 |(j,y)::l=>match Nat.beq j i with
  |true=>(match t.get i with |some (.ro _)=>covB n i t l |_=>false)
  |false=>(match keepsO n i y&&(Nat.blt j n&&covO y (t.get j)) with |true=>covB n i t l |false=>false)
def seenL (i:Nat) (p:List Value):List (Nat×O)→List (Nat×O)
 |[]=>[]
 |(j,y)::l=>match Nat.beq j i with
  |true=>(j,.ro p)::seenL i p l
  |false=>(j,y)::seenL i p l
def isUnk:Value→Bool
 |.chan none=>true
 |_=>false
noncomputable def covA (n i ti:Nat) (a b:A):Nat→Bool
 |0=>true
 |k+1=>match Nat.beq k ti with
  |true=>covA n i ti a b k
  |false=>match isUnk (a.get k) with
   |true=>covA n i ti a b k
   |false=>match sameV 6 (joinW 5 (a.get k) (b.get k)) (a.get k)&&keeps n i 6 (a.get k) with |true=>covA n i ti a b k |false=>false
def nextIx (i:Nat) (v:Value):Bool:=match v with
 |.iface 7 (.tuple ⟨[.int .i64 _,.int _ _,.slice none j 1,.slice none _ _]⟩)=>Nat.beq i j
 |_=>false
def sameDs:List Nat→List Nat→Bool
 |[],[]=>true
 |x::l,y::m=>Nat.beq x y&&sameDs l m
 |_,_=>false
noncomputable def backL (n i ti:Nat) (a:A) (l:List (Nat×O)) (o:Out):Bool:=match o with
 |(.normal,b,h)=>nextIx i (b.get ti)&&(Nat.beq a.size b.size&&(sameDs a.ds b.ds&&(a.ds.all (fun d=>Nat.blt d n)&&(covA n i ti a b a.size&&covB n i h.t l))))
 |_=>true
noncomputable def keepA (n i:Nat) (ti:Nat) (a:A) (k:A→RL):RL:=
 Nat.rec (motive:=fun _=>T Value→RL) (fun t=>k ⟨a.size,t,a.ds⟩) (fun m ih t=>match !(Nat.beq m ti)&&keeps n i 6 (a.get m) with
  |true=>t.setK m (some (a.get m)) ih
  |false=>t.setK m (some unk) ih) a.size .leaf
noncomputable def leaveR (i:Nat) (fo:O) (o:Out):RL:=match o with
 |(.normal,_,_)=>some []
 |(e,b,h)=>(match h.t.get i with
  |some (.ro _)=>keepA h.next i b.size b fun b=>fromK ((i,fo)::(listT h.t (keysT h.t)).filter fun x=>keepsO h.next i x.2&&!(Nat.beq x.1 i)) .leaf fun t=>some [(e,b,⟨t,h.next⟩)]
  |_=>none)
noncomputable def widV (n i:Nat):Nat→Value→Value→Value
 |0,_,_=>unk
 |d+1,x,y=>match sameV 6 (joinW 5 x y) x with
  |true=>match keeps n i 6 x with |true=>x |false=>unk
  |false=>match x,y with
   |.agg ⟨l⟩,.agg ⟨m⟩=>match Nat.beq l.length m.length with |true=>.agg ⟨List.zipWith (widV n i d) l m⟩ |false=>unk
   |x,y=>match asU (joinW 5 x y) with
    |some (k,_,_)=>fullU k
    |none=>match keeps n i 6 (joinW 5 x y) with |true=>joinW 5 x y |false=>unk
noncomputable def widO (n i:Nat) (x:O) (y:Option O):O:=match x,y with
 |.cells l,some (.cells m)=>forceL (List.zipWith (widV n i 4) l m) fun l=>.cells l
 |.ro l,some (.ro m)=>forceL (List.zipWith (widV n i 4) l m) fun l=>.ro l
 |.opn z l,some (.opn _ m)=>forceL (List.zipWith (widV n i 4) l m) fun l=>.opn z l
 |.map _ _,some (.mapU q v)=>.mapU q v
 |.mapU q v,some (.mapU _ w)=>.mapU q (widV n i 4 v w)
 |x,_=>x
noncomputable def widL (n i:Nat) (t:T O):List (Nat×O)→List (Nat×O)
 |[]=>[]
 |(j,y)::l=>match Nat.beq j i with
  |true=>(j,y)::widL n i t l
  |false=>match widO n i y (t.get j) with |o=>(j,o)::widL n i t l
noncomputable def widA (n i ti:Nat) (b:A):Nat→A→Option A
 |0,a=>some a
 |k+1,a=>match Nat.beq k ti with
  |true=>widA n i ti b k a
  |false=>match a.put (some k) (widV n i 4 (a.get k) (b.get k)) with |some a=>widA n i ti b k a |none=>none
noncomputable def widS (n i ti:Nat):List Out→A→List (Nat×O)→Option (A×List (Nat×O))
 |[],a,l=>some (a,l)
 |(.normal,b,h)::os,a,l=>match widA n i ti b a.size a with
  |some a=>widS n i ti os a (widL n i h.t l)
  |none=>none
 |_::os,a,l=>widS n i ti os a l
noncomputable def headL (i:Nat) (fo:O):List (Nat×O)→Bool
 |(j,o)::l=>Nat.beq j i&&(sameO (some o) (some fo)&&l.all fun x=>!(Nat.beq x.1 i))
 |[]=>false
noncomputable def goodS (n i ti:Nat) (fo:O) (a0:A) (t0:T O) (a:A) (l:List (Nat×O)):Bool:=(Nat.beq a.size a0.size&&(sameDs a.ds a0.ds&&a.ds.all (fun d=>Nat.blt d n)))&&((headL i fo l&&l.all (fun x=>Nat.blt x.1 n&&(Nat.beq x.1 i ||keepsO n i x.2)))&&(covA n i ti a a0 a.size&&covL t0 l))
def maxN:List Out→Nat→Nat
 |[],n=>n
 |o::l,n=>maxN l (Nat.max n o.2.2.next)
def raiseN (n:Nat) (o:Out):Out:=(o.1,o.2.1,⟨o.2.2.t,n⟩)
noncomputable def invGo (b:A→H→RL) (ti i n z:Nat) (lo hi:Int) (p:List Value) (fo:O) (a0:A) (t0:T O):Nat→A→List (Nat×O)→RL
 |0,_,_=>none
 |k+1,a,l=>keepA n i ti a fun a=>match a.put (some ti) (ixV i z 0 0 (Int.sub hi 1)),a.put (some ti) (lnV i lo hi) with
  |some ar,some ae=>fromK (seenL i p l) .leaf fun t=>(match b ar ⟨t,n⟩ with
   |some outs=>(match goodS n i ti fo a0 t0 a l&&outs.all (backL n i ti a l) with
    |true=>fromK l .leaf fun t=>(match b ae ⟨t,n⟩,flatL (leaveR i fo) outs with
     |some outs2,some outs3=>(match normals outs2 with |[]=>forceN (maxN (outs++outs2) n) fun m=>some ((outs2++outs3).map (raiseN m)) |_=>none)
     |_,_=>none)
    |false=>(match widS n i ti outs a l with
     |some (a,l)=>invGo b ti i n z lo hi p fo a0 t0 k a l
     |none=>none))
   |none=>none)
  |_,_=>none
noncomputable def rangeR (b:A→H→RL) (ti tn:Nat) (a:A) (h:H):RL:=match a.get ti,a.get tn with
 |.int .i64 0,.iface 6 (.tuple ⟨[.int .i64 lo,.int .i64 hi,.slice none i 0]⟩)=>(match h.t.get i with
  |some (.frz p flo fhi own)=>(match Nat.ble 64 i&&(Nat.blt i h.next&&(Nat.blt 0 p.length&&(!(Nat.beq ti tn)&&leI hi 9223372036854775807))) with
   |true=>invGo b ti i h.next p.length lo hi p (.frz p flo fhi false) a h.t 6 a ((i,.frz p flo fhi false)::(listT h.t (keysT h.t)).filter fun x=>keepsO h.next i x.2&&(Nat.blt x.1 h.next&&!(Nat.beq x.1 i)))
   |false=>none)
  |_=>none)
 |_,_=>none
def rangeShape:Code→Option (Nat×Nat)
 |.seq (.region _ ⟨[o]⟩ _) _=>(match o.op with
  |.binOp .lss _ (.tmp ti) (.tmp tn) _=>some (ti,tn)
  |_=>none)
 |_=>none
noncomputable def loopR (c:Code) (b:A→H→RL) (a:A) (h:H):RL:=match rangeShape c with
 |some (ti,tn)=>(match rangeR b ti tn a h with
  |some r=>some r
  |none=>roundsL b lots [(a,h)])
 |none=>roundsL b lots [(a,h)]
noncomputable def codeL (cl clU:ClL) (hs:Nat→List Hint) (p:Program) (fn:FuncId) (rd:Option Nat) (c:Code):(A→H→RL)×(Nat→Option (A→H→RL)):=
 Code.rec (motive:=fun _=>(A→H→RL)×(Nat→Option (A→H→RL)))
  (skip:=⟨fun a h=>some [(.normal,a,h)],fun _=>none⟩)
  (region:=fun id ops d=>⟨fun a h=>match hs id with
    |[]=>(match d with
     |false=>withX (regL cl p ops.toList ops.toList a h)
     |true=>withX (regDx cl clU p ops a h))
    |x::l=>(match hintsL (x::l) a h with
     |some sts=>flatL (fun s=>match d with
      |false=>withX (regL cl p ops.toList ops.toList s.1 s.2)
      |true=>withX (regDx cl clU p ops s.1 s.2)) sts
     |none=>none),fun _=>none⟩)
  (seq:=fun _ _ x y=>⟨fun a h=>thenL (x.1 a h) y.1,fun l=>match x.2 l with |some g=>some fun a h=>thenL (g a h) y.1 |none=>y.2 l⟩)
  (cond:=fun c _ _ x y=>⟨fun a h=>condL (a.ev c) (x.1 a h) (y.1 a h),fun _=>none⟩)
  (block:=fun id _ b=>⟨fun a h=>outOfL id (b.1 a h),fun _=>none⟩)
  (loop:=fun c b=>⟨fun a h=>loopR c b.1 a h,fun _=>none⟩)
  (rangeFunc:=fun f ps assign body _ _=>⟨fun a h=>rangeL cl p fn rd f ps.toList assign body a h,fun _=>none⟩)
  (exit:=fun id=>⟨fun a h=>some [(.exit id,a,h)],fun _=>none⟩)
  (scope:=fun _ b=>⟨fun a h=>goesL b.2 lots (b.1 a h),fun _=>none⟩)
  (label:=fun l=>⟨fun a h=>some [(.normal,a,h)],fun l'=>Bool.rec none (some fun a h=>some [(.normal,a,h)]) (Nat.beq l l')⟩)
  (goto:=fun l=>⟨fun a h=>some [(.goto l,a,h)],fun _=>none⟩)
  (ret:=⟨fun a h=>some [(.ret,a,h)],fun _=>none⟩)
  (refuse:=fun _=>⟨fun _ _=>none,fun _=>none⟩) c
noncomputable def leaveL (p:Program) (fn:Func) (o:Out):Option (List (Value×H)):=match o with
 |(.normal,a,h)=>(match leaveE p fn a h with |some o=>some [o] |none=>none)
 |(.ret,a,h)=>(match leaveE p fn a h with |some o=>some [o] |none=>none)
 |_=>none
noncomputable def roundEnd (l:Nat) (o:Out):Option (List (Value×H)):=match o with
 |(x,a,h)=>match a.ds with
  |[]=>match h.t.get l with
   |some (.loop _ _ fn sz tm ps assign body)=>match jumpOf x with
    |none=>h.t.setK l (some (.loop .ready none fn sz tm ps assign body)) fun t=>some [(.bool true,⟨t,h.next⟩)]
    |some j=>h.t.setK l (some (.loop .done (some j) fn sz tm ps assign body)) fun t=>some [(.bool false,⟨t,h.next⟩)]
   |_=>none
  |_=>none
noncomputable def roundGo (cl clU:ClL) (hs:Nat→List Hint) (p:Program) (fn:FuncId) (l:Nat) (body:Code) (o:Out):Option (List (Value×H)):=match o with
 |(.normal,a,h)=>(match h.t.get l with
  |some (.loop .ready pending fn1 sz tm ps assign body1)=>h.t.setK l (some (.loop .busy pending fn1 sz tm ps assign body1)) fun t=>
   (match (codeL cl clU hs p fn (some l) body).1 a ⟨t,h.next⟩ with
   |some outs=>flatL (roundEnd l) outs
   |none=>none)
  |_=>none)
 |_=>none
noncomputable def hasV (x:Value×H):List (Value×H)→Bool
 |[]=>false
 |y::l=>Bool.rec (hasV x l) true (sameV 5 x.1 y.1&&(Nat.beq x.2.next y.2.next&&sameTO x.2.t y.2.t))
noncomputable def onceV:List (Value×H)→List (Value×H)
 |[]=>[]
 |x::l=>Bool.rec (x::onceV l) (onceV l) (hasV x l)
def scalar:Nat→Value→Bool
 |0,_=>false
 |n+1,v=>match v with
  |.bool _ |.int _ _ |.float _ _ |.complex _ _ _ |.string _=>true
  |.iface 5 _=>false
  |.iface 6 _=>false
  |.iface 7 _=>false
  |.iface _ _=>true
  |.agg ⟨cs⟩=>cs.all (scalar n)
  |.tuple ⟨cs⟩=>cs.all (scalar n)
  |_=>false
def above (m:Nat):Nat→Value→Bool
 |0,_=>true
 |n+1,v=>match v with
  |.pointer (some ⟨b,_,_⟩)=>Nat.ble m b
  |.slice (some ⟨b,_,_⟩) _ _=>Nat.ble m b
  |.map (some b)=>Nat.ble m b
  |.chan (some b)=>Nat.ble m b
  |.iface 5 (.slice (some ⟨b,_,_⟩) _ _)=>Nat.ble m b
  |.iface 6 (.tuple ⟨[.int _ _,.int _ _,.slice none b _]⟩)=>Nat.ble m b
  |.iface 7 _=>true
  |.func (.func _) ⟨x⟩ ⟨y⟩=>x.any (above m n) ||y.any (above m n)
  |.agg ⟨cs⟩=>cs.any (above m n)
  |.tuple ⟨cs⟩=>cs.any (above m n)
  |.bool _ |.int _ _ |.float _ _ |.complex _ _ _ |.string _ |.pointer none |.map none |.nilFunc |.nilIface |.slice none _ _ |.iface _ _=>false
  |_=>true
def newIn (m:Nat):O→Bool
 |.cells c=>c.any (above m 4)
 |.ro c=>c.any (above m 4)
 |.opn _ c=>c.any (above m 4)
 |.map es _=>es.any fun e=>above m 4 e.key ||above m 4 e.val
 |_=>false
noncomputable def keepIds (m:Nat) (ids:List Nat) (t:T O):List Nat:=match ids.any (fun i=>match t.get i with |some o=>newIn m o |none=>false) with
 |true=>keysT t
 |false=>ids
noncomputable def intoV (m:Nat) (ids:List Nat) (o:Value×H):List (Value×H)→List (Value×H)
 |[]=>[o]
 |y::l=>match scalar 4 o.1&&scalar 4 y.1 with
  |true=>joinTwo (keepIds m ids y.2.t) y o::l
  |false=>match sameV 5 o.1 y.1 with
   |true=>joinTwo (keysT y.2.t) y o::l
   |false=>y::intoV m ids o l
noncomputable def groupV (m:Nat) (ids:List Nat):List (Value×H)→List (Value×H)
 |[]=>[]
 |o::l=>intoV m ids o (groupV m ids l)
def tidy (r:Option (List (Value×H))) (f:List (Value×H)→List (Value×H)):Option (List (Value×H)):=match r with
 |some l=>some (f l)
 |none=>none
def yields:Nat→Value→Bool
 |0,_=>true
 |n+1,v=>match v with
  |.func (.yield _) _ _=>true
  |.func (.func _) ⟨x⟩ ⟨y⟩=>x.any (yields n) ||y.any (yields n)
  |.agg ⟨cs⟩=>cs.any (yields n)
  |.tuple ⟨cs⟩=>cs.any (yields n)
  |_=>false
def isLoop:O→Bool
 |.loop .. =>true
 |.deferred=>true
 |_=>false
def noLoops:T O→T O
 |.leaf=>.leaf
 |.node l v r=>.node (noLoops l) (match v with |some o=>(match isLoop o with |true=>none |false=>some o) |none=>none) (noLoops r)
def loopsOf:T O→List (Nat×O)
 |.leaf=>[]
 |.node l v r=>(match v with |some o=>(match isLoop o with |true=>[(0,o)] |false=>[]) |none=>[])++((loopsOf l).map (fun k=>(Nat.succ (Nat.add k.1 k.1),k.2))++(loopsOf r).map (fun k=>(Nat.succ (Nat.succ (Nat.add k.1 k.1)),k.2)))
noncomputable def putBack {β:Type}:List (Nat×O)→T O→(T O→β)→β:=
 List.rec (motive:=fun _=>T O→(T O→β)→β) (fun t k=>k t) (fun x _ ih t k=>t.setK x.1 (some x.2) fun t=>ih t k)
noncomputable def withLoops (ls:List (Nat×O)) (outs:List (Value×H)):List (Value×H):=outs.map fun o=>putBack ls o.2.t fun t=>(o.1,⟨t,o.2.next⟩)
noncomputable def framed (f:H→Option (List (Value×H))) (args:List Value) (h:H):Option (List (Value×H)):=match args.any (yields 4) with
 |true=>f h
 |false=>match loopsOf h.t with
  |[]=>f h
  |ls=>match f ⟨noLoops h.t,h.next⟩ with
   |some outs=>some (withLoops ls outs)
   |none=>none
noncomputable def evalL (cl0 clU:ClL) (hs:Nat→Nat→List Hint) (jn:Nat→Bool) (p:Program):Nat→ClL:=
 Nat.rec (motive:=fun _=>ClL) (fun _ _=>none) fun _ cl r h=>match cl0 r h with
  |some outs=>some outs
  |none=>(match r with
   |.fn f args=>(match p.funcs[f]? with
    |some fn=>(match fn.body with
     |some b=>framed (fun h=>layT args 0 .leaf fun t=>(match (codeL cl clU (hs f) p f none b).1 ⟨Nat.max fn.ntmps args.length,t,[]⟩ h with
      |some outs=>tidy (flatL (leaveL p fn) outs) (match jn f&&!(args.any (yields 4)) with |true=>groupV h.next (keysT h.t) |false=>onceV)
      |none=>none)) args h
     |none=>none)
    |none=>none)
   |.yield l args=>(match h.t.get l with
    |some (.loop .ready pending fn sz tm ps assign body)=>
     (match Nat.beq ps.length args.length&&ps.all (fun d=>Nat.blt d sz) with
     |false=>none
     |true=>layP ps args tm fun t=>(match (codeL cl clU (hs fn) p fn (some l) assign).1 ⟨sz,t,[]⟩ h with
      |some outs=>tidy (flatL (roundGo cl clU (hs fn) p fn l body) outs) onceV
      |none=>none))
    |_=>none))
attribute [irreducible] big lots
end Go.Eng
namespace Go.Eng
noncomputable def T.set {α:Type} (t:T α) (n:Nat) (v:Option α):T α:=t.setK n v id
theorem T.setK_eq {α β:Type} (t:T α) (n:Nat) (v:Option α) (k:T α→β):t.setK n v k=k (t.set n v):=by
 unfold T.set
 induction t generalizing n β with
 |leaf=>rfl
 |node l o r ihl ihr=>
  show Bool.rec (motive:=fun _=>β) (Bool.rec (motive:=fun _=>β) (T.setK l (Nat.div n 2) v fun l'=>k (.node l' o r)) (T.setK r (Nat.pred (Nat.div n 2)) v fun r'=>k (.node l o r')) (Nat.beq (Nat.mod n 2) 0)) (k (.node l v r)) (Nat.beq n 0)
   =k (Bool.rec (motive:=fun _=>T α) (Bool.rec (motive:=fun _=>T α) (T.setK l (Nat.div n 2) v fun l'=>id (.node l' o r)) (T.setK r (Nat.pred (Nat.div n 2)) v fun r'=>id (.node l o r')) (Nat.beq (Nat.mod n 2) 0)) (id (.node l v r)) (Nat.beq n 0))
  cases Nat.beq n 0
  ·cases Nat.beq (Nat.mod n 2) 0
   ·show T.setK l _ v _=k (T.setK l _ v _)
    rw [ihl,ihl (k:=fun l'=>id (T.node l' o r))]; rfl
   ·show T.setK r _ v _=k (T.setK r _ v _)
    rw [ihr,ihr (k:=fun r'=>id (T.node l o r'))]; rfl
  ·rfl
theorem T.get_leaf {α:Type} (n:Nat):(T.leaf:T α).get n=none:=rfl
theorem T.get_node {α:Type} (l r:T α) (v:Option α) (n:Nat):(T.node l v r).get n=if n=0 then v else if n % 2=0 then r.get (n / 2 - 1) else l.get (n / 2):=by
 show Bool.rec (motive:=fun _=>Option α) (Bool.rec (motive:=fun _=>Option α) (l.get (Nat.div n 2)) (r.get (Nat.pred (Nat.div n 2))) (Nat.beq (Nat.mod n 2) 0)) v (Nat.beq n 0)=_
 by_cases h:n=0
 ·subst h; rfl
 ·have h1:Nat.beq n 0=false:=by cases n; exact absurd rfl h; rfl
  rw [h1,if_neg h]
  by_cases h2:n % 2=0
  ·have:Nat.beq (Nat.mod n 2) 0=true:=by show Nat.beq (n % 2) 0=true; rw [h2]; rfl
   rw [this,if_pos h2]; rfl
  ·have:Nat.beq (Nat.mod n 2) 0=false:=by
    show Nat.beq (n % 2) 0=false
    cases hq:n % 2; exact absurd hq h2; rfl
   rw [this,if_neg h2]; rfl
theorem T.set_node {α:Type} (l r:T α) (o v:Option α) (n:Nat):(T.node l o r).set n v=if n=0 then .node l v r else if n % 2=0 then .node l o (r.set (n / 2 - 1) v) else .node (l.set (n / 2) v) o r:=by
 show Bool.rec (motive:=fun _=>T α) (Bool.rec (motive:=fun _=>T α) (T.setK l (Nat.div n 2) v fun l'=>id (.node l' o r)) (T.setK r (Nat.pred (Nat.div n 2)) v fun r'=>id (.node l o r')) (Nat.beq (Nat.mod n 2) 0)) (id (.node l v r)) (Nat.beq n 0)=_
 rw [T.setK_eq,T.setK_eq]
 by_cases h:n=0
 ·subst h; rfl
 ·have h1:Nat.beq n 0=false:=by cases n; exact absurd rfl h; rfl
  rw [h1,if_neg h]
  by_cases h2:n % 2=0
  ·have:Nat.beq (Nat.mod n 2) 0=true:=by show Nat.beq (n % 2) 0=true; rw [h2]; rfl
   rw [this,if_pos h2]; rfl
  ·have:Nat.beq (Nat.mod n 2) 0=false:=by
    show Nat.beq (n % 2) 0=false
    cases hq:n % 2; exact absurd hq h2; rfl
   rw [this,if_neg h2]; rfl
theorem T.get_one {α:Type} (v:Option α):∀(f n:Nat),n+2≤2 ^ f→∀m,(T.one f n v).get m=if m=n then v else none
 |0,n,h,_=>by simp at h
 |f+1,n,h,m=>by
  have ih:=T.get_one v f
  show T.get (Bool.rec (motive:=fun _=>T α) (Bool.rec (motive:=fun _=>T α) (.node (T.one f (Nat.div n 2) v) none .leaf) (.node .leaf none (T.one f (Nat.pred (Nat.div n 2)) v)) (Nat.beq (Nat.mod n 2) 0)) (.node .leaf v .leaf) (Nat.beq n 0)) m=_
  by_cases h0:n=0
  ·subst h0
   show T.get (.node .leaf v .leaf) m=_
   rw [T.get_node]
   simp only [T.get_leaf]
   split
   ·rfl
   ·split <;> rfl
  ·have h1:Nat.beq n 0=false:=by cases n; exact absurd rfl h0; rfl
   rw [h1]
   have h2p:2 ^ (f+1)=2 * 2 ^ f:=by rw [Nat.pow_succ]; omega
   by_cases h2:n % 2=0
   ·have:Nat.beq (Nat.mod n 2) 0=true:=by show Nat.beq (n % 2) 0=true; rw [h2]; rfl
    rw [this]
    show T.get (.node .leaf none (T.one f (n / 2 - 1) v)) m=_
    rw [T.get_node,ih (n / 2 - 1) (by omega)]
    simp only [T.get_leaf]
    by_cases hm:m=n
    ·subst hm; rw [if_neg h0,if_pos h2,if_pos rfl,if_pos rfl]
    ·rw [if_neg hm]
     split
     ·rfl
     ·split
      ·rw [if_neg (by omega)]
      ·rfl
   ·have:Nat.beq (Nat.mod n 2) 0=false:=by
     show Nat.beq (n % 2) 0=false
     cases hq:n % 2; exact absurd hq h2; rfl
    rw [this]
    show T.get (.node (T.one f (n / 2) v) none .leaf) m=_
    rw [T.get_node,ih (n / 2) (by omega)]
    simp only [T.get_leaf]
    by_cases hm:m=n
    ·subst hm; rw [if_neg h0,if_neg h2,if_pos rfl,if_pos rfl]
    ·rw [if_neg hm]
     split
     ·rfl
     ·split
      ·rfl
      ·rw [if_neg (by omega)]
theorem two_pow_big (n:Nat):n+2≤2 ^ (n+1):=by
 induction n with
 |zero=>decide
 |succ n ih=>rw [Nat.pow_succ]; omega
theorem T.get_set {α:Type} (t:T α) (n:Nat) (v:Option α) (m:Nat):(t.set n v).get m=if m=n then v else t.get m:=by
 induction t generalizing n m with
 |leaf=>exact T.get_one v (n+1) n (two_pow_big n) m
 |node l o r ihl ihr=>
  rw [T.set_node]
  by_cases h0:n=0
  ·subst h0
   rw [if_pos rfl,T.get_node,T.get_node]
   split
   ·rfl
   ·rfl
  ·rw [if_neg h0]
   by_cases h2:n % 2=0
   ·rw [if_pos h2,T.get_node,T.get_node,ihr]
    by_cases hm:m=n
    ·subst hm; rw [if_neg h0,if_pos h2,if_pos rfl,if_pos rfl]
    ·rw [if_neg hm]
     split
     ·rfl
     ·split
      ·rw [if_neg (by omega)]
      ·rfl
   ·rw [if_neg h2,T.get_node,T.get_node,ihl]
    by_cases hm:m=n
    ·subst hm; rw [if_neg h0,if_neg h2,if_pos rfl,if_pos rfl]
    ·rw [if_neg hm]
     split
     ·rfl
     ·split
      ·rfl
      ·rw [if_neg (by omega)]
theorem forceN_eq {β:Type} (n:Nat) (k:Nat→β):forceN n k=k n:=by cases n <;> rfl
theorem forceI_eq {β:Type} (n:Int) (k:Int→β):forceI n k=k n:=by
 cases n with
 |ofNat m=>exact forceN_eq m fun m=>k (.ofNat m)
 |negSucc m=>exact forceN_eq m fun m=>k (.negSucc m)
theorem forceS_eq {β:Type} (v:Value) (k:Value→β):forceS v k=k v:=by
 unfold forceS
 split
 ·exact forceI_eq _ _
 ·rename_i b; cases b <;> rfl
 ·rw [forceN_eq,forceN_eq]
 ·rw [forceN_eq,forceN_eq,forceN_eq,forceN_eq]
 ·rw [forceN_eq]
 ·rw [forceI_eq,forceI_eq]
 ·rfl
theorem forceL_eq {β:Type} (l:List Value) (k:List Value→β):forceL l k=k l:=by
 induction l generalizing k with
 |nil=>rfl
 |cons x l ih=>
  show forceS x (fun x=>forceL l fun l=>k (x::l))=_
  rw [forceS_eq,ih]
theorem force_eq {β:Type} (v:Value) (k:Value→β):force v k=k v:=by
 unfold force
 split
 ·rw [forceL_eq]
 ·rw [forceL_eq]
 ·exact forceS_eq _ _
theorem nth_eq {α:Type} (l:List α) (n:Nat):nth l n=l[n]? :=by
 induction l generalizing n with
 |nil=>rfl
 |cons x l ih=>cases n with
  |zero=>rfl
  |succ n=>simpa [nth] using ih n
theorem lay_eq {α:Type} (l:List α) (o:Nat) (ys:List α) (h:o+ys.length≤l.length):lay l o ys=l.take o++ys++l.drop (o+ys.length):=by
 induction l generalizing o ys with
 |nil=>simp at h; obtain ⟨rfl,rfl⟩:=h; rfl
 |cons x l ih=>
  cases o with
  |zero=>cases ys with
   |nil=>simp [lay]
   |cons y ys=>
    have:=ih 0 ys (by simp at h ⊢; omega)
    simp [lay,this]
  |succ o=>
   have:=ih o ys (by simp at h ⊢; omega)
   simp [lay,this,Nat.add_right_comm]
structure Zt where
 n:Nat
 x:Option Obj
 v:Value
instance (k:Nat):OfNat Zt k:=⟨⟨k,none,.nilIface⟩⟩
instance:Coe Nat Zt:=⟨fun k=>⟨k,none,.nilIface⟩⟩
structure Cx where
 av:Nat→Prop
 b:Nat→Nat
 o:Nat→Nat
 e:Nat→Nat
 z:Nat→Zt
def Le (c c':Cx):Prop:=∀i,c.av i→c'.av i∧c'.b i=c.b i∧c'.o i=c.o i∧c'.e i=c.e i∧c'.z i=c.z i
theorem Le.refl (c:Cx):Le c c:=fun i h=>⟨h,rfl,rfl,rfl,rfl⟩
theorem Le.trans {a b c:Cx} (h:Le a b) (k:Le b c):Le a c:=fun i hi=>
 have ⟨h1,h2,h3,h4,h5⟩:=h i hi
 have ⟨k1,k2,k3,k4,k5⟩:=k i h1
 ⟨k1,k2.trans h2,k3.trans h3,k4.trans h4,k5.trans h5⟩
def TailOf (z:Zt) (l:Nat) (v':Value):Prop:=(z.v= .slice none 0 0∧l=0∧v'= .slice none 0 0)∨∃a len cap a',z.v= .slice (some a) len cap∧l≤len∧len≤cap∧v'= .slice (some a') (len - l) (cap - l)∧(l < cap→a'=a.add (l * z.n))
def LenOf (z:Zt) (n:Int):Prop:=∃a l cap,z.v= .slice a l cap∧n=(l:Int)
def IdxOf (z:Zt) (b o:Nat) (n:Int):Prop:=∃o0 len cap,z.v= .slice (some ⟨b,o0,none⟩) len cap∧0≤n∧n < (len:Int)∧(o:Int)=o0+n * z.n∧0 < z.n
def CmpLen (f:Nat) (z:Zt) (n:Int):Prop:=∃a l cap,z.v= .slice a l cap∧(f=0→n≤(l:Int))∧(f≠0→(l:Int) < n)
def SubOf (z:Zt) (lo hi:Nat) (v':Value):Prop:=∃(a a':Addr) (len cap off n k:Nat),z.v= .slice (some a) len cap∧v'= .slice (some a') n k∧lo≤n∧n≤hi∧n≤k∧off+n≤len∧off+k≤cap∧(0 < k→a'=a.add (off * z.n))
mutual
inductive VR (c:Cx):Value→Value→Prop where
 |any (v:Value):VR c (.chan none) v
 |bool (b:Bool):VR c (.bool b) (.bool b)
 |int (k:IntKind) (n:Int):VR c (.int k n) (.int k n)
 |float (k:FloatKind) (n:Nat):VR c (.float k n) (.float k n)
 |complex (k:FloatKind) (n m:Nat):VR c (.complex k n m) (.complex k n m)
 |string (s:ByteArray):VR c (.string s) (.string s)
 |pnil:VR c (.pointer none) (.pointer none)
 |ptr {b o:Nat} (h:c.av b):VR c (.pointer (some ⟨b,o,none⟩)) (.pointer (some ⟨c.b b,c.o b+o,none⟩))
 |snil (l k:Nat):VR c (.slice none l k) (.slice none l k)
 |slice {b o:Nat} (h:c.av b) (l k:Nat) (hk:k < big):VR c (.slice (some ⟨b,o,none⟩) l k) (.slice (some ⟨c.b b,c.o b+o,none⟩) l k)
 |open_ {b o:Nat} (h:c.av b) (l k k':Nat) (hk:big≤k) (hl:l≤k - big) (hk':k - big≤k') (he:o+k' * (c.z b).n=c.e b):VR c (.slice (some ⟨b,o,none⟩) l k) (.slice (some ⟨c.b b,c.o b+o,none⟩) l k')
 |loose (a:Addr) (s:Nat) (a':Addr) (k':Nat) (h:a.spot=some s):VR c (.slice (some a) 0 big) (.slice (some a') 0 k')
 |mnil:VR c (.map none) (.map none)
 |map {b:Nat} (h:c.av b):VR c (.map (some b)) (.map (some (c.b b)))
 |fnil:VR c .nilFunc .nilFunc
 |func (f:FuncId) {x x' y y':List Value} (hx:LR c x x') (hy:LR c y y'):VR c (.func (.func f) ⟨x⟩ ⟨y⟩) (.func (.func f) ⟨x'⟩ ⟨y'⟩)
 |yield {l:Nat} (h:c.av l):VR c (.func (.yield l) ⟨[]⟩ ⟨[]⟩) (.func (.yield (c.b l)) ⟨[]⟩ ⟨[]⟩)
 |inil:VR c .nilIface .nilIface
 |agg {x x':List Value} (hx:LR c x x'):VR c (.agg ⟨x⟩) (.agg ⟨x'⟩)
 |tuple {x x':List Value} (hx:LR c x x'):VR c (.tuple ⟨x⟩) (.tuple ⟨x'⟩)
 |ui (k k2:IntKind) {lo hi n:Int} (h1:lo≤n) (h2:n≤hi):VR c (.iface 1 (.tuple ⟨[.int k lo,.int k2 hi]⟩)) (.int k n)
 |rig (k k2:IntKind) {lo hi n:Int} {i:Nat} (hi':c.av i) (h1:lo≤n) (h2:n≤hi) (hn:n=Int.ofNat (c.z i).n - Int.ofNat (c.e i)):VR c (.iface 4 (.tuple ⟨[.int k lo,.int k2 hi,.slice none i 0]⟩)) (.int k n)
 |ln (k k2:IntKind) {lo hi n:Int} {i:Nat} (hi':c.av i) (h1:lo≤n) (h2:n≤hi) (hl:LenOf (c.z i) n):VR c (.iface 6 (.tuple ⟨[.int k lo,.int k2 hi,.slice none i 0]⟩)) (.int k n)
 |ix (k k2:IntKind) {lo hi n:Int} {i d z q:Nat} (hi':c.av i) (h1:lo≤n) (h2:n≤hi) (hz:(c.z i).n=z) (hx:IdxOf (c.z i) (c.b i) (c.o i) (n - d)):VR c (.iface 7 (.tuple ⟨[.int k lo,.int k2 hi,.slice none i d,.slice none z q]⟩)) (.int k n)
 |frz {i:Nat} (hi:c.av i) (hv:(c.z i).v.oneCell'=true):VR c (.chan (some i)) (c.z i).v
 |tail {i l:Nat} {v':Value} (hi:c.av i) (hv:v'.oneCell'=true) (ht:TailOf (c.z i) l v'):VR c (.iface 5 (.slice (some ⟨i,l,none⟩) 0 0)) v'
 |cmp (k k2:IntKind) {lo hi n:Int} {j f:Nat} (hj:c.av j) (h1:lo≤n) (h2:n≤hi) (hl:CmpLen f (c.z j) n):VR c (.iface 9 (.tuple ⟨[.int k lo,.int k2 hi,.slice none j f]⟩)) (.int k n)
 |sub {j lo hi:Nat} {v':Value} (hj:c.av j) (hs:SubOf (c.z j) lo hi v'):VR c (.iface 8 (.slice (some ⟨j,0,none⟩) lo hi)) v'
 |empn:VR c (.slice (some ⟨0,0,some 7⟩) 0 0) (.slice none 0 0)
 |empa (a:Addr):VR c (.slice (some ⟨0,0,some 7⟩) 0 0) (.slice (some a) 0 0)
 |ub (b:Bool):VR c (.iface 2 .nilIface) (.bool b)
 |us (s:ByteArray) (hs:s.size≤1000000):VR c (.iface 3 .nilIface) (.string s)
inductive LR (c:Cx):List Value→List Value→Prop where
 |nil:LR c [] []
 |cons {v v':Value} {l l':List Value} (h:VR c v v') (hl:LR c l l'):LR c (v::l) (v'::l')
end
mutual
theorem VR.le {c c':Cx} (hc:Le c c') {v v':Value} (h:VR c v v'):VR c' v v':=by
 cases h with
 |any=>exact .any _
 |bool=>exact .bool _
 |int=>exact .int _ _
 |float=>exact .float _ _
 |complex=>exact .complex _ _ _
 |string=>exact .string _
 |pnil=>exact .pnil
 |ptr h=>obtain ⟨h1,h2,h3,_,_⟩:=hc _ h; rw [←h2,←h3]; exact .ptr h1
 |snil=>exact .snil _ _
 |slice h l k hk=>obtain ⟨h1,h2,h3,_,_⟩:=hc _ h; rw [←h2,←h3]; exact .slice h1 _ _ hk
 |open_ h l k k' hk hl hk' he=>obtain ⟨h1,h2,h3,h4,h5⟩:=hc _ h; rw [←h2,←h3]; exact .open_ h1 _ _ _ hk hl hk' (by rw [h4,h5]; exact he)
 |loose a s a' k' h=>exact .loose _ _ _ _ h
 |mnil=>exact .mnil
 |map h=>obtain ⟨h1,h2,_,_,_⟩:=hc _ h; rw [←h2]; exact .map h1
 |fnil=>exact .fnil
 |func f hx hy=>exact .func f (hx.le hc) (hy.le hc)
 |yield h=>obtain ⟨h1,h2,_,_,_⟩:=hc _ h; rw [←h2]; exact .yield h1
 |inil=>exact .inil
 |agg hx=>exact .agg (hx.le hc)
 |tuple hx=>exact .tuple (hx.le hc)
 |ui k k2 h1 h2=>exact .ui k k2 h1 h2
 |rig k k2 hi h1 h2 hn=>
  obtain ⟨a1,a2,a3,a4,a5⟩:=hc _ hi
  exact .rig k k2 a1 h1 h2 (by rw [a4,a5]; exact hn)
 |ln k k2 hi h1 h2 hl=>
  obtain ⟨a1,a2,a3,a4,a5⟩:=hc _ hi
  exact .ln k k2 a1 h1 h2 (by rw [a5]; exact hl)
 |ix k k2 hi h1 h2 hz hx=>
  obtain ⟨a1,a2,a3,a4,a5⟩:=hc _ hi
  exact .ix k k2 a1 h1 h2 (by rw [a5]; exact hz) (by rw [a2,a3,a5]; exact hx)
 |frz hi hv=>
  obtain ⟨a1,a2,a3,a4,a5⟩:=hc _ hi
  rw [←a5] at hv ⊢
  exact .frz a1 hv
 |tail hi hv ht=>
  obtain ⟨a1,a2,a3,a4,a5⟩:=hc _ hi
  exact .tail a1 hv (by rw [a5]; exact ht)
 |cmp k k2 hj h1 h2 hl=>
  obtain ⟨a1,a2,a3,a4,a5⟩:=hc _ hj
  exact .cmp k k2 a1 h1 h2 (by rw [a5]; exact hl)
 |sub hj hs=>
  obtain ⟨a1,a2,a3,a4,a5⟩:=hc _ hj
  exact .sub a1 (by rw [a5]; exact hs)
 |empn=>exact .empn
 |empa a=>exact .empa a
 |ub b=>exact .ub b
 |us s h=>exact .us s h
theorem LR.le {c c':Cx} (hc:Le c c') {l l':List Value} (h:LR c l l'):LR c' l l':=by
 cases h with
 |nil=>exact .nil
 |cons h hl=>exact .cons (h.le hc) (hl.le hc)
end
theorem LR.length {c:Cx} {l l':List Value} (h:LR c l l'):l'.length=l.length:=by
 induction l generalizing l' with
 |nil=>cases h; rfl
 |cons x l ih=>cases h with |cons _ hl=>simp [ih hl]
theorem LR.get {c:Cx} {l l':List Value} (h:LR c l l') {i:Nat} {v:Value} (hi:l[i]? =some v):∃v',l'[i]? =some v'∧VR c v v':=by
 induction l generalizing l' i with
 |nil=>simp at hi
 |cons x l ih=>cases h with
  |cons h hl=>cases i with
   |zero=>simp at hi; subst hi; exact ⟨_,rfl,h⟩
   |succ i=>simpa using ih hl (by simpa using hi)
theorem LR.append {c:Cx} {l l' m m':List Value} (h:LR c l l') (k:LR c m m'):LR c (l++m) (l'++m'):=by
 induction l generalizing l' with
 |nil=>cases h; exact k
 |cons x l ih=>cases h with |cons h hl=>exact .cons h (ih hl)
theorem LR.take {c:Cx} {l l':List Value} (h:LR c l l') (n:Nat):LR c (l.take n) (l'.take n):=by
 induction l generalizing l' n with
 |nil=>cases h; simp; exact .nil
 |cons x l ih=>cases h with
  |cons h hl=>cases n with
   |zero=>exact .nil
   |succ n=>exact .cons h (ih hl n)
theorem LR.drop {c:Cx} {l l':List Value} (h:LR c l l') (n:Nat):LR c (l.drop n) (l'.drop n):=by
 induction l generalizing l' n with
 |nil=>cases h; simp; exact .nil
 |cons x l ih=>cases h with
  |cons h hl=>cases n with
   |zero=>exact .cons h hl
   |succ n=>exact ih hl n
theorem LR.lay {c:Cx} {l l' m m':List Value} (h:LR c l l') (k:LR c m m') {o:Nat} (ho:o+m.length≤l.length):LR c (lay l o m) (lay l' o m'):=by
 rw [lay_eq _ _ _ ho,lay_eq _ _ _ (by rw [h.length,k.length]; exact ho),k.length]
 exact ((h.take _).append k).append (h.drop _)
theorem LR.cut {c:Cx} {l l':List Value} (h:LR c l l') (o n:Nat):LR c (cut l o n) (cut l' o n):=(h.drop o).take n
theorem VR.undef (c:Cx):VR c undef undef:=.tuple .nil
theorem flat_vr (c:Cx):∀(n:Nat) (v:Value),flat n v=true→VR c v v∧∀v',VR c v v'→v'=v
 |0,v,h=>by cases h
 |n+1,v,h=>by
  have ih:=flat_vr c n
  have hl:∀l:List Value,l.all (flat n)=true→LR c l l∧∀l',LR c l l'→l'=l:=by
   intro l
   induction l with
   |nil=>exact fun _=>⟨.nil,fun l' h=>by cases h; rfl⟩
   |cons x l ihl=>
    intro h
    simp only [List.all_cons,Bool.and_eq_true] at h
    obtain ⟨h1,h2⟩:=ih x h.1
    obtain ⟨h3,h4⟩:=ihl h.2
    exact ⟨.cons h1 h3,fun l' h=>by cases h with |cons a b=>rw [h2 _ a,h4 _ b]⟩
  unfold flat at h
  split at h
  case h_9=>exact ⟨.inil,fun v' h=>by cases h; rfl⟩
  case h_1=>exact ⟨.bool _,fun v' h=>by cases h; rfl⟩
  case h_2=>exact ⟨.int _ _,fun v' h=>by cases h; rfl⟩
  case h_3=>exact ⟨.float _ _,fun v' h=>by cases h; rfl⟩
  case h_4=>exact ⟨.complex _ _ _,fun v' h=>by cases h; rfl⟩
  case h_5=>exact ⟨.string _,fun v' h=>by cases h; rfl⟩
  case h_6=>exact ⟨.pnil,fun v' h=>by cases h; rfl⟩
  case h_7=>exact ⟨.mnil,fun v' h=>by cases h; rfl⟩
  case h_8=>exact ⟨.fnil,fun v' h=>by cases h; rfl⟩
  case h_10=>exact ⟨.snil _ _,fun v' h=>by cases h; rfl⟩
  case h_11=>
   obtain ⟨h1,h2⟩:=hl _ h
   exact ⟨.agg h1,fun v' h=>by cases h with |agg hx=>rw [h2 _ hx]⟩
  case h_12=>
   obtain ⟨h1,h2⟩:=hl _ h
   exact ⟨.tuple h1,fun v' h=>by cases h with |tuple hx=>rw [h2 _ hx]⟩
  case h_13=>exact ⟨.func _ .nil .nil,fun v' h=>by cases h with |func f hx hy=>cases hx; cases hy; rfl⟩
  case h_14=>cases h
theorem flats_lr (c:Cx) (l:List Value) (h:flats l=true):LR c l l∧∀l',LR c l l'→l'=l:=by
 induction l with
 |nil=>exact ⟨.nil,fun l' h=>by cases h; rfl⟩
 |cons x l ih=>
  simp only [flats,List.all_cons,Bool.and_eq_true] at h
  obtain ⟨h1,h2⟩:=flat_vr c 4 x h.1
  obtain ⟨h3,h4⟩:=ih h.2
  exact ⟨.cons h1 h3,fun l' h=>by cases h with |cons a b=>rw [h2 _ a,h4 _ b]⟩
theorem prog_run {α:Type} {P:Program} {s:Sem α} {v:α} (h:prog P s=some v) (w:World):s.run P w= .ok v w:=by
 induction s with
 |pure a=>simp only [prog,Option.some.injEq] at h; subst h; rfl
 |program k ih=>exact ih P h
 |mark m k ih=>exact ih h
 |_=>cases h
theorem oneV_ok {c:Cx} {v v':Value} (h:VR c v v') (h1:oneV v=true):v'.oneCell'=true:=by
 cases h with
 |sub _ hs=>obtain ⟨_,_,_,_,_,_,_,_,rfl,_⟩:=hs; rfl
 |_=>first |rfl |assumption |cases h1
theorem LR.ones {c:Cx} {l l':List Value} (h:LR c l l') (h1:l.all oneV=true):∀v∈l',v.oneCell'=true:=by
 induction l generalizing l' with
 |nil=>cases h; simp
 |cons x l ih=>cases h with
  |cons h hl=>
   simp only [List.all_cons,Bool.and_eq_true] at h1
   intro v hv
   rcases List.mem_cons.1 hv with rfl |hv
   ·exact oneV_ok h h1.1
   ·exact ih hl h1.2 v hv
end Go.Eng
namespace Go.Eng
def ER (c:Cx):List E→List MapEntry→Prop
 |[],[]=>True
 |x::l,y::m=>VR c x.key y.key∧VR c x.val y.val∧y.born=x.born∧ER c l m
 |_,_=>False
def TR (c:Cx) (t:T Value) (tm:Array Value):Prop:=∀i,VR c ((t.get i).getD undef) (tm.getD i undef)
def FrzOK (b o:Nat) (p:List Value) (lo hi:Nat) (own:Bool) (x:Option Obj) (z:Zt):Prop:=
 x≠none∧((lo=0∧own=false∧(z.v= .slice none 0 0∨∃a k,z.v= .slice (some a) 0 k))
  ∨(∃len cap l ty fr,z.v= .slice (some ⟨b,o,none⟩) len cap∧x=some (.cells ⟨l⟩ ty fr)∧z.n=p.length∧lo≤len∧len≤hi∧len≤cap∧o+cap * p.length≤l.length∧(own=true→fr=(0,0))∧∀k,k < len * p.length→∀c,VR c ((p[k % p.length]?).getD undef) ((l[o+k]?).getD undef))
  ∨∃es k,z.v= .map (some b)∧x=some (.map es k)∧lo=1∧hi=0∧∀e,e∈es.toList→∀c,VR c ((p[0]?).getD undef) e.key∧VR c ((p[1]?).getD undef) e.val)
def OR (c:Cx) (i:Nat):O→Option Obj→Prop
 |.cells l,x=>∃pre l' post ty,x=some (.cells ⟨pre++l'++post⟩ ty (0,0))∧pre.length=c.o i∧LR c l l'∧c.o i=0∧post=[]
 |.ro l,x=>∃pre l' post ty fr,x=some (.cells ⟨pre++l'++post⟩ ty fr)∧pre.length=c.o i∧LR c l l'
 |.opn z l,x=>∃pre l' post ty,x=some (.cells ⟨pre++l'++post⟩ ty (0,0))∧pre.length=c.o i∧LR c l l'∧(c.z i).n=z∧c.e i=l'.length+post.length
 |.map es k,x=>∃es',x=some (.map ⟨es'⟩ k)∧ER c es es'
 |.loop st pend fn size tm ps as bd,x=>∃tm' ds,x=some (.loop {state:=st,pending:=pend,fn:=fn,tmps:=tm',params:=⟨ps⟩,assign:=as,body:=bd,defers:=ds})∧size=tm'.size∧TR c tm tm'
 |.deferred,x=>x=some (.deferred (some []))
 |.frz p lo hi own,x=>x=(c.z i).x∧FrzOK (c.b i) (c.o i) p lo hi own x (c.z i)
 |.mapU q v,x=>∃es clk,x=some (.map ⟨es⟩ clk)∧∀e,e∈es→(∃n,e.key= .int q n)∧VR c v e.val
def O.fz:O→Bool
 |.ro _=>true
 |.frz _ _ _ false=>true
 |_=>false
structure HR (c:Cx) (t:Nat→Option O) (w:World):Prop where
 at_:∀i x,t i=some x→c.av i∧OR c i x w.heap[c.b i]?
 inj:∀i j x y,t i=some x→t j=some y→c.b i=c.b j→i=j∨(x.fz=true∧y.fz=true)
theorem ER.le {c c':Cx} (hc:Le c c'):∀{l:List E} {m:List MapEntry},ER c l m→ER c' l m
 |[],[],_=>trivial
 |_::_,_::_,⟨h1,h2,h3,h4⟩=>⟨h1.le hc,h2.le hc,h3,ER.le hc h4⟩
 |[],_::_,h=>h.elim
 |_::_,[],h=>h.elim
theorem TR.le {c c':Cx} (hc:Le c c') {t:T Value} {tm:Array Value} (h:TR c t tm):TR c' t tm:=fun i=>(h i).le hc
theorem OR.le {c c':Cx} (hc:Le c c') {i:Nat} (hi:c.av i) {o:O} {x:Option Obj} (h:OR c i o x):OR c' i o x:=by
 obtain ⟨h1,h2,h3,h4,h5⟩:=hc i hi
 cases o with
 |cells l=>obtain ⟨pre,l',post,ty,e,hp,hl,ho,hq⟩:=h; exact ⟨pre,l',post,ty,e,hp.trans h3.symm,hl.le hc,h3.trans ho,hq⟩
 |ro l=>obtain ⟨pre,l',post,ty,fr,e,hp,hl⟩:=h; exact ⟨pre,l',post,ty,fr,e,hp.trans h3.symm,hl.le hc⟩
 |opn z l=>obtain ⟨pre,l',post,ty,e,hp,hl,hz,he⟩:=h; exact ⟨pre,l',post,ty,e,hp.trans h3.symm,hl.le hc,(congrArg Zt.n h5).trans hz,h4.trans he⟩
 |map es k=>obtain ⟨es',e,he⟩:=h; exact ⟨es',e,he.le hc⟩
 |loop st pend fn size tm ps as bd=>obtain ⟨tm',ds,e,hs,ht⟩:=h; exact ⟨tm',ds,e,hs,ht.le hc⟩
 |deferred=>exact h
 |frz p lo hi own=>exact ⟨h.1.trans (congrArg Zt.x h5).symm,by rw [h2,h3,h5]; exact h.2⟩
 |mapU q v=>obtain ⟨es,clk,e,he⟩:=h; exact ⟨es,clk,e,fun y hy=>⟨(he y hy).1,(he y hy).2.le hc⟩⟩
structure Ext (c c':Cx) (lo hi:Nat):Prop where
 le:lo≤hi
 fresh:∀i,lo≤i→i < hi→¬c.av i
 av:∀i,c'.av i ↔ c.av i∨(lo≤i∧i < hi)
 same:∀i,¬(lo≤i∧i < hi)→c'.b i=c.b i∧c'.o i=c.o i∧c'.e i=c.e i∧c'.z i=c.z i
theorem Ext.toLe {c c':Cx} {lo hi:Nat} (h:Ext c c' lo hi):Le c c':=fun i ha=>
 have hn:¬(lo≤i∧i < hi):=fun ⟨a,b⟩=>h.fresh i a b ha
 have ⟨h1,h2,h3,h4⟩:=h.same i hn
 ⟨(h.av i).2 (.inl ha),h1,h2,h3,h4⟩
theorem Ext.refl (c:Cx) (n:Nat):Ext c c n n:=⟨Nat.le_refl _,fun i a b=>by omega,fun i=>⟨.inl,fun h=>h.elim id (fun h=>by omega)⟩,fun i _=>⟨rfl,rfl,rfl,rfl⟩⟩
theorem Ext.trans {a b c:Cx} {lo mid hi:Nat} (h:Ext a b lo mid) (k:Ext b c mid hi):Ext a c lo hi:=by
 have l1:=h.le
 have l2:=k.le
 refine ⟨Nat.le_trans h.le k.le,fun i h1 h2 hav=>?_,fun i=>?_,fun i hn=>?_⟩
 ·by_cases hm:i < mid
  ·exact h.fresh i h1 hm hav
  ·exact k.fresh i (by omega) h2 ((h.av i).2 (.inl hav))
 ·rw [k.av,h.av]
  constructor
  ·rintro ((h |h) |h)
   ·exact .inl h
   ·exact .inr (by omega)
   ·exact .inr (by omega)
  ·rintro (h |h)
   ·exact .inl (.inl h)
   ·by_cases hm:i < mid
    ·exact .inl (.inr (by omega))
    ·exact .inr (by omega)
 ·obtain ⟨h1,h2,h3,h4⟩:=h.same i (by omega)
  obtain ⟨k1,k2,k3,k4⟩:=k.same i (by omega)
  exact ⟨k1.trans h1,k2.trans h2,k3.trans h3,k4.trans h4⟩
def Fro (c:Cx) (t:Nat→Option O) (w:World) (c':Cx) (t':Nat→Option O) (w':World):Prop:=
 ∀i x,t i=some x→x.fz=true→c.b i < w.heap.size→w'.heap[c.b i]? =w.heap[c.b i]? ∧∀j y,t' j=some y→c'.b j=c.b i→y.fz=true
theorem Fro.trans {a b c:Cx} {s t u:Nat→Option O} {w1 w2 w3:World} (h:Fro a s w1 b t w2) (k:Fro b t w2 c u w3) (size:w1.heap.size≤w2.heap.size) (keep:∀k,k < w2.heap.size→(∀i x,t i=some x→b.b i≠k)→w3.heap[k]? =w2.heap[k]?)
 (img:∀i x,u i=some x→(∃j y,t j=some y∧c.b i=b.b j)∨w2.heap.size≤c.b i):Fro a s w1 c u w3:=fun i x hx hf hl=>by
 obtain ⟨e1,p1⟩:=h i x hx hf hl
 by_cases hex:∃j y,t j=some y∧b.b j=a.b i
 ·obtain ⟨j,y,hj,e⟩:=hex
  obtain ⟨e2,p2⟩:=k j y hj (p1 j y hj e) (by omega)
  rw [e] at e2 p2
  exact ⟨e2.trans e1,p2⟩
 ·have hno:∀j y,t j=some y→b.b j≠a.b i:=fun j y hj e=>hex ⟨j,y,hj,e⟩
  refine ⟨(keep _ (by omega) hno).trans e1,fun j y hj e=>?_⟩
  rcases img j y hj with ⟨m,z,hm,hb⟩ |hb
  ·exact absurd (hb.symm.trans e) (hno m z hm)
  ·omega
structure St (c:Cx) (t:Nat→Option O) (w:World) (c':Cx) (t':Nat→Option O) (w':World) (lo hi:Nat):Prop where
 ext:Ext c c' lo hi
 hr:HR c' t' w'
 size:w.heap.size≤w'.heap.size
 keep:∀k,k < w.heap.size→(∀i x,t i=some x→c.b i≠k)→w'.heap[k]? =w.heap[k]?
 img:∀i x,t' i=some x→(∃j y,t j=some y∧c'.b i=c.b j)∨w.heap.size≤c'.b i
 os:w'.os=w.os
 tape:w'.tape=w.tape
 output:w'.output=w.output
 ros:∀i l,c.av i→t' i=some (.ro l)→(∃m,t i=some (.ro m))∧w'.heap[c.b i]? =w.heap[c.b i]?
 fro:Fro c t w c' t' w'
theorem HR.fz {c:Cx} {t:Nat→Option O} {w:World} (h:HR c t w) {i:Nat} {x:O} (hx:t i=some x) (hf:x.fz=true):∀j y,t j=some y→c.b j=c.b i→y.fz=true:=fun j y hj e=>by
 rcases h.inj j i y x hj hx e with rfl |h
 ·rw [hx] at hj; cases hj; exact hf
 ·exact h.1
theorem HR.own {c:Cx} {t:Nat→Option O} {w:World} (h:HR c t w) {i j:Nat} {x y:O} (hx:t i=some x) (hy:t j=some y) (hf:x.fz=false) (e:c.b i=c.b j):i=j:=by
 rcases h.inj i j x y hx hy e with h |h
 ·exact h
 ·rw [h.1] at hf; cases hf
theorem St.refl {c:Cx} {t:Nat→Option O} {w:World} (h:HR c t w) (n:Nat):St c t w c t w n n:=
 ⟨Ext.refl c n,h,Nat.le_refl _,fun _ _ _=>rfl,fun i x hx=>.inl ⟨i,x,hx,rfl⟩,rfl,rfl,rfl,fun i l _ hi=>⟨⟨l,hi⟩,rfl⟩,fun i x hx hf _=>⟨rfl,h.fz hx hf⟩⟩
theorem St.trans {a b c:Cx} {s t u:Nat→Option O} {w1 w2 w3:World} {lo mid hi:Nat} (h:St a s w1 b t w2 lo mid) (k:St b t w2 c u w3 mid hi):St a s w1 c u w3 lo hi:=by
 refine ⟨h.ext.trans k.ext,k.hr,Nat.le_trans h.size k.size,fun n hn hs=>?_,fun i x hx=>?_,k.os.trans h.os,k.tape.trans h.tape,k.output.trans h.output,fun i l hav hi=>?_,h.fro.trans k.fro h.size k.keep k.img⟩
 ·rw [k.keep n (Nat.lt_of_lt_of_le hn h.size),h.keep n hn hs]
  intro i x hx e
  rcases h.img i x hx with ⟨j,y,hj,hb⟩ |hb
  ·exact hs j y hj (hb.symm.trans e)
  ·omega
 ·rcases k.img i x hx with ⟨j,y,hj,hb⟩ |hb
  ·rcases h.img j y hj with ⟨m,z,hm,hb2⟩ |hb2
   ·exact .inl ⟨m,z,hm,hb.trans hb2⟩
   ·exact .inr (by omega)
  ·exact .inr (Nat.le_trans h.size hb)
 ·have hle:=h.ext.toLe i hav
  obtain ⟨⟨m,hm⟩,e1⟩:=k.ros i l hle.1 hi
  obtain ⟨hs,e2⟩:=h.ros i m hav hm
  rw [hle.2.1] at e1
  exact ⟨hs,e1.trans e2⟩
theorem St.sub {c c':Cx} {t t' t2:Nat→Option O} {w w':World} {lo hi:Nat} (h:St c t w c' t' w' lo hi) (hs:∀i x,t2 i=some x→t' i=some x):St c t w c' t2 w' lo hi:=
 ⟨h.ext,⟨fun i x hx=>h.hr.at_ i x (hs i x hx),fun i j x y hx hy=>h.hr.inj i j x y (hs i x hx) (hs j y hy)⟩,h.size,h.keep,fun i x hx=>h.img i x (hs i x hx),h.os,h.tape,h.output,fun i l a b=>h.ros i l a (hs i _ b),fun i x hx hf hl=>⟨(h.fro i x hx hf hl).1,fun j y hj e=>(h.fro i x hx hf hl).2 j y (hs j y hj) e⟩⟩
def Cx.put (c:Cx) (n b o e:Nat) (z:Zt):Cx:=
 ⟨fun i=>c.av i∨i=n,fun i=>if i=n then b else c.b i,fun i=>if i=n then o else c.o i,fun i=>if i=n then e else c.e i,fun i=>if i=n then z else c.z i⟩
theorem Cx.put_ext (c:Cx) (n b o e:Nat) (z:Zt) (h:¬c.av n):Ext c (c.put n b o e z) n (n+1):=by
 refine ⟨by omega,fun i a b=>?_,fun i=>?_,fun i hn=>?_⟩
 ·have:i=n:=by omega
  subst this; exact h
 ·show c.av i∨i=n ↔ _
  constructor
  ·rintro (h |h)
   ·exact .inl h
   ·exact .inr (by omega)
  ·rintro (h |h)
   ·exact .inl h
   ·exact .inr (by omega)
 ·have:i≠n:=by omega
  simp [Cx.put,this]
structure Turned (w w':World) (k:Nat) (o:Obj):Prop where
 size:w'.heap.size=w.heap.size
 at_:w'.heap[k]? =some o
 other:∀j,j≠k→w'.heap[j]? =w.heap[j]?
 os:w'.os=w.os
 tape:w'.tape=w.tape
 output:w'.output=w.output
structure Made (w w':World) (o:Obj):Prop where
 size:w'.heap.size=w.heap.size+1
 at_:w'.heap[w.heap.size]? =some o
 other:∀j,j < w.heap.size→w'.heap[j]? =w.heap[j]?
 os:w'.os=w.os
 tape:w'.tape=w.tape
 output:w'.output=w.output
theorem OR.some {c:Cx} {i:Nat} {o:O} {x:Option Obj} (h:OR c i o x):∃ob,x=some ob:=by
 cases o with
 |cells l=>obtain ⟨pre,l',post,ty,e,_⟩:=h; exact ⟨_,e⟩
 |ro l=>obtain ⟨pre,l',post,ty,fr,e,_⟩:=h; exact ⟨_,e⟩
 |opn z l=>obtain ⟨pre,l',post,ty,e,_⟩:=h; exact ⟨_,e⟩
 |map es k=>obtain ⟨es',e,_⟩:=h; exact ⟨_,e⟩
 |loop st pend fn size tm ps as bd=>obtain ⟨tm',ds,e,_⟩:=h; exact ⟨_,e⟩
 |deferred=>exact ⟨_,h⟩
 |frz p lo hi own=>exact Option.ne_none_iff_exists'.1 h.2.1
 |mapU q v=>obtain ⟨es,clk,e,_⟩:=h; exact ⟨_,e⟩
theorem HR.lt {c:Cx} {t:Nat→Option O} {w:World} (h:HR c t w) {i:Nat} {x:O} (hx:t i=some x):c.b i < w.heap.size:=by
 obtain ⟨ob,e⟩:=(h.at_ i x hx).2.some
 exact (Array.getElem?_eq_some_iff.1 e).1
theorem St.set {c:Cx} {t:T O} {w w':World} (h:HR c t.get w) {b:Nat} {old o:O} {ob:Obj} (hb:t.get b=some old) (hw:Turned w w' (c.b b) ob) (ho:OR c b o (some ob)) (n:Nat) (hno:∀l,o≠O.ro l:=by intro l h; cases h) (hnf:old.fz=false:=by rfl):
 St c t.get w c (t.set b (some o)).get w' n n:=by
 have hne:∀i x,t.get i=some x→x.fz=true→c.b i≠c.b b:=fun i x hx hf e=>by
  have:=h.own hb hx hnf e.symm
  subst this
  rw [hb] at hx; cases hx; rw [hnf] at hf; cases hf
 refine ⟨Ext.refl c n,⟨fun i x hx=>?_,fun i j x y hx hy e=>?_⟩,Nat.le_of_eq hw.size.symm,fun k hk hn=>?_,fun i x hx=>?_,hw.os,hw.tape,hw.output,fun i l _ hi=>?_,fun i x hx hf _=>⟨hw.other _ (hne i x hx hf),fun j y hj e=>?_⟩⟩
 ·rw [T.get_set] at hx
  by_cases hi:i=b
  ·subst hi
   rw [if_pos rfl] at hx
   cases hx
   exact ⟨(h.at_ _ _ hb).1,by rw [hw.at_]; exact ho⟩
  ·rw [if_neg hi] at hx
   have:=h.at_ i x hx
   refine ⟨this.1,?_⟩
   rw [hw.other _ (fun e=>hi (h.own hb hx hnf e.symm).symm)]
   exact this.2
 ·rw [T.get_set] at hx hy
  by_cases hi:i=b
  ·subst hi
   by_cases hj:j=i
   ·exact .inl hj.symm
   ·rw [if_neg hj] at hy
    exact .inl (h.own hb hy hnf e)
  ·rw [if_neg hi] at hx
   by_cases hj:j=b
   ·subst hj
    exact .inl (h.own hb hx hnf e.symm).symm
   ·rw [if_neg hj] at hy
    exact h.inj i j _ _ hx hy e
 ·exact hw.other k (fun e=>hn b old hb e.symm)
 ·rw [T.get_set] at hx
  by_cases hi:i=b
  ·exact .inl ⟨b,old,hb,by rw [hi]⟩
  ·rw [if_neg hi] at hx; exact .inl ⟨i,x,hx,rfl⟩
 ·rw [T.get_set] at hi
  split at hi
  ·cases hi; exact absurd rfl (hno l)
  ·rename_i hib; exact ⟨⟨l,hi⟩,hw.other _ fun e=>hib (h.own hb hi hnf e.symm).symm⟩
 ·rw [T.get_set] at hj
  split at hj
  ·rename_i hjb; subst hjb; exact absurd e.symm (hne i x hx hf)
  ·exact h.fz hx hf j y hj e
theorem St.new {c:Cx} {t:T O} {w w':World} (h:HR c t.get w) {n:Nat} {o:O} {ob:Obj} (e:Nat) (z:Zt) (hn:¬c.av n) (hw:Made w w' ob) (ho:OR (c.put n w.heap.size 0 e z) n o (some ob)):
 St c t.get w (c.put n w.heap.size 0 e z) (t.set n (some o)).get w' n (n+1):=by
 have hx:=c.put_ext n w.heap.size 0 e z hn
 have hno:∀i x,t.get i=some x→i≠n:=fun i x hi e=>hn (e▸(h.at_ i x hi).1)
 have hcb:∀i,i≠n→(c.put n w.heap.size 0 e z).b i=c.b i:=fun i hi=>by simp [Cx.put,hi]
 have hcn:(c.put n w.heap.size 0 e z).b n=w.heap.size:=by simp [Cx.put]
 refine ⟨hx,⟨fun i x hi=>?_,fun i j x y hi hj he=>?_⟩,by have:=hw.size; omega,fun k hk _=>hw.other k hk,fun i x hi=>?_,hw.os,hw.tape,hw.output,fun i l hav hi=>?_,fun i x hi hf hl=>⟨hw.other _ hl,fun j y hj he=>?_⟩⟩
 ·rw [T.get_set] at hi
  by_cases hin:i=n
  ·subst hin
   rw [if_pos rfl] at hi
   cases hi
   exact ⟨.inr rfl,by rw [hcn,hw.at_]; exact ho⟩
  ·rw [if_neg hin] at hi
   have:=h.at_ i x hi
   refine ⟨.inl this.1,?_⟩
   rw [hcb i hin,hw.other _ (h.lt hi)]
   exact this.2.le hx.toLe this.1
 ·rw [T.get_set] at hi hj
  by_cases hin:i=n
  ·by_cases hjn:j=n
   ·exact .inl (by rw [hin,hjn])
   ·rw [if_neg hjn] at hj
    rw [hin,hcn,hcb j hjn] at he
    have:=h.lt hj
    omega
  ·rw [if_neg hin] at hi
   by_cases hjn:j=n
   ·rw [hjn,hcn,hcb i hin] at he
    have:=h.lt hi
    omega
   ·rw [if_neg hjn] at hj
    rw [hcb i hin,hcb j hjn] at he
    exact h.inj i j _ _ hi hj he
 ·rw [T.get_set] at hi
  by_cases hin:i=n
  ·exact .inr (by rw [hin,hcn]; exact Nat.le_refl _)
  ·rw [if_neg hin] at hi; exact .inl ⟨i,x,hi,hcb i hin⟩
 ·rw [T.get_set,if_neg (fun e:i=n=>hn (e▸hav))] at hi
  exact ⟨⟨l,hi⟩,hw.other _ (h.lt hi)⟩
 ·rw [T.get_set] at hj
  by_cases hjn:j=n
  ·rw [hjn,hcn] at he; omega
  ·rw [if_neg hjn] at hj
   rw [hcb j hjn] at he
   exact h.fz hi hf j y hj he
theorem St.shift {c:Cx} {t:T O} {w w':World} (h:HR c t.get w) {n b:Nat} {old o:O} {ob:Obj} (off e:Nat) (z:Zt) (hn:¬c.av n) (hb:t.get b=some old) (hw:Turned w w' (c.b b) ob) (ho:OR (c.put n (c.b b) off e z) n o (some ob)) (hnf:old.fz=false:=by rfl):
 St c t.get w (c.put n (c.b b) off e z) ((t.set b none).set n (some o)).get w' n (n+1):=by
 have hx:=c.put_ext n (c.b b) off e z hn
 have hno:∀i x,t.get i=some x→i≠n:=fun i x hi e=>hn (e▸(h.at_ i x hi).1)
 have hcb:∀i,i≠n→(c.put n (c.b b) off e z).b i=c.b i:=fun i hi=>by simp [Cx.put,hi]
 have hcn:(c.put n (c.b b) off e z).b n=c.b b:=by simp [Cx.put]
 have hg:∀i x,((t.set b none).set n (some o)).get i=some x→(i=n∧x=o)∨(i≠n∧i≠b∧t.get i=some x):=by
  intro i x hi
  rw [T.get_set,T.get_set] at hi
  by_cases hin:i=n
  ·rw [if_pos hin] at hi; cases hi; exact .inl ⟨hin,rfl⟩
  ·rw [if_neg hin] at hi
   by_cases hib:i=b
   ·rw [if_pos hib] at hi; cases hi
   ·rw [if_neg hib] at hi; exact .inr ⟨hin,hib,hi⟩
 have hne:∀i x,t.get i=some x→x.fz=true→c.b i≠c.b b:=fun i x hx1 hf e=>by
  have:=h.own hb hx1 hnf e.symm
  subst this
  rw [hb] at hx1; cases hx1; rw [hnf] at hf; cases hf
 refine ⟨hx,⟨fun i x hi=>?_,fun i j x y hi hj he=>?_⟩,Nat.le_of_eq hw.size.symm,fun k hk hnk=>hw.other k (fun e=>hnk b old hb e.symm),fun i x hi=>?_,hw.os,hw.tape,hw.output,fun i l hav hi=>?_,fun i x hi hf _=>⟨hw.other _ (hne i x hi hf),fun j y hj he=>?_⟩⟩
 ·rcases hg i x hi with ⟨rfl,rfl⟩ |⟨hin,hib,hi2⟩
  ·exact ⟨.inr rfl,by rw [hcn,hw.at_]; exact ho⟩
  ·have:=h.at_ i x hi2
   refine ⟨.inl this.1,?_⟩
   rw [hcb i hin,hw.other _ (fun e=>hib (h.own hb hi2 hnf e.symm).symm)]
   exact this.2.le hx.toLe this.1
 ·rcases hg i x hi with ⟨rfl,rfl⟩ |⟨hin,hib,hi2⟩
  ·rcases hg j y hj with ⟨rfl,rfl⟩ |⟨hjn,hjb,hj2⟩
   ·exact .inl rfl
   ·rw [hcn,hcb j hjn] at he
    exact absurd (h.own hb hj2 hnf he).symm hjb
  ·rcases hg j y hj with ⟨rfl,rfl⟩ |⟨hjn,hjb,hj2⟩
   ·rw [hcn,hcb i hin] at he
    exact absurd (h.own hb hi2 hnf he.symm).symm hib
   ·rw [hcb i hin,hcb j hjn] at he
    exact h.inj i j _ _ hi2 hj2 he
 ·rcases hg i x hi with ⟨rfl,rfl⟩ |⟨hin,hib,hi2⟩
  ·exact .inl ⟨b,old,hb,hcn⟩
  ·exact .inl ⟨i,x,hi2,hcb i hin⟩
 ·rcases hg i _ hi with ⟨rfl,rfl⟩ |⟨hin,hib,hi2⟩
  ·exact absurd hav hn
  ·exact ⟨⟨l,hi2⟩,hw.other _ fun e=>hib (h.own hb hi2 hnf e.symm).symm⟩
 ·rcases hg j y hj with ⟨rfl,rfl⟩ |⟨hjn,hjb,hj2⟩
  ·rw [hcn] at he; exact absurd he.symm (hne i x hi hf)
  ·rw [hcb j hjn] at he
   exact h.fz hi hf j y hj2 he
theorem FrzOK.list {b o:Nat} {p:List Value} {lo hi:Nat} {own:Bool} {x:Option Obj} {z:Zt} (h:FrzOK b o p lo hi own x z) (h0:0 < lo) (h1:lo≤hi):
 ∃len cap l ty fr,z.v= .slice (some ⟨b,o,none⟩) len cap∧x=some (.cells ⟨l⟩ ty fr)∧z.n=p.length∧lo≤len∧len≤hi∧len≤cap∧o+cap * p.length≤l.length∧(own=true→fr=(0,0))∧∀k,k < len * p.length→∀c,VR c ((p[k % p.length]?).getD undef) ((l[o+k]?).getD undef):=by
 rcases h.2 with h |h |⟨es,k,_,_,a,b,_⟩
 ·omega
 ·exact h
 ·omega
theorem FrzOK.wide {b o:Nat} {p:List Value} {lo hi lo' hi':Nat} {own own':Bool} {x:Option Obj} {z:Zt} (h:FrzOK b o p lo' hi' own' x z) (h1:lo≤lo') (h2:hi'≤hi) (h3:lo'≤hi'∨(lo=lo'∧hi=hi')) (h4:own=true→own'=true):FrzOK b o p lo hi own x z:=by
 refine ⟨h.1,?_⟩
 rcases h.2 with ⟨q1,q2,q3⟩ |⟨len,cap,l,ty,fr,e1,e2,e3,e4,e5,e6,e7,e8,e9⟩ |⟨es,k,q1,q2,q3,q4,q5⟩
 ·exact .inl ⟨by omega,by {cases own with |false=>rfl |true=>(rw [h4 rfl] at q2; cases q2)},q3⟩
 ·exact .inr (.inl ⟨len,cap,l,ty,fr,e1,e2,e3,by omega,by omega,e6,e7,fun h=>e8 (h4 h),e9⟩)
 ·rcases h3 with h3 |⟨rfl,rfl⟩
  ·omega
  ·exact .inr (.inr ⟨es,k,q1,q2,q3,q4,q5⟩)
theorem times_len {α:Type} (l:List α) (n:Nat):(times l n).length=n * l.length:=by
 induction n with
 |zero=>simp [times]
 |succ n ih=>simp [times,ih,Nat.succ_mul,Nat.add_comm]
theorem times_at (l:List Value) (n:Nat):∀i,i < n * l.length→(times l n)[i]? =l[i % l.length]? :=by
 induction n with
 |zero=>intro i h; simp at h
 |succ n ih=>
  intro i h
  unfold times
  by_cases hi:i < l.length
  ·rw [List.getElem?_append_left hi,Nat.mod_eq_of_lt hi]
  ·rw [List.getElem?_append_right (by omega),ih _ (by rw [Nat.succ_mul] at h; omega)]
   congr 1
   rw [Nat.mod_eq_sub_mod (by omega:i ≥ l.length)]
theorem lr_of_get {c:Cx}:∀{l l':List Value},l'.length=l.length→(∀k,k < l.length→∃v v',l[k]? =some v∧l'[k]? =some v'∧VR c v v')→LR c l l'
 |[],[],_,_=>.nil
 |[],_::_,h,_=>by cases h
 |_::_,[],h,_=>by cases h
 |x::l,y::m,h,k=>by
  obtain ⟨v,v',h1,h2,h3⟩:=k 0 (by simp)
  simp at h1 h2
  subst h1; subst h2
  exact .cons h3 (lr_of_get (by simpa using h) fun i hi=>by simpa using k (i+1) (by simpa using hi))
theorem HR.row {c:Cx} {u:Nat→Option O} {t:T O} {w:World} (h:HR c u w) {b:Nat} (hu:u b=t.get b) {l:List Value} (hb:rowOf t b=some l):
 c.av b∧∃pre l' post ty fr,w.heap[c.b b]? =some (.cells ⟨pre++l'++post⟩ ty fr)∧pre.length=c.o b∧LR c l l':=by
 unfold rowOf at hb
 split at hb
 ·rename_i x hx; cases hb; have:=h.at_ _ _ (hu.trans hx); obtain ⟨pre,l',post,ty,e,hp,hl,_⟩:=this.2; exact ⟨this.1,pre,l',post,ty,_,e,hp,hl⟩
 ·rename_i x hx; cases hb; have:=h.at_ _ _ (hu.trans hx); obtain ⟨pre,l',post,ty,fr,e,hp,hl⟩:=this.2; exact ⟨this.1,pre,l',post,ty,fr,e,hp,hl⟩
 ·rename_i z x hx; cases hb; have:=h.at_ _ _ (hu.trans hx); obtain ⟨pre,l',post,ty,e,hp,hl,_⟩:=this.2; exact ⟨this.1,pre,l',post,ty,_,e,hp,hl⟩
 ·rename_i p lo hi own hx
  split at hb
  ·rename_i hlo
   cases hb
   rw [Bool.and_eq_true,Nat.blt_eq,Nat.ble_eq] at hlo
   have:=h.at_ _ _ (hu.trans hx)
   obtain ⟨len,cap,l,ty,fr,e1,e2,e3,e4,e5,e6,e7,e8,e9⟩:=this.2.2.list hlo.1 hlo.2
   have hle:lo * p.length≤len * p.length:=Nat.mul_le_mul_right _ e4
   have hle2:len * p.length≤cap * p.length:=Nat.mul_le_mul_right _ e6
   refine ⟨this.1,l.take (c.o b),(l.drop (c.o b)).take (lo * p.length),l.drop (c.o b+lo * p.length),ty,fr,?_,by rw [List.length_take]; omega,?_⟩
   ·rw [e2]
    congr 2
    rw [←List.drop_drop,List.append_assoc,List.take_append_drop,List.take_append_drop]
   ·refine lr_of_get (by rw [List.length_take,List.length_drop,times_len]; omega) fun k hk=>?_
    rw [times_len] at hk
    have h9:=e9 k (by omega) c
    rw [times_at _ _ _ hk,List.getElem?_take_of_lt hk,List.getElem?_drop]
    have hp0:0 < p.length:=by
     rcases Nat.eq_zero_or_pos p.length with h |h
     ·rw [h] at hk; omega
     ·exact h
    have hm:k % p.length < p.length:=Nat.mod_lt _ hp0
    rw [List.getElem?_eq_getElem hm] at h9 ⊢
    have hl:c.o b+k < l.length:=by omega
    rw [List.getElem?_eq_getElem hl] at h9 ⊢
    exact ⟨_,_,rfl,rfl,h9⟩
  ·cases hb
 ·cases hb
theorem HR.rowAt {c:Cx} {t:T O} {w:World} (h:HR c t.get w) {b:Nat} {l:List Value} {g:List Value→O} (hb:rowAt t b=some (l,g)):
 c.av b∧t.get b=some (g l)∧∃pre l' post ty,w.heap[c.b b]? =some (.cells ⟨pre++l'++post⟩ ty (0,0))∧pre.length=c.o b∧LR c l l'∧
  ∀m m',LR c m m'→m.length=l.length→OR c b (g m) (some (.cells ⟨pre++m'++post⟩ ty (0,0))):=by
 unfold Eng.rowAt at hb
 split at hb
 ·rename_i x hx; cases hb; have:=h.at_ _ _ hx; obtain ⟨pre,l',post,ty,e,hp,hl,hq⟩:=this.2
  exact ⟨this.1,hx,pre,l',post,ty,e,hp,hl,fun m m' hm _=>⟨pre,m',post,ty,rfl,hp,hm,hq⟩⟩
 ·rename_i z x hx; cases hb; have:=h.at_ _ _ hx; obtain ⟨pre,l',post,ty,e,hp,hl,hz,he⟩:=this.2
  exact ⟨this.1,hx,pre,l',post,ty,e,hp,hl,fun m m' hm hlen=>⟨pre,m',post,ty,rfl,hp,hm,hz,by rw [hm.length,hlen,←hl.length]; exact he⟩⟩
 ·cases hb
theorem cell_of_parts {w:World} {k:Nat} {pre l post:List Value} {ty:TypeId} {fr:Nat×Nat} (hw:w.heap[k]? =some (.cells ⟨pre++l++post⟩ ty fr)) {j:Nat} {v:Value} (hj:l[j]? =some v):w.cell? ⟨k,pre.length+j,none⟩=some v:=by
 rw [cell_of_row w k _ _ ty fr hw]
 have hlt:j < l.length:=(List.getElem?_eq_some_iff.1 hj).1
 rw [show (⟨pre++l++post⟩:Array Value)[pre.length+j]? =(pre++l++post)[pre.length+j]? from (Array.getElem?_toList ..).symm,List.append_assoc,List.getElem?_append_right (by omega),Nat.add_sub_cancel_left,List.getElem?_append_left hlt]
 exact hj
theorem add_addr (b o n:Nat):(⟨b,o,none⟩:Addr).add n=⟨b,o+n,none⟩:=by unfold Addr.add; split <;> simp_all
theorem run_cells {P:Program} {w:World} {k:Nat} {pre l post:List Value} {ty:TypeId} {fr:Nat×Nat} (hw:w.heap[k]? =some (.cells ⟨pre++l++post⟩ ty fr)) {o n:Nat} (hn:o+n≤l.length):
 (loadCells ⟨k,pre.length+o,none⟩ n).run P w= .ok ⟨cut l o n⟩ w:=by
 have hl:(cut l o n).length=n:=by simp [cut]; omega
 have:=run_loadCells_list (P:=P) w ⟨k,pre.length+o,none⟩ (cut l o n) (fun j v hv=>by
  rw [add_addr,Nat.add_assoc]
  refine cell_of_parts hw ?_
  have hj:j < n:=by have:=(List.getElem?_eq_some_iff.1 hv).1; omega
  simpa [cut,List.getElem?_take,hj] using hv)
 rw [hl] at this
 simpa using this
theorem run_lay {P:Program} {w:World} {k:Nat} {pre l post:List Value} {ty:TypeId} (hw:w.heap[k]? =some (.cells ⟨pre++l++post⟩ ty (0,0))) {o:Nat} {vs:List Value} (hn:o+vs.length≤l.length) (h1:∀v∈vs,v.oneCell'=true):
 ∃w',(storeCells ⟨k,pre.length+o,none⟩ vs).run P w= .ok () w'∧Turned w w' k (.cells ⟨pre++lay l o vs++post⟩ ty (0,0)):=by
 have:=run_storeCells_at P k (pre.length+o) ty vs 0 _ w hw (by simp; omega) h1
 refine ⟨_,this,?_⟩
 have hk:k < w.heap.size:=(Array.getElem?_eq_some_iff.1 hw).1
 have he:(pre++l++post).take (pre.length+o+0)++vs++(pre++l++post).drop (pre.length+o+0+vs.length)=pre++lay l o vs++post:=by
  rw [lay_eq _ _ _ hn,Nat.add_zero,List.append_assoc pre l post,List.take_length_add_append,Nat.add_assoc,List.drop_length_add_append,List.take_append_of_le_length (by omega),List.drop_append_of_le_length (by omega)]
  simp only [List.append_assoc]
 refine ⟨by simp,?_,fun j hj=>setRow_other _ _ _ _ hj,by simp,by simp,by simp⟩
 rw [setRow_heap w k _ _ ty (0,0) hw]
 simp only [he]
end Go.Eng
namespace Go.Eng
def Gl (c:Cx):Prop:=∀g,g < 64→c.av g∧c.b g=g∧c.o g=0
structure AR (c:Cx) (a:A) (x:Act):Prop where
 size:a.size=x.tmps.size
 tmps:TR c a.t x.tmps
 defers:x.defers=a.ds.map fun d=>{target:=.collected (c.b d),args:=#[]}
 av:∀d,d∈a.ds→c.av d
theorem Gl.le {c c':Cx} (h:Gl c) (hc:Le c c'):Gl c':=fun g hg=>
 have ⟨h1,h2,h3⟩:=h g hg
 have ⟨k1,k2,k3,_,_⟩:=hc g h1
 ⟨k1,k2.trans h2,k3.trans h3⟩
theorem AR.le {c c':Cx} {a:A} {x:Act} (h:AR c a x) (hc:Le c c'):AR c' a x:=
 ⟨h.size,h.tmps.le hc,by rw [h.defers]; exact List.map_congr_left fun d hd=>by rw [(hc d (h.av d hd)).2.1],fun d hd=>(hc d (h.av d hd)).1⟩
theorem AR.ev {c:Cx} {a:A} {x:Act} (h:AR c a x) (g:Gl c) (y:Operand):VR c (a.ev y) (x.eval y):=by
 cases y with
 |tmp t=>exact h.tmps t
 |const v=>
  show VR c (match flat 4 v with |true=>v |false=>unk) v
  cases hf:flat 4 v with
  |true=>exact (flat_vr c 4 v hf).1
  |false=>exact .any _
 |global n=>
  show VR c (match Nat.blt n 64 with |true=>_ |false=>unk) _
  cases hf:Nat.blt n 64 with
  |true=>
   obtain ⟨h1,h2,h3⟩:=g n (by simpa [Nat.blt_eq] using hf)
   have:=VR.ptr (c:=c) (o:=0) h1
   rw [h2,h3] at this
   exact this
  |false=>exact .any _
 |func f=>exact .func f .nil .nil
theorem evs_lr {c:Cx} {a:A} {x:Act} (l:List Operand) (E:∀y,y∈l→VR c (a.ev y) (x.eval y)):LR c (evs a l) (l.map x.eval):=by
 induction l with
 |nil=>exact .nil
 |cons y l ih=>exact .cons (E y (List.mem_cons_self ..)) (ih fun z hz=>E z (List.mem_cons_of_mem _ hz))
def PR (c:Cx):List (Nat×Value)→List (Nat×Value)→Prop
 |[],[]=>True
 |x::l,y::m=>y.1=x.1∧VR c x.2 y.2∧PR c l m
 |_,_=>False
theorem evps_pr {c:Cx} {a:A} {x:Act} (l:List (Nat×Operand)) (E:∀y,y∈l→VR c (a.ev y.2) (x.eval y.2)):PR c (evps a l) (l.map fun p=>(p.1,x.eval p.2)):=by
 induction l with
 |nil=>trivial
 |cons y l ih=>exact ⟨rfl,E y (List.mem_cons_self ..),ih fun z hz=>E z (List.mem_cons_of_mem _ hz)⟩
variable {P:Program}
theorem run_aggT {t:TypeId} {b:Bool} (h:aggT P t=some b) (w:World):(isAgg t).run P w= .ok b w:=by
 unfold aggT at h
 cases hu:P.underlying t with
 |none=>rw [hu] at h; cases h
 |some d=>
  rw [hu] at h
  cases h
  unfold isAgg
  simp only [Sem.run_bind,run_underlying hu,Result.andThen_ok]
  cases d <;> rfl
theorem run_sizeT {t:TypeId} {n:Nat} (h:sizeT P t=some n) (w:World):(sizeOf t).run P w= .ok n w:=by
 unfold sizeT at h
 cases hu:P.info? t with
 |none=>rw [hu] at h; cases h
 |some d=>rw [hu] at h; cases h; simp [sizeOf,typeInfo,hu]
theorem run_zeroT {t:TypeId} {z:Value} (h:zeroT P t=some z) (w:World):(zeroValue t).run P w= .ok z w∧flat 4 z=true:=by
 unfold zeroT at h
 cases hu:P.info? t with
 |none=>rw [hu] at h; cases h
 |some d=>
  rw [hu] at h
  cases hz:d.zero with
  |none=>simp [hz] at h
  |some z'=>
   simp only [Option.bind_some,hz] at h
   split at h
   ·rename_i hf; cases h; exact ⟨by simp [zeroValue,typeInfo,hu,hz],hf⟩
   ·cases h
theorem cells_one {v:Value} (h:v.oneCell'=true):v.cells=#[v]:=by
 cases v <;> first |rfl |(cases h; done)
theorem cells_eq {c:Cx} {v v':Value} (h:VR c v v') (hn:v≠.chan none):LR c (cellsL v) v'.cells.toList:=by
 have one:(cellsL v=[v]∧v'.cells=#[v'])→LR c (cellsL v) v'.cells.toList:=fun ⟨a,b⟩=>by rw [a,b]; exact .cons h .nil
 cases h with
 |any=>exact absurd rfl hn
 |frz hi hv=>exact one ⟨rfl,cells_one hv⟩
 |tail hi hv ht=>exact one ⟨rfl,cells_one hv⟩
 |sub hi hs=>obtain ⟨_,_,_,_,_,_,_,_,rfl,_⟩:=hs; exact one ⟨rfl,rfl⟩
 |agg hx=>exact hx
 |_=>exact one ⟨rfl,rfl⟩
theorem known_ne {v:Value} (h:known v=true):v≠.chan none:=by rintro rfl; cases h
theorem part_ok {c:Cx} {t:TypeId} {l l':List Value} {o:Nat} {v:Value} (h:fromCells P t l o=some v) (hl:LR c l l') (w:World):∃v',VR c v v'∧(part t ⟨l'⟩ o).run P w= .ok v' w:=by
 unfold fromCells at h
 split at h
 ·rename_i ha
  rw [nth_eq] at h
  obtain ⟨v',hv,hr⟩:=hl.get h
  refine ⟨v',hr,?_⟩
  have hv2:(⟨l'⟩:Array Value)[o]? =some v':=by rw [←Array.getElem?_toList]; exact hv
  simp [part,run_aggT ha,hv2]
 ·rename_i ha
  split at h
  ·rename_i n hs
   split at h
   ·cases h
    refine ⟨.agg ⟨cut l' o n⟩,.agg (hl.cut o n),?_⟩
    simp [part,run_aggT ha,run_sizeT hs]
    rfl
   ·cases h
  ·cases h
 ·cases h
theorem load_ok {c:Cx} {u:Nat→Option O} {h:T O} {w:World} {t:TypeId} {x x' v:Value} {e:Eff} (hv:loadE P h t x=some (v,e)) (hx:VR c x x'):
 ∃b,e= .rd [b]∧(HR c u w→u b=h.get b→∃v',VR c v v'∧(Instr.loadAt t x').run P w= .ok v' w):=by
 unfold loadE at hv
 split at hv
 ·rename_i b o
  split at hv
  ·rename_i l hl
   split at hv
   ·rename_i v0 hf
    cases hv
    refine ⟨b,rfl,fun H hu=>?_⟩
    obtain ⟨hav,pre,l',post,ty,fr,hw,hp,hr⟩:=H.row hu hl
    cases hx with
    |ptr _=>
     unfold fromCells at hf
     split at hf
     ·rename_i ha
      rw [nth_eq] at hf
      obtain ⟨v',hv',hr'⟩:=hr.get hf
      refine ⟨v',hr',?_⟩
      have hc:=cell_of_parts hw hv'
      rw [hp] at hc
      simp [Instr.loadAt,Instr.sureAddr,loadVar,run_aggT ha,hc]
     ·rename_i ha
      split at hf
      ·rename_i n hs
       split at hf
       ·rename_i hle
        cases hf
        refine ⟨.agg ⟨cut l' o n⟩,.agg (hr.cut o n),?_⟩
        have hle':o+n≤l'.length:=by rw [hr.length]; exact Nat.le_of_ble_eq_true hle
        have:=run_cells (P:=P) hw hle'
        rw [hp] at this
        simp [Instr.loadAt,Instr.sureAddr,loadVar,run_aggT ha,run_sizeT hs,this]
       ·cases hf
      ·cases hf
     ·cases hf
   ·cases hv
  ·cases hv
 ·cases hv
theorem zipIdx_lay (cs:List Value):∀(o j:Nat) (l:List Value),o+j+cs.length≤l.length→
 (cs.zipIdx j).foldl (fun (r:Array Value) (p:Value×Nat)=>r.setIfInBounds (o+p.2) p.1) ⟨l⟩=⟨lay l (o+j) cs⟩:=by
 induction cs with
 |nil=>intro o j l h; rw [lay_eq _ _ _ (by simpa using h)]; simp
 |cons x cs ih=>
  intro o j l h
  simp only [List.zipIdx_cons,List.foldl_cons]
  have hlt:o+j < l.length:=by simp at h; omega
  have hset:(⟨l⟩:Array Value).setIfInBounds (o+j) x=⟨l.set (o+j) x⟩:=by
   apply Array.ext'
   simp
  rw [hset,ih o (j+1) _ (by simp at h ⊢; omega)]
  congr 1
  rw [lay_eq _ _ _ (by simp at h ⊢; omega),lay_eq _ _ _ (by simp at h ⊢; omega)]
  apply List.ext_getElem?
  intro i
  simp only [List.length_cons]
  rw [show o+(j+1)=o+j+1 by omega,show o+j+(cs.length+1)=o+j+1+cs.length by omega]
  rw [List.take_set,List.drop_set_of_lt (by omega)]
  have hl1:((l.take (o+j+1)).set (o+j) x)=l.take (o+j)++[x]:=by
   rw [List.take_succ_eq_append_getElem hlt,List.set_append_right _ _ (by simp; omega)]
   simp [Nat.min_eq_left (Nat.le_of_lt hlt)]
  rw [hl1]
  simp
theorem fill_ok {c:Cx} {pl pl':Nat→Option (Nat×Nat)} (hp:∀i p,pl i=some p→pl' i=some p):∀{ps ps':List (Nat×Value)} {l l' m:List Value},fillL pl ps l=some m→PR c ps ps'→LR c l l'→
 ∃m',Instr.fill pl' ⟨l'⟩ ps'=some ⟨m'⟩∧LR c m m'
 |[],[],l,l',m,h,_,hl=>by cases h; exact ⟨l',rfl,hl⟩
 |(i,v)::ps,(i',v')::ps',l,l',m,h,hr,hl=>by
  obtain ⟨h1,h2,h3⟩:=hr
  cases h1
  simp only [fillL] at h
  split at h
  ·cases h
  ·rename_i o n hpl
   split at h
   ·rename_i hb
    simp only [Bool.and_eq_true,Nat.beq_eq,Nat.ble_eq,Nat.add_eq] at hb
    dsimp only at h2 h3
    obtain ⟨hk,hb⟩:=hb
    have hc:=cells_eq h2 (known_ne hk)
    have hlay:LR c (lay l o (cellsL v)) (lay l' o v'.cells.toList):=hl.lay hc (by have:=hb.1; have:=hb.2; omega)
    obtain ⟨m',hm,hr'⟩:=fill_ok hp h h3 hlay
    refine ⟨m',?_,hr'⟩
    have hlen:v'.cells.size=n:=by rw [←Array.length_toList,hc.length]; exact hb.1
    have hfit:o+v'.cells.toList.length≤l'.length:=by rw [hc.length,hl.length]; have:=hb.1; have:=hb.2; omega
    have hz:=zipIdx_lay v'.cells.toList o 0 l' (by simpa using hfit)
    have hz2:v'.cells.zipIdx.foldl (fun (cs:Array Value) (p:Value×Nat)=>cs.setIfInBounds (o+p.2) p.1) ⟨l'⟩=⟨lay l' o v'.cells.toList⟩:=by
     rw [←Array.foldl_toList]
     simpa using hz
    show (match pl' i with |none=>none |some (off,size)=>if v'.cells.size≠size ||off+v'.cells.size > (⟨l'⟩:Array Value).size then none else Instr.fill pl' (v'.cells.zipIdx.foldl (fun cs (c,j)=>cs.setIfInBounds (off+j) c) ⟨l'⟩) ps')=_
    rw [hp i _ hpl]
    simp only []
    have hfit2:o+n≤l'.length:=by rw [←hlen]; simpa using hfit
    rw [if_neg (by simp [hlen]; exact hfit2)]
    rw [←hm]
    congr 1
   ·cases h
 |[],_::_,_,_,_,_,h,_=>h.elim
 |_::_,[],_,_,_,_,h,_=>h.elim
theorem run_mapM {α β:Type} (g:α→Sem β) (w:World):∀(l:List α) (r:List β),l.length=r.length→(∀(i:Nat) (x:α) (y:β),l[i]? =some x→r[i]? =some y→(g x).run P w= .ok y w)→(l.mapM g).run P w= .ok r w
 |[],[],_,_=>rfl
 |x::l,y::r,hlen,h=>by
  have ih:=run_mapM g w l r (by simpa using hlen) (fun i a b ha hb=>h (i+1) a b (by simpa using ha) (by simpa using hb))
  rw [List.mapM_cons]
  simp only [Sem.run_bind,h 0 x y rfl rfl,Result.andThen_ok,ih,Sem.run_pure]
 |[],_::_,h,_=>by simp at h
 |_::_,[],h,_=>by simp at h
theorem places_len {fs:List Field} {pl:List (Nat×Nat)} (h:placesL P fs=some pl):fs.length=pl.length∧∀(i:Nat) (f:Field) (p:Nat×Nat),fs[i]? =some f→pl[i]? =some p→∃n,sizeT P f.type=some n∧p=(f.offset,n):=by
 induction fs generalizing pl with
 |nil=>cases h; exact ⟨rfl,fun i f p h=>by simp at h⟩
 |cons f fs ih=>
  simp only [placesL] at h
  split at h
  ·rename_i n r h1 h2
   cases h
   obtain ⟨hl,hi⟩:=ih h2
   refine ⟨by simp [hl],fun i g p hg hp=>?_⟩
   cases i with
   |zero=>simp at hg hp; subst hg; exact ⟨n,h1,hp.symm⟩
   |succ i=>exact hi i g p (by simpa using hg) (by simpa using hp)
  ·cases h
theorem places_ok {fs:List Field} {pl:List (Nat×Nat)} (h:placesL P fs=some pl) (w:World):
 ((⟨fs⟩:Array Field).mapM fun f=>do pure (f.offset,←sizeOf f.type):Sem (Array (Nat×Nat))).run P w= .ok ⟨pl⟩ w:=by
 obtain ⟨hl,hi⟩:=places_len h
 rw [Array.mapM_eq_mapM_toList]
 have:=run_mapM (P:=P) (fun f:Field=>(do pure (f.offset,←sizeOf f.type):Sem (Nat×Nat))) w fs pl hl (fun i x y hx hy=>by
  obtain ⟨n,hn,rfl⟩:=hi i x y hx hy
  simp only [Sem.run_bind,run_sizeT hn,Result.andThen_ok,Sem.run_pure])
 simp only [Sem.run_map,this,Result.andThen_ok]
end Go.Eng
namespace Go.Eng
variable {P:Program}
def RdOK (P:Program) (c:Cx) (h:T O) (w:World) (v:Value) (e:Eff) (s:Sem Value):Prop:=
 ∃r,e= .rd r∧∀u,HR c u w→(∀b,b∈r→u b=h.get b)→∃v',VR c v v'∧s.run P w= .ok v' w
theorem RdOK.now {c:Cx} {h:T O} {w:World} {v v':Value} {e:Eff} {s:Sem Value} (r:List Nat) (he:e= .rd r) (hv:VR c v v') (hs:s.run P w= .ok v' w):RdOK P c h w v e s:=
 ⟨r,he,fun _ _ _=>⟨v',hv,hs⟩⟩
theorem flatE_ok {s:Sem Value} {v:Value} {e:Eff} (hv:flatE P s=some (v,e)):e= .rd []∧flat 4 v=true∧∀w,s.run P w= .ok v w:=by
 unfold flatE at hv
 split at hv
 ·rename_i v0 hp
  split at hv
  ·rename_i hf; cases hv; exact ⟨rfl,hf,fun w=>prog_run hp w⟩
  ·cases hv
 ·cases hv
theorem RdOK.flat {c:Cx} {h:T O} {w:World} {s:Sem Value} {v:Value} {e:Eff} (hv:flatE P s=some (v,e)):RdOK P c h w v e s:=by
 obtain ⟨he,hf,hr⟩:=flatE_ok hv
 exact .now [] he (flat_vr c 4 v hf).1 (hr w)
theorem load_rd {c:Cx} {h:T O} {w:World} {t:TypeId} {x x' v:Value} {e:Eff} (hv:loadE P h t x=some (v,e)) (hx:VR c x x'):RdOK P c h w v e (Instr.loadAt t x'):=by
 unfold loadE at hv
 split at hv
 ·rename_i b o
  refine ⟨[b],?_,fun u H hu=>?_⟩
  ·split at hv
   ·split at hv
    ·cases hv; rfl
    ·cases hv
   ·cases hv
  ·obtain ⟨b',he,hl⟩:=load_ok (u:=u) (w:=w) (P:=P) (c:=c) (h:=h) (t:=t) (x:=.pointer (some ⟨b,o,none⟩)) (x':=x') (v:=v) (e:=e) (by unfold loadE; exact hv) hx
   have:b'=b:=by
    split at hv
    ·split at hv
     ·cases hv; cases he; rfl
     ·cases hv
    ·cases hv
   subst this
   exact hl H (hu _ (List.mem_cons_self ..))
 ·cases hv
theorem pick_rd {c:Cx} {h:T O} {w:World} {x x' y y' z z' v:Value} {e:Eff} (hv:pickE x y z=some (v,e)) (hx:VR c x x') (hy:VR c y y') (hz:VR c z z'):
 RdOK P c h w v e (do pure (if ←asBool x' then y' else z')):=by
 unfold pickE at hv
 split at hv
 ·cases hv; cases hx; exact .now [] rfl hy (by simp [asBool])
 ·cases hv; cases hx; exact .now [] rfl hz (by simp [asBool])
 ·cases hv
theorem nth_arr {α:Type} {l:List α} {i:Nat} {x:α} (h:nth l i=some x):(⟨l⟩:Array α)[i]? =some x:=by
 rw [←Array.getElem?_toList,←nth_eq]; exact h
theorem z_lr {c:Cx} {z:Value} (h:flat 4 z=true):LR c (cellsL z) z.cells.toList:=cells_eq (flat_vr c 4 z h).1 (by rintro rfl; cases h)
theorem build_rd {c:Cx} {h:T O} {w:World} {t:TypeId} {ps ps':List (Nat×Value)} {v:Value} {e:Eff} (hv:buildE P t ps=some (v,e)) (hp:PR c ps ps'):
 RdOK P c h w v e (Instr.build t ⟨ps'⟩):=by
 unfold buildE at hv
 split at hv
 ·rename_i z fs hz hu
  obtain ⟨hz1,hz2⟩:=run_zeroT hz w
  split at hv
  ·rename_i pl hpl
   split at hv
   ·rename_i cs hf
    cases hv
    obtain ⟨m',hm,hr⟩:=fill_ok (pl':=fun i=>(⟨pl⟩:Array (Nat×Nat))[i]?) (fun i p hi=>nth_arr hi) hf hp (z_lr (c:=c) hz2)
    have hpo:=places_ok hpl w
    refine .now [] rfl (.agg hr) ?_
    simp only [Instr.build,Sem.run_bind,hz1,Result.andThen_ok,run_underlying hu,hpo]
    have:z.cells=⟨z.cells.toList⟩:=rfl
    rw [this,hm]
    rfl
   ·cases hv
  ·cases hv
 ·rename_i z n el hz hu
  obtain ⟨hz1,hz2⟩:=run_zeroT hz w
  split at hv
  ·rename_i sz hs
   split at hv
   ·rename_i cs hf
    cases hv
    obtain ⟨m',hm,hr⟩:=fill_ok (pl':=fun i=>some (i * sz,sz)) (fun i p hi=>by cases hi; rfl) hf hp (z_lr (c:=c) hz2)
    refine .now [] rfl (.agg hr) ?_
    simp only [Instr.build,Sem.run_bind,hz1,Result.andThen_ok,run_underlying hu,run_sizeT hs]
    have:z.cells=⟨z.cells.toList⟩:=rfl
    rw [this,hm]
    rfl
   ·cases hv
  ·cases hv
 ·cases hv
theorem eqGuard_int (op:BinOp) (t:TypeId) (x y:Operand) (k k':IntKind) (a b:Int) (w:World):(eqGuard op t x y (.int k a) (.int k' b)).run P w= .ok () w:=by
 cases op <;> rfl
theorem int_rd {c:Cx} {h:T O} {w:World} {op:BinOp} {t:TypeId} {xo yo:Operand} {k k':IntKind} {a b:Int} {v:Value} {e:Eff} (hv:intE P op t k a b k'=some (v,e)):
 RdOK P c h w v e (do eqGuard op t xo yo (.int k a) (.int k' b); binOp op t (.int k a) (.int k' b)):=by
 have base:∀v',VR c v v'→e= .rd []→(binOp op t (.int k a) (.int k' b)).run P w= .ok v' w→RdOK P c h w v e (do eqGuard op t xo yo (.int k a) (.int k' b); binOp op t (.int k a) (.int k' b)):=
  fun v' h1 h2 h3=>.now [] h2 h1 (by simp only [Sem.run_bind,eqGuard_int,Result.andThen_ok,h3])
 unfold intE at hv
 split at hv
 ·split at hv
  ·rename_i hk; cases hv
   have hk':=of_decide_eq_true hk
   subst hk'
   exact base _ (.int _ _) rfl (by simp [binOp,Op.intArith])
  ·cases hv
 ·split at hv
  ·rename_i hk; cases hv
   have hk':=of_decide_eq_true hk
   subst hk'
   exact base _ (.int _ _) rfl (by simp [binOp,Op.intArith]; rfl)
  ·cases hv
 ·obtain ⟨he,hf,hr⟩:=flatE_ok hv
  exact base v (flat_vr c 4 v hf).1 he (hr w)
theorem eqE_in {c:Cx} {w:World} {t:TypeId} {x x' y y':Value} {b:Bool} (h:eqE P t x y=some b) (hx:VR c x x') (hy:VR c y y') (d:Nat):(Op.equalIn (d+1) t x' y').run P w= .ok b w:=by
 unfold eqE at h
 split at h <;> first
  |(cases h; done)
  |(rename_i hu
    cases h; cases hx <;> cases hy <;> simp only [Op.equalIn,Sem.run_bind,run_underlying hu,Result.andThen_ok,Sem.run_pure,Option.isNone_some,Option.isNone_none])
theorem eqE_guard {c:Cx} {w:World} {t:TypeId} {x x' y y':Value} {b:Bool} (h:eqE P t x y=some b) (hx:VR c x x') (hy:VR c y y') (op:BinOp) (xo yo:Operand):(eqGuard op t xo yo x' y').run P w= .ok () w:=by
 unfold eqE at h
 split at h <;> first
  |(cases h; done)
  |(rename_i hu
    cases h; cases hx <;> cases hy <;> (cases op <;> rfl))
theorem eqE_ok {c:Cx} {w:World} {t:TypeId} {x x' y y':Value} {b:Bool} (h:eqE P t x y=some b) (hx:VR c x x') (hy:VR c y y') (op:BinOp) (xo yo:Operand):
 (eqGuard op t xo yo x' y').run P w= .ok () w∧(Op.equal t x' y').run P w= .ok b w:=
 ⟨eqE_guard h hx hy op xo yo,eqE_in h hx hy 9999⟩
theorem bin_rd {c:Cx} {h:T O} {w:World} {op:BinOp} {t:TypeId} {xo yo:Operand} {x x' y y' v:Value} {e:Eff} (hv:binE P op t xo yo x y=some (v,e)) (hx:VR c x x') (hy:VR c y y'):
 RdOK P c h w v e (do eqGuard op t xo yo x' y'; binOp op t x' y'):=by
 unfold binE at hv
 split at hv
 ·cases hx; cases hy; exact int_rd hv
 ·split at hv
  ·rename_i hf
   simp only [Bool.and_eq_true] at hf
   rw [(flat_vr c 4 _ hf.1).2 _ hx,(flat_vr c 4 _ hf.2).2 _ hy]
   exact .flat hv
  ·split at hv
   ·cases hq:eqE P t x y with
    |none=>rw [hq] at hv; cases hv
    |some b=>
     rw [hq] at hv; cases hv
     obtain ⟨h1,h2⟩:=eqE_ok (w:=w) hq hx hy .eql xo yo
     refine .now [] rfl (.bool b) ?_
     have h3:(binOp .eql t x' y').run P w= .ok (.bool b) w:=by
      unfold eqE at hq
      split at hq <;> first
       |(cases hq; done)
       |(cases hx <;> cases hy <;> simp [binOp,h2])
     simp only [Sem.run_bind,h1,Result.andThen_ok,h3]
   ·cases hq:eqE P t x y with
    |none=>rw [hq] at hv; cases hv
    |some b=>
     rw [hq] at hv; cases hv
     obtain ⟨h1,h2⟩:=eqE_ok (w:=w) hq hx hy .neq xo yo
     refine .now [] rfl (.bool !b) ?_
     have h3:(binOp .neq t x' y').run P w= .ok (.bool !b) w:=by
      unfold eqE at hq
      split at hq <;> first
       |(cases hq; done)
       |(cases hx <;> cases hy <;> simp [binOp,h2])
     simp only [Sem.run_bind,h1,Result.andThen_ok,h3]
   ·cases hv
theorem un_rd {c:Cx} {h:T O} {w:World} {op:UnOp} {x x' v:Value} {e:Eff} (hv:un x (flatE P (Op.unary op x))=some (v,e)) (hx:VR c x x'):RdOK P c h w v e (Op.unary op x'):=by
 unfold un at hv
 split at hv
 ·rename_i hf; rw [(flat_vr c 4 _ hf).2 _ hx]; exact .flat hv
 ·cases hv
theorem nilCheck_rd {c:Cx} {h:T O} {w:World} {x x' v:Value} {e:Eff} (hv:nilCheckE x=some (v,e)) (hx:VR c x x') (o:Oper) (ρ:Operand→Value) (y:Operand) (ho:o.op= .nilCheck y) (hy:ρ y=x'):
 ∃r,e= .rd r∧∀u,HR c u w→(∀b,b∈r→u b=h.get b)→∃v',VR c v v'∧(execOp ρ o).run P w= .ok (.value v') w:=by
 unfold nilCheckE at hv
 have hx0:=hx
 split at hv <;> first
  |(cases hv; done)
  |(cases hv
    refine ⟨[],rfl,fun _ _ _=>⟨x',hx,?_⟩⟩
    cases hx0 <;> simp only [execOp,ho,hy,Sem.run_pure])
theorem fieldAddr_rd {c:Cx} {h:T O} {w:World} {t:TypeId} {f:Nat} {x x' v:Value} {e:Eff} (hv:fieldAddrE P t x f=some (v,e)) (hx:VR c x x'):RdOK P c h w v e (Instr.fieldAt t x' f):=by
 unfold fieldAddrE at hv
 split at hv
 ·rename_i b o fs hu
  split at hv
  ·rename_i fl hf
   split at hv
   ·rename_i n hs
    rw [forceN_eq] at hv
    cases hv
    cases hx with
    |ptr hav=>
     refine .now [] rfl (.ptr (o:=o+fl.offset) hav) ?_
     simp only [Instr.fieldAt,Sem.run_bind,run_underlying hu,Result.andThen_ok,nth_arr hf,Instr.sureAddr,Sem.run_pure,fieldPlace,run_sizeT hs]
     simp [add_addr,Nat.add_assoc]
   ·cases hv
  ·cases hv
 ·cases hv
theorem field_rd {c:Cx} {h:T O} {w:World} {t:TypeId} {f:Nat} {x x' v:Value} {e:Eff} (hv:fieldE P t x f=some (v,e)) (hx:VR c x x'):RdOK P c h w v e (Instr.field t x' f):=by
 unfold fieldE at hv
 split at hv
 ·rename_i cs fs hu
  split at hv
  ·rename_i fl hf
   cases hq:fromCells P fl.type cs fl.offset with
   |none=>rw [hq] at hv; cases hv
   |some v0=>
    rw [hq] at hv; cases hv
    cases hx with
    |agg hl=>
     obtain ⟨v',hr,hp⟩:=part_ok hq hl w
     refine .now [] rfl hr ?_
     simp only [Instr.field,Sem.run_bind,run_underlying hu,Result.andThen_ok,nth_arr hf,asAgg,Sem.run_pure,hp]
  ·cases hv
 ·cases hv
theorem toNat_ok {c:Cx} {x x':Value} {i:Nat} (h:toNat? x=some i) (hx:VR c x x'):∃k,x'= .int k (i:Int):=by
 unfold toNat? at h
 split at h
 ·cases h; cases hx; exact ⟨_,rfl⟩
 ·cases h
theorem indexAddr_rd {c:Cx} {h:T O} {w:World} {t:TypeId} {x x' y y' v:Value} {e:Eff} (hv:indexAddrE P t x y=some (v,e)) (hx:VR c x x') (hy:VR c y y'):RdOK P c h w v e (Instr.indexAt t x' y'):=by
 unfold indexAddrE at hv
 split at hv
 ·rename_i i len el b o hi hu
  obtain ⟨k,rfl⟩:=toNat_ok hi hy
  split at hv
  ·rename_i n hs hlt
   rw [forceN_eq] at hv
   cases hv
   have hlt':i < len:=by simpa [Nat.blt_eq] using hlt
   cases hx with
   |ptr hav=>
    refine .now [] rfl (.ptr (o:=o+i * n) hav) ?_
    simp [Instr.indexAt,asIntOf,run_underlying hu,Instr.sureAddr,hlt',run_sizeT hs,add_addr,Nat.add_assoc]
  ·cases hv
 ·rename_i i el b o len cap hi hu
  obtain ⟨k,rfl⟩:=toNat_ok hi hy
  split at hv
  ·rename_i n hs hlt
   rw [forceN_eq] at hv
   cases hv
   have hlt':i < len:=by simpa [Nat.blt_eq] using hlt
   cases hx with
   |slice hav=>
    refine .now [] rfl (.ptr (o:=o+i * n) hav) ?_
    simp [Instr.indexAt,asIntOf,run_underlying hu,hlt',run_sizeT hs,add_addr,Nat.add_assoc]
   |open_ hav=>
    refine .now [] rfl (.ptr (o:=o+i * n) hav) ?_
    simp [Instr.indexAt,asIntOf,run_underlying hu,hlt',run_sizeT hs,add_addr,Nat.add_assoc]
   |loose _ s _ _ hs=>cases hs
  ·cases hv
 ·cases hv
theorem index_rd {c:Cx} {h:T O} {w:World} {t:TypeId} {x x' y y' v:Value} {e:Eff} (hv:indexE P t x y=some (v,e)) (hx:VR c x x') (hy:VR c y y'):RdOK P c h w v e (Instr.index t x' y'):=by
 unfold indexE at hv
 split at hv
 ·rename_i i len el cs hi hu
  obtain ⟨k,rfl⟩:=toNat_ok hi hy
  split at hv
  ·rename_i n hs hlt
   have hlt':i < len:=by simpa [Nat.blt_eq] using hlt
   cases hq:fromCells P el cs (Nat.mul i n) with
   |none=>rw [hq] at hv; cases hv
   |some v0=>
    rw [hq] at hv; cases hv
    cases hx with
    |agg hl=>
     obtain ⟨v',hr,hp⟩:=part_ok hq hl w
     simp only [Nat.mul_eq] at hp
     refine .now [] rfl hr ?_
     simp [Instr.index,asIntOf,run_underlying hu,hlt',run_sizeT hs,hp]
  ·cases hv
 ·rename_i i s hi hu
  cases hx
  have:y'=y:=by
   unfold toNat? at hi
   split at hi
   ·cases hy; rfl
   ·cases hi
  rw [this]
  exact .flat hv
 ·cases hv
theorem extract_rd {c:Cx} {h:T O} {w:World} {x x' v:Value} {i:Nat} {e:Eff} (hv:extractE x i=some (v,e)) (hx:VR c x x'):RdOK P c h w v e (Instr.extract x' i):=by
 unfold extractE at hv
 split at hv
 ·rename_i vs
  cases hq:nth vs i with
  |none=>rw [hq] at hv; cases hv
  |some v0=>
   rw [hq] at hv; cases hv
   cases hx with
   |tuple hl=>
    rw [nth_eq] at hq
    obtain ⟨v',h1,h2⟩:=hl.get hq
    refine .now [] rfl h2 ?_
    rw [←nth_eq] at h1
    simp [Instr.extract,nth_arr h1]
 ·cases hv
end Go.Eng
namespace Go.Eng
variable {P:Program}
def VO (c:Cx):Option Value→Option Value→Prop
 |none,none=>True
 |some x,some y=>VR c x y
 |_,_=>False
theorem bounds_ok {c:Cx} {len lb cap l h m:Nat} {lo hi mx lo' hi' mx':Option Value} (hb:boundsE len lb lo hi mx=some (l,h,m)) (hl:VO c lo lo') (hh:VO c hi hi') (hm:VO c mx mx') (hc:lb≤cap) (s:Bool) (w:World):
 (Instr.sliceBounds s len cap lo' hi' mx').run P w= .ok (l,h,if mx.isSome then m else cap) w∧l≤h∧(hi=none→h=len)∧(hi≠none→h≤m)∧m≤lb∧(mx=none→m=lb):=by
 unfold boundsE at hb
 split at hb
 ·cases hb
 ·rename_i h0 m0 hq
  have low:l≤h∧h0=h∧m0=m∧(lo'=none∧l=0∨∃k,lo'=some (.int k (l:Int))):=by
   split at hb
   ·cases hb
    cases lo' with
    |some _=>exact hl.elim
    |none=>exact ⟨Nat.zero_le _,rfl,rfl,.inl ⟨rfl,rfl⟩⟩
   ·rename_i v
    split at hb
    ·rename_i l0 hl0
     split at hb
     ·rename_i hle
      cases hb
      cases lo' with
      |none=>exact hl.elim
      |some v'=>
       obtain ⟨k,rfl⟩:=toNat_ok hl0 hl
       exact ⟨Nat.le_of_ble_eq_true hle,rfl,rfl,.inr ⟨k,rfl⟩⟩
     ·cases hb
    ·cases hb
  clear hb hl
  obtain ⟨h1,rfl,rfl,h4⟩:=low
  have h5:∀(k:IntKind) (code:BoundsCode),(Instr.sliceBound (.int k (l:Int)) h0 code).run P w= .ok l w:=fun k code=>by simp [Instr.sliceBound,asIntOf,h1]
  split at hq
  ·cases hq
   cases mx' with
   |some _=>exact hm.elim
   |none=>cases hi' with
    |some _=>exact hh.elim
    |none=>
     refine ⟨?_,h1,fun _=>rfl,fun h=>absurd rfl h,Nat.le_refl _,fun _=>rfl⟩
     rcases h4 with ⟨rfl,rfl⟩ |⟨k,rfl⟩ <;> simp [Instr.sliceBounds,h5]
  ·rename_i v
   split at hq
   ·rename_i h2 hh2
    split at hq
    ·rename_i hle
     cases hq
     cases mx' with
     |some _=>exact hm.elim
     |none=>cases hi' with
      |none=>exact hh.elim
      |some v'=>
       obtain ⟨k,rfl⟩:=toNat_ok hh2 hh
       have hle':=Nat.le_of_ble_eq_true hle
       refine ⟨?_,h1,(fun h=>by cases h),fun _=>hle',Nat.le_refl _,fun _=>rfl⟩
       have hle2:h0≤cap:=Nat.le_trans hle' hc
       have hb1:∀code,(Instr.sliceBound (.int k (h0:Int)) cap code).run P w= .ok h0 w:=fun code=>by simp [Instr.sliceBound,asIntOf,hle2]
       rcases h4 with ⟨rfl,rfl⟩ |⟨k,rfl⟩ <;> simp [Instr.sliceBounds,h5,hb1]
    ·cases hq
   ·cases hq
  ·rename_i u v
   split at hq
   ·rename_i m2 h2 hm2 hh2
    split at hq
    ·rename_i hle
     cases hq
     simp only [Bool.and_eq_true] at hle
     have hle1:=Nat.le_of_ble_eq_true hle.1
     have hle2:=Nat.le_of_ble_eq_true hle.2
     cases mx' with
     |none=>exact hm.elim
     |some u'=>cases hi' with
      |none=>exact hh.elim
      |some v'=>
       obtain ⟨k,rfl⟩:=toNat_ok hh2 hh
       obtain ⟨k2,rfl⟩:=toNat_ok hm2 hm
       refine ⟨?_,h1,(fun h=>by cases h),fun _=>hle2,hle1,fun h=>by cases h⟩
       have hle3:m0≤cap:=Nat.le_trans hle1 hc
       have hb1:∀code,(Instr.sliceBound (.int k2 (m0:Int)) cap code).run P w= .ok m0 w:=fun code=>by simp [Instr.sliceBound,asIntOf,hle3]
       have hb2:∀code,(Instr.sliceBound (.int k (h0:Int)) m0 code).run P w= .ok h0 w:=fun code=>by simp [Instr.sliceBound,asIntOf,hle2]
       rcases h4 with ⟨rfl,rfl⟩ |⟨k,rfl⟩ <;> simp [Instr.sliceBounds,h5,hb1,hb2]
    ·cases hq
   ·cases hq
  ·cases hq
theorem flatO_eq {c:Cx} {x x':Option Value} (h:flatO x=true) (hx:VO c x x'):x'=x:=by
 cases x with
 |none=>cases x' with
  |none=>rfl
  |some _=>exact hx.elim
 |some v=>cases x' with
  |none=>exact hx.elim
  |some v'=>rw [(flat_vr c 4 v h).2 _ hx]
theorem cutA_ok {c:Cx} {b o l m z:Nat} (hav:c.av b) (len cap:Nat) (hc:cap < big):
 VR c (.slice (some (cutA b o l m z)) len cap) (.slice (some (if m=l then ⟨c.b b,c.o b+o,none⟩ else (⟨c.b b,c.o b+o,none⟩:Addr).add (l * z))) len cap):=by
 unfold cutA
 by_cases h:m=l
 ·have:Nat.beq m l=true:=by rw [Nat.beq_eq]; exact h
  rw [this,if_pos h]
  exact .slice hav _ _ hc
 ·have:Nat.beq m l=false:=by
   cases hq:Nat.beq m l with
   |false=>rfl
   |true=>exact absurd (Nat.eq_of_beq_eq_true hq) h
  rw [this,if_neg h,add_addr,Nat.add_assoc]
  exact .slice hav _ _ hc
theorem slice_rd {c:Cx} {h:T O} {w:World} {t:TypeId} {x x' v:Value} {lo hi mx lo' hi' mx':Option Value} {e:Eff} (hv:sliceE P h t x lo hi mx=some (v,e)) (hx:VR c x x') (hl:VO c lo lo') (hh:VO c hi hi') (hm:VO c mx mx'):
 RdOK P c h w v e (Instr.sliceAt t x' lo' hi' mx'):=by
 unfold sliceE at hv
 split at hv
 ·rename_i s hu
  split at hv
  ·rename_i hf
   simp only [Bool.and_eq_true] at hf
   cases hx
   rw [flatO_eq hf.1 hl,flatO_eq hf.2.1 hh,flatO_eq hf.2.2 hm]
   exact .flat hv
  ·cases hv
 ·rename_i n el b o hu
  split at hv
  ·rename_i z l hi0 m hs hb
   split at hv
   ·rename_i hlt
    rw [forceN_eq,forceN_eq,forceN_eq] at hv
    cases hv
    have hlt':m < big:=by simpa [Nat.blt_eq] using hlt
    obtain ⟨hr,h1,h2,h3,h4,h5⟩:=bounds_ok (P:=P) hb hl hh hm (Nat.le_refl _) false w
    have hmm:(if mx.isSome then m else n)=m:=by
     cases mx with
     |none=>exact (h5 rfl).symm
     |some _=>rfl
    rw [hmm] at hr
    cases hx with
    |ptr hav=>
     refine .now [] rfl (cutA_ok hav _ _ (by simp only [Nat.sub_eq]; omega)) ?_
     simp only [Instr.sliceAt,Sem.run_bind,run_underlying hu,Result.andThen_ok,Instr.sureAddr,Sem.run_pure,hr,run_sizeT hs]
     rfl
   ·cases hv
  ·cases hv
 ·rename_i el b o len cap hu
  split at hv
  ·rename_i hcap
   have hcap':cap < big:=by simpa [Nat.blt_eq] using hcap
   split at hv
   ·rename_i z l hi0 m hs hb
    rw [forceN_eq,forceN_eq,forceN_eq] at hv
    cases hv
    obtain ⟨hr,h1,h2,h3,h4,h5⟩:=bounds_ok (P:=P) hb hl hh hm (Nat.le_refl _) true w
    have hmm:(if mx.isSome then m else cap)=m:=by
     cases mx with
     |none=>exact (h5 rfl).symm
     |some _=>rfl
    rw [hmm] at hr
    cases hx with
    |slice hav=>
     refine .now [] rfl (cutA_ok hav _ _ (by simp only [Nat.sub_eq]; omega)) ?_
     simp only [Instr.sliceAt,Sem.run_bind,run_underlying hu,Result.andThen_ok,Instr.slice,Sem.run_pure,hr,run_sizeT hs]
     congr 2
     split <;> rfl
    |open_ hav _ _ _ hk=>omega
    |loose _ s _ _ hs=>cases hs
   ·cases hv
  ·rename_i hcap
   have hcap':big≤cap:=by
    have:¬cap < big:=fun h=>by rw [show Nat.blt cap big=true from by simpa [Nat.blt_eq] using h] at hcap; cases hcap
    omega
   split at hv
   ·rename_i z l hi0 m z' cs hs hb hg
    simp only [Nat.sub_eq] at hb
    cases hx with
    |slice hav _ _ hk=>omega
    |loose _ s _ _ hs=>cases hs
    |open_ hav _ _ k' hk hlen hk' he=>
     obtain ⟨hr,h1,h2,h3,h4,h5⟩:=bounds_ok (P:=P) hb hl hh hm hk' true w
     have hhl:hi0≤cap - big:=by
      cases hi with
      |none=>rw [h2 rfl]; exact hlen
      |some _=>exact Nat.le_trans (h3 (by simp)) h4
     split at hv
     ·rename_i u hz
      have hz':=Nat.eq_of_beq_eq_true hz
      split at hv
      ·rename_i hlt
       rw [forceN_eq,forceN_eq,forceN_eq] at hv
       cases hv
       have hlt':m < big:=by simpa [Nat.blt_eq] using hlt
       refine .now [] rfl (cutA_ok hav _ _ (by simp only [Nat.sub_eq]; omega)) ?_
       simp only [Instr.sliceAt,Sem.run_bind,run_underlying hu,Result.andThen_ok,Instr.slice,Sem.run_pure,hr,run_sizeT hs]
       simp only [Option.isSome_some,if_true]
       congr 2
       split <;> rfl
      ·cases hv
     ·rename_i hz
      have hz':=Nat.eq_of_beq_eq_true hz
      have hm5:=h5 rfl
      simp only [Option.isSome_none,Bool.false_eq_true,if_false] at hr
      have hrun:(Instr.sliceAt t (.slice (some ⟨c.b b,c.o b+o,none⟩) len k') lo' hi' mx').run P w= .ok (.slice (some (if k'=l then ⟨c.b b,c.o b+o,none⟩ else (⟨c.b b,c.o b+o,none⟩:Addr).add (l * z))) (hi0 - l) (k' - l)) w:=by
       simp only [Instr.sliceAt,Sem.run_bind,run_underlying hu,Result.andThen_ok,Instr.slice,Sem.run_pure,hr,run_sizeT hs]
       congr 2
       split <;> rfl
      split at hv
      ·rename_i hml
       cases hv
       simp only [Bool.and_eq_true] at hml
       have hml':=Nat.eq_of_beq_eq_true hml.1
       have:hi0 - l=0:=by omega
       rw [this] at hrun
       exact .now [] rfl (.loose _ 0 _ _ rfl) hrun
      ·rename_i hno
       rw [forceN_eq,forceN_eq] at hv
       cases hv
       refine ⟨[b],rfl,fun u H hu=>?_⟩
       have hob:=(H.at_ b _ ((hu b (List.mem_cons_self ..)).trans hg)).2
       obtain ⟨pre,l',post,ty,hx1,hp,hlr,hz1,he1⟩:=hob
       refine ⟨_,?_,hrun⟩
       have hkl:l=0∨k'≠l:=by
        by_cases h0:l=0
        ·exact .inl h0
        ·right
         intro hkl
         have e1:Nat.beq m l=true:=by rw [Nat.beq_eq]; omega
         have e2:Nat.blt 0 l=true:=by rw [Nat.blt_eq]; omega
         rw [e1,e2] at hno
         cases hno
       have hadd:(if k'=l then (⟨c.b b,c.o b+o,none⟩:Addr) else (⟨c.b b,c.o b+o,none⟩:Addr).add (l * z))=⟨c.b b,c.o b+(o+l * z),none⟩:=by
        rcases hkl with h0 |h0
        ·subst h0; split <;> simp [add_addr]
        ·rw [if_neg h0,add_addr,Nat.add_assoc]
       rw [hadd]
       have hsub:Nat.sub cap l - big=cap - big - l:=by simp only [Nat.sub_eq]; omega
       refine .open_ hav _ _ _ (by simp only [Nat.sub_eq]; omega) (by simp only [Nat.sub_eq] at hsub ⊢; omega) (by simp only [Nat.sub_eq] at hsub ⊢; omega) ?_
       rw [←he,hz1,←hz']
       have hlk:l≤k':=by omega
       have:k' * z=l * z+(k' - l) * z:=by rw [←Nat.add_mul]; congr 1; omega
       simp only [Nat.add_eq,Nat.mul_eq]
       omega
     ·cases hv
   ·cases hv
 ·rename_i el hu
  split at hv
  ·rename_i z hs hb
   cases hv
   cases hx
   obtain ⟨hr,h1,h2,h3,h4,h5⟩:=bounds_ok (P:=P) hb hl hh hm (Nat.le_refl _) true w
   have hmm:(if mx.isSome then 0 else 0)=0:=by split <;> rfl
   rw [hmm] at hr
   refine ⟨[],rfl,fun u H hu2=>⟨.slice none 0 0,.snil 0 0,?_⟩⟩
   simp only [Instr.sliceAt,Sem.run_bind,run_underlying hu,Result.andThen_ok,Instr.slice,Sem.run_pure,hr,run_sizeT hs]
   rfl
  ·cases hv
 ·cases hv
theorem bytes_ok {c:Cx}:∀{l l':List Value} {bs:List UInt8},bytesOf l=some bs→LR c l l'→∃ns:List Int,l'=ns.map (Value.int .u8)∧bs=ns.map fun n=>UInt8.ofNat n.toNat
 |[],l',bs,h,hl=>by cases hl; cases h; exact ⟨[],rfl,rfl⟩
 |x::l,l',bs,h,hl=>by
  unfold bytesOf at h
  split at h
  ·rename_i hh; cases hh
  ·rename_i n l0 hh
   cases hh
   cases hq:bytesOf l with
   |none=>rw [hq] at h; cases h
   |some bs0=>
    rw [hq] at h
    cases h
    cases hl with
    |cons hx hl=>
     cases hx
     obtain ⟨ns,h1,h2⟩:=bytes_ok hq hl
     exact ⟨n::ns,by simp [h1],by simp [h2]⟩
  ·cases h
theorem foldl_push (ns:List Int):∀(s:List UInt8),ns.foldl (fun r n=>r.push (UInt8.ofNat n.toNat)) (⟨⟨s⟩⟩:ByteArray)=⟨⟨s++ns.map fun n=>UInt8.ofNat n.toNat⟩⟩:=by
 induction ns with
 |nil=>intro s; simp
 |cons n ns ih=>
  intro s
  have:(⟨⟨s⟩⟩:ByteArray).push (UInt8.ofNat n.toNat)=⟨⟨s++[UInt8.ofNat n.toNat]⟩⟩:=by
   show (⟨(⟨s⟩:Array UInt8).push _⟩:ByteArray)=_
   congr 1
   apply Array.ext'
   simp
  simp only [List.foldl_cons,this,ih,List.map_cons,List.append_assoc,List.singleton_append]
theorem conv_rd {c:Cx} {h:T O} {w:World} {s d:TypeId} {x x' v:Value} {e:Eff} (hv:convE P h s d x=some (v,e)) (hx:VR c x x'):RdOK P c h w v e (convert s d x'):=by
 unfold convE at hv
 split at hv
 ·rename_i b o l k
  split at hv
  ·rename_i el hu1 hu2
   split at hv
   ·rename_i r hu3 hrow
    split at hv
    ·rename_i bs hle hbs
     cases hv
     refine ⟨[b],rfl,fun u H hu=>⟨_,.string _,?_⟩⟩
     obtain ⟨hav,pre,l',post,ty,fr,hw,hp,hr⟩:=H.row (hu b (List.mem_cons_self ..)) hrow
     have hle':o+l≤l'.length:=by rw [hr.length]; exact Nat.le_of_ble_eq_true hle
     obtain ⟨ns,hns,hbs'⟩:=bytes_ok hbs (hr.cut o l)
     have hc:=run_cells (P:=P) hw hle'
     rw [hp,hns] at hc
     have key:∀k',(convert s d (.slice (some ⟨c.b b,c.o b+o,none⟩) l k')).run P w= .ok (.string ⟨⟨bs⟩⟩) w:=fun k'=>by
      have:=run_bytesToString (P:=P) w ⟨c.b b,c.o b+o,none⟩ l k' ns (by rw [hc])
      have e0:ByteArray.empty=⟨⟨[]⟩⟩:=rfl
      rw [e0,foldl_push,List.nil_append,←hbs'] at this
      simp only [convert,Sem.run_bind,run_underlying hu1,run_underlying hu2,run_underlying hu3,Result.andThen_ok,this]
     cases hx with
     |slice=>exact key _
     |open_=>exact key _
     |loose _ s _ _ hs=>cases hs
    ·cases hv
   ·cases hv
  ·cases hv
 ·split at hv
  ·rename_i hf; rw [(flat_vr c 4 _ hf).2 _ hx]; exact .flat hv
  ·cases hv
theorem keyEq_ok {x y:Value} {b:Bool} (h:keyEq x y=some b):∃k a a',x= .int k a∧y= .int k a'∧b=decide (a=a'):=by
 unfold keyEq at h
 split at h
 ·split at h
  ·rename_i hk; cases h; have:=of_decide_eq_true hk; subst this; exact ⟨_,_,_,rfl,rfl,rfl⟩
  ·cases h
 ·cases h
def FR (c:Cx):Option (Nat×Value)→Option (Nat×Value)→Prop
 |none,none=>True
 |some (j,v),some (j',v')=>j'=j∧VR c v v'
 |_,_=>False
theorem find_ok {c:Cx} {q:IntKind} {k:Value}:∀{es:List E} {es':List MapEntry} {i:Nat} {r:Option (Nat×Value)},findE k es i=some r→ER c es es'→
 ∃r',Instr.findNow (.int q) k es' i=some r'∧FR c r r'
 |[],[],i,r,h,_=>by cases h; exact ⟨none,rfl,trivial⟩
 |x::es,y::es',i,r,h,⟨h1,h2,h3,h4⟩=>by
  unfold findE at h
  split at h
  ·rename_i hk
   cases h
   obtain ⟨kk,a,a',rfl,e2,e3⟩:=keyEq_ok hk
   rw [e2] at h1
   have hy:y.key= .int kk a':=by cases hq:y.key <;> (rw [hq] at h1; cases h1; try rfl)
   refine ⟨some (i,y.val),?_,rfl,h2⟩
   have:a=a':=by simpa using e3
   simp [Instr.findNow,hy,Instr.sameNow,this]
  ·rename_i hk
   obtain ⟨kk,a,a',rfl,e2,e3⟩:=keyEq_ok hk
   rw [e2] at h1
   have hy:y.key= .int kk a':=by cases hq:y.key <;> (rw [hq] at h1; cases h1; try rfl)
   obtain ⟨r',hr,hm⟩:=find_ok (q:=q) h h4
   refine ⟨r',?_,hm⟩
   have:(a == a')=false:=by simpa using e3
   simp only [Instr.findNow,hy,Instr.sameNow,if_true,this]
   exact hr
  ·cases h
 |[],_::_,_,_,_,h=>h.elim
 |_::_,[],_,_,_,h=>h.elim
theorem keyT_ok {t e:TypeId} (h:keyT P t=some e):∃k q,P.underlying t=some (.map k e)∧P.underlying k=some (.int q):=by
 unfold keyT at h
 split at h
 ·rename_i k el hu
  split at h
  ·rename_i q hq; cases h; exact ⟨k,q,hu,hq⟩
  ·cases h
 ·cases h
theorem run_checkKey {k:TypeId} {q:IntKind} (hk:P.underlying k=some (.int q)) (kk:IntKind) (a:Int) (b:Bool) (w:World):(Instr.checkKey b 10000 k (.int kk a)).run P w= .ok () w:=by
 show (Instr.checkKey b (9999+1) k (.int kk a)).run P w=_
 generalize 9999=n
 simp [Instr.checkKey,run_underlying hk]
theorem run_findKey {c:Cx} {k:TypeId} {q:IntKind} (hk:P.underlying k=some (.int q)) {x:Value} {es:List E} {es':List MapEntry} {r:Option (Nat×Value)} (h:findE x es 0=some r) (he:ER c es es') (w:World):
 ∃r',(Instr.findKey k x es').run P w= .ok r' w∧FR c r r':=by
 obtain ⟨r',h1,h2⟩:=find_ok (q:=q) h he
 refine ⟨r',?_,h2⟩
 simp [Instr.findKey,run_underlying hk,h1]
theorem isInt_ok {c:Cx} {x x':Value} (h:isInt x=true) (hx:VR c x x'):∃k a,x= .int k a∧x'= .int k a:=by
 cases hx <;> first |exact ⟨_,_,rfl,rfl⟩ |cases h
theorem run_getMap {w:World} {b:Nat} {es:List MapEntry} {clk:Nat} (h:w.heap[b]? =some (.map ⟨es⟩ clk)):(getObj b).run P w= .ok (.map ⟨es⟩ clk) w:=by simp [getObj,Sem.run,h]
theorem lookup_rd {c:Cx} {h:T O} {w:World} {t:TypeId} {m m' k k' v:Value} {ok:Bool} {e:Eff} (hv:lookupE P h t m k ok=some (v,e)) (hm:VR c m m') (hk:VR c k k'):RdOK P c h w v e (Instr.lookup t m' k' ok):=by
 unfold lookupE at hv
 split at hv
 ·rename_i el r hkt hi
  obtain ⟨kt,q,hu1,hu2⟩:=keyT_ok hkt
  obtain ⟨kk,a,rfl,rfl⟩:=isInt_ok hi hk
  split at hv
  ·cases hv
  ·rename_i es rs hmap
   have main:∀(es':List MapEntry) (mv:Value),ER c es es'→(mv= .map none∧es'=[]∨∃b clk,mv= .map (some b)∧w.heap[b]? =some (.map ⟨es'⟩ clk))→e= .rd rs∧∃v',VR c v v'∧(Instr.lookup t mv (.int kk a) ok).run P w= .ok v' w:=by
    intro es' mv he hrun
    split at hv
    ·rename_i j x z hf
     cases hv
     obtain ⟨r',hr1,hr2⟩:=run_findKey (P:=P) hu2 hf he w
     cases r' with
     |none=>exact hr2.elim
     |some p=>
      obtain ⟨j',x'⟩:=p
      obtain ⟨rfl,hx⟩:=hr2
      refine ⟨rfl,?_⟩
      have:(Instr.lookup t mv (.int kk a) ok).run P w= .ok (if ok then .tuple #[x',.bool true] else x') w:=by
       rcases hrun with ⟨rfl,rfl⟩ |⟨b,clk,rfl,hw⟩
       ·simp only [Instr.lookup,Sem.run_bind,run_underlying hu1,Result.andThen_ok,run_checkKey hu2,hr1,Sem.run_pure]
       ·simp only [Instr.lookup,Sem.run_bind,run_underlying hu1,Result.andThen_ok,run_getMap hw,run_checkKey hu2,hr1,Sem.run_pure]
      cases ok with
      |true=>exact ⟨_,.tuple (.cons hx (.cons (.bool _) .nil)),this⟩
      |false=>exact ⟨_,hx,this⟩
    ·rename_i z hf hz
     cases hv
     obtain ⟨r',hr1,hr2⟩:=run_findKey (P:=P) hu2 hf he w
     cases r' with
     |some p=>exact hr2.elim
     |none=>
      obtain ⟨hz1,hz2⟩:=run_zeroT hz w
      refine ⟨rfl,?_⟩
      have:(Instr.lookup t mv (.int kk a) ok).run P w= .ok (if ok then .tuple #[z,.bool false] else z) w:=by
       rcases hrun with ⟨rfl,rfl⟩ |⟨b,clk,rfl,hw⟩
       ·simp only [Instr.lookup,Sem.run_bind,run_underlying hu1,Result.andThen_ok,run_checkKey hu2,hr1,hz1,Sem.run_pure]
       ·simp only [Instr.lookup,Sem.run_bind,run_underlying hu1,Result.andThen_ok,run_getMap hw,run_checkKey hu2,hr1,hz1,Sem.run_pure]
      cases ok with
      |true=>exact ⟨_,.tuple (.cons (flat_vr c 4 z hz2).1 (.cons (.bool _) .nil)),this⟩
      |false=>exact ⟨_,(flat_vr c 4 z hz2).1,this⟩
    ·cases hv
   cases hm with
   |mnil=>
    cases hmap
    obtain ⟨he,v',h1,h2⟩:=main [] (.map none) trivial (.inl ⟨rfl,rfl⟩)
    exact .now [] he h1 h2
   |map hav=>
    rename_i b
    simp only [] at hmap
    split at hmap
    ·rename_i es0 clk hg
     cases hmap
     have he:e= .rd [b]:=by
      split at hv
      ·cases hv; rfl
      ·cases hv; rfl
      ·cases hv
     refine ⟨[b],he,fun u H hu=>?_⟩
     obtain ⟨es',hw,her⟩:=(H.at_ b _ ((hu b (List.mem_cons_self ..)).trans hg)).2
     exact (main es' (.map (some (c.b b))) her (.inr ⟨_,_,rfl,hw⟩)).2
    ·cases hmap
 ·cases hv
end Go.Eng
namespace Go.Eng
variable {P:Program}
inductive OpRes (P:Program) (c:Cx) (h:T O) (nx:Nat) (w:World) (v:Value) (e:Eff) (s:Sem Next):Prop where
 |rd (r:List Nat) (he:e= .rd r) (hs:∀u,HR c u w→(∀b,b∈r→u b=h.get b)→∃v',VR c v v'∧s.run P w= .ok (.value v') w)
 |new (o:O) (he:e= .new o) (hs:¬c.av nx→∃w' ob v',s.run P w= .ok (.value v') w'∧Made w w' ob∧OR (c.put nx w.heap.size 0 0 0) nx o (some ob)∧VR (c.put nx w.heap.size 0 0 0) v v')
 |act (he:e.kind nx= .heavy) (hset:∀b o,e≠.set b o) (hs:HR c h.get w→¬c.av nx→∃c' w' v',St c h.get w c' (e.run ⟨h,nx⟩).t.get w' nx (e.run ⟨h,nx⟩).next∧VR c' v v'∧(s.run P w= .ok (.value v') w'∨s.run P w= .ok .skip w'∧v'=undef))
 |turn (b:Nat) (o:O) (he:e= .set b o) (hs:HR c h.get w→∃w' v',St c h.get w c (h.set b (some o)).get w' nx nx∧VR c v v'∧(s.run P w= .ok (.value v') w'∨s.run P w= .ok .skip w'∧v'=undef))
theorem val_run {s:Sem Value} {w w':World} {v:Value} (h:s.run P w= .ok v w'):(do pure (Next.value (←s)):Sem Next).run P w= .ok (.value v) w':=by simp only [Sem.run_bind,h,Result.andThen_ok,Sem.run_pure]
theorem skip_run {s:Sem Unit} {w w':World} (h:s.run P w= .ok () w'):(do s; pure Next.skip:Sem Next).run P w= .ok .skip w':=by simp only [Sem.run_bind,h,Result.andThen_ok,Sem.run_pure]
theorem RdOK.res {c:Cx} {h:T O} {nx:Nat} {w:World} {v:Value} {e:Eff} {s:Sem Value} (k:RdOK P c h w v e s):OpRes P c h nx w v e (do pure (.value (←s))):=by
 obtain ⟨r,he,hs⟩:=k
 exact .rd r he fun u H hu=>have ⟨v',h1,h2⟩:=hs u H hu; ⟨v',h1,val_run h2⟩
theorem put_self {c:Cx} {n b o e:Nat} {z:Zt}:(c.put n b o e z).av n∧(c.put n b o e z).b n=b∧(c.put n b o e z).o n=o∧(c.put n b o e z).e n=e∧(c.put n b o e z).z n=z:=by simp [Cx.put]
theorem put_le {c:Cx} {n b o e:Nat} {z:Zt} (h:¬c.av n):Le c (c.put n b o e z):=(c.put_ext n b o e z h).toLe
theorem ptr_put {c:Cx} {n b e:Nat} {z:Zt}:VR (c.put n b 0 e z) (ptr n) (.pointer (some ⟨b,0,none⟩)):=by
 have ⟨h1,h2,h3,_,_⟩:=put_self (c:=c) (n:=n) (b:=b) (o:=0) (e:=e) (z:=z)
 have:=VR.ptr (c:=c.put n b 0 e z) (o:=0) h1
 rw [h2,h3] at this
 exact this
theorem slice_put {c:Cx} {n b e z l k:Nat} (hk:k < big):VR (c.put n b 0 e z) (.slice (some ⟨n,0,none⟩) l k) (.slice (some ⟨b,0,none⟩) l k):=by
 have ⟨h1,h2,h3,_,_⟩:=put_self (c:=c) (n:=n) (b:=b) (o:=0) (e:=e) (z:=z)
 have:=VR.slice (c:=c.put n b 0 e z) (o:=0) h1 l k hk
 rw [h2,h3] at this
 exact this
theorem made_push (w:World) (o:Obj):Made w {w with heap:=w.heap.push o} o:=
 ⟨by simp,by simp,fun j hj=>Array.getElem?_push_lt hj |>.trans (Array.getElem?_eq_getElem hj).symm,rfl,rfl,rfl⟩
theorem or_cells {c:Cx} {n k:Nat} {l l':List Value} (hl:LR c l l') (hn:¬c.av n) (ty:TypeId):OR (c.put n k 0 0 0) n (.cells l) (some (.cells ⟨l'⟩ ty (0,0))):=
 ⟨[],l',[],ty,by simp,by simp [Cx.put],hl.le (put_le hn),by simp [Cx.put],rfl⟩
theorem alloc_res {c:Cx} {h:T O} {nx:Nat} {w:World} {t:TypeId} {v:Value} {e:Eff} (hv:allocE P nx t=some (v,e)):OpRes P c h nx w v e (do pure (.value (←Instr.alloc t true (.tuple #[])))):=by
 unfold allocE at hv
 split at hv
 ·rename_i z hz
  cases hv
  obtain ⟨hz1,hz2⟩:=run_zeroT hz w
  refine .new _ rfl fun hn=>⟨_,_,_,val_run ?_,made_push w (.cells z.cells t (0,0)),or_cells (z_lr hz2) hn t,ptr_put⟩
  simp only [Instr.alloc,Sem.run_bind,hz1,Result.andThen_ok,newVar,newRow,run_newObj,Sem.run_pure]
 ·cases hv
theorem box_res {c:Cx} {h:T O} {nx:Nat} {w:World} {t:TypeId} {x x' v:Value} {e:Eff} (hv:boxE nx x=some (v,e)) (hx:VR c x x'):OpRes P c h nx w v e (do pure (.value (←Instr.box t x'))):=by
 unfold boxE at hv
 split at hv
 ·rename_i hk
  rw [forceL_eq] at hv
  cases hv
  refine .new _ rfl fun hn=>⟨_,_,_,val_run ?_,made_push w (.cells x'.cells t (0,0)),or_cells (cells_eq hx (known_ne hk)) hn t,ptr_put⟩
  simp only [Instr.box,Sem.run_bind,newVar,newRow,run_newObj,Result.andThen_ok,Sem.run_pure]
 ·cases hv
theorem times_length {α:Type} (l:List α) (n:Nat):(times l n).length=n * l.length:=by
 induction n with
 |zero=>simp [times]
 |succ n ih=>simp [times,ih,Nat.succ_mul,Nat.add_comm]
theorem times_get (l:List Value) (n:Nat):∀i,i < n * l.length→(times l n)[i]? =l[i % l.length]? :=by
 induction n with
 |zero=>intro i h; simp at h
 |succ n ih=>
  intro i h
  unfold times
  by_cases hi:i < l.length
  ·rw [List.getElem?_append_left hi,Nat.mod_eq_of_lt hi]
  ·rw [List.getElem?_append_right (by omega),ih _ (by rw [Nat.succ_mul] at h; omega)]
   congr 1
   rw [Nat.mod_eq_sub_mod (by omega:i ≥ l.length)]
theorem range_times (z:Array Value) (n m:Nat) (hz:z.size=m) (hm:0 < m):(Array.range (n * m)).map (fun i=>z[i % z.size]!)=⟨times z.toList n⟩:=by
 apply Array.ext'
 apply List.ext_getElem?
 intro i
 subst hz
 by_cases hi:i < n * z.size
 ·have h2:i % z.size < z.size:=Nat.mod_lt _ hm
  rw [show (⟨times z.toList n⟩:Array Value).toList=times z.toList n from rfl,times_get _ _ _ (by simpa using hi)]
  simp [hi,h2]
 ·rw [List.getElem?_eq_none (by simpa using hi),List.getElem?_eq_none (by rw [show (⟨times z.toList n⟩:Array Value).toList=times z.toList n from rfl,times_length]; simpa using hi)]
theorem map_range0 {α:Type} (f:Nat→α):(Array.range 0).map f=#[]:=by simp
theorem buildSlice_res {c:Cx} {h:T O} {nx:Nat} {w:World} {t:TypeId} {len:Nat} {ps ps':List (Nat×Value)} {v:Value} {e:Eff} (hv:buildSliceE P nx t len ps=some (v,e)) (hp:PR c ps ps'):
 OpRes P c h nx w v e (do pure (.value (←Instr.buildSlice t len ⟨ps'⟩))):=by
 unfold buildSliceE at hv
 split at hv
 ·rename_i el hu
  split at hv
  ·rename_i n z hs hz
   split at hv
   ·rename_i hb
    simp only [Bool.and_eq_true,Nat.ble_eq,Nat.beq_eq,Nat.blt_eq,Nat.mul_eq] at hb
    obtain ⟨⟨hb1,hb2⟩,hb3⟩:=hb
    obtain ⟨hz1,hz2⟩:=run_zeroT hz w
    split at hv
    ·rename_i cs hf
     cases hv
     have hzl:=z_lr (c:=c) hz2
     have hzs:z.cells.size=n:=by rw [←Array.length_toList,hzl.length]; exact hb2
     have hrange:(Array.range (len * n)).map (fun i=>z.cells[i % z.cells.size]!)=⟨times z.cells.toList len⟩:=range_times _ _ _ hzs hb3
     have ht:LR c (times (cellsL z) len) (times z.cells.toList len):=by
      clear hf hb1 hrange
      induction len with
      |zero=>exact .nil
      |succ k ih=>exact hzl.append ih
     obtain ⟨m',hm,hr⟩:=fill_ok (pl':=fun i=>some (i * n,n)) (fun i p hi=>by cases hi; rfl) hf hp ht
     have hcap:len < big:=by
      have h1:len * 1≤len * n:=Nat.mul_le_mul_left _ hb3
      have:(65536:Nat) < big:=by unfold big; decide
      omega
     refine .new _ rfl fun hn=>⟨_,_,_,val_run ?_,made_push w (.cells ⟨m'⟩ el (0,0)),or_cells hr hn el,slice_put hcap⟩
     simp only [Instr.buildSlice,Sem.run_bind,run_underlying hu,Result.andThen_ok,run_sizeT hs]
     rw [Sem.run_ite,if_neg (by omega)]
     by_cases h0:len * n=0
     ·rw [if_pos h0]
      have hlen0:len=0:=by
       rcases Nat.mul_eq_zero.1 h0 with h |h
       ·exact h
       ·omega
      subst hlen0
      simp only [Sem.run_bind,Sem.run_pure,Result.andThen_ok,Nat.zero_mul]
      have:(Array.map (fun x=>(#[]:Array Value)[x % (#[]:Array Value).size]!) (Array.range 0))=⟨times z.cells.toList 0⟩:=map_range0 _
      rw [this,hm]
      simp only [Sem.run_bind,newRow,run_newObj,Result.andThen_ok,Sem.run_pure]
     ·rw [if_neg h0]
      simp only [Sem.run_bind,hz1,Sem.run_pure,Result.andThen_ok,hrange,hm,newRow,run_newObj]
    ·cases hv
   ·cases hv
  ·cases hv
 ·cases hv
theorem makeMap_res {c:Cx} {h:T O} {nx:Nat} {w:World} {t:TypeId}:OpRes P c h nx w (.map (some nx)) (.new (.map [] 0)) (do pure (.value (←Instr.makeMap t none))):=by
 refine .new _ rfl fun hn=>⟨_,_,_,val_run (v:=.map (some w.heap.size)) ?_,made_push w (.map #[] 0),⟨[],rfl,trivial⟩,?_⟩
 ·simp only [Instr.makeMap,Sem.run_bind,run_newObj,Result.andThen_ok,Sem.run_pure]
 ·have:=VR.map (c:=c.put nx w.heap.size 0 0 0) (b:=nx) put_self.1
  rw [put_self.2.1] at this
  exact this
theorem info_of {e:TypeId} {i:TypeInfo} (h:P.info? e=some i) (w:World):(typeInfo e).run P w= .ok i w∧(sizeOf e).run P w= .ok i.size w:=by simp [sizeOf,typeInfo,h]
theorem wrap_small (n:Nat) (h:n≤1000000):IntKind.i64.wrap (n:Int)=n:=by
 rw [IntKind.wrap_i64]; omega
set_option maxRecDepth 20000 in
theorem makeSlice_res {c:Cx} {h:T O} {nx:Nat} {w:World} {t:TypeId} {l l' k k' v:Value} {e:Eff} (hv:makeSliceE P nx t l k=some (v,e)) (hl:VR c l l') (hk:VR c k k'):OpRes P c h nx w v e (do pure (.value (←Instr.makeSlice t l' k'))):=by
 unfold makeSliceE at hv
 split at hv
 ·rename_i el ln cp hu hln hcp
  obtain ⟨q1,rfl⟩:=toNat_ok hln hl
  obtain ⟨q2,rfl⟩:=toNat_ok hcp hk
  split at hv
  ·rename_i i z hi hz
   split at hv
   ·rename_i hb
    simp only [Bool.and_eq_true,Nat.ble_eq,Nat.beq_eq,Nat.blt_eq,Nat.mul_eq] at hb
    obtain ⟨hb1,hb2,hb3,hb4,hb5⟩:=hb
    cases hv
    obtain ⟨hz1,hz2⟩:=run_zeroT hz w
    obtain ⟨hi1,hi2⟩:=info_of hi w
    have hzl:=z_lr (c:=c) hz2
    have hzs:z.cells.size=i.size:=by rw [←Array.length_toList,hzl.length]; exact hb4
    have hrange:(Array.range (cp * i.size)).map (fun j=>z.cells[j % z.cells.size]!)=⟨times z.cells.toList cp⟩:=range_times _ _ _ hzs hb5
    have ht:LR c (times (cellsL z) cp) (times z.cells.toList cp):=by
     clear hrange hb1 hb2 hb3 hcp hk
     induction cp with
     |zero=>exact .nil
     |succ k ih=>exact hzl.append ih
    have hcap:cp < big:=by
     have:(65536:Nat) < big:=by unfold big; decide
     omega
    refine .new _ rfl fun hn=>⟨_,_,_,val_run ?_,made_push w (.cells ⟨times z.cells.toList cp⟩ el (0,0)),or_cells ht hn el,slice_put hcap⟩
    have w1:=wrap_small ln (by omega)
    have w2:=wrap_small cp (by omega)
    have hbi:(i.bytes:Int) * (cp:Int)≤1000000:=by
     have:i.bytes * cp≤1000000:=by rw [Nat.mul_comm]; exact hb2
     rw [←Int.natCast_mul]
     omega
    have a1:∀(q:IntKind) (n:Nat),(asInt (.int q (n:Int))).run P w= .ok (n:Int) w:=fun _ _=>rfl
    unfold Instr.makeSlice
    rw [Sem.run_bind,run_underlying hu,Result.andThen_ok]
    dsimp only
    rw [Sem.run_bind,a1,Result.andThen_ok,Sem.run_bind,a1,Result.andThen_ok,Sem.run_bind,hi1,Result.andThen_ok,w1,w2]
    rw [Sem.run_ite,if_neg]
    ·simp only [Sem.run_bind,run_askRoom,Result.andThen_ok,hi2,Int.toNat_natCast]
     by_cases h0:cp * i.size=0
     ·rw [if_pos h0]
      have hc0:cp=0:=by
       rcases Nat.mul_eq_zero.1 h0 with h |h
       ·exact h
       ·omega
      subst hc0
      simp only [Sem.run_bind,Sem.run_pure,Result.andThen_ok,Nat.zero_mul,newRow,run_newObj,map_range0]
      rfl
     ·rw [if_neg h0]
      simp only [Sem.run_bind,hz1,Sem.run_pure,Result.andThen_ok,hrange,newRow,run_newObj]
    ·simp only [Bool.or_eq_true,decide_eq_true_eq,not_or]
     refine ⟨⟨⟨by omega,by omega⟩,by omega⟩,by omega⟩
   ·cases hv
  ·cases hv
 ·cases hv
end Go.Eng
namespace Go.Eng
variable {P:Program}
theorem set_run (h:T O) (nx b:Nat) (o:O):(Eff.set b o).run ⟨h,nx⟩=⟨h.set b (some o),nx⟩:=by show h.setK b (some o) _=_; rw [T.setK_eq]
theorem grow_run (h:T O) (nx:Nat) (o:O):(Eff.grow o).run ⟨h,nx⟩=⟨h.set nx (some o),nx+1⟩:=by show h.setK nx (some o) _=_; rw [T.setK_eq,forceN_eq]
theorem new_run (h:T O) (nx:Nat) (o:O):(Eff.new o).run ⟨h,nx⟩=⟨h.set nx (some o),nx+1⟩:=by show h.setK nx (some o) _=_; rw [T.setK_eq,forceN_eq]
theorem shift_run (h:T O) (nx b q:Nat) (o:O):(Eff.shift b q o).run ⟨h,nx⟩=⟨(h.set b none).set nx (some o),nx+1⟩:=by show h.setK b none _=_; rw [T.setK_eq,T.setK_eq,forceN_eq]
theorem lay_length {α:Type} (l:List α) (o:Nat) (m:List α) (h:o+m.length≤l.length):(lay l o m).length=l.length:=by
 rw [lay_eq _ _ _ h]; simp; omega
theorem rowAt_ro {t:T O} {b:Nat} {l:List Value} {g:List Value→O} (h:rowAt t b=some (l,g)):∀l2 l,g l2≠O.ro l:=by
 unfold rowAt at h
 split at h
 ·cases h; intro l2 l e; cases e
 ·cases h; intro l2 l e; cases e
 ·cases h
theorem rowAt_fz {t:T O} {b:Nat} {l:List Value} {g:List Value→O} (h:rowAt t b=some (l,g)) (l2:List Value):(g l2).fz=false:=by
 unfold rowAt at h
 split at h
 ·cases h; rfl
 ·cases h; rfl
 ·cases h
theorem OpRes.set {c:Cx} {h:T O} {nx:Nat} {w:World} {v:Value} {b:Nat} {o old:O} {s:Sem Next} (hb:h.get b=some old)
 (hs:HR c h.get w→∃w' ob v',Turned w w' (c.b b) ob∧OR c b o (some ob)∧VR c v v'∧(s.run P w= .ok (.value v') w'∨s.run P w= .ok .skip w'∧v'=undef)) (hno:∀l,o≠O.ro l:=by intro l h; cases h) (hnf:old.fz=false:=by first |rfl |exact rowAt_fz (by assumption) _):OpRes P c h nx w v (.set b o) s:=by
 refine .turn b o rfl fun H=>?_
 obtain ⟨w',ob,v',h1,h2,h3,h4⟩:=hs H
 exact ⟨w',v',St.set H hb h1 h2 nx hno hnf,h3,h4⟩
theorem store_res {c:Cx} {h:T O} {nx:Nat} {w:World} {t:TypeId} {x x' y y' v:Value} {e:Eff} (hv:storeE P h t x y=some (v,e)) (hx:VR c x x') (hy:VR c y y'):OpRes P c h nx w v e (do Instr.storeAt t x' y'; pure .skip):=by
 unfold storeE at hv
 split at hv
 ·rename_i b o
  split at hv
  ·rename_i l g n hrow hs
   split at hv
   ·rename_i hb
    simp only [Bool.and_eq_true,Nat.ble_eq,Nat.beq_eq,Nat.add_eq] at hb
    obtain ⟨hb1,hb2,hb3⟩:=hb
    rw [forceL_eq] at hv
    cases hv
    have hk:y≠.chan none:=by rintro rfl; simp [cellsL,oneV] at hb3
    have hcl:=cells_eq hy hk
    cases hx with
    |ptr hav=>
     have hget:h.get b=some (g l):=by
      unfold rowAt at hrow
      split at hrow
      ·rename_i hx; cases hrow; exact hx
      ·rename_i hx; cases hrow; exact hx
      ·cases hrow
     refine .set (hno:=rowAt_ro hrow _) hget fun H=>?_
     obtain ⟨_,_,pre,l',post,ty,hw,hp,hr,hor⟩:=H.rowAt hrow
     have hfit:o+y'.cells.toList.length≤l'.length:=by rw [hcl.length,hr.length]; omega
     obtain ⟨w',hrun,hturn⟩:=run_lay (P:=P) hw hfit (hcl.ones hb3)
     rw [hp] at hrun
     refine ⟨w',_,undef,hturn,hor _ _ (hr.lay hcl (by omega)) (lay_length _ _ _ (by omega)),VR.undef c,.inr ⟨skip_run ?_,rfl⟩⟩
     have hsz:y'.cells.size=n:=by rw [←Array.length_toList,hcl.length]; exact hb1
     simp only [Instr.storeAt,Sem.run_bind,Instr.sureAddr,Sem.run_pure,Result.andThen_ok,storeVar,run_sizeT hs,hsz,ne_eq,not_true_eq_false,if_false,hrun]
   ·cases hv
  ·cases hv
 ·cases hv
theorem find_at {c:Cx} {k:Value}:∀{es:List E} {es':List MapEntry} {i j:Nat} {v:Value},findE k es i=some (some (j,v))→ER c es es'→i≤j∧(∃y,es'[j - i]? =some y∧y.key=k)∧j - i < es.length
 |[],_,i,j,v,h,_=>by cases h
 |x::es,[],i,j,v,h,he=>he.elim
 |x::es,y::es',i,j,v,h,⟨h1,h2,h3,h4⟩=>by
  unfold findE at h
  split at h
  ·rename_i hk
   cases h
   obtain ⟨kk,a,a',rfl,e2,e3⟩:=keyEq_ok hk
   rw [e2] at h1
   have:a=a':=by simpa using e3
   subst this
   have hy:y.key= .int kk a:=by cases hq:y.key <;> (rw [hq] at h1; cases h1; try rfl)
   exact ⟨Nat.le_refl _,⟨y,by simp,hy⟩,by simp⟩
  ·obtain ⟨h5,⟨z,hz,hk⟩,h6⟩:=find_at h h4
   have:j - i=(j - (i+1))+1:=by simp only [Nat.succ_eq_add_one] at h5; omega
   simp only [Nat.succ_eq_add_one] at h5 h6 hz
   exact ⟨by omega,⟨z,by rw [this]; simpa using hz,hk⟩,by simp; omega⟩
  ·cases h
theorem ER.length {c:Cx}:∀{l:List E} {m:List MapEntry},ER c l m→m.length=l.length
 |[],[],_=>rfl
 |_::_,_::_,⟨_,_,_,h⟩=>by simp [h.length]
 |[],_::_,h=>h.elim
 |_::_,[],h=>h.elim
theorem ER.append1 {c:Cx} {k k' v v':Value} {n:Nat} (hk:VR c k k') (hv:VR c v v'):∀{l:List E} {m:List MapEntry},ER c l m→ER c (l++[⟨k,v,n⟩]) (m++[⟨k',v',n⟩])
 |[],[],_=>⟨hk,hv,rfl,trivial⟩
 |_::_,_::_,⟨h1,h2,h3,h⟩=>⟨h1,h2,h3,h.append1 hk hv⟩
 |[],_::_,h=>h.elim
 |_::_,[],h=>h.elim
theorem ER.setVal {c:Cx} {v v':Value} (hv:VR c v v'):∀{l:List E} {m:List MapEntry} (i:Nat) (k:Value),ER c l m→(∀y,m[i]? =some y→y.key=k)→ER c (setVal v l i) (m.modify i fun e=>{e with key:=k,val:=v'})
 |[],[],_,_,_,_=>by simp [Eng.setVal,ER]
 |x::l,y::m,0,k,⟨h1,h2,h3,h⟩,hk=>by
  have:=hk y rfl
  exact ⟨by rw [←this]; exact h1,hv,h3,h⟩
 |x::l,y::m,i+1,k,⟨h1,h2,h3,h⟩,hk=>by
  rw [List.modify_succ_cons]
  exact ⟨h1,h2,h3,h.setVal hv i k (fun y hy=>hk y (by simpa using hy))⟩
 |[],_::_,_,_,h,_=>h.elim
 |_::_,[],_,_,h,_=>h.elim
theorem ER.dropN {c:Cx}:∀{l:List E} {m:List MapEntry} (i:Nat),ER c l m→ER c (dropN l i) (m.eraseIdx i)
 |[],[],_,_=>by simp [Eng.dropN,ER]
 |x::l,y::m,0,⟨h1,h2,h3,h⟩=>h
 |x::l,y::m,i+1,⟨h1,h2,h3,h⟩=>⟨h1,h2,h3,h.dropN i⟩
 |[],_::_,_,h=>h.elim
 |_::_,[],_,h=>h.elim
theorem run_setObj {w:World} {b:Nat} {es:List MapEntry} {clk:Nat} (h:w.heap[b]? =some (.map ⟨es⟩ clk)) (o:Obj):∃w',(setObj b o).run P w= .ok () w'∧Turned w w' b o:=by
 have hlt:=(Array.getElem?_eq_some_iff.1 h).1
 refine ⟨{w with heap:=w.heap.setIfInBounds b o},by simp [setObj,Sem.run,h],?_⟩
 exact ⟨by simp,by simp [hlt],fun j hj=>by simp [Array.getElem?_setIfInBounds_ne (Ne.symm hj)],rfl,rfl,rfl⟩
theorem keyStays (k:IntKind) (a:Int) (w:World):(Instr.keyThatStays (.int k a) (.int k a)).run P w= .ok (.int k a) w:=by
 have:Instr.sameBits 10000 (.int k a) (.int k a)=true:=by
  generalize 10000=n
  cases n <;> simp [Instr.sameBits]
 simp [Instr.keyThatStays,this]
theorem mapSet_res {c:Cx} {h:T O} {nx:Nat} {w:World} {t:TypeId} {m m' k k' y y' v:Value} {e:Eff} (hv:mapSetE P h t m k y=some (v,e)) (hm:VR c m m') (hk:VR c k k') (hy:VR c y y'):OpRes P c h nx w v e (do Instr.mapUpdate t m' k' y'; pure .skip):=by
 unfold mapSetE at hv
 split at hv
 ·rename_i el b hkt hi
  obtain ⟨kt,q,hu1,hu2⟩:=keyT_ok hkt
  obtain ⟨kk,a,rfl,rfl⟩:=isInt_ok hi hk
  split at hv
  ·rename_i es clk hg
   cases hm with
   |map hav=>
    split at hv
    ·rename_i i x hf
     cases hv
     refine .set hg fun H=>?_
     obtain ⟨es',hw,her⟩:=(H.at_ b _ hg).2
     obtain ⟨r',hr1,hr2⟩:=run_findKey (P:=P) hu2 hf her w
     cases r' with
     |none=>exact hr2.elim
     |some p=>
      obtain ⟨j',x'⟩:=p
      obtain ⟨rfl,hx⟩:=hr2
      obtain ⟨_,⟨y0,hy0,hyk⟩,hlt⟩:=find_at hf her
      simp only [Nat.sub_zero] at hy0 hlt
      obtain ⟨w',hs1,hs2⟩:=run_setObj (P:=P) hw (.map ⟨es'.modify j' fun e=>{e with key:=.int kk a,val:=y'}⟩ clk)
      refine ⟨w',_,undef,hs2,⟨_,rfl,her.setVal hy j' _ (fun y hy1=>by rw [hy0] at hy1; cases hy1; exact hyk)⟩,VR.undef c,.inr ⟨skip_run ?_,rfl⟩⟩
      have hold:(((⟨es'⟩:Array MapEntry)[j']?).map (·.key)).getD (.int kk a)= .int kk a:=by
       rw [show (⟨es'⟩:Array MapEntry)[j']? =es'[j']? from (Array.getElem?_toList ..).symm,hy0]
       exact hyk
      have hmod:((⟨es'⟩:Array MapEntry).modify j' fun e=>{e with key:=.int kk a,val:=y'})=⟨es'.modify j' fun e=>{e with key:=.int kk a,val:=y'}⟩:=by
       apply Array.ext'
       simp
      simp only [Instr.mapUpdate,Sem.run_bind,run_underlying hu1,Result.andThen_ok,run_getMap hw,run_checkKey hu2,hr1,hold,keyStays,hmod,hs1]
    ·rename_i hf
     cases hv
     refine .set hg fun H=>?_
     obtain ⟨es',hw,her⟩:=(H.at_ b _ hg).2
     obtain ⟨r',hr1,hr2⟩:=run_findKey (P:=P) hu2 hf her w
     cases r' with
     |some p=>exact hr2.elim
     |none=>
      obtain ⟨w',hs1,hs2⟩:=run_setObj (P:=P) hw (.map ⟨es'++[⟨.int kk a,y',clk⟩]⟩ (clk+1))
      refine ⟨w',_,undef,hs2,⟨_,rfl,her.append1 (.int _ _) hy⟩,VR.undef c,.inr ⟨skip_run ?_,rfl⟩⟩
      have hpush:((⟨es'⟩:Array MapEntry).push {key:=.int kk a,val:=y',born:=clk})=⟨es'++[⟨.int kk a,y',clk⟩]⟩:=by
       apply Array.ext'
       simp
      simp only [Instr.mapUpdate,Sem.run_bind,run_underlying hu1,Result.andThen_ok,run_getMap hw,run_checkKey hu2,hr1,hpush,hs1]
    ·cases hv
  ·cases hv
 ·cases hv
theorem delete_res {c:Cx} {h:T O} {nx:Nat} {w:World} {t:TypeId} {ts:List TypeId} {ty:TypeId} {m m' k k' v:Value} {e:Eff} (hv:deleteE P h t m k=some (v,e)) (hm:VR c m m') (hk:VR c k k'):OpRes P c h nx w v e (do pure (.value (←Builtin.delete_ ⟨t::ts⟩ ty #[m',k']))):=by
 unfold deleteE at hv
 split at hv
 ·rename_i el b hkt hi
  obtain ⟨kt,q,hu1,hu2⟩:=keyT_ok hkt
  obtain ⟨kk,a,rfl,rfl⟩:=isInt_ok hi hk
  split at hv
  ·rename_i es clk hg
   cases hm with
   |map hav=>
    have h0:(⟨t::ts⟩:Array TypeId)[0]? =some t:=rfl
    have h1:∀(a b:Value),(#[a,b]:Array Value)[0]? =some a:=fun _ _=>rfl
    have h2:∀(a b:Value),(#[a,b]:Array Value)[1]? =some b:=fun _ _=>rfl
    split at hv
    ·rename_i i x hf
     cases hv
     refine .set hg fun H=>?_
     obtain ⟨es',hw,her⟩:=(H.at_ b _ hg).2
     obtain ⟨r',hr1,hr2⟩:=run_findKey (P:=P) hu2 hf her w
     cases r' with
     |none=>exact hr2.elim
     |some p=>
      obtain ⟨j',x'⟩:=p
      obtain ⟨rfl,hx⟩:=hr2
      obtain ⟨w',hs1,hs2⟩:=run_setObj (P:=P) hw (.map ⟨es'.eraseIdx j'⟩ clk)
      refine ⟨w',_,.tuple #[],hs2,⟨_,rfl,her.dropN j'⟩,.tuple .nil,.inl (val_run ?_)⟩
      have her':(⟨es'⟩:Array MapEntry).eraseIdxIfInBounds j'=⟨es'.eraseIdx j'⟩:=by
       apply Array.ext'
       simp
      simp only [Builtin.delete_,h0,h1,h2,Sem.run_bind,run_underlying hu1,Result.andThen_ok,run_getMap hw,run_checkKey hu2,hr1,her',hs1,Sem.run_pure]
    ·rename_i hf
     cases hv
     refine .set hg fun H=>?_
     obtain ⟨es',hw,her⟩:=(H.at_ b _ hg).2
     obtain ⟨r',hr1,hr2⟩:=run_findKey (P:=P) hu2 hf her w
     cases r' with
     |some p=>exact hr2.elim
     |none=>
      obtain ⟨w',hs1,hs2⟩:=run_setObj (P:=P) hw (.map ⟨es'⟩ clk)
      refine ⟨w',_,.tuple #[],hs2,⟨_,rfl,her⟩,.tuple .nil,.inl (val_run ?_)⟩
      simp only [Builtin.delete_,h0,h1,h2,Sem.run_bind,run_underlying hu1,Result.andThen_ok,run_getMap hw,run_checkKey hu2,hr1,hs1,Sem.run_pure]
    ·cases hv
  ·cases hv
 ·cases hv
end Go.Eng
namespace Go.Eng
variable {P:Program}
theorem cells_run {c:Cx} {h:T O} {w:World} {z:Nat} {x x':Value} {n:Nat} {cs:List Value} (hc:cellsOf h z x=some (n,cs)) (hx:VR c x x') (H:HR c h.get w):
 (Builtin.lenOf x').run P w= .ok n w∧∃cs',LR c cs cs'∧cs.length=n * z∧∀m,m≤n→∀w2:World,w2.heap=w.heap→(Builtin.firstCells z m x').run P w2= .ok ⟨cut cs' 0 (m * z)⟩ w2:=by
 have zero:∀(a:Addr) (k:Nat),(Builtin.lenOf (.slice (some a) 0 k)).run P w= .ok 0 w∧∃cs',LR c [] cs'∧([]:List Value).length=0 * z∧∀m,m≤0→∀w2:World,w2.heap=w.heap→(Builtin.firstCells z m (.slice (some a) 0 k)).run P w2= .ok ⟨cut cs' 0 (m * z)⟩ w2:=fun a k=>
  ⟨rfl,[],.nil,by simp,fun m hm w2 hw2=>by
   have:m=0:=by omega
   subst this
   simp [Builtin.firstCells,loadCells,loadCellsFrom,cut]⟩
 unfold cellsOf at hc
 split at hc
 ·cases hc; cases hx
  exact ⟨rfl,[],.nil,by simp,fun m hm w2 hw2=>by simp [Builtin.firstCells,cut]⟩
 ·cases hc
  cases hx with
  |slice=>exact zero _ _
  |open_=>exact zero _ _
  |loose=>exact zero _ _
  |empn=>exact ⟨rfl,[],.nil,by simp,fun m hm w2 hw2=>by simp [Builtin.firstCells,cut]⟩
  |empa=>exact zero _ _
 ·rename_i b o l k hl0
  split at hc
  ·rename_i row hrow
   split at hc
   ·rename_i hle
    obtain ⟨rfl,rfl⟩:l=n∧cut row o (Nat.mul l z)=cs:=by simpa using hc
    have hle':=Nat.le_of_ble_eq_true hle
    simp only [Nat.add_eq,Nat.mul_eq] at hle' ⊢
    obtain ⟨hav,pre,l',post,ty,fr,hw,hp,hr⟩:=H.row rfl hrow
    have main:∀k',(Builtin.lenOf (.slice (some ⟨c.b b,c.o b+o,none⟩) l k')).run P w= .ok l w∧∃cs',LR c (cut row o (l * z)) cs'∧(cut row o (l * z)).length=l * z∧∀m,m≤l→∀w2:World,w2.heap=w.heap→(Builtin.firstCells z m (.slice (some ⟨c.b b,c.o b+o,none⟩) l k')).run P w2= .ok ⟨cut cs' 0 (m * z)⟩ w2:=fun k'=>by
     refine ⟨rfl,cut l' o (l * z),hr.cut _ _,by simp [cut]; omega,fun m hm w2 hw2=>?_⟩
     have hmz:m * z≤l * z:=Nat.mul_le_mul_right _ hm
     rw [←hw2] at hw
     have:=run_cells (P:=P) hw (o:=o) (n:=m * z) (by rw [hr.length]; omega)
     rw [hp] at this
     have e:cut (cut l' o (l * z)) 0 (m * z)=cut l' o (m * z):=by
      simp only [cut,List.drop_zero,List.take_take]
      rw [Nat.min_eq_left hmz]
     rw [e]
     exact this
    cases hx with
    |slice=>exact main _
    |open_=>exact main _
    |loose _ s _ _ hs=>cases hs
   ·cases hc
  ·cases hc
 ·rename_i s
  split at hc
  ·rename_i hz
   cases hc
   have hz':=Nat.eq_of_beq_eq_true hz
   subst hz'
   cases hx
   refine ⟨rfl,s.data.toList.map (fun b=>.int .u8 b.toNat),?_,by simp,fun m hm w2 hw2=>?_⟩
   ·generalize s.data.toList=l
    induction l with
    |nil=>exact .nil
    |cons a l ih=>exact .cons (.int _ _) ih
   ·simp only [Builtin.firstCells,Sem.run_pure,Nat.mul_one,cut,List.drop_zero]
    congr 1
    apply Array.ext'
    simp [List.map_take]
  ·cases hc
 ·cases hc
theorem zeros_no {t u:TypeId} (h:isIntT P u=false) (w:World) (ts:List TypeId):
 (((match (⟨t::u::ts⟩:Array TypeId)[1]? with |some xType=>do pure ((←underlying xType) matches .int _) |none=>pure false):Sem Bool)).run P w= .ok false w:=by
 unfold isIntT at h
 split at h
 ·cases h
 ·cases h
 ·rename_i d hd
  cases hu:P.underlying u with
  |none=>exact absurd hu (by assumption)
  |some d=>
   have h1:(⟨t::u::ts⟩:Array TypeId)[1]? =some u:=rfl
   simp only [h1,Sem.run_bind,run_underlying hu,Result.andThen_ok,Sem.run_pure]
   cases d <;> first |rfl |exact absurd hu (by simp_all)
theorem nextcap_le (need old:Nat) (h:old < need):Builtin.nextslicecap need old≤4 * need+4000:=by
 unfold Builtin.nextslicecap
 split
 ·omega
 ·split
  ·omega
  ·simp only [Builtin.growBy]
   repeat' split
   all_goals omega
theorem cells_none {c:Cx} {h:T O} {w:World} {z:Nat} {x x':Value} {n:Nat} {cs:List Value} (hc:cellsOf h z x=some (n,cs)) (hx:VR c x x'):
 (Builtin.lenOf x').run P w= .ok n w∧(Builtin.firstCells z 0 x').run P w= .ok #[] w:=by
 have key:∀(a:Addr) (l k:Nat),(Builtin.firstCells z 0 (.slice (some a) l k)).run P w= .ok #[] w:=fun a l k=>by simp [Builtin.firstCells,loadCells,loadCellsFrom]
 unfold cellsOf at hc
 split at hc
 ·cases hc; cases hx; exact ⟨rfl,rfl⟩
 ·cases hc; cases hx <;> first |exact ⟨rfl,key _ _ _⟩ |exact ⟨rfl,rfl⟩
 ·split at hc
  ·split at hc
   ·cases hx <;> (have:=hc; simp only [Option.some.injEq,Prod.mk.injEq] at this; obtain ⟨rfl,_⟩:=this; exact ⟨rfl,key _ _ _⟩)
   ·cases hc
  ·cases hc
 ·rename_i s
  split at hc
  ·cases hc; cases hx
   refine ⟨rfl,?_⟩
   simp only [Builtin.firstCells,Sem.run_pure]
   congr 1
   apply Array.ext'
   simp
  ·cases hc
 ·cases hc
theorem copy_res {c:Cx} {h:T O} {nx:Nat} {w:World} {ts:List TypeId} {ty:TypeId} {d d' s s' v:Value} {e:Eff} (hv:copyE P h ts d s=some (v,e)) (hd:VR c d d') (hs:VR c s s'):OpRes P c h nx w v e (do pure (.value (←Builtin.copy_ ⟨ts⟩ ty #[d',s']))):=by
 unfold copyE at hv
 split at hv
 case h_2=>cases hv
 rename_i t ts
 split at hv
 case h_2=>cases hv
 rename_i el hu
 split at hv
 case h_2=>cases hv
 rename_i z base dl k hz
 split at hv
 case h_2=>cases hv
 rename_i n cs hc
 split at hv
 ·rename_i hm0
  cases hv
  refine .rd [] rfl fun u H hu2=>⟨.int .i64 0,.int _ _,val_run ?_⟩
  obtain ⟨hl,hz0⟩:=cells_none (P:=P) (w:=w) hc hs
  have h0:(⟨t::ts⟩:Array TypeId)[0]? =some t:=rfl
  have h1:∀(a b:Value),(#[a,b]:Array Value)[0]? =some a:=fun _ _=>rfl
  have h2:∀(a b:Value),(#[a,b]:Array Value)[1]? =some b:=fun _ _=>rfl
  have main:∀b' k',(Builtin.copy_ ⟨t::ts⟩ ty #[.slice b' dl k',s']).run P w= .ok (.int .i64 0) w:=fun b' k'=>by
   simp only [Builtin.copy_,h0,h1,h2,Sem.run_bind,run_underlying hu,Result.andThen_ok,hl,run_sizeT hz,hm0,hz0,Sem.run_pure]
   cases b' <;> rfl
  cases hd with
  |snil=>exact main _ _
  |slice=>exact main _ _
  |open_=>exact main _ _
  |loose=>exact main _ _
  |empn=>exact main _ _
  |empa=>exact main _ _
 ·rename_i b o hm0
  split at hv
  case h_2=>cases hv
  rename_i row g hrow
  split at hv
  case h_2=>cases hv
  rename_i hb
  cases hv
  simp only [Bool.and_eq_true,Nat.ble_eq,Nat.add_eq,Nat.mul_eq] at hb
  obtain ⟨hb1,hb2⟩:=hb
  have hget:h.get b=some (g row):=by
   unfold rowAt at hrow
   split at hrow
   ·rename_i hx; cases hrow; exact hx
   ·rename_i hx; cases hrow; exact hx
   ·cases hrow
  refine .set (hno:=rowAt_ro (by assumption) _) hget fun H=>?_
  obtain ⟨hl,cs',hr,hlen,hcells⟩:=cells_run (P:=P) hc hs H
  obtain ⟨_,_,pre,l',post,tyy,hw,hp,hrr,hor⟩:=H.rowAt hrow
  have hmn:Nat.min n dl≤n:=Nat.min_le_left _ _
  have hmz:Nat.min n dl * z≤cs.length:=by rw [hlen]; exact Nat.mul_le_mul_right _ hmn
  have hcl:LR c (cut cs 0 (Nat.min n dl * z)) (cut cs' 0 (Nat.min n dl * z)):=hr.cut _ _
  have hclen:(cut cs 0 (Nat.min n dl * z)).length=Nat.min n dl * z:=by simp only [cut,List.drop_zero,List.length_take]; exact Nat.min_eq_left hmz
  have hones:(cut cs 0 (Nat.min n dl * z)).all oneV=true:=by
   simp only [List.all_eq_true] at hb2 ⊢
   intro x hx
   exact hb2 x (by simp only [cut,List.drop_zero] at hx; exact List.mem_of_mem_take hx)
  have hfit:o+(cut cs' 0 (Nat.min n dl * z)).length≤l'.length:=by rw [hcl.length,hrr.length,hclen]; exact hb1
  obtain ⟨w',hrun,hturn⟩:=run_lay (P:=P) hw hfit (hcl.ones hones)
  rw [hp] at hrun
  refine ⟨w',_,.int .i64 (Nat.min n dl:Nat),hturn,hor _ _ (hrr.lay hcl (by rw [hclen]; exact hb1)) (lay_length _ _ _ (by simp only [Nat.mul_eq]; rw [hclen]; exact hb1)),.int _ _,.inl (val_run ?_)⟩
  have h0:(⟨t::ts⟩:Array TypeId)[0]? =some t:=rfl
  have h1:∀(a b:Value),(#[a,b]:Array Value)[0]? =some a:=fun _ _=>rfl
  have h2:∀(a b:Value),(#[a,b]:Array Value)[1]? =some b:=fun _ _=>rfl
  have main:∀k',(Builtin.copy_ ⟨t::ts⟩ ty #[.slice (some ⟨c.b b,c.o b+o,none⟩) dl k',s']).run P w= .ok (.int .i64 (Nat.min n dl:Nat)) w':=fun k'=>by
   simp only [Builtin.copy_,h0,h1,h2,Sem.run_bind,run_underlying hu,Result.andThen_ok,hl,run_sizeT hz,hcells _ hmn w rfl,hrun,Sem.run_pure]
   rfl
  cases hd with
  |slice=>exact main _
  |open_=>exact main _
  |loose _ s _ _ hs=>cases hs
 ·cases hv
end Go.Eng
