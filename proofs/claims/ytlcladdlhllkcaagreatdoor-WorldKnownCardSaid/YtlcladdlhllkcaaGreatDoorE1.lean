/-
  PROVED HERE: nothing yet: an evaluator of closed calls, over an abstract heap (definitions; its laws are proved in the texts behind it).
-/
import GoSem.Step
import Derived.Orders
import Derived.KernelRfl
namespace Go.Eng
set_option linter.unusedVariables false

/-! ### tries -/
inductive T (α : Type) where
  | leaf
  | node (l : T α) (v : Option α) (r : T α)

noncomputable def T.get {α : Type} (t : T α) : Nat → Option α :=
  T.rec (motive := fun _ => Nat → Option α) (fun _ => none)
    (fun _ v _ gl gr n => Bool.rec (Bool.rec (gl (Nat.div n 2)) (gr (Nat.pred (Nat.div n 2))) (Nat.beq (Nat.mod n 2) 0)) v (Nat.beq n 0)) t

noncomputable def T.one {α : Type} (f : Nat) : Nat → Option α → T α :=
  Nat.rec (motive := fun _ => Nat → Option α → T α) (fun _ _ => .leaf)
    (fun _ ih n v => Bool.rec (Bool.rec (.node (ih (Nat.div n 2) v) none .leaf) (.node .leaf none (ih (Nat.pred (Nat.div n 2)) v)) (Nat.beq (Nat.mod n 2) 0)) (.node .leaf v .leaf) (Nat.beq n 0)) f

noncomputable def T.setK {α β : Type} (t : T α) : Nat → Option α → (T α → β) → β :=
  T.rec (motive := fun _ => Nat → Option α → (T α → β) → β) (fun n v k => k (T.one (Nat.succ n) n v))
    (fun l o r sl sr n v k => Bool.rec (Bool.rec (sl (Nat.div n 2) v fun l' => k (.node l' o r)) (sr (Nat.pred (Nat.div n 2)) v fun r' => k (.node l o r')) (Nat.beq (Nat.mod n 2) 0)) (k (.node l v r)) (Nat.beq n 0)) t

/-! ### forcing (the value is the same; the kernel reckons it at once) -/
noncomputable def forceN {β : Type} (n : Nat) (k : Nat → β) : β := Nat.rec (motive := fun _ => β) (k 0) (fun m _ => k (Nat.succ m)) n
noncomputable def forceI {β : Type} (n : Int) (k : Int → β) : β := Int.rec (motive := fun _ => β) (fun m => forceN m fun m => k (.ofNat m)) (fun m => forceN m fun m => k (.negSucc m)) n
noncomputable def forceS {β : Type} (v : Value) (k : Value → β) : β :=
  match v with
  | .int q n => forceI n fun n => k (.int q n)
  | .bool b => Bool.rec (k (.bool false)) (k (.bool true)) b
  | .pointer (some ⟨b, o, s⟩) => forceN b fun b => forceN o fun o => k (.pointer (some ⟨b, o, s⟩))
  | .slice (some ⟨b, o, s⟩) l c => forceN b fun b => forceN o fun o => forceN l fun l => forceN c fun c => k (.slice (some ⟨b, o, s⟩) l c)
  | .map (some b) => forceN b fun b => k (.map (some b))
  | v => k v
noncomputable def forceL {β : Type} (l : List Value) (k : List Value → β) : β :=
  List.rec (motive := fun _ => (List Value → β) → β) (fun k => k []) (fun x _ ih k => forceS x fun x => ih fun l => k (x :: l)) l k
noncomputable def force {β : Type} (v : Value) (k : Value → β) : β :=
  match v with
  | .agg ⟨cs⟩ => forceL cs fun cs => k (.agg ⟨cs⟩)
  | .tuple ⟨cs⟩ => forceL cs fun cs => k (.tuple ⟨cs⟩)
  | v => forceS v k

/-! ### lists -/
def nth {α : Type} : List α → Nat → Option α
  | [], _ => none
  | x :: l, n => match n with | 0 => some x | n + 1 => nth l n
/-- n of a list's, from a place on. -/
def cut {α : Type} (l : List α) (o n : Nat) : List α := (l.drop o).take n
/-- A list, laid over from a place on. -/
def lay {α : Type} : List α → Nat → List α → List α
  | [], _, _ => []
  | x :: l, 0, [] => x :: l
  | _ :: l, 0, y :: ys => y :: lay l 0 ys
  | x :: l, n + 1, ys => x :: lay l n ys

/-! ### the abstract heap -/
structure E where
  key : Value
  val : Value
  born : Nat
inductive O where
  | cells (c : List Value)
  | ro (c : List Value)
  | opn (z : Nat) (c : List Value)
  | map (es : List E) (clock : Nat)
  | loop (state : LoopState) (pending : Option Code) (fn : FuncId) (size : Nat) (tmps : T Value) (params : List Tmp) (assign body : Code)
  | deferred
structure H where
  t : T O
  next : Nat
/-- temporaries: how many, what they hold, the blocks of deferred calls. -/
structure A where
  size : Nat
  t : T Value
  ds : List Nat

/-- No address in it (to a depth). -/
def flat : Nat → Value → Bool
  | 0, _ => false
  | n + 1, v => match v with
    | .bool _ | .int _ _ | .float _ _ | .complex _ _ _ | .string _ | .pointer none | .map none | .nilFunc | .nilIface | .slice none _ _ => true
    | .agg ⟨cs⟩ => cs.all (flat n)
    | .tuple ⟨cs⟩ => cs.all (flat n)
    | .func (.func _) ⟨[]⟩ ⟨[]⟩ => true
    | _ => false

noncomputable def A.get (a : A) (i : Nat) : Value := (a.t.get i).getD undef
/-- what is not known. -/
def unk : Value := .chan none
noncomputable def A.ev (a : A) : Operand → Value
  | .tmp t => a.get t
  | .const v => match flat 4 v with | true => v | false => unk
  | .global g => match Nat.blt g 64 with | true => .pointer (some ⟨g, 0, none⟩) | false => unk
  | .func f => .func (.func f) #[] #[]

inductive Eff where
  | rd (r : List Nat)
  | new (o : O)
  | grow (o : O)
  | set (b : Nat) (o : O)
  | shift (b o : Nat) (x : O)

/-- A capacity that is not known: at least lb. -/
def big : Nat := 18446744073709551616

/-- What a reckoning gives that asks the program alone. -/
def prog {α : Type} (p : Program) : Sem α → Option α
  | .pure a => some a
  | .program k => prog p (k p)
  | .mark _ k => prog p k
  | _ => none

def flats (l : List Value) : Bool := l.all (flat 4)

def sizeT (p : Program) (t : TypeId) : Option Nat := (p.info? t).map (·.size)
def aggT (p : Program) (t : TypeId) : Option Bool := (p.underlying t).map fun | .struct _ | .array _ _ => true | _ => false
def zeroT (p : Program) (t : TypeId) : Option Value := match (p.info? t).bind (·.zero) with | some z => if flat 4 z then some z else none | none => none
def cellsL (v : Value) : List Value := match v with | .agg ⟨cs⟩ => cs | v => [v]
/-- a value of a type out of cells. -/
def fromCells (p : Program) (t : TypeId) (cs : List Value) (o : Nat) : Option Value :=
  match aggT p t with
  | some false => nth cs o
  | some true => match sizeT p t with
    | some n => if Nat.ble (Nat.add o n) cs.length then some (.agg ⟨cut cs o n⟩) else none
    | none => none
  | none => none
noncomputable def rowOf (h : T O) (b : Nat) : Option (List Value) := match h.get b with
  | some (.cells c) => some c
  | some (.ro c) => some c
  | some (.opn _ c) => some c
  | _ => none
/-- a row that is written: what it holds, what it is then. -/
noncomputable def rowAt (h : T O) (b : Nat) : Option (List Value × (List Value → O)) := match h.get b with
  | some (.cells c) => some (c, .cells)
  | some (.opn z c) => some (c, .opn z)
  | _ => none

def pickE (c x y : Value) : Option (Value × Eff) := match c with
  | .bool true => some (x, .rd [])
  | .bool false => some (y, .rd [])
  | _ => none
def ptr (b : Nat) : Value := .pointer (some ⟨b, 0, none⟩)
def allocE (p : Program) (nx : Nat) (t : TypeId) : Option (Value × Eff) := match zeroT p t with
  | some z => some (ptr nx, .new (.cells (cellsL z)))
  | none => none
def known : Value → Bool
  | .chan _ => false
  | _ => true
/-- parts laid over cells. -/
def fillL (place : Nat → Option (Nat × Nat)) : List (Nat × Value) → List Value → Option (List Value)
  | [], cs => some cs
  | (i, v) :: l, cs => match place i with
    | none => none
    | some (o, n) => match known v && (Nat.beq (cellsL v).length n && Nat.ble (Nat.add o n) cs.length) with
      | true => fillL place l (lay cs o (cellsL v))
      | false => none
def placesL (p : Program) : List Field → Option (List (Nat × Nat))
  | [] => some []
  | f :: l => match sizeT p f.type, placesL p l with
    | some n, some r => some ((f.offset, n) :: r)
    | _, _ => none
noncomputable def buildE (p : Program) (t : TypeId) (ps : List (Nat × Value)) : Option (Value × Eff) := match zeroT p t, p.underlying t with
  | some z, some (.struct ⟨fs⟩) => match placesL p fs with
    | some pl => match fillL (nth pl) ps (cellsL z) with
      | some cs => some (.agg ⟨cs⟩, .rd [])
      | none => none
    | none => none
  | some z, some (.array _ e) => match sizeT p e with
    | some n => match fillL (fun i => some (Nat.mul i n, n)) ps (cellsL z) with
      | some cs => some (.agg ⟨cs⟩, .rd [])
      | none => none
    | none => none
  | _, _ => none
def times {α : Type} (l : List α) : Nat → List α
  | 0 => []
  | n + 1 => l ++ times l n
noncomputable def buildSliceE (p : Program) (nx : Nat) (t : TypeId) (len : Nat) (ps : List (Nat × Value)) : Option (Value × Eff) := match p.underlying t with
  | some (.slice e) => match sizeT p e, zeroT p e with
    | some n, some z => match Nat.ble (Nat.mul len n) 65536 && Nat.beq (cellsL z).length n && Nat.blt 0 n with
      | true => match fillL (fun i => some (Nat.mul i n, n)) ps (times (cellsL z) len) with
        | some cs => some (.slice (some ⟨nx, 0, none⟩) len len, .new (.cells cs))
        | none => none
      | false => none
    | _, _ => none
  | _ => none
noncomputable def loadE (p : Program) (h : T O) (t : TypeId) (x : Value) : Option (Value × Eff) := match x with
  | .pointer (some ⟨b, o, none⟩) => match rowOf h b with
    | some c => match fromCells p t c o with
      | some v => some (v, .rd [b])
      | none => none
    | none => none
  | _ => none
/-- what one cell can hold. -/
def oneV : Value → Bool
  | .agg _ | .tuple _ | .chan _ => false
  | _ => true
noncomputable def storeE (p : Program) (h : T O) (t : TypeId) (x v : Value) : Option (Value × Eff) := match x with
  | .pointer (some ⟨b, o, none⟩) => match rowAt h b, sizeT p t with
    | some (c, g), some n => match Nat.beq (cellsL v).length n && (Nat.ble (Nat.add o n) c.length && (cellsL v).all oneV) with
      | true => forceL (lay c o (cellsL v)) fun c => some (undef, .set b (g c))
      | false => none
    | _, _ => none
  | _ => none
def nilCheckE (x : Value) : Option (Value × Eff) := match x with
  | .pointer (some a) => some (.pointer (some a), .rd [])
  | .func (.func f) x y => some (.func (.func f) x y, .rd [])
  | .map r => some (.map r, .rd [])
  | .slice a l c => some (.slice a l c, .rd [])
  | _ => none
/-- A reckoning over flat values. -/
def flatE (p : Program) (s : Sem Value) : Option (Value × Eff) := match prog p s with
  | some v => match flat 4 v with | true => some (v, .rd []) | false => none
  | none => none
noncomputable def intE (p : Program) (op : BinOp) (t : TypeId) (k : IntKind) (a b : Int) (k' : IntKind) : Option (Value × Eff) :=
  match op with
  | .add => match decide (k = k') with | true => some (.int k (k.wrap (Int.add a b)), .rd []) | false => none
  | .sub => match decide (k = k') with | true => some (.int k (k.wrap (Int.sub a b)), .rd []) | false => none
  | op => flatE p (binOp op t (.int k a) (.int k' b))
/-- held against nil. -/
def eqE (p : Program) (t : TypeId) (x y : Value) : Option Bool := match p.underlying t, x, y with
  | some (.pointer _), .pointer none, .pointer none => some true
  | some (.pointer _), .pointer none, .pointer (some _) => some false
  | some (.pointer _), .pointer (some _), .pointer none => some false
  | some (.map _ _), .map none, .map none => some true
  | some (.map _ _), .map none, .map (some _) => some false
  | some (.map _ _), .map (some _), .map none => some false
  | some (.slice _), .slice none _ _, .slice none _ _ => some true
  | some (.slice _), .slice none _ _, .slice (some _) _ _ => some false
  | some (.slice _), .slice (some _) _ _, .slice none _ _ => some false
  | some (.func _ _ _), .nilFunc, .nilFunc => some true
  | some (.func _ _ _), .nilFunc, .func _ _ _ => some false
  | some (.func _ _ _), .func _ _ _, .nilFunc => some false
  | _, _, _ => none
noncomputable def binE (p : Program) (op : BinOp) (t : TypeId) (xo yo : Operand) (x y : Value) : Option (Value × Eff) := match x, y with
  | .int k a, .int k' b => intE p op t k a b k'
  | x, y => match flat 4 x && flat 4 y with
    | true => flatE p (do eqGuard op t xo yo x y; binOp op t x y)
    | false => match op with
      | .eql => (eqE p t x y).map fun b => (.bool b, .rd [])
      | .neq => (eqE p t x y).map fun b => (.bool !b, .rd [])
      | _ => none
noncomputable def fieldAddrE (p : Program) (t : TypeId) (x : Value) (f : Nat) : Option (Value × Eff) := match x, p.underlying t with
  | .pointer (some ⟨b, o, none⟩), some (.struct ⟨fs⟩) => match nth fs f with
    | some f => match sizeT p f.type with
      | some (n + 1) => forceN (Nat.add o f.offset) fun o => some (.pointer (some ⟨b, o, none⟩), .rd [])
      | _ => none
    | none => none
  | _, _ => none
def fieldE (p : Program) (t : TypeId) (x : Value) (f : Nat) : Option (Value × Eff) := match x, p.underlying t with
  | .agg ⟨cs⟩, some (.struct ⟨fs⟩) => match nth fs f with
    | some f => (fromCells p f.type cs f.offset).map fun v => (v, .rd [])
    | none => none
  | _, _ => none
def toNat? : Value → Option Nat
  | .int _ (.ofNat n) => some n
  | _ => none
noncomputable def indexAddrE (p : Program) (t : TypeId) (x ix : Value) : Option (Value × Eff) := match toNat? ix, p.underlying t, x with
  | some i, some (.array len e), .pointer (some ⟨b, o, none⟩) => match sizeT p e, Nat.blt i len with
    | some n, true => forceN (Nat.add o (Nat.mul i n)) fun o => some (.pointer (some ⟨b, o, none⟩), .rd [])
    | _, _ => none
  | some i, some (.slice e), .slice (some ⟨b, o, none⟩) len _ => match sizeT p e, Nat.blt i len with
    | some n, true => forceN (Nat.add o (Nat.mul i n)) fun o => some (.pointer (some ⟨b, o, none⟩), .rd [])
    | _, _ => none
  | _, _, _ => none
def indexE (p : Program) (t : TypeId) (x ix : Value) : Option (Value × Eff) := match toNat? ix, p.underlying t, x with
  | some i, some (.array len e), .agg ⟨cs⟩ => match sizeT p e, Nat.blt i len with
    | some n, true => (fromCells p e cs (Nat.mul i n)).map fun v => (v, .rd [])
    | _, _ => none
  | some i, some .string, .string s => flatE p (Instr.index t x ix)
  | _, _, _ => none
/-- The bounds of a cut: low, high, and the end of the capacity. -/
def boundsE (len cap : Nat) (lo hi mx : Option Value) : Option (Nat × Nat × Nat) :=
  match (match mx, hi with
    | none, none => some (len, cap)
    | none, some v => match toNat? v with
      | some h => match Nat.ble h cap with | true => some (h, cap) | false => none
      | none => none
    | some u, some v => match toNat? u, toNat? v with
      | some m, some h => match Nat.ble m cap && Nat.ble h m with | true => some (h, m) | false => none
      | _, _ => none
    | some _, none => none) with
  | none => none
  | some (h, m) => match lo with
    | none => some (0, h, m)
    | some v => match toNat? v with
      | some l => match Nat.ble l h with | true => some (l, h, m) | false => none
      | none => none
/-- where a cut begins. -/
def cutA (b o l m z : Nat) : Addr := match Nat.beq m l with | true => ⟨b, o, none⟩ | false => ⟨b, Nat.add o (Nat.mul l z), none⟩
def flatO : Option Value → Bool
  | none => true
  | some v => flat 4 v
noncomputable def sliceE (p : Program) (h : T O) (t : TypeId) (x : Value) (lo hi mx : Option Value) : Option (Value × Eff) := match p.underlying t, x with
  | some .string, .string _ => match flatO lo && (flatO hi && flatO mx) with
    | true => flatE p (Instr.sliceAt t x lo hi mx)
    | false => none
  | some (.array n e), .pointer (some ⟨b, o, none⟩) => match sizeT p e, boundsE n n lo hi mx with
    | some z, some (l, h, m) => match Nat.blt m big with
      | true => forceN l fun l => forceN h fun h => forceN m fun m => some (.slice (some (cutA b o l m z)) (Nat.sub h l) (Nat.sub m l), .rd [])
      | false => none
    | _, _ => none
  | some (.slice e), .slice (some ⟨b, o, none⟩) len cap => match Nat.blt cap big with
    | true => match sizeT p e, boundsE len cap lo hi mx with
      | some z, some (l, h, m) => forceN l fun l => forceN h fun h => forceN m fun m => some (.slice (some (cutA b o l m z)) (Nat.sub h l) (Nat.sub m l), .rd [])
      | _, _ => none
    | false => match sizeT p e, boundsE len (Nat.sub cap big) lo hi mx, h.get b with
      | some z, some (l, h, m), some (.opn z' _) => match Nat.beq z z', mx with
        | true, some _ => match Nat.blt m big with
          | true => forceN l fun l => forceN h fun h => forceN m fun m => some (.slice (some (cutA b o l m z)) (Nat.sub h l) (Nat.sub m l), .rd [])
          | false => none
        | true, none => match Nat.beq m l && Nat.blt 0 l with
          | true => some (.slice (some ⟨b, o, some 0⟩) 0 big, .rd [])
          | false => forceN l fun l => forceN h fun h => some (.slice (some ⟨b, Nat.add o (Nat.mul l z), none⟩) (Nat.sub h l) (Nat.sub cap l), .rd [b])
        | false, _ => none
      | _, _, _ => none
  | some (.slice e), .slice none 0 0 => match sizeT p e, boundsE 0 0 lo hi mx with
    | some _, some (0, 0, 0) => some (.slice none 0 0, .rd [])
    | _, _ => none
  | _, _ => none
noncomputable def makeSliceE (p : Program) (nx : Nat) (t : TypeId) (l c : Value) : Option (Value × Eff) := match p.underlying t, toNat? l, toNat? c with
  | some (.slice e), some l, some c => match p.info? e, zeroT p e with
    | some i, some z => match Nat.ble l c && (Nat.ble (Nat.mul c i.bytes) 1000000 && (Nat.ble c 65536 && (Nat.beq (cellsL z).length i.size && Nat.blt 0 i.size))) with
      | true => some (.slice (some ⟨nx, 0, none⟩) l c, .new (.cells (times (cellsL z) c)))
      | false => none
    | _, _ => none
  | _, _, _ => none

/-! maps: keys that are integers -/
def keyEq : Value → Value → Option Bool
  | .int k a, .int k' b => match decide (k = k') with | true => some (decide (a = b)) | false => none
  | _, _ => none
def findE (k : Value) : List E → Nat → Option (Option (Nat × Value))
  | [], _ => some none
  | e :: es, i => match keyEq k e.key with
    | some true => some (some (i, e.val))
    | some false => findE k es (Nat.succ i)
    | none => none
def keyT (p : Program) (t : TypeId) : Option TypeId := match p.underlying t with
  | some (.map k e) => match p.underlying k with | some (.int _) => some e | _ => none
  | _ => none
def isInt : Value → Bool
  | .int _ _ => true
  | _ => false
noncomputable def lookupE (p : Program) (h : T O) (t : TypeId) (m k : Value) (ok : Bool) : Option (Value × Eff) := match keyT p t, isInt k, m with
  | some e, true, .map r => match (match r with | none => some ([], []) | some b => match h.get b with | some (.map es _) => some (es, [b]) | _ => none) with
    | none => none
    | some (es, rs) => match findE k es 0, zeroT p e with
      | some (some (_, v)), _ => some (match ok with | true => .tuple ⟨[v, .bool true]⟩ | false => v, .rd rs)
      | some none, some z => some (match ok with | true => .tuple ⟨[z, .bool false]⟩ | false => z, .rd rs)
      | _, _ => none
  | _, _, _ => none
def setVal (v : Value) : List E → Nat → List E
  | [], _ => []
  | e :: es, 0 => { e with val := v } :: es
  | e :: es, n + 1 => e :: setVal v es n
noncomputable def mapSetE (p : Program) (h : T O) (t : TypeId) (m k v : Value) : Option (Value × Eff) := match keyT p t, isInt k, m with
  | some _, true, .map (some b) => match h.get b with
    | some (.map es c) => match findE k es 0 with
      | some (some (i, _)) => some (undef, .set b (.map (setVal v es i) c))
      | some none => some (undef, .set b (.map (es ++ [⟨k, v, c⟩]) (Nat.succ c)))
      | none => none
    | _ => none
  | _, _, _ => none
def dropN {α : Type} : List α → Nat → List α
  | [], _ => []
  | _ :: l, 0 => l
  | x :: l, n + 1 => x :: dropN l n
noncomputable def deleteE (p : Program) (h : T O) (t : TypeId) (m k : Value) : Option (Value × Eff) := match keyT p t, isInt k, m with
  | some _, true, .map (some b) => match h.get b with
    | some (.map es c) => match findE k es 0 with
      | some (some (i, _)) => some (.tuple ⟨[]⟩, .set b (.map (dropN es i) c))
      | some none => some (.tuple ⟨[]⟩, .set b (.map es c))
      | none => none
    | _ => none
  | _, _, _ => none

/-! append, copy, len -/
/-- the cells of a slice or a string. -/
noncomputable def cellsOf (h : T O) (z : Nat) (x : Value) : Option (Nat × List Value) := match x with
  | .slice none 0 _ => some (0, [])
  | .slice (some _) 0 _ => some (0, [])
  | .slice (some ⟨b, o, none⟩) l _ => match rowOf h b with
    | some c => match Nat.ble (Nat.add o (Nat.mul l z)) c.length with
      | true => some (l, cut c o (Nat.mul l z))
      | false => none
    | none => none
  | .string s => match Nat.beq z 1 with | true => some (s.size, s.data.toList.map fun b => .int .u8 b.toNat) | false => none
  | _ => none
def isIntT (p : Program) (t : TypeId) : Bool := match p.underlying t with | some (.int _) => true | none => true | _ => false
noncomputable def appendE (p : Program) (h : T O) (nx : Nat) (ts : List TypeId) (s x : Value) : Option (Value × Eff) := match ts with
  | t :: u :: _ => match p.underlying t, isIntT p u with
    | some (.slice e), false => match p.info? e, zeroT p e with
      | some i, some zv => match cellsOf h i.size x, s with
        | some (n, cs), .slice base len cap => match Nat.ble (Nat.add len n) 100000 && (Nat.ble i.bytes 1000 && (Nat.blt 0 i.bytes && (Nat.beq (cellsL zv).length i.size && Nat.beq cs.length (Nat.mul n i.size)))) with
          | false => none
          | true => match Nat.blt cap big with
            | true => match Nat.ble (Nat.add len n) cap with
              | true => match base with
                | some ⟨b, o, none⟩ => match rowAt h b with
                  | some (c, g) => match Nat.ble (Nat.add o (Nat.mul (Nat.add len n) i.size)) c.length && cs.all oneV with
                    | true => some (.slice base (Nat.add len n) cap, .set b (g (lay c (Nat.add o (Nat.mul len i.size)) cs)))
                    | false => none
                  | none => none
                | none => match Nat.beq n 0 with
                  | true => some (.slice none len cap, .rd [])
                  | false => none
                | _ => none
              | false => match cellsOf h i.size s with
                | some (_, old) => forceL (old ++ cs) fun all => some (.slice (some ⟨nx, 0, none⟩) (Nat.add len n) (Nat.add big (Nat.add len n)), .grow (.opn i.size all))
                | none => none
            | false => match base with
              | some ⟨b, o, none⟩ => match h.get b, cellsOf h i.size s with
                | some (.opn z row), some (_, old) => match Nat.beq z i.size && cs.all oneV with
                  | true => match Nat.ble (Nat.add len n) (Nat.sub cap big) && Nat.ble (Nat.add o (Nat.mul (Nat.add len n) i.size)) row.length with
                   | true => forceL (lay row (Nat.add o (Nat.mul len i.size)) cs) fun row => some (.slice (some ⟨b, o, none⟩) (Nat.add len n) cap, .set b (.opn z row))
                   | false => forceL (old ++ cs) fun all => some (.slice (some ⟨nx, 0, none⟩) (Nat.add len n) (Nat.add big (Nat.add len n)), .shift b o (.opn i.size all))
                  | false => none
                | _, _ => none
              | _ => none
        | _, _ => none
      | _, _ => none
    | _, _ => none
  | _ => none
noncomputable def copyE (p : Program) (h : T O) (ts : List TypeId) (d s : Value) : Option (Value × Eff) := match ts with
  | t :: _ => match p.underlying t with
    | some (.slice e) => match sizeT p e, d with
      | some z, .slice base dl _ => match cellsOf h z s with
        | some (n, cs) => match Nat.min n dl, base with
          | 0, _ => some (.int .i64 0, .rd [])
          | m, some ⟨b, o, none⟩ => match rowAt h b with
            | some (c, g) => match Nat.ble (Nat.add o (Nat.mul m z)) c.length && cs.all oneV with
              | true => some (.int .i64 (.ofNat m), .set b (g (lay c o (cut cs 0 (Nat.mul m z)))))
              | false => none
            | none => none
          | _, _ => none
        | none => none
      | _, _ => none
    | _ => none
  | _ => none
noncomputable def clearE (p : Program) (h : T O) (ts : List TypeId) (x : Value) : Option (Value × Eff) := match ts with
  | t :: _ => match p.underlying t, x with
    | some (.slice e), .slice base n _ => match n, base with
      | 0, _ => some (.tuple ⟨[]⟩, .rd [])
      | n, some ⟨b, o, none⟩ => match zeroT p e, rowAt h b with
        | some z, some (c, g) => match Nat.blt 0 (cellsL z).length && (Nat.ble (Nat.add o (Nat.mul n (cellsL z).length)) c.length && (cellsL z).all oneV) with
          | true => forceL (lay c o (times (cellsL z) n)) fun c => some (.tuple ⟨[]⟩, .set b (g c))
          | false => none
        | _, _ => none
      | _, _ => none
    | _, _ => none
  | _ => none
noncomputable def lenE (p : Program) (h : T O) (ts : List TypeId) (x : Value) : Option (Value × Eff) := match ts with
  | t :: _ => match p.underlying t, x with
    | some .string, .string s => some (.int .i64 (.ofNat s.size), .rd [])
    | some (.array n _), _ => some (.int .i64 (.ofNat n), .rd [])
    | some (.slice _), .slice _ n _ => some (.int .i64 (.ofNat n), .rd [])
    | some (.map _ _), .map none => some (.int .i64 0, .rd [])
    | some (.map _ _), .map (some b) => match h.get b with
      | some (.map es _) => some (.int .i64 (.ofNat es.length), .rd [b])
      | _ => none
    | _, _ => none
  | _ => none
/-- string(bytes). -/
def bytesOf : List Value → Option (List UInt8)
  | [] => some []
  | .int .u8 n :: l => (bytesOf l).map (UInt8.ofNat n.toNat :: ·)
  | _ => none
noncomputable def convE (p : Program) (h : T O) (s d : TypeId) (x : Value) : Option (Value × Eff) := match x with
  | .slice (some ⟨b, o, none⟩) l c => match p.underlying s, p.underlying d with
    | some (.slice e), some .string => match p.underlying e, rowOf h b with
      | some (.int .u8), some r => match Nat.ble (Nat.add o l) r.length, bytesOf (cut r o l) with
        | true, some bs => some (.string ⟨⟨bs⟩⟩, .rd [b])
        | _, _ => none
      | _, _ => none
    | _, _ => none
  | x => match flat 4 x with
    | true => flatE p (convert s d x)
    | false => none
noncomputable def builtinE (p : Program) (h : T O) (nx : Nat) (b : Builtin) (ts : List TypeId) (ty : TypeId) (vs : List Value) : Option (Value × Eff) := match b, vs with
  | .append, [s, x] => appendE p h nx ts s x
  | .copy, [d, s] => copyE p h ts d s
  | .len, [x] => lenE p h ts x
  | .clear, [x] => clearE p h ts x
  | .delete, [m, k] => match ts with | t :: _ => deleteE p h t m k | [] => none
  | .min, vs => match flats vs with | true => flatE p (Builtin.min_ ⟨ts⟩ ty ⟨vs⟩) | false => none
  | .max, vs => match flats vs with | true => flatE p (Builtin.max_ ⟨ts⟩ ty ⟨vs⟩) | false => none
  | .complex, vs => match flats vs with | true => flatE p (Builtin.complex_ ⟨ts⟩ ty ⟨vs⟩) | false => none
  | .real, vs => match flats vs with | true => flatE p (Builtin.real_ ⟨ts⟩ ty ⟨vs⟩) | false => none
  | .imag, vs => match flats vs with | true => flatE p (Builtin.imag_ ⟨ts⟩ ty ⟨vs⟩) | false => none
  | _, _ => none
noncomputable def evs (a : A) : List Operand → List Value
  | [] => []
  | x :: l => a.ev x :: evs a l
noncomputable def evps (a : A) : List (Nat × Operand) → List (Nat × Value)
  | [] => []
  | (i, x) :: l => (i, a.ev x) :: evps a l
def extractE (x : Value) (i : Nat) : Option (Value × Eff) := match x with
  | .tuple ⟨vs⟩ => (nth vs i).map fun v => (v, .rd [])
  | _ => none
def un (x : Value) (s : Option (Value × Eff)) : Option (Value × Eff) := match flat 4 x with | true => s | false => none

noncomputable def boxE (nx : Nat) (x : Value) : Option (Value × Eff) := match known x with
  | true => forceL (cellsL x) fun cs => some (ptr nx, .new (.cells cs))
  | false => none
/-- An operation that enters no function. -/
noncomputable def opE (p : Program) (a : A) (h : T O) (nx : Nat) (o : Op) (ty : TypeId) : Option (Value × Eff) :=
  match o with
  | .move x => some (a.ev x, .rd [])
  | .assign x => some (a.ev x, .rd [])
  | .pick c x y => pickE (a.ev c) (a.ev x) (a.ev y)
  | .alloc t => allocE p nx t
  | .box _ x => boxE nx (a.ev x)
  | .build t ⟨ps⟩ => buildE p t (evps a ps)
  | .buildSlice t n ⟨ps⟩ => buildSliceE p nx t n (evps a ps)
  | .load t x => loadE p h t (a.ev x)
  | .store t x v => storeE p h t (a.ev x) (a.ev v)
  | .nilCheck x => nilCheckE (a.ev x)
  | .binOp op t x y _ => binE p op t x y (a.ev x) (a.ev y)
  | .unOp op _ x => un (a.ev x) (flatE p (Op.unary op (a.ev x)))
  | .convert s d x => convE p h s d (a.ev x)
  | .fieldAddr t x f => fieldAddrE p t (a.ev x) f
  | .field t x f => fieldE p t (a.ev x) f
  | .indexAddr t x i => indexAddrE p t (a.ev x) (a.ev i)
  | .index t x i => indexE p t (a.ev x) (a.ev i)
  | .slice t x lo hi mx => sliceE p h t (a.ev x) (lo.map a.ev) (hi.map a.ev) (mx.map a.ev)
  | .makeFunc (.func f) ⟨x⟩ ⟨y⟩ => some (.func (.func f) ⟨evs a x⟩ ⟨evs a y⟩, .rd [])
  | .makeMap _ none => some (.map (some nx), .new (.map [] 0))
  | .makeSlice t l c => makeSliceE p nx t (a.ev l) (a.ev c)
  | .lookup t m k ok => lookupE p h t (a.ev m) (a.ev k) ok
  | .mapUpdate t m k v => mapSetE p h t (a.ev m) (a.ev k) (a.ev v)
  | .insert t m k v => mapSetE p h t (a.ev m) (a.ev k) (a.ev v)
  | .extract x i => extractE (a.ev x) i
  | .call { callee := .builtin b, args := ⟨xs⟩, argTypes := ⟨ts⟩ } => builtinE p h nx b ts ty (evs a xs)
  | _ => none

/-! ### control -/
inductive X where
  | normal | exit (id : Nat) | goto (l : Nat) | ret
/-- What is called. -/
inductive Req where
  | fn (f : FuncId) (args : List Value)
  | yield (l : Nat) (args : List Value)
abbrev R := Option (X × A × H)
abbrev Cl := Req → H → Option (Value × H)

noncomputable def A.put (a : A) (d : Option Tmp) (v : Value) : Option A := match d with
  | none => some a
  | some d => match Nat.blt d a.size with
    | true => force v fun v => a.t.setK d (some v) fun t => some ⟨a.size, t, a.ds⟩
    | false => none
noncomputable def Eff.run (e : Eff) (h : H) : H := match e with
  | .rd _ => h
  | .new o => h.t.setK h.next (some o) fun t => forceN (Nat.succ h.next) fun n => ⟨t, n⟩
  | .grow o => h.t.setK h.next (some o) fun t => forceN (Nat.succ h.next) fun n => ⟨t, n⟩
  | .set b o => h.t.setK b (some o) fun t => ⟨t, h.next⟩
  | .shift b _ o => h.t.setK b none fun t => t.setK h.next (some o) fun t => forceN (Nat.succ h.next) fun n => ⟨t, n⟩
/-- a call's callee and what it is handed. -/
noncomputable def reqE (a : A) (c : Call) : Option Req := match c.callee with
  | .value f => match a.ev f with
    | .func (.func g) ⟨first⟩ ⟨cap⟩ => some (.fn g (first ++ evs a c.args.toList ++ cap))
    | .func (.yield l) ⟨[]⟩ ⟨[]⟩ => some (.yield l (evs a c.args.toList))
    | _ => none
  | _ => none
/-- a function of the library's that has no body: over flat values. -/
noncomputable def extE (p : Program) (g : FuncId) (args : List Value) : Option Value := match flats args with
  | true => match prog p (callFunc g ⟨args⟩) with
    | some (.value v) => match flat 4 v with | true => some v | false => none
    | _ => none
  | false => none
def hasBody (p : Program) (g : FuncId) : Bool := match p.funcs[g]? with
  | some fn => match fn.body with
    | some _ => !(fn.name == "runtime.NumGoroutine")
    | none => false
  | none => false
noncomputable def callE (cl : Cl) (p : Program) (r : Req) (h : H) : Option (Value × H) := match r with
  | .yield l args => cl (.yield l args) h
  | .fn g args => match hasBody p g with
    | true => cl (.fn g args) h
    | false => (extE p g args).map fun v => (v, h)
/-- How an operation acts: it reads blocks; it makes a block; it does more. -/
inductive K where
  | simple (r : List Nat)
  | fresh (b : Nat)
  | heavy
def Eff.kind (e : Eff) (nx : Nat) : K := match e with
  | .rd r => .simple r
  | .new _ => .fresh nx
  | _ => .heavy
noncomputable def enterE (cl : Cl) (p : Program) (a : A) (h : H) (o : Op) : Option (Value × H) := match o with
  | .call c => match reqE a c with
    | some r => callE cl p r h
    | none => none
  | _ => none
/-- One operation: the value, the heap, how it acted. -/
noncomputable def stepE (cl : Cl) (p : Program) (a : A) (h : H) (o : Oper) : Option (Value × H × K) :=
  match opE p a h.t h.next o.op o.type with
  | some (v, e) => some (v, e.run h, e.kind h.next)
  | none => match enterE cl p a h o.op with
    | some (v, h') => some (v, h', .heavy)
    | none => none
/-! equality of values (of integers, pointers and what is made of them; no answer is 'unlike') -/
noncomputable def sameV : Nat → Value → Value → Bool
  | 0, _, _ => false
  | n + 1, x, y => match x, y with
    | .bool a, .bool b => Bool.rec (Bool.rec true false b) b a
    | .int k a, .int k' b => decide (k = k') && decide (a = b)
    | .pointer none, .pointer none => true
    | .pointer (some ⟨a, o, none⟩), .pointer (some ⟨b, q, none⟩) => Nat.beq a b && Nat.beq o q
    | .slice none l k, .slice none l' k' => Nat.beq l l' && Nat.beq k k'
    | .slice (some ⟨a, o, none⟩) l k, .slice (some ⟨b, q, none⟩) l' k' => Nat.beq a b && (Nat.beq o q && (Nat.beq l l' && Nat.beq k k'))
    | .map none, .map none => true
    | .map (some a), .map (some b) => Nat.beq a b
    | .nilFunc, .nilFunc => true
    | .nilIface, .nilIface => true
    | .string a, .string b => decide (a.data.toList = b.data.toList)
    | .agg ⟨x⟩, .agg ⟨y⟩ => sameL n x y
    | .func (.func f) ⟨x⟩ ⟨y⟩, .func (.func g) ⟨x'⟩ ⟨y'⟩ => Nat.beq f g && (sameL n x x' && sameL n y y')
    | _, _ => false
where
  sameL (n : Nat) : List Value → List Value → Bool
    | [], [] => true
    | x :: l, y :: m => sameV n x y && sameL n l m
    | _, _ => false
noncomputable def sameE : List E → List E → Bool
  | [], [] => true
  | x :: l, y :: m => sameV 4 x.key y.key && (sameV 4 x.val y.val && (Nat.beq x.born y.born && sameE l m))
  | _, _ => false
noncomputable def sameO : Option O → Option O → Bool
  | some (.cells x), some (.cells y) => sameV.sameL 4 x y
  | some (.ro x), some (.ro y) => sameV.sameL 4 x y
  | some (.opn z x), some (.opn z' y) => Nat.beq z z' && sameV.sameL 4 x y
  | some (.map x c), some (.map y d) => Nat.beq c d && sameE x y
  | _, _ => false
/-- Is it to be carried out? (None: it can't be said.) -/
noncomputable def wantE (ops : List Oper) (a : A) (o : Oper) : Option Bool := match o.guard with
  | none => some true
  | some (j, w) => match nth ops j with
    | some o' => match o'.dst with
      | some d => match a.get d with
        | .bool b => some (Bool.rec (Bool.rec true false w) w b)
        | .tuple ⟨[]⟩ => some false
        | _ => none
      | none => some false
    | none => some false
noncomputable def regE (cl : Cl) (p : Program) (all : List Oper) : List Oper → A → H → Option (A × H)
  | [], a, h => some (a, h)
  | o :: l, a, h => match wantE all a o with
    | none => none
    | some false => match a.put o.dst undef with
      | some a => regE cl p all l a h
      | none => none
    | some true => match stepE cl p a h o with
      | some (v, h, _) => match a.put o.dst v with
        | some a => regE cl p all l a h
        | none => none
      | none => none

/-- An operation that was carried out: its place, how it acted, the heap before and behind it. -/
structure Rec where
  i : Nat
  k : K
  h : T O
  h' : T O
noncomputable def calm (h h' : T O) : List Nat → Bool
  | [] => true
  | b :: l => sameO (h.get b) (h'.get b) && calm h h' l
def nothing : Option O → Bool
  | none => true
  | some _ => false
noncomputable def lacks (c : Nat) : List Nat → Bool
  | [] => true
  | b :: l => Bool.rec (lacks c l) false (Nat.beq c b)
/-- Does what is carried out now (at place i, behind the operations of 'bits') go with what was carried out ahead of it? -/
noncomputable def goesWith (bits : Nat) (k : K) (h h' : T O) (r : Rec) : Bool := match Nat.testBit bits r.i with
  | true => true
  | false => match r.k, k with
    | .simple _, .simple _ => true
    | .simple rs, .fresh c => lacks c rs
    | .simple rs, .heavy => calm h h' rs
    | .fresh c, .simple rs => lacks c rs
    | .heavy, .simple rs => calm r.h r.h' rs
    | .fresh _, .fresh _ => true
    | .heavy, .fresh c => nothing (r.h.get c) && nothing (r.h'.get c)
    | _, .heavy => false
noncomputable def goesAll (bits : Nat) (k : K) (h h' : T O) : List Rec → Bool
  | [] => true
  | r :: l => goesWith bits k h h' r && goesAll bits k h h' l
/-- what stands behind what, through all steps. -/
def bitsOf (bs : List (Nat × Nat)) (i : Nat) : List Edge → Option Nat
  | [] => some 0
  | e :: l => match bitsOf bs i l with
    | none => none
    | some s => match Region.binds .any e with
      | false => some s
      | true => match Nat.blt e.on i with
        | true => match bs.find? (fun x => Nat.beq x.1 e.on) with
          | some (_, b) => some (Nat.lor s (Nat.lor b (Nat.shiftLeft 1 e.on)))
          | none => none
        | false => none
def apartAll (ops : Array Oper) (bits : Nat) (o : Oper) : List Oper → Nat → Bool
  | [], _ => true
  | x :: l, j => (Nat.testBit bits j || Oper.apart ops x o) && apartAll ops bits o l (Nat.succ j)
noncomputable def regD (cl : Cl) (p : Program) (all : Array Oper) : List Oper → Nat → List (Nat × Nat) → List Rec → A → H → Option (A × H)
  | [], _, _, _, a, h => some (a, h)
  | o :: l, i, bs, rs, a, h => match bitsOf bs i o.after.toList with
    | none => none
    | some bits => match apartAll all bits o (all.toList.take i) 0 with
      | false => none
      | true => match wantE all.toList a o with
        | none => none
        | some false => match a.put o.dst undef with
          | some a => regD cl p all l (Nat.succ i) ((i, bits) :: bs) rs a h
          | none => none
        | some true => match stepE cl p a h o with
          | some (v, h', k) => match goesAll bits k h.t h'.t rs with
            | true => match a.put o.dst v with
              | some a => regD cl p all l (Nat.succ i) ((i, bits) :: bs) (⟨i, k, h.t, h'.t⟩ :: rs) a h'
              | none => none
            | false => none
          | none => none

/-- how often a loop goes round, at most. -/
def lots : Nat := 1000000
noncomputable def again (body : A → H → R) : Nat → A → H → R :=
  Nat.rec (motive := fun _ => A → H → R) (fun _ _ => none) fun _ ih a h => match body a h with
    | some (.normal, a, h) => ih a h
    | r => r
noncomputable def goes (rest : Nat → Option (A → H → R)) : Nat → R → R :=
  Nat.rec (motive := fun _ => R → R) (fun _ => none) fun _ ih r => match r with
    | some (.goto l, a, h) => match rest l with
      | some g => ih (g a h)
      | none => some (.goto l, a, h)
    | r => r
noncomputable def outOf (id : Nat) (r : R) : R := match r with
  | some (.exit id', a, h) => match Nat.beq id' id with
    | true => some (.normal, a, h)
    | false => some (.exit id', a, h)
  | r => r
noncomputable def thenE (r : R) (k : A → H → R) : R := match r with
  | some (.normal, a, h) => k a h
  | r => r
noncomputable def condE (c : Value) (x y : R) : R := match c with
  | .bool true => x
  | .bool false => y
  | _ => none
/-- goes through a range over a function, whose loop is laid at l. -/
noncomputable def rangeB (cl : Cl) (p : Program) (fn : FuncId) (f : Operand) (ps : List Tmp) (assign body : Code) (a : A) (ds : List Nat) (h : H) : R :=
  h.t.setK h.next (some (.loop .ready none fn a.size a.t ps assign body)) fun t => forceN (Nat.succ h.next) fun n =>
    match a.ev f with
    | .func (.func g) ⟨first⟩ ⟨cap⟩ => match callE cl p (.fn g (first ++ [.func (.yield h.next) ⟨[]⟩ ⟨[]⟩] ++ cap)) ⟨t, n⟩ with
      | none => none
      | some (_, h') => match h'.t.get h.next with
        | some (.loop st pending fn' sz tm ps' as bd) => match st with
          | .busy => none
          | _ => h'.t.setK h.next (some (.loop .exhausted pending fn' sz tm ps' as bd)) fun t => match pending with
            | none => some (.normal, ⟨a.size, a.t, ds⟩, ⟨t, h'.next⟩)
            | some .ret => some (.ret, ⟨a.size, a.t, ds⟩, ⟨t, h'.next⟩)
            | some (.exit id) => some (.exit id, ⟨a.size, a.t, ds⟩, ⟨t, h'.next⟩)
            | some (.goto id) => some (.goto id, ⟨a.size, a.t, ds⟩, ⟨t, h'.next⟩)
            | _ => none
        | _ => none
    | _ => none
noncomputable def rangeE (cl : Cl) (p : Program) (fn : FuncId) (rd : Option Nat) (f : Operand) (ps : List Tmp) (assign body : Code) (a : A) (h : H) : R :=
  match rd with
  | none => h.t.setK h.next (some .deferred) fun t => forceN (Nat.succ h.next) fun n => rangeB cl p fn f ps assign body a (h.next :: a.ds) ⟨t, n⟩
  | some l => match h.t.get l with
    | some (.loop ..) => rangeB cl p fn f ps assign body a a.ds h
    | _ => none
noncomputable def codeE (cl : Cl) (p : Program) (fn : FuncId) (rd : Option Nat) (c : Code) : (A → H → R) × (Nat → Option (A → H → R)) :=
  Code.rec (motive := fun _ => (A → H → R) × (Nat → Option (A → H → R)))
    (skip := ⟨fun a h => some (.normal, a, h), fun _ => none⟩)
    (region := fun _ ops d => ⟨fun a h => match (match d with | false => regE cl p ops.toList ops.toList a h | true => regD cl p ops ops.toList 0 [] [] a h) with | some (a, h) => some (.normal, a, h) | none => none, fun _ => none⟩)
    (seq := fun _ _ x y => ⟨fun a h => thenE (x.1 a h) y.1, fun l => match x.2 l with | some g => some fun a h => thenE (g a h) y.1 | none => y.2 l⟩)
    (cond := fun c _ _ x y => ⟨fun a h => condE (a.ev c) (x.1 a h) (y.1 a h), fun _ => none⟩)
    (block := fun id _ b => ⟨fun a h => outOf id (b.1 a h), fun _ => none⟩)
    (loop := fun _ b => ⟨fun a h => again b.1 lots a h, fun _ => none⟩)
    (rangeFunc := fun f ps assign body _ _ => ⟨fun a h => rangeE cl p fn rd f ps.toList assign body a h, fun _ => none⟩)
    (exit := fun id => ⟨fun a h => some (.exit id, a, h), fun _ => none⟩)
    (scope := fun _ b => ⟨fun a h => goes b.2 lots (b.1 a h), fun _ => none⟩)
    (label := fun l => ⟨fun a h => some (.normal, a, h), fun l' => Bool.rec none (some fun a h => some (.normal, a, h)) (Nat.beq l l')⟩)
    (goto := fun l => ⟨fun a h => some (.goto l, a, h), fun _ => none⟩)
    (ret := ⟨fun a h => some (.ret, a, h), fun _ => none⟩)
    (refuse := fun _ => ⟨fun _ _ => none, fun _ => none⟩) c

/-- lays a list into a trie, from a place on. -/
noncomputable def layT {β : Type} (l : List Value) : Nat → T Value → (T Value → β) → β :=
  List.rec (motive := fun _ => Nat → T Value → (T Value → β) → β) (fun _ t k => k t) (fun x _ ih n t k => force x fun x => t.setK n (some x) fun t => ih (Nat.succ n) t k) l
noncomputable def resE (p : Program) (h : T O) (a : A) : List ResultVar → Option (List Value)
  | [] => some []
  | .tmp t :: l => (resE p h a l).map (a.get t :: ·)
  | .cell x t :: l => match loadE p h t (a.get x), resE p h a l with
    | some (v, _), some vs => some (v :: vs)
    | _, _ => none
noncomputable def dropDs (h : H) : List Nat → Option H
  | [] => some h
  | d :: l => match h.t.get d with
    | some .deferred => h.t.setK d none fun t => dropDs ⟨t, h.next⟩ l
    | _ => none
def one (vs : List Value) : Value := match vs with | [v] => v | vs => .tuple ⟨vs⟩
noncomputable def leaveE (p : Program) (fn : Func) (a : A) (h : H) : Option (Value × H) := match dropDs h a.ds with
  | some h => match resE p h.t a fn.results.toList with
    | some vs => force (one vs) fun v => some (v, h)
    | none => none
  | none => none
noncomputable def layP {β : Type} (ps : List Tmp) : List Value → T Value → (T Value → β) → β :=
  List.rec (motive := fun _ => List Value → T Value → (T Value → β) → β) (fun _ t k => k t) (fun d _ ih vs t k => match vs with
    | v :: vs => force v fun v => t.setK d (some v) fun t => ih vs t k
    | [] => k t) ps
def jumpOf : X → Option Code
  | .normal => none
  | .ret => some .ret
  | .exit id => some (.exit id)
  | .goto l => some (.goto l)
noncomputable def evalE (p : Program) : Nat → Cl :=
  Nat.rec (motive := fun _ => Cl) (fun _ _ => none) fun _ cl r h => match r with
    | .fn f args => match p.funcs[f]? with
      | some fn => match fn.body with
        | some b => layT args 0 .leaf fun t => match (codeE cl p f none b).1 ⟨Nat.max fn.ntmps args.length, t, []⟩ h with
          | some (.normal, a, h) => leaveE p fn a h
          | some (.ret, a, h) => leaveE p fn a h
          | _ => none
        | none => none
      | none => none
    | .yield l args => match h.t.get l with
      | some (.loop .ready pending fn sz tm ps assign body) =>
        match Nat.beq ps.length args.length && ps.all (fun d => Nat.blt d sz) with
        | false => none
        | true => layP ps args tm fun t => match (codeE cl p fn (some l) assign).1 ⟨sz, t, []⟩ h with
          | some (.normal, a, h) => match h.t.get l with
            | some (.loop .ready pending fn sz tm ps assign body) => h.t.setK l (some (.loop .busy pending fn sz tm ps assign body)) fun t =>
              match (codeE cl p fn (some l) body).1 a ⟨t, h.next⟩ with
              | some (x, a, h) => match a.ds with
                | [] => match h.t.get l with
                  | some (.loop _ _ fn sz tm ps assign body) => match jumpOf x with
                    | none => h.t.setK l (some (.loop .ready none fn sz tm ps assign body)) fun t => some (.bool true, ⟨t, h.next⟩)
                    | some j => h.t.setK l (some (.loop .done (some j) fn sz tm ps assign body)) fun t => some (.bool false, ⟨t, h.next⟩)
                  | _ => none
                | _ => none
              | none => none
            | _ => none
          | _ => none
      | _ => none
attribute [irreducible] big lots
end Go.Eng
