/-
  PROVED HERE: a body's pieces are joined; a call with no arguments that is true.
-/
import Derived.Test.YtlcladdlhllkcaaGreatDoorE26
namespace Go.Eng
set_option linter.unusedVariables false
set_option linter.unusedSimpArgs false
variable {P : Program}
def fs : Code → Code
  | .seq a _ => a
  | c => c
def sn : Code → Code
  | .seq _ b => b
  | c => c
def isSeq : Code → Bool
  | .seq _ _ => true
  | _ => false
theorem Leads.both {fn : FuncId} {rd : Option Nat} {c : Code} {e : X} {a a1 a2 : A} {h h1 h2 : H} (hc : isSeq c = true) (m : Leads P fn rd (fs c) .normal a h a1 h1) (n : Leads P fn rd (sn c) e a1 h1 a2 h2) : Leads P fn rd c e a h a2 h2 := by
  cases c with
  | seq x y => exact m.seq n
  | _ => cases hc
/-- calls_true, with the first state named. -/
theorem calls_true' {f : FuncId} {fn : Func} {b : Code} (hf : P.funcs[f]? = some fn) (hbd : fn.body = some b) {g : Nat} (hg : g < 64) {l : List Value} {h0 h1 h' : H} {a0 a1 : A} {e : X}
    (hl0 : LR Cx.first l l) (hA : a0 = ⟨fn.ntmps, .leaf, []⟩) (hH : h0 = ⟨(T.leaf : T O).set g (some (.ro l)), 64⟩) (hc : Leads P f none b e a0 h0 a1 h1) (he : e = .normal ∨ e = .ret) (hl : leaveE P fn a1 h1 = some (.bool true, h')) (hro : ∃ m, h'.t.get g = some (.ro m))
    {w : World} {ty : TypeId} {fr : Nat × Nat} {post : List Value} (hw : w.heap[g]? = some (.cells ⟨l ++ post⟩ ty fr)) :
    Calls P f #[] w fun e w' => e = .returned (.bool true) ∧ Go.RowKit.Below w.heap.size w w' := by
  subst hA hH
  exact calls_true hf hbd hg hl0 hc he hl hro hw
end Go.Eng
