/-
  PROVED HERE: a call, reckoned in pieces, each with a heap of which only what is still wanted is kept.
-/
import Derived.Test.YtlcladdlhllkcaaGreatDoorE25
import Derived.Below
namespace Go.Eng
set_option linter.unusedVariables false
set_option linter.unusedSimpArgs false
variable {P : Program}

/-- What a trie holds at these numbers, and nothing else. -/
noncomputable def onlyFrom {β : Type} (t : T O) (ids : List Nat) : T O → (T O → β) → β :=
  List.rec (motive := fun _ => T O → (T O → β) → β) (fun s k => k s) (fun i _ ih s k => match t.get i with
    | some x => s.setK i (some x) fun s => ih s k
    | none => ih s k) ids
theorem onlyFrom_cons {β : Type} (t : T O) (i : Nat) (ids : List Nat) (s : T O) (k : T O → β) : onlyFrom t (i :: ids) s k = match t.get i with
    | some x => s.setK i (some x) fun s => onlyFrom t ids s k
    | none => onlyFrom t ids s k := rfl
noncomputable def onlyR (ids : List Nat) (r : R) : R := match r with
  | some (e, a, h) => onlyFrom h.t ids .leaf fun t => some (e, a, ⟨t, h.next⟩)
  | none => none
theorem only_ok {β : Type} (t : T O) : ∀ (ids : List Nat) (s : T O) (k : T O → β), (∀ i x, s.get i = some x → t.get i = some x) → ∃ s', onlyFrom t ids s k = k s' ∧ ∀ i x, s'.get i = some x → t.get i = some x
  | [], s, k, h => ⟨s, rfl, h⟩
  | j :: ids, s, k, h => by
    rw [onlyFrom_cons]
    cases hj : t.get j with
    | none => exact only_ok t ids s k h
    | some y =>
      simp only [T.setK_eq]
      exact only_ok t ids _ k (fun i x hi => by
        rw [T.get_set] at hi
        split at hi
        · rename_i e; cases hi; rw [e, hj]
        · exact h i x hi)
/-- From a and h a piece of code leads to a' and h', by the way out e. -/
def Leads (P : Program) (fn : FuncId) (rd : Option Nat) (c : Code) (e : X) (a : A) (h : H) (a' : A) (h' : H) : Prop :=
  Moves P fn rd a h a' h' fun F x w x' w' => ∀ k cs, Arr P F (lone (F.at x (.code c :: k)) cs w) e x' w' k cs
theorem Moves.less {fn : FuncId} {rd : Option Nat} {a a' : A} {h h' : H} {M : Fx → Act → World → Act → World → Prop} (m : Moves P fn rd a h a' h' M) {t : T O} (ht : ∀ i x, t.get i = some x → h'.t.get i = some x) : Moves P fn rd a h a' ⟨t, h'.next⟩ M :=
  ⟨m.1, fun c w x F g H ha hF hR hfree => have ⟨c', x', w', h1, h2, h3⟩ := m.2 c w x F g H ha hF hR hfree; ⟨c', x', w', h1.sub ht, h2, h3⟩⟩
theorem Leads.of {cl : Cl} (hcl : ClOK P cl) (hm : P.follows .mixedOrders = true) {fn : FuncId} {rd : Option Nat} {c : Code} (ids : List Nat) {e : X} {a a' : A} {h h' : H} (hr : onlyR ids ((codeE cl P fn rd c).1 a h) = some (e, a', h')) : Leads P fn rd c e a h a' h' := by
  cases hq : (codeE cl P fn rd c).1 a h with
  | none => rw [hq] at hr; cases hr
  | some r =>
    obtain ⟨e1, a1, h1⟩ := r
    rw [hq] at hr
    obtain ⟨s, hs, hsub⟩ := only_ok h1.t ids .leaf (fun t => (some (e1, a1, (⟨t, h1.next⟩ : H)) : R)) (fun i x h => by rw [T.get_leaf] at h; cases h)
    have : some (e1, a1, (⟨s, h1.next⟩ : H)) = some (e, a', h') := hs.symm.trans hr
    cases this
    exact ((codeE_ok hcl hm fn rd c).1 _ _ _ _ _ hq).less hsub
theorem Leads.seq {fn : FuncId} {rd : Option Nat} {c d : Code} {e : X} {a a1 a2 : A} {h h1 h2 : H} (m : Leads P fn rd c .normal a h a1 h1) (n : Leads P fn rd d e a1 h1 a2 h2) : Leads P fn rd (.seq c d) e a h a2 h2 :=
  Moves.then m n fun F x w x1 w1 x2 w2 p q k cs => Arr.of (.head st_seq (p (.code d :: k) cs)) (q k cs)
/-- A call of a function whose body leads to its end. -/
theorem call_of {f : FuncId} {fn : Func} {b : Code} (hf : P.funcs[f]? = some fn) (hbd : fn.body = some b) {args : List Value} {t : T Value}
    (ht : ∀ i, t.get i = if 0 ≤ i ∧ i < 0 + args.length then args[i - 0]? else (T.leaf : T Value).get i) {h h1 h' : H} {a1 : A} {e : X} {v : Value}
    (hc : Leads P f none b e ⟨Nat.max fn.ntmps args.length, t, []⟩ h a1 h1) (he : e = .normal ∨ e = .ret) (hl : leaveE P fn a1 h1 = some (v, h')) :
    h.next ≤ h'.next ∧ ∀ c w args', Gl c → HR c h.t.get w → Free c h.next h'.next → LR c args args' → ∃ c' w' v' x, St c h.t.get w c' h'.t.get w' h.next h'.next ∧ VR c' v v' ∧ (results fn x.tmps).run P w' = .ok v' w' ∧
      ∀ cs, ∃ todo, Steps P (lone (Frame.enter P f ⟨args'⟩ .normal) cs w) (lone (Fx.off ⟨f, none⟩ x [] todo) cs w') := by
  obtain ⟨hn1, hrun⟩ := hc
  obtain ⟨hn2, hlv⟩ := leave_ok (P := P) (F := ⟨f, none⟩) hl
  refine ⟨by omega, fun c w args' g H hfree hargs => ?_⟩
  have hlen := hargs.len
  obtain ⟨c1, x1, w1, s1, ha1, harr⟩ := hrun c w ⟨⟨args'⟩ ++ Array.replicate (fn.ntmps - args'.length) undef, []⟩ ⟨f, none⟩ g H
    ⟨by show max fn.ntmps args.length = _; simp [hlen]; omega, layT_tr hargs ht _, rfl, fun d hd => by cases hd⟩ rfl rfl (hn2 ▸ hfree)
  obtain ⟨w2, v', s2, hv, hres, hst⟩ := hlv c1 w1 x1 s1.hr ha1
  refine ⟨c1, w2, v', x1, by rw [hn2]; exact s1.trans s2, hv, hres, fun cs => ?_⟩
  have hen : Frame.enter P f ⟨args'⟩ .normal = Fx.at ⟨f, none⟩ ⟨⟨args'⟩ ++ Array.replicate (fn.ntmps - args'.length) undef, []⟩ [.code b] := by
    simp [Frame.enter, Fx.at, hf, hbd]
  rw [hen]
  rcases he with rfl | rfl
  · have := harr [] cs
    exact ⟨[], .trans (.trans this (.one (st_end rfl))) (hst cs _)⟩
  · obtain ⟨kk, h3⟩ := harr [] cs
    exact ⟨_, .trans (.trans h3 (.one (st_ret rfl))) (hst cs _)⟩
/-- How numbers stand for blocks when a call begins that nothing is told of but the package-level variables. -/
def Cx.first : Cx := ⟨fun i => i < 64, fun i => i, fun _ => 0, fun _ => 0, fun _ => 0⟩
/-- A call with no arguments that knows, of the world, one package-level array of ints and is true. -/
theorem calls_true {f : FuncId} {fn : Func} {b : Code} (hf : P.funcs[f]? = some fn) (hbd : fn.body = some b) {g : Nat} (hg : g < 64) {l : List Value} {h1 h' : H} {a1 : A} {e : X}
    (hl0 : LR Cx.first l l) (hc : Leads P f none b e ⟨fn.ntmps, .leaf, []⟩ ⟨(T.leaf : T O).set g (some (.ro l)), 64⟩ a1 h1) (he : e = .normal ∨ e = .ret) (hl : leaveE P fn a1 h1 = some (.bool true, h')) (hro : ∃ m, h'.t.get g = some (.ro m))
    {w : World} {ty : TypeId} {fr : Nat × Nat} {post : List Value} (hw : w.heap[g]? = some (.cells ⟨l ++ post⟩ ty fr)) :
    Calls P f #[] w fun e w' => e = .returned (.bool true) ∧ Go.RowKit.Below w.heap.size w w' := by
  have hone : ∀ i x, ((T.leaf : T O).set g (some (.ro l))).get i = some x → i = g ∧ x = .ro l := fun i x hi => by
    rw [T.get_set] at hi
    split at hi
    · rename_i e; cases hi; exact ⟨e, rfl⟩
    · rw [T.get_leaf] at hi; cases hi
  have hn : Nat.max fn.ntmps ([] : List Value).length = fn.ntmps := by show max fn.ntmps 0 = _; simp
  obtain ⟨hle, hrun⟩ := call_of (P := P) hf hbd (args := []) (t := .leaf) (fun i => by rw [T.get_leaf]; split <;> simp) (by rw [hn]; exact hc) he hl
  have hlt := (Array.getElem?_eq_some_iff.1 hw).1
  obtain ⟨c', w', v', x, s, hv, hres, hst⟩ := hrun Cx.first w [] (fun i hi => ⟨hi, rfl, rfl⟩) ⟨fun i y hi => by
      obtain ⟨rfl, rfl⟩ := hone i y hi
      exact ⟨hg, [], l, post, ty, fr, by simpa [Cx.first] using hw, rfl, hl0⟩, fun i j y z hi hj _ => (hone i y hi).1.trans (hone j z hj).1.symm⟩
    (fun i hi _ hav => by simp [Cx.first] at hav; have : 64 ≤ i := hi; omega) .nil
  cases hv
  refine fun cs => ⟨.returned (.bool true), w', _, ⟨rfl, s.os, s.tape, s.output, s.size, fun k hk => ?_⟩, (hst cs).choose_spec, rfl, rfl, rfl, rfl, fn, hf, hres⟩
  by_cases hkg : k = g
  · subst hkg
    obtain ⟨m, hm⟩ := hro
    exact (s.ros k m hg hm).2
  · exact s.keep k hk fun i y hi => by
      obtain ⟨rfl, _⟩ := hone i y hi
      exact fun e => hkg e.symm
end Go.Eng
