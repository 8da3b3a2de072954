/-
  PROVED HERE: steps of the machine that the evaluator's control stands for; regions that are carried out in their order.
-/
import Derived.Test.YtlcladdlhllkcaaGreatDoorE11
namespace Go.Eng
set_option linter.unusedVariables false
set_option linter.unusedSimpArgs false
variable {P : Program}

/-- A frame: its function, and the loop whose round it is. -/
structure Fx where
  fn : FuncId
  rd : Option Nat
def Fx.at (F : Fx) (x : Act) (todo : List Item) : Frame := { fn := F.fn, tmps := x.tmps, todo := todo, defers := x.defers, mode := .run, kind := .normal, roundOf := F.rd }
theorem Fx.eval (F : Fx) (x : Act) (todo : List Item) : (F.at x todo).eval = x.eval := by funext y; cases y <;> rfl
section moves
variable {F : Fx} {x : Act} {k : List Item} {cs : List Frame} {w : World}
theorem st_skip : step P (lone (F.at x (.code .skip :: k)) cs w) = .next (lone (F.at x k) cs w) := step_lone_go (by simp [stepG, stepG.exec, Fx.at])
theorem st_label {l : Nat} : step P (lone (F.at x (.code (.label l) :: k)) cs w) = .next (lone (F.at x k) cs w) := step_lone_go (by simp [stepG, stepG.exec, Fx.at])
theorem st_inBlock {id : Nat} : step P (lone (F.at x (.inBlock id :: k)) cs w) = .next (lone (F.at x k) cs w) := step_lone_go (by simp [stepG, stepG.exec, Fx.at])
theorem st_inScope {b : Code} : step P (lone (F.at x (.inScope b :: k)) cs w) = .next (lone (F.at x k) cs w) := step_lone_go (by simp [stepG, stepG.exec, Fx.at])
theorem st_seq {a b : Code} : step P (lone (F.at x (.code (.seq a b) :: k)) cs w) = .next (lone (F.at x (.code a :: .code b :: k)) cs w) := step_lone_go (by simp [stepG, stepG.exec, Fx.at])
theorem st_cond {c : Operand} {a b : Code} {t : Bool} (h : x.eval c = .bool t) : step P (lone (F.at x (.code (.cond c a b) :: k)) cs w) = .next (lone (F.at x (.code (if t then a else b) :: k)) cs w) :=
  step_lone_go (by
    have := congrFun (Fx.eval F x (.code (.cond c a b) :: k)) c
    simp only [Fx.at] at this
    simp [stepG, stepG.exec, Fx.at, this, h])
theorem st_block {id : Nat} {c : Code} : step P (lone (F.at x (.code (.block id c) :: k)) cs w) = .next (lone (F.at x (.code c :: .inBlock id :: k)) cs w) := step_lone_go (by simp [stepG, stepG.exec, Fx.at])
theorem st_loop {c : Code} : step P (lone (F.at x (.code (.loop c) :: k)) cs w) = .next (lone (F.at x (.code c :: .inLoop c :: k)) cs w) := step_lone_go (by simp [stepG, stepG.exec, Fx.at])
theorem st_inLoop {c : Code} : step P (lone (F.at x (.inLoop c :: k)) cs w) = .next (lone (F.at x (.code c :: .inLoop c :: k)) cs w) := step_lone_go (by simp [stepG, stepG.exec, Fx.at])
theorem st_scope {c : Code} : step P (lone (F.at x (.code (.scope c) :: k)) cs w) = .next (lone (F.at x (.code c :: .inScope c :: k)) cs w) := step_lone_go (by simp [stepG, stepG.exec, Fx.at])
theorem st_exit {id : Nat} {k' : List Item} (h : exitTo id k = some k') : step P (lone (F.at x (.code (.exit id) :: k)) cs w) = .next (lone (F.at x k') cs w) := step_lone_go (by simp [stepG, stepG.exec, Fx.at, h])
theorem st_goto {l : Nat} {k' : List Item} (h : gotoIn l k = some k') : step P (lone (F.at x (.code (.goto l) :: k)) cs w) = .next (lone (F.at x k') cs w) := step_lone_go (by simp [stepG, stepG.exec, Fx.at, h])
theorem st_region {id : Nat} {ops : Array Oper} : step P (lone (F.at x (.code (.region id ops false) :: k)) cs w) = .next (lone (F.at x (.inRegion ops (List.range ops.size) :: k)) cs w) := step_lone_go (by simp [stepG, stepG.exec, Fx.at])
theorem st_region_draw {id : Nat} {ops : Array Oper} : step P (lone (F.at x (.code (.region id ops true) :: k)) cs w) = .next (lone (F.at x (.inRegion ops (Region.schedule (P.follows .mixedOrders) ops (w.tape w.drawn (.order F.fn id))) :: k)) cs { w with drawn := w.drawn + 1 }) :=
  step_lone_go (by simp [stepG, stepG.exec, Fx.at, choose, Sem.run, Question.forced, Question.cut])
theorem st_region_end {ops : Array Oper} : step P (lone (F.at x (.inRegion ops [] :: k)) cs w) = .next (lone (F.at x k) cs w) := step_lone_go (by simp [stepG, stepG.exec, Fx.at])
theorem finish_at (ops : Array Oper) (i : Nat) (rest : List Nat) (v : Value) : (F.at x (.inRegion ops (i :: rest) :: k)).finish v = F.at (x.put ((ops[i]?).bind (·.dst)) v) (.inRegion ops rest :: k) := by
  cases h : (ops[i]?).bind (·.dst) <;> simp [Frame.finish, Fx.at, Act.put, h]
theorem st_op_skip {ops : Array Oper} {i : Nat} {rest : List Nat} (h : ((ops[i]?).map (Region.wanted · (yielded ops x.tmps))).getD false = false) :
    step P (lone (F.at x (.inRegion ops (i :: rest) :: k)) cs w) = .next (lone (F.at (x.put ((ops[i]?).bind (·.dst)) undef) (.inRegion ops rest :: k)) cs w) := by
  rw [← finish_at]
  exact step_lone_go (by
    have h' := h
    simp only [Fx.at] at *
    simp [stepG, stepG.exec, h'])
theorem stepG_op' {ops : Array Oper} {i : Nat} {rest : List Nat} {o : Oper} (ho : ops[i]? = some o) (hw : Region.wanted o (yielded ops x.tmps) = true) (hd : ∀ c, o.op ≠ .defer c) :
    stepG P true { frame := F.at x (.inRegion ops (i :: rest) :: k), callers := cs, status := .running, dying := none } w = stepG.apply P true (F.at x (.inRegion ops (i :: rest) :: k)) cs none (execOp x.eval o) w := by
  have he := Fx.eval F x (.inRegion ops (i :: rest) :: k)
  simp only [Fx.at] at he
  have h1 : stepG P true { frame := F.at x (.inRegion ops (i :: rest) :: k), callers := cs, status := .running, dying := none } w = stepG.oper P true (F.at x (.inRegion ops (i :: rest) :: k)) cs none w := by
    simp [stepG, stepG.exec, Fx.at, ho, hw]
  rw [h1]
  unfold stepG.oper
  simp only [Frame.oper?, Fx.at, ho]
  split
  · rename_i l c h1 h2; exact absurd h2 (hd c)
  · rw [he]
end moves

/-- A call, begun by s in w, gives v in w'. -/
inductive Goes (P : Program) (s : Sem Next) (w : World) (v : Value) (w' : World) : Prop where
  | value (h : s.run P w = .ok (.value v) w')
  | skip (h : s.run P w = .ok .skip w') (hv : v = undef)
  | enter (f : FuncId) (args : Array Value) (w1 : World) (h : s.run P w = .ok (.enter f args) w1) (hs : ∀ caller cs, Steps P (lone (Frame.enter P f args .normal) (caller :: cs) w1) (lone (caller.finish v) cs w'))
  | round (l : Nat) (f : FuncId) (tm : Array Value) (as bd : Code) (w1 : World) (h : s.run P w = .ok (.round l f tm as bd) w1) (hs : ∀ caller cs, Steps P (lone (Frame.round l f tm as bd .normal) (caller :: cs) w1) (lone (caller.finish v) cs w'))
theorem no_defer {s : Sem Next} {o : Oper} {ρ : Operand → Value} {w w' : World} {v : Value} (h : Goes P (execOp ρ o) w v w') (c : Call) : o.op ≠ .defer c := by
  intro hc
  have key : ∀ n w1, (execOp ρ o).run P w = .ok n w1 → ∃ d, n = .defer d := by
    intro n w1 hr
    have : execOp ρ o = (do pure (.defer (← resolve ρ c o.type)) : Sem Next) := by
      obtain ⟨dst, op, type, pos, after, guard⟩ := o
      dsimp only at hc
      subst hc
      rfl
    rw [this, Sem.run_bind] at hr
    cases hq : (resolve ρ c o.type).run P w with
    | ok d w2 => rw [hq] at hr; simp only [Result.andThen_ok, Sem.run_pure] at hr; cases hr; exact ⟨_, rfl⟩
    | halt e w2 => rw [hq] at hr; cases hr
  cases h with
  | value h => obtain ⟨d, hd⟩ := key _ _ h; cases hd
  | skip h => obtain ⟨d, hd⟩ := key _ _ h; cases hd
  | enter f args w1 h => obtain ⟨d, hd⟩ := key _ _ h; cases hd
  | round l f tm as bd w1 h => obtain ⟨d, hd⟩ := key _ _ h; cases hd
theorem goes_step {F : Fx} {x : Act} {k : List Item} {cs : List Frame} {w w' : World} {ops : Array Oper} {i : Nat} {rest : List Nat} {o : Oper} {v : Value} (ho : ops[i]? = some o) (hw : Region.wanted o (yielded ops x.tmps) = true) (h : Goes P (execOp x.eval o) w v w') :
    Steps P (lone (F.at x (.inRegion ops (i :: rest) :: k)) cs w) (lone (F.at (x.put o.dst v) (.inRegion ops rest :: k)) cs w') := by
  have hd := no_defer (s := execOp x.eval o) h
  have hg := stepG_op' (P := P) (F := F) (x := x) (k := k) (cs := cs) (w := w) (rest := rest) ho hw hd
  have hfin : ∀ v, (F.at x (.inRegion ops (i :: rest) :: k)).finish v = F.at (x.put o.dst v) (.inRegion ops rest :: k) := fun v => by rw [finish_at, ho]; rfl
  cases h with
  | value h => exact .one (step_lone_go (by rw [hg, ← hfin]; simp [stepG.apply, h]))
  | skip h hv => subst hv; exact .one (step_lone_go (by rw [hg, ← hfin]; simp [stepG.apply, h]))
  | enter f args w1 h hs =>
    refine .head (m₁ := lone (Frame.enter P f args .normal) (F.at x (.inRegion ops (i :: rest) :: k) :: cs) w1) (step_lone_go (by rw [hg]; simp [stepG.apply, h, Fx.at])) ?_
    have := hs (F.at x (.inRegion ops (i :: rest) :: k)) cs
    rwa [hfin] at this
  | round l f tm as bd w1 h hs =>
    refine .head (m₁ := lone (Frame.round l f tm as bd .normal) (F.at x (.inRegion ops (i :: rest) :: k) :: cs) w1) (step_lone_go (by rw [hg]; simp [stepG.apply, h, Fx.at])) ?_
    have := hs (F.at x (.inRegion ops (i :: rest) :: k)) cs
    rwa [hfin] at this

/-! ### what a call is, by its request -/
/-- No number from lo on, below hi, is known. -/
def Free (c : Cx) (lo hi : Nat) : Prop := ∀ i, lo ≤ i → i < hi → ¬ c.av i
theorem Free.left {c : Cx} {lo mid hi : Nat} (h : Free c lo hi) (hm : mid ≤ hi) : Free c lo mid := fun i a b => h i a (by omega)
theorem Free.right {c c1 : Cx} {lo mid hi : Nat} (h : Free c lo hi) (he : Ext c c1 lo mid) : Free c1 mid hi := fun i a b hav => by
  have := he.le
  rcases (he.av i).1 hav with h1 | h1
  · exact h i (by omega) b h1
  · omega
theorem Ext.gl {c c' : Cx} {lo hi : Nat} (h : Ext c c' lo hi) (g : Gl c) : Gl c' := g.le h.toLe
inductive ReqR (c : Cx) : Req → Sem Next → Prop where
  | fn (f : FuncId) {args args' : List Value} (h : LR c args args') : ReqR c (.fn f args) (callFunc f ⟨args'⟩)
  | yield {l : Nat} (hl : c.av l) {args args' : List Value} (h : LR c args args') : ReqR c (.yield l args) (Instr.yield (c.b l) ⟨args'⟩)
/-- The calls that cl answers are what the machine does. -/
def ClOK (P : Program) (cl : Cl) : Prop := ∀ r h v h', cl r h = some (v, h') → (∀ f args, r = .fn f args → hasBody P f = true) → h.next ≤ h'.next ∧ ∀ c w, Gl c → HR c h.t.get w → Free c h.next h'.next → ∀ s, ReqR c r s →
  ∃ c' w' v', St c h.t.get w c' h'.t.get w' h.next h'.next ∧ VR c' v v' ∧ Goes P s w v' w'
theorem callE_ok {cl : Cl} (hcl : ClOK P cl) {r : Req} {h h' : H} {v : Value} (hv : callE cl P r h = some (v, h')) : h.next ≤ h'.next ∧ ∀ c w, Gl c → HR c h.t.get w → Free c h.next h'.next → ∀ s, ReqR c r s →
    ∃ c' w' v', St c h.t.get w c' h'.t.get w' h.next h'.next ∧ VR c' v v' ∧ Goes P s w v' w' := by
  unfold callE at hv
  split at hv
  · exact hcl _ _ _ _ hv (fun f args h => by cases h)
  · rename_i g args
    split at hv
    · rename_i hb; exact hcl _ _ _ _ hv (fun f args h => by cases h; exact hb)
    · cases hq : extE P g args with
      | none => rw [hq] at hv; cases hv
      | some v0 =>
        rw [hq] at hv; cases hv
        refine ⟨Nat.le_refl _, fun c w hg H _ s hs => ?_⟩
        unfold extE at hq
        split at hq
        · rename_i hf
          split at hq
          · rename_i v1 hp
            split at hq
            · rename_i hfv
              cases hq
              cases hs with
              | fn f hl =>
                rw [flats_eq hf hl]
                exact ⟨c, w, v, St.refl H _, (flat_vr c 4 v hfv).1, .value (prog_run hp w)⟩
            · cases hq
          · cases hq
        · cases hq
theorem reqE_ok {c : Cx} {a : A} {x : Act} {cc : Call} {r : Req} (hr : reqE a cc = some r) (E : ∀ y, y ∈ cc.operands → VR c (a.ev y) (x.eval y)) (type : TypeId) : ∃ s : Sem Next, ReqR c r s ∧ ∀ w, (do let d ← resolve x.eval cc type; invoke d.target d.args : Sem Next).run P w = s.run P w := by
  obtain ⟨callee, args, ats⟩ := cc
  unfold reqE at hr
  dsimp only at hr
  split at hr
  · rename_i f
    have hev := E f (by simp [Call.operands])
    have hargs := evs_lr args.toList fun y hy => E y (by simp [Call.operands]; exact .inr (by simpa using hy))
    have hmap : args.map x.eval = ⟨args.toList.map x.eval⟩ := by apply Array.ext'; simp
    split at hr
    · rename_i gf first cap hfe
      cases hr
      rw [hfe] at hev
      generalize hz : x.eval f = z at hev
      cases hev with
      | func _ h1 h2 =>
        rename_i y1 y2
        refine ⟨_, .fn gf ((h1.append hargs).append h2), fun w => ?_⟩
        simp only [resolve, hz, Deferred.ofValue, Sem.run_bind, Sem.run_pure, Result.andThen_ok, invoke, hmap]
        have : ((⟨y1⟩ : Array Value) ++ ⟨args.toList.map x.eval⟩ ++ ⟨y2⟩) = ⟨y1 ++ args.toList.map x.eval ++ y2⟩ := by apply Array.ext'; simp
        rw [this]
    · rename_i l hfe
      cases hr
      rw [hfe] at hev
      generalize hz : x.eval f = z at hev
      cases hev with
      | yield hl =>
        refine ⟨_, .yield hl hargs, fun w => ?_⟩
        simp only [resolve, hz, Deferred.ofValue, Sem.run_bind, Sem.run_pure, Result.andThen_ok, invoke, hmap]
        have : ((⟨[]⟩ : Array Value) ++ ⟨args.toList.map x.eval⟩) = ⟨args.toList.map x.eval⟩ := by apply Array.ext'; simp
        rw [this]
    · cases hr
  · cases hr
theorem Goes.congr {s s' : Sem Next} {w w' : World} {v : Value} (h : Goes P s w v w') (e : s'.run P w = s.run P w) : Goes P s' w v w' := by
  cases h with
  | value h => exact .value (e.trans h)
  | skip h hv => exact .skip (e.trans h) hv
  | enter f args w1 h hs => exact .enter f args w1 (e.trans h) hs
  | round l f tm as bd w1 h hs => exact .round l f tm as bd w1 (e.trans h) hs
end Go.Eng
