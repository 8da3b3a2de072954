/-
  PROVED HERE: each operation of the evaluator that only reads is what the model's operation does (the second part).
-/
import Derived.Test.YtlcladdlhllkcaaGreatDoorE4
namespace Go.Eng
set_option linter.unusedVariables false
set_option linter.unusedSimpArgs false
variable {P : Program}

/-- It reads blocks r, and yields what stands for v. -/
def RdOK (P : Program) (c : Cx) (h : T O) (w : World) (v : Value) (e : Eff) (s : Sem Value) : Prop :=
  ∃ r, e = .rd r ∧ ∀ u, HR c u w → (∀ b, b ∈ r → u b = h.get b) → ∃ v', VR c v v' ∧ s.run P w = .ok v' w
theorem RdOK.now {c : Cx} {h : T O} {w : World} {v v' : Value} {e : Eff} {s : Sem Value} (r : List Nat) (he : e = .rd r) (hv : VR c v v') (hs : s.run P w = .ok v' w) : RdOK P c h w v e s :=
  ⟨r, he, fun _ _ _ => ⟨v', hv, hs⟩⟩
theorem flatE_ok {s : Sem Value} {v : Value} {e : Eff} (hv : flatE P s = some (v, e)) : e = .rd [] ∧ flat 4 v = true ∧ ∀ w, s.run P w = .ok v w := by
  unfold flatE at hv
  split at hv
  · rename_i v0 hp
    split at hv
    · rename_i hf; cases hv; exact ⟨rfl, hf, fun w => prog_run hp w⟩
    · cases hv
  · cases hv
theorem RdOK.flat {c : Cx} {h : T O} {w : World} {s : Sem Value} {v : Value} {e : Eff} (hv : flatE P s = some (v, e)) : RdOK P c h w v e s := by
  obtain ⟨he, hf, hr⟩ := flatE_ok hv
  exact .now [] he (flat_vr c 4 v hf).1 (hr w)
theorem load_rd {c : Cx} {h : T O} {w : World} {t : TypeId} {x x' v : Value} {e : Eff} (hv : loadE P h t x = some (v, e)) (hx : VR c x x') : RdOK P c h w v e (Instr.loadAt t x') := by
  unfold loadE at hv
  split at hv
  · rename_i b o
    refine ⟨[b], ?_, fun u H hu => ?_⟩
    · split at hv
      · split at hv
        · cases hv; rfl
        · cases hv
      · cases hv
    · obtain ⟨b', he, hl⟩ := load_ok (u := u) (w := w) (P := P) (c := c) (h := h) (t := t) (x := .pointer (some ⟨b, o, none⟩)) (x' := x') (v := v) (e := e) (by unfold loadE; exact hv) hx
      have : b' = b := by
        split at hv
        · split at hv
          · cases hv; cases he; rfl
          · cases hv
        · cases hv
      subst this
      exact hl H (hu _ (List.mem_cons_self ..))
  · cases hv
theorem pick_rd {c : Cx} {h : T O} {w : World} {x x' y y' z z' v : Value} {e : Eff} (hv : pickE x y z = some (v, e)) (hx : VR c x x') (hy : VR c y y') (hz : VR c z z') :
    RdOK P c h w v e (do pure (if ← asBool x' then y' else z')) := by
  unfold pickE at hv
  split at hv
  · cases hv; cases hx; exact .now [] rfl hy (by simp [asBool])
  · cases hv; cases hx; exact .now [] rfl hz (by simp [asBool])
  · cases hv
theorem nth_arr {α : Type} {l : List α} {i : Nat} {x : α} (h : nth l i = some x) : (⟨l⟩ : Array α)[i]? = some x := by
  rw [← Array.getElem?_toList, ← nth_eq]; exact h
theorem z_lr {c : Cx} {z : Value} (h : flat 4 z = true) : LR c (cellsL z) z.cells.toList := cells_eq (flat_vr c 4 z h).1 (by rintro s rfl; cases h)
theorem build_rd {c : Cx} {h : T O} {w : World} {t : TypeId} {ps ps' : List (Nat × Value)} {v : Value} {e : Eff} (hv : buildE P t ps = some (v, e)) (hp : PR c ps ps') :
    RdOK P c h w v e (Instr.build t ⟨ps'⟩) := by
  unfold buildE at hv
  split at hv
  · rename_i z fs hz hu
    obtain ⟨hz1, hz2⟩ := run_zeroT hz w
    split at hv
    · rename_i pl hpl
      split at hv
      · rename_i cs hf
        cases hv
        obtain ⟨m', hm, hr⟩ := fill_ok (pl' := fun i => (⟨pl⟩ : Array (Nat × Nat))[i]?) (fun i p hi => nth_arr hi) hf hp (z_lr (c := c) hz2)
        have hpo := places_ok hpl w
        refine .now [] rfl (.agg hr) ?_
        simp only [Instr.build, Sem.run_bind, hz1, Result.andThen_ok, run_underlying hu, hpo]
        have : z.cells = ⟨z.cells.toList⟩ := rfl
        rw [this, hm]
        rfl
      · cases hv
    · cases hv
  · rename_i z n el hz hu
    obtain ⟨hz1, hz2⟩ := run_zeroT hz w
    split at hv
    · rename_i sz hs
      split at hv
      · rename_i cs hf
        cases hv
        obtain ⟨m', hm, hr⟩ := fill_ok (pl' := fun i => some (i * sz, sz)) (fun i p hi => by cases hi; rfl) hf hp (z_lr (c := c) hz2)
        refine .now [] rfl (.agg hr) ?_
        simp only [Instr.build, Sem.run_bind, hz1, Result.andThen_ok, run_underlying hu, run_sizeT hs]
        have : z.cells = ⟨z.cells.toList⟩ := rfl
        rw [this, hm]
        rfl
      · cases hv
    · cases hv
  · cases hv

/-! arithmetic, comparisons -/
theorem eqGuard_int (op : BinOp) (t : TypeId) (x y : Operand) (k k' : IntKind) (a b : Int) (w : World) : (eqGuard op t x y (.int k a) (.int k' b)).run P w = .ok () w := by
  cases op <;> rfl
theorem int_rd {c : Cx} {h : T O} {w : World} {op : BinOp} {t : TypeId} {xo yo : Operand} {k k' : IntKind} {a b : Int} {v : Value} {e : Eff} (hv : intE P op t k a b k' = some (v, e)) :
    RdOK P c h w v e (do eqGuard op t xo yo (.int k a) (.int k' b); binOp op t (.int k a) (.int k' b)) := by
  have base : ∀ v', VR c v v' → e = .rd [] → (binOp op t (.int k a) (.int k' b)).run P w = .ok v' w → RdOK P c h w v e (do eqGuard op t xo yo (.int k a) (.int k' b); binOp op t (.int k a) (.int k' b)) :=
    fun v' h1 h2 h3 => .now [] h2 h1 (by simp only [Sem.run_bind, eqGuard_int, Result.andThen_ok, h3])
  unfold intE at hv
  split at hv
  · split at hv
    · rename_i hk; cases hv
      have hk' := of_decide_eq_true hk
      subst hk'
      exact base _ (.int _ _) rfl (by simp [binOp, Op.intArith])
    · cases hv
  · split at hv
    · rename_i hk; cases hv
      have hk' := of_decide_eq_true hk
      subst hk'
      exact base _ (.int _ _) rfl (by simp [binOp, Op.intArith]; rfl)
    · cases hv
  · obtain ⟨he, hf, hr⟩ := flatE_ok hv
    exact base v (flat_vr c 4 v hf).1 he (hr w)
theorem eqE_in {c : Cx} {w : World} {t : TypeId} {x x' y y' : Value} {b : Bool} (h : eqE P t x y = some b) (hx : VR c x x') (hy : VR c y y') (d : Nat) : (Op.equalIn (d + 1) t x' y').run P w = .ok b w := by
  unfold eqE at h
  split at h <;> first
    | (cases h; done)
    | (rename_i hu
       cases h; cases hx <;> cases hy <;> simp only [Op.equalIn, Sem.run_bind, run_underlying hu, Result.andThen_ok, Sem.run_pure, Option.isNone_some, Option.isNone_none])
theorem eqE_guard {c : Cx} {w : World} {t : TypeId} {x x' y y' : Value} {b : Bool} (h : eqE P t x y = some b) (hx : VR c x x') (hy : VR c y y') (op : BinOp) (xo yo : Operand) : (eqGuard op t xo yo x' y').run P w = .ok () w := by
  unfold eqE at h
  split at h <;> first
    | (cases h; done)
    | (rename_i hu
       cases h; cases hx <;> cases hy <;> (cases op <;> rfl))
theorem eqE_ok {c : Cx} {w : World} {t : TypeId} {x x' y y' : Value} {b : Bool} (h : eqE P t x y = some b) (hx : VR c x x') (hy : VR c y y') (op : BinOp) (xo yo : Operand) :
    (eqGuard op t xo yo x' y').run P w = .ok () w ∧ (Op.equal t x' y').run P w = .ok b w :=
  ⟨eqE_guard h hx hy op xo yo, eqE_in h hx hy 9999⟩
theorem bin_rd {c : Cx} {h : T O} {w : World} {op : BinOp} {t : TypeId} {xo yo : Operand} {x x' y y' v : Value} {e : Eff} (hv : binE P op t xo yo x y = some (v, e)) (hx : VR c x x') (hy : VR c y y') :
    RdOK P c h w v e (do eqGuard op t xo yo x' y'; binOp op t x' y') := by
  unfold binE at hv
  split at hv
  · cases hx; cases hy; exact int_rd hv
  · split at hv
    · rename_i hf
      simp only [Bool.and_eq_true] at hf
      rw [(flat_vr c 4 _ hf.1).2 _ hx, (flat_vr c 4 _ hf.2).2 _ hy]
      exact .flat hv
    · split at hv
      · cases hq : eqE P t x y with
        | none => rw [hq] at hv; cases hv
        | some b =>
          rw [hq] at hv; cases hv
          obtain ⟨h1, h2⟩ := eqE_ok (w := w) hq hx hy .eql xo yo
          refine .now [] rfl (.bool b) ?_
          have h3 : (binOp .eql t x' y').run P w = .ok (.bool b) w := by
            unfold eqE at hq
            split at hq <;> first
              | (cases hq; done)
              | (cases hx <;> cases hy <;> simp [binOp, h2])
          simp only [Sem.run_bind, h1, Result.andThen_ok, h3]
      · cases hq : eqE P t x y with
        | none => rw [hq] at hv; cases hv
        | some b =>
          rw [hq] at hv; cases hv
          obtain ⟨h1, h2⟩ := eqE_ok (w := w) hq hx hy .neq xo yo
          refine .now [] rfl (.bool !b) ?_
          have h3 : (binOp .neq t x' y').run P w = .ok (.bool !b) w := by
            unfold eqE at hq
            split at hq <;> first
              | (cases hq; done)
              | (cases hx <;> cases hy <;> simp [binOp, h2])
          simp only [Sem.run_bind, h1, Result.andThen_ok, h3]
      · cases hv
theorem un_rd {c : Cx} {h : T O} {w : World} {op : UnOp} {x x' v : Value} {e : Eff} (hv : un x (flatE P (Op.unary op x)) = some (v, e)) (hx : VR c x x') : RdOK P c h w v e (Op.unary op x') := by
  unfold un at hv
  split at hv
  · rename_i hf; rw [(flat_vr c 4 _ hf).2 _ hx]; exact .flat hv
  · cases hv

/-! addresses and parts -/
theorem nilCheck_rd {c : Cx} {h : T O} {w : World} {x x' v : Value} {e : Eff} (hv : nilCheckE x = some (v, e)) (hx : VR c x x') (o : Oper) (ρ : Operand → Value) (y : Operand) (ho : o.op = .nilCheck y) (hy : ρ y = x') :
    ∃ r, e = .rd r ∧ ∀ u, HR c u w → (∀ b, b ∈ r → u b = h.get b) → ∃ v', VR c v v' ∧ (execOp ρ o).run P w = .ok (.value v') w := by
  unfold nilCheckE at hv
  have hx0 := hx
  split at hv <;> first
    | (cases hv; done)
    | (cases hv
       refine ⟨[], rfl, fun _ _ _ => ⟨x', hx, ?_⟩⟩
       cases hx0 <;> simp only [execOp, ho, hy, Sem.run_pure])
theorem fieldAddr_rd {c : Cx} {h : T O} {w : World} {t : TypeId} {f : Nat} {x x' v : Value} {e : Eff} (hv : fieldAddrE P t x f = some (v, e)) (hx : VR c x x') : RdOK P c h w v e (Instr.fieldAt t x' f) := by
  unfold fieldAddrE at hv
  split at hv
  · rename_i b o fs hu
    split at hv
    · rename_i fl hf
      split at hv
      · rename_i n hs
        rw [forceN_eq] at hv
        cases hv
        cases hx with
        | ptr hav =>
          refine .now [] rfl (.ptr (o := o + fl.offset) hav) ?_
          simp only [Instr.fieldAt, Sem.run_bind, run_underlying hu, Result.andThen_ok, nth_arr hf, Instr.sureAddr, Sem.run_pure, fieldPlace, run_sizeT hs]
          simp [add_addr, Nat.add_assoc]
      · cases hv
    · cases hv
  · cases hv
theorem field_rd {c : Cx} {h : T O} {w : World} {t : TypeId} {f : Nat} {x x' v : Value} {e : Eff} (hv : fieldE P t x f = some (v, e)) (hx : VR c x x') : RdOK P c h w v e (Instr.field t x' f) := by
  unfold fieldE at hv
  split at hv
  · rename_i cs fs hu
    split at hv
    · rename_i fl hf
      cases hq : fromCells P fl.type cs fl.offset with
      | none => rw [hq] at hv; cases hv
      | some v0 =>
        rw [hq] at hv; cases hv
        cases hx with
        | agg hl =>
          obtain ⟨v', hr, hp⟩ := part_ok hq hl w
          refine .now [] rfl hr ?_
          simp only [Instr.field, Sem.run_bind, run_underlying hu, Result.andThen_ok, nth_arr hf, asAgg, Sem.run_pure, hp]
    · cases hv
  · cases hv
theorem toNat_ok {c : Cx} {x x' : Value} {i : Nat} (h : toNat? x = some i) (hx : VR c x x') : ∃ k, x' = .int k (i : Int) := by
  unfold toNat? at h
  split at h
  · cases h; cases hx; exact ⟨_, rfl⟩
  · cases h
theorem indexAddr_rd {c : Cx} {h : T O} {w : World} {t : TypeId} {x x' y y' v : Value} {e : Eff} (hv : indexAddrE P t x y = some (v, e)) (hx : VR c x x') (hy : VR c y y') : RdOK P c h w v e (Instr.indexAt t x' y') := by
  unfold indexAddrE at hv
  split at hv
  · rename_i i len el b o hi hu
    obtain ⟨k, rfl⟩ := toNat_ok hi hy
    split at hv
    · rename_i n hs hlt
      rw [forceN_eq] at hv
      cases hv
      have hlt' : i < len := by simpa [Nat.blt_eq] using hlt
      cases hx with
      | ptr hav =>
        refine .now [] rfl (.ptr (o := o + i * n) hav) ?_
        simp [Instr.indexAt, asIntOf, run_underlying hu, Instr.sureAddr, hlt', run_sizeT hs, add_addr, Nat.add_assoc]
    · cases hv
  · rename_i i el b o len cap hi hu
    obtain ⟨k, rfl⟩ := toNat_ok hi hy
    split at hv
    · rename_i n hs hlt
      rw [forceN_eq] at hv
      cases hv
      have hlt' : i < len := by simpa [Nat.blt_eq] using hlt
      cases hx with
      | slice hav =>
        refine .now [] rfl (.ptr (o := o + i * n) hav) ?_
        simp [Instr.indexAt, asIntOf, run_underlying hu, hlt', run_sizeT hs, add_addr, Nat.add_assoc]
      | open_ hav =>
        refine .now [] rfl (.ptr (o := o + i * n) hav) ?_
        simp [Instr.indexAt, asIntOf, run_underlying hu, hlt', run_sizeT hs, add_addr, Nat.add_assoc]
      | loose _ s _ _ hs => cases hs
    · cases hv
  · cases hv
theorem index_rd {c : Cx} {h : T O} {w : World} {t : TypeId} {x x' y y' v : Value} {e : Eff} (hv : indexE P t x y = some (v, e)) (hx : VR c x x') (hy : VR c y y') : RdOK P c h w v e (Instr.index t x' y') := by
  unfold indexE at hv
  split at hv
  · rename_i i len el cs hi hu
    obtain ⟨k, rfl⟩ := toNat_ok hi hy
    split at hv
    · rename_i n hs hlt
      have hlt' : i < len := by simpa [Nat.blt_eq] using hlt
      cases hq : fromCells P el cs (Nat.mul i n) with
      | none => rw [hq] at hv; cases hv
      | some v0 =>
        rw [hq] at hv; cases hv
        cases hx with
        | agg hl =>
          obtain ⟨v', hr, hp⟩ := part_ok hq hl w
          simp only [Nat.mul_eq] at hp
          refine .now [] rfl hr ?_
          simp [Instr.index, asIntOf, run_underlying hu, hlt', run_sizeT hs, hp]
    · cases hv
  · rename_i i s hi hu
    cases hx
    have : y' = y := by
      unfold toNat? at hi
      split at hi
      · cases hy; rfl
      · cases hi
    rw [this]
    exact .flat hv
  · cases hv
theorem extract_rd {c : Cx} {h : T O} {w : World} {x x' v : Value} {i : Nat} {e : Eff} (hv : extractE x i = some (v, e)) (hx : VR c x x') : RdOK P c h w v e (Instr.extract x' i) := by
  unfold extractE at hv
  split at hv
  · rename_i vs
    cases hq : nth vs i with
    | none => rw [hq] at hv; cases hv
    | some v0 =>
      rw [hq] at hv; cases hv
      cases hx with
      | tuple hl =>
        rw [nth_eq] at hq
        obtain ⟨v', h1, h2⟩ := hl.get hq
        refine .now [] rfl h2 ?_
        rw [← nth_eq] at h1
        simp [Instr.extract, nth_arr h1]
  · cases hv
end Go.Eng
