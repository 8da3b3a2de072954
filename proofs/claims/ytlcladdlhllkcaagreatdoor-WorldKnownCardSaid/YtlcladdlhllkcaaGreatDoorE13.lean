/-
  PROVED HERE: an operation's step, and regions that are carried out in their order.
-/
import Derived.Test.YtlcladdlhllkcaaGreatDoorE12
namespace Go.Eng
set_option linter.unusedVariables false
set_option linter.unusedSimpArgs false
variable {P : Program}

theorem put_ok {c : Cx} {a a' : A} {x : Act} {d : Option Tmp} {v v' : Value} (hp : a.put d v = some a') (ha : AR c a x) (hv : VR c v v') : AR c a' (x.put d v') := by
  unfold A.put at hp
  split at hp
  · cases hp; exact ha
  · rename_i t
    split at hp
    · rename_i hlt
      rw [force_eq, T.setK_eq] at hp
      cases hp
      have hlt' : t < x.tmps.size := by rw [← ha.size]; simpa [Nat.blt_eq] using hlt
      refine ⟨by simp [Act.put, ha.size], fun i => ?_, ha.defers, ha.av⟩
      rw [T.get_set]
      by_cases hi : i = t
      · subst hi
        simp only [if_true, Option.getD_some, Act.put]
        have : (x.tmps.setIfInBounds i v').getD i undef = v' := by simp [hlt']
        rw [this]; exact hv
      · rw [if_neg hi]
        have : (x.tmps.setIfInBounds t v').getD i undef = x.tmps.getD i undef := by simp [Array.getElem?_setIfInBounds_ne (Ne.symm hi)]
        simp only [Act.put, this]
        exact ha.tmps i
    · cases hp
theorem tmp_of {x : Act} {d : Nat} {v : Value} (h : x.tmps.getD d undef = v) (hne : v ≠ undef) : x.tmps[d]? = some v := by
  rw [Array.getD_eq_getD_getElem?] at h
  cases hq : x.tmps[d]? with
  | none => rw [hq] at h; exact absurd h.symm hne
  | some u => rw [hq] at h; exact congrArg some h
theorem want_ok {c : Cx} {ops : Array Oper} {a : A} {x : Act} {o : Oper} {b : Bool} (h : wantE ops.toList a o = some b) (ha : ∀ j w o' d, o.guard = some (j, w) → ops[j]? = some o' → o'.dst = some d → VR c (a.get d) (x.tmps.getD d undef)) : Region.wanted o (yielded ops x.tmps) = b := by
  unfold wantE at h
  unfold Region.wanted
  cases hg : o.guard with
  | none => rw [hg] at h; cases h; rfl
  | some jw =>
    obtain ⟨j, w⟩ := jw
    rw [hg] at h
    dsimp only at h ⊢
    rw [nth_eq, Array.getElem?_toList] at h
    unfold yielded
    cases ho : ops[j]? with
    | none => rw [ho] at h; cases h; rfl
    | some o' =>
      rw [ho] at h
      dsimp only at h
      cases hd : o'.dst with
      | none => rw [hd] at h; cases h; simp [hd]
      | some d =>
        rw [hd] at h
        dsimp only at h
        have ht := ha j w o' d hg ho hd
        generalize a.get d = u at h ht
        generalize hz : x.tmps.getD d undef = z at ht
        split at h
        · rename_i bb
          cases h
          cases ht
          have := tmp_of hz (by intro h; cases h)
          simp only [Option.bind_some, hd, this]
          cases bb <;> cases w <;> rfl
        · cases h
          cases ht with
          | tuple hx =>
            cases hx
            rw [Array.getD_eq_getD_getElem?] at hz
            cases hq : x.tmps[d]? with
            | none => simp [hd, hq]
            | some u =>
              rw [hq] at hz
              simp only [Option.getD_some] at hz
              subst hz
              simp [hd, hq]
        · cases h
/-- One operation's step. -/
theorem stepE_ok {cl : Cl} (hcl : ClOK P cl) {a : A} {h h' : H} {o : Oper} {v : Value} {k : K} (hv : stepE cl P a h o = some (v, h', k)) : h.next ≤ h'.next ∧ ∀ (c : Cx) (w : World) (x : Act), Gl c → HR c h.t.get w → (∀ y, y ∈ o.op.operands → VR c (a.ev y) (x.eval y)) → Free c h.next h'.next →
    ∃ c' w' v', St c h.t.get w c' h'.t.get w' h.next h'.next ∧ VR c' v v' ∧ Goes P (execOp x.eval o) w v' w' := by
  unfold stepE at hv
  split at hv
  · rename_i v0 e hop
    cases hv
    obtain ⟨t, nx⟩ := h
    have hrun : nx ≤ (e.run ⟨t, nx⟩).next := by
      cases e with
      | rd r => exact Nat.le_refl _
      | new o => rw [new_run]; exact Nat.le_succ _
      | grow o => rw [grow_run]; exact Nat.le_succ _
      | set b o => rw [set_run]; exact Nat.le_refl _
      | shift b q o => rw [shift_run]; exact Nat.le_succ _
    refine ⟨hrun, fun c w x hg H ha hfree => ?_⟩
    cases op_res (w := w) hop ha with
    | rd r he hs =>
      subst he
      obtain ⟨v', h1, h2⟩ := hs _ H (fun _ _ => rfl)
      exact ⟨c, w, v', St.refl H _, h1, .value h2⟩
    | new o he hs =>
      subst he
      rw [new_run] at hfree ⊢
      have hn : ¬ c.av nx := hfree nx (Nat.le_refl _) (Nat.lt_succ_self _)
      obtain ⟨w', ob, v', h1, h2, h3, h4⟩ := hs hn
      exact ⟨_, w', v', St.new H 0 0 hn h2 h3, h4, .value h1⟩
    | turn b o he hs =>
      subst he
      rw [set_run]
      obtain ⟨w', v', h1, h2, h3⟩ := hs H
      refine ⟨c, w', v', h1, h2, ?_⟩
      rcases h3 with h3 | ⟨h3, h4⟩
      · exact .value h3
      · exact .skip h3 h4
    | act he hset hs =>
      have hn : ¬ c.av nx := by
        refine hfree nx (Nat.le_refl _) ?_
        cases e with
        | rd r => cases he
        | new o => cases he
        | grow o => rw [grow_run]; exact Nat.lt_succ_self _
        | set b o => exact absurd rfl (hset b o)
        | shift b q o => rw [shift_run]; exact Nat.lt_succ_self _
      obtain ⟨c', w', v', h1, h2, h3⟩ := hs H hn
      refine ⟨c', w', v', h1, h2, ?_⟩
      rcases h3 with h3 | ⟨h3, h4⟩
      · exact .value h3
      · exact .skip h3 h4
  · split at hv
    · rename_i v0 h1 hen
      cases hv
      unfold enterE at hen
      split at hen
      · rename_i op0 cc hop
        split at hen
        · rename_i r hr
          obtain ⟨hle, hc⟩ := callE_ok hcl hen
          refine ⟨hle, fun c w x hg H ha hfree => ?_⟩
          obtain ⟨s, hs, hrun⟩ := reqE_ok hr (fun y hy => ha y (by rw [hop]; exact hy)) o.type
          obtain ⟨c', w', v', h1, h2, h3⟩ := hc c w hg H hfree s hs
          refine ⟨c', w', v', h1, h2, h3.congr ?_⟩
          rw [← hrun w]
          obtain ⟨dst, op, type, pos, after, guard⟩ := o
          dsimp only at hop
          subst hop
          rfl
        · cases hen
      · cases hen
    · cases hv
end Go.Eng
