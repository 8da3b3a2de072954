/-
  PROVED HERE: each operation of the evaluator that makes or turns a block is what the model's operation does (the second part: stores, maps, append, copy).
-/
import Derived.Test.YtlcladdlhllkcaaGreatDoorE7
namespace Go.Eng
set_option linter.unusedVariables false
set_option linter.unusedSimpArgs false
variable {P : Program}

theorem set_run (h : T O) (nx b : Nat) (o : O) : (Eff.set b o).run ⟨h, nx⟩ = ⟨h.set b (some o), nx⟩ := by show h.setK b (some o) _ = _; rw [T.setK_eq]
theorem grow_run (h : T O) (nx : Nat) (o : O) : (Eff.grow o).run ⟨h, nx⟩ = ⟨h.set nx (some o), nx + 1⟩ := by show h.setK nx (some o) _ = _; rw [T.setK_eq, forceN_eq]
theorem new_run (h : T O) (nx : Nat) (o : O) : (Eff.new o).run ⟨h, nx⟩ = ⟨h.set nx (some o), nx + 1⟩ := by show h.setK nx (some o) _ = _; rw [T.setK_eq, forceN_eq]
theorem shift_run (h : T O) (nx b q : Nat) (o : O) : (Eff.shift b q o).run ⟨h, nx⟩ = ⟨(h.set b none).set nx (some o), nx + 1⟩ := by show h.setK b none _ = _; rw [T.setK_eq, T.setK_eq, forceN_eq]
theorem lay_length {α : Type} (l : List α) (o : Nat) (m : List α) (h : o + m.length ≤ l.length) : (lay l o m).length = l.length := by
  rw [lay_eq _ _ _ h]; simp; omega
theorem rowAt_ro {t : T O} {b : Nat} {l : List Value} {g : List Value → O} (h : rowAt t b = some (l, g)) : ∀ l2 l, g l2 ≠ O.ro l := by
  unfold rowAt at h
  split at h
  · cases h; intro l2 l e; cases e
  · cases h; intro l2 l e; cases e
  · cases h
theorem OpRes.set {c : Cx} {h : T O} {nx : Nat} {w : World} {v : Value} {b : Nat} {o old : O} {s : Sem Next} (hb : h.get b = some old)
    (hs : HR c h.get w → ∃ w' ob v', Turned w w' (c.b b) ob ∧ OR c b o (some ob) ∧ VR c v v' ∧ (s.run P w = .ok (.value v') w' ∨ s.run P w = .ok .skip w' ∧ v' = undef)) (hno : ∀ l, o ≠ O.ro l := by intro l h; cases h) : OpRes P c h nx w v (.set b o) s := by
  refine .turn b o rfl fun H => ?_
  obtain ⟨w', ob, v', h1, h2, h3, h4⟩ := hs H
  exact ⟨w', v', St.set H hb h1 h2 nx hno, h3, h4⟩
theorem store_res {c : Cx} {h : T O} {nx : Nat} {w : World} {t : TypeId} {x x' y y' v : Value} {e : Eff} (hv : storeE P h t x y = some (v, e)) (hx : VR c x x') (hy : VR c y y') : OpRes P c h nx w v e (do Instr.storeAt t x' y'; pure .skip) := by
  unfold storeE at hv
  split at hv
  · rename_i b o
    split at hv
    · rename_i l g n hrow hs
      split at hv
      · rename_i hb
        simp only [Bool.and_eq_true, Nat.ble_eq, Nat.beq_eq, Nat.add_eq] at hb
        obtain ⟨hb1, hb2, hb3⟩ := hb
        rw [forceL_eq] at hv
        cases hv
        have hk : ∀ s, y ≠ .chan s := by rintro s rfl; simp [cellsL, oneV] at hb3
        have hcl := cells_eq hy hk
        cases hx with
        | ptr hav =>
          have hget : h.get b = some (g l) := by
            unfold rowAt at hrow
            split at hrow
            · rename_i hx; cases hrow; exact hx
            · rename_i hx; cases hrow; exact hx
            · cases hrow
          refine .set (hno := rowAt_ro hrow _) hget fun H => ?_
          obtain ⟨_, _, pre, l', post, ty, hw, hp, hr, hor⟩ := H.rowAt hrow
          have hfit : o + y'.cells.toList.length ≤ l'.length := by rw [hcl.length, hr.length]; omega
          obtain ⟨w', hrun, hturn⟩ := run_lay (P := P) hw hfit (hcl.ones hb3)
          rw [hp] at hrun
          refine ⟨w', _, undef, hturn, hor _ _ (hr.lay hcl (by omega)) (lay_length _ _ _ (by omega)), VR.undef c, .inr ⟨skip_run ?_, rfl⟩⟩
          have hsz : y'.cells.size = n := by rw [← Array.length_toList, hcl.length]; exact hb1
          simp only [Instr.storeAt, Sem.run_bind, Instr.sureAddr, Sem.run_pure, Result.andThen_ok, storeVar, run_sizeT hs, hsz, ne_eq, not_true_eq_false, if_false, hrun]
      · cases hv
    · cases hv
  · cases hv

/-! maps -/
theorem find_at {c : Cx} {k : Value} : ∀ {es : List E} {es' : List MapEntry} {i j : Nat} {v : Value}, findE k es i = some (some (j, v)) → ER c es es' → i ≤ j ∧ (∃ y, es'[j - i]? = some y ∧ y.key = k) ∧ j - i < es.length
  | [], _, i, j, v, h, _ => by cases h
  | x :: es, [], i, j, v, h, he => he.elim
  | x :: es, y :: es', i, j, v, h, ⟨h1, h2, h3, h4⟩ => by
    unfold findE at h
    split at h
    · rename_i hk
      cases h
      obtain ⟨kk, a, a', rfl, e2, e3⟩ := keyEq_ok hk
      rw [e2] at h1
      have : a = a' := by simpa using e3
      subst this
      have hy : y.key = .int kk a := by cases hq : y.key <;> (rw [hq] at h1; cases h1; try rfl)
      exact ⟨Nat.le_refl _, ⟨y, by simp, hy⟩, by simp⟩
    · obtain ⟨h5, ⟨z, hz, hk⟩, h6⟩ := find_at h h4
      have : j - i = (j - (i + 1)) + 1 := by simp only [Nat.succ_eq_add_one] at h5; omega
      simp only [Nat.succ_eq_add_one] at h5 h6 hz
      exact ⟨by omega, ⟨z, by rw [this]; simpa using hz, hk⟩, by simp; omega⟩
    · cases h
theorem ER.length {c : Cx} : ∀ {l : List E} {m : List MapEntry}, ER c l m → m.length = l.length
  | [], [], _ => rfl
  | _ :: _, _ :: _, ⟨_, _, _, h⟩ => by simp [h.length]
  | [], _ :: _, h => h.elim
  | _ :: _, [], h => h.elim
theorem ER.append1 {c : Cx} {k k' v v' : Value} {n : Nat} (hk : VR c k k') (hv : VR c v v') : ∀ {l : List E} {m : List MapEntry}, ER c l m → ER c (l ++ [⟨k, v, n⟩]) (m ++ [⟨k', v', n⟩])
  | [], [], _ => ⟨hk, hv, rfl, trivial⟩
  | _ :: _, _ :: _, ⟨h1, h2, h3, h⟩ => ⟨h1, h2, h3, h.append1 hk hv⟩
  | [], _ :: _, h => h.elim
  | _ :: _, [], h => h.elim
theorem ER.setVal {c : Cx} {v v' : Value} (hv : VR c v v') : ∀ {l : List E} {m : List MapEntry} (i : Nat) (k : Value), ER c l m → (∀ y, m[i]? = some y → y.key = k) → ER c (setVal v l i) (m.modify i fun e => { e with key := k, val := v' })
  | [], [], _, _, _, _ => by simp [Eng.setVal, ER]
  | x :: l, y :: m, 0, k, ⟨h1, h2, h3, h⟩, hk => by
    have := hk y rfl
    exact ⟨by rw [← this]; exact h1, hv, h3, h⟩
  | x :: l, y :: m, i + 1, k, ⟨h1, h2, h3, h⟩, hk => by
    rw [List.modify_succ_cons]
    exact ⟨h1, h2, h3, h.setVal hv i k (fun y hy => hk y (by simpa using hy))⟩
  | [], _ :: _, _, _, h, _ => h.elim
  | _ :: _, [], _, _, h, _ => h.elim
theorem ER.dropN {c : Cx} : ∀ {l : List E} {m : List MapEntry} (i : Nat), ER c l m → ER c (dropN l i) (m.eraseIdx i)
  | [], [], _, _ => by simp [Eng.dropN, ER]
  | x :: l, y :: m, 0, ⟨h1, h2, h3, h⟩ => h
  | x :: l, y :: m, i + 1, ⟨h1, h2, h3, h⟩ => ⟨h1, h2, h3, h.dropN i⟩
  | [], _ :: _, _, h => h.elim
  | _ :: _, [], _, h => h.elim
theorem run_setObj {w : World} {b : Nat} {es : List MapEntry} {clk : Nat} (h : w.heap[b]? = some (.map ⟨es⟩ clk)) (o : Obj) : ∃ w', (setObj b o).run P w = .ok () w' ∧ Turned w w' b o := by
  have hlt := (Array.getElem?_eq_some_iff.1 h).1
  refine ⟨{ w with heap := w.heap.setIfInBounds b o }, by simp [setObj, Sem.run, h], ?_⟩
  exact ⟨by simp, by simp [hlt], fun j hj => by simp [Array.getElem?_setIfInBounds_ne (Ne.symm hj)], rfl, rfl, rfl⟩
theorem keyStays (k : IntKind) (a : Int) (w : World) : (Instr.keyThatStays (.int k a) (.int k a)).run P w = .ok (.int k a) w := by
  have : Instr.sameBits 10000 (.int k a) (.int k a) = true := by
    generalize 10000 = n
    cases n <;> simp [Instr.sameBits]
  simp [Instr.keyThatStays, this]
theorem mapSet_res {c : Cx} {h : T O} {nx : Nat} {w : World} {t : TypeId} {m m' k k' y y' v : Value} {e : Eff} (hv : mapSetE P h t m k y = some (v, e)) (hm : VR c m m') (hk : VR c k k') (hy : VR c y y') : OpRes P c h nx w v e (do Instr.mapUpdate t m' k' y'; pure .skip) := by
  unfold mapSetE at hv
  split at hv
  · rename_i el b hkt hi
    obtain ⟨kt, q, hu1, hu2⟩ := keyT_ok hkt
    obtain ⟨kk, a, rfl, rfl⟩ := isInt_ok hi hk
    split at hv
    · rename_i es clk hg
      cases hm with
      | map hav =>
        split at hv
        · rename_i i x hf
          cases hv
          refine .set hg fun H => ?_
          obtain ⟨es', hw, her⟩ := (H.at_ b _ hg).2
          obtain ⟨r', hr1, hr2⟩ := run_findKey (P := P) hu2 hf her w
          cases r' with
          | none => exact hr2.elim
          | some p =>
            obtain ⟨j', x'⟩ := p
            obtain ⟨rfl, hx⟩ := hr2
            obtain ⟨_, ⟨y0, hy0, hyk⟩, hlt⟩ := find_at hf her
            simp only [Nat.sub_zero] at hy0 hlt
            obtain ⟨w', hs1, hs2⟩ := run_setObj (P := P) hw (.map ⟨es'.modify j' fun e => { e with key := .int kk a, val := y' }⟩ clk)
            refine ⟨w', _, undef, hs2, ⟨_, rfl, her.setVal hy j' _ (fun y hy1 => by rw [hy0] at hy1; cases hy1; exact hyk)⟩, VR.undef c, .inr ⟨skip_run ?_, rfl⟩⟩
            have hold : (((⟨es'⟩ : Array MapEntry)[j']?).map (·.key)).getD (.int kk a) = .int kk a := by
              rw [show (⟨es'⟩ : Array MapEntry)[j']? = es'[j']? from (Array.getElem?_toList ..).symm, hy0]
              exact hyk
            have hmod : ((⟨es'⟩ : Array MapEntry).modify j' fun e => { e with key := .int kk a, val := y' }) = ⟨es'.modify j' fun e => { e with key := .int kk a, val := y' }⟩ := by
              apply Array.ext'
              simp
            simp only [Instr.mapUpdate, Sem.run_bind, run_underlying hu1, Result.andThen_ok, run_getMap hw, run_checkKey hu2, hr1, hold, keyStays, hmod, hs1]
        · rename_i hf
          cases hv
          refine .set hg fun H => ?_
          obtain ⟨es', hw, her⟩ := (H.at_ b _ hg).2
          obtain ⟨r', hr1, hr2⟩ := run_findKey (P := P) hu2 hf her w
          cases r' with
          | some p => exact hr2.elim
          | none =>
            obtain ⟨w', hs1, hs2⟩ := run_setObj (P := P) hw (.map ⟨es' ++ [⟨.int kk a, y', clk⟩]⟩ (clk + 1))
            refine ⟨w', _, undef, hs2, ⟨_, rfl, her.append1 (.int _ _) hy⟩, VR.undef c, .inr ⟨skip_run ?_, rfl⟩⟩
            have hpush : ((⟨es'⟩ : Array MapEntry).push { key := .int kk a, val := y', born := clk }) = ⟨es' ++ [⟨.int kk a, y', clk⟩]⟩ := by
              apply Array.ext'
              simp
            simp only [Instr.mapUpdate, Sem.run_bind, run_underlying hu1, Result.andThen_ok, run_getMap hw, run_checkKey hu2, hr1, hpush, hs1]
        · cases hv
    · cases hv
  · cases hv
theorem delete_res {c : Cx} {h : T O} {nx : Nat} {w : World} {t : TypeId} {ts : List TypeId} {ty : TypeId} {m m' k k' v : Value} {e : Eff} (hv : deleteE P h t m k = some (v, e)) (hm : VR c m m') (hk : VR c k k') : OpRes P c h nx w v e (do pure (.value (← Builtin.delete_ ⟨t :: ts⟩ ty #[m', k']))) := by
  unfold deleteE at hv
  split at hv
  · rename_i el b hkt hi
    obtain ⟨kt, q, hu1, hu2⟩ := keyT_ok hkt
    obtain ⟨kk, a, rfl, rfl⟩ := isInt_ok hi hk
    split at hv
    · rename_i es clk hg
      cases hm with
      | map hav =>
        have h0 : (⟨t :: ts⟩ : Array TypeId)[0]? = some t := rfl
        have h1 : ∀ (a b : Value), (#[a, b] : Array Value)[0]? = some a := fun _ _ => rfl
        have h2 : ∀ (a b : Value), (#[a, b] : Array Value)[1]? = some b := fun _ _ => rfl
        split at hv
        · rename_i i x hf
          cases hv
          refine .set hg fun H => ?_
          obtain ⟨es', hw, her⟩ := (H.at_ b _ hg).2
          obtain ⟨r', hr1, hr2⟩ := run_findKey (P := P) hu2 hf her w
          cases r' with
          | none => exact hr2.elim
          | some p =>
            obtain ⟨j', x'⟩ := p
            obtain ⟨rfl, hx⟩ := hr2
            obtain ⟨w', hs1, hs2⟩ := run_setObj (P := P) hw (.map ⟨es'.eraseIdx j'⟩ clk)
            refine ⟨w', _, .tuple #[], hs2, ⟨_, rfl, her.dropN j'⟩, .tuple .nil, .inl (val_run ?_)⟩
            have her' : (⟨es'⟩ : Array MapEntry).eraseIdxIfInBounds j' = ⟨es'.eraseIdx j'⟩ := by
              apply Array.ext'
              simp
            simp only [Builtin.delete_, h0, h1, h2, Sem.run_bind, run_underlying hu1, Result.andThen_ok, run_getMap hw, run_checkKey hu2, hr1, her', hs1, Sem.run_pure]
        · rename_i hf
          cases hv
          refine .set hg fun H => ?_
          obtain ⟨es', hw, her⟩ := (H.at_ b _ hg).2
          obtain ⟨r', hr1, hr2⟩ := run_findKey (P := P) hu2 hf her w
          cases r' with
          | some p => exact hr2.elim
          | none =>
            obtain ⟨w', hs1, hs2⟩ := run_setObj (P := P) hw (.map ⟨es'⟩ clk)
            refine ⟨w', _, .tuple #[], hs2, ⟨_, rfl, her⟩, .tuple .nil, .inl (val_run ?_)⟩
            simp only [Builtin.delete_, h0, h1, h2, Sem.run_bind, run_underlying hu1, Result.andThen_ok, run_getMap hw, run_checkKey hu2, hr1, hs1, Sem.run_pure]
        · cases hv
    · cases hv
  · cases hv
end Go.Eng
