/-
  PROVED HERE: each operation of the evaluator that makes or turns a block is what the model's operation does.
-/
import Derived.Test.YtlcladdlhllkcaaGreatDoorE6
namespace Go.Eng
set_option linter.unusedVariables false
set_option linter.unusedSimpArgs false
variable {P : Program}

/-- What an operation does, by its effect. -/
inductive OpRes (P : Program) (c : Cx) (h : T O) (nx : Nat) (w : World) (v : Value) (e : Eff) (s : Sem Next) : Prop where
  | rd (r : List Nat) (he : e = .rd r) (hs : ∀ u, HR c u w → (∀ b, b ∈ r → u b = h.get b) → ∃ v', VR c v v' ∧ s.run P w = .ok (.value v') w)
  | new (o : O) (he : e = .new o) (hs : ¬ c.av nx → ∃ w' ob v', s.run P w = .ok (.value v') w' ∧ Made w w' ob ∧ OR (c.put nx w.heap.size 0 0 0) nx o (some ob) ∧ VR (c.put nx w.heap.size 0 0 0) v v')
  | act (he : e.kind nx = .heavy) (hset : ∀ b o, e ≠ .set b o) (hs : HR c h.get w → ¬ c.av nx → ∃ c' w' v', St c h.get w c' (e.run ⟨h, nx⟩).t.get w' nx (e.run ⟨h, nx⟩).next ∧ VR c' v v' ∧ (s.run P w = .ok (.value v') w' ∨ s.run P w = .ok .skip w' ∧ v' = undef))
  | turn (b : Nat) (o : O) (he : e = .set b o) (hs : HR c h.get w → ∃ w' v', St c h.get w c (h.set b (some o)).get w' nx nx ∧ VR c v v' ∧ (s.run P w = .ok (.value v') w' ∨ s.run P w = .ok .skip w' ∧ v' = undef))
theorem val_run {s : Sem Value} {w w' : World} {v : Value} (h : s.run P w = .ok v w') : (do pure (Next.value (← s)) : Sem Next).run P w = .ok (.value v) w' := by simp only [Sem.run_bind, h, Result.andThen_ok, Sem.run_pure]
theorem skip_run {s : Sem Unit} {w w' : World} (h : s.run P w = .ok () w') : (do s; pure Next.skip : Sem Next).run P w = .ok .skip w' := by simp only [Sem.run_bind, h, Result.andThen_ok, Sem.run_pure]
theorem RdOK.res {c : Cx} {h : T O} {nx : Nat} {w : World} {v : Value} {e : Eff} {s : Sem Value} (k : RdOK P c h w v e s) : OpRes P c h nx w v e (do pure (.value (← s))) := by
  obtain ⟨r, he, hs⟩ := k
  exact .rd r he fun u H hu => have ⟨v', h1, h2⟩ := hs u H hu; ⟨v', h1, val_run h2⟩

/-! ### what makes a block -/
theorem put_self {c : Cx} {n b o e z : Nat} : (c.put n b o e z).av n ∧ (c.put n b o e z).b n = b ∧ (c.put n b o e z).o n = o ∧ (c.put n b o e z).e n = e ∧ (c.put n b o e z).z n = z := by simp [Cx.put]
theorem put_le {c : Cx} {n b o e z : Nat} (h : ¬ c.av n) : Le c (c.put n b o e z) := (c.put_ext n b o e z h).toLe
theorem ptr_put {c : Cx} {n b e z : Nat} : VR (c.put n b 0 e z) (ptr n) (.pointer (some ⟨b, 0, none⟩)) := by
  have ⟨h1, h2, h3, _, _⟩ := put_self (c := c) (n := n) (b := b) (o := 0) (e := e) (z := z)
  have := VR.ptr (c := c.put n b 0 e z) (o := 0) h1
  rw [h2, h3] at this
  exact this
theorem slice_put {c : Cx} {n b e z l k : Nat} (hk : k < big) : VR (c.put n b 0 e z) (.slice (some ⟨n, 0, none⟩) l k) (.slice (some ⟨b, 0, none⟩) l k) := by
  have ⟨h1, h2, h3, _, _⟩ := put_self (c := c) (n := n) (b := b) (o := 0) (e := e) (z := z)
  have := VR.slice (c := c.put n b 0 e z) (o := 0) h1 l k hk
  rw [h2, h3] at this
  exact this
theorem made_push (w : World) (o : Obj) : Made w { w with heap := w.heap.push o } o :=
  ⟨by simp, by simp, fun j hj => Array.getElem?_push_lt hj |>.trans (Array.getElem?_eq_getElem hj).symm, rfl, rfl, rfl⟩
theorem or_cells {c : Cx} {n k : Nat} {l l' : List Value} (hl : LR c l l') (hn : ¬ c.av n) (ty : TypeId) : OR (c.put n k 0 0 0) n (.cells l) (some (.cells ⟨l'⟩ ty (0, 0))) :=
  ⟨[], l', [], ty, by simp, by simp [Cx.put], hl.le (put_le hn)⟩
theorem alloc_res {c : Cx} {h : T O} {nx : Nat} {w : World} {t : TypeId} {v : Value} {e : Eff} (hv : allocE P nx t = some (v, e)) : OpRes P c h nx w v e (do pure (.value (← Instr.alloc t true (.tuple #[])))) := by
  unfold allocE at hv
  split at hv
  · rename_i z hz
    cases hv
    obtain ⟨hz1, hz2⟩ := run_zeroT hz w
    refine .new _ rfl fun hn => ⟨_, _, _, val_run ?_, made_push w (.cells z.cells t (0, 0)), or_cells (z_lr hz2) hn t, ptr_put⟩
    simp only [Instr.alloc, Sem.run_bind, hz1, Result.andThen_ok, newVar, newRow, run_newObj, Sem.run_pure]
  · cases hv
theorem box_res {c : Cx} {h : T O} {nx : Nat} {w : World} {t : TypeId} {x x' v : Value} {e : Eff} (hv : boxE nx x = some (v, e)) (hx : VR c x x') : OpRes P c h nx w v e (do pure (.value (← Instr.box t x'))) := by
  unfold boxE at hv
  split at hv
  · rename_i hk
    rw [forceL_eq] at hv
    cases hv
    refine .new _ rfl fun hn => ⟨_, _, _, val_run ?_, made_push w (.cells x'.cells t (0, 0)), or_cells (cells_eq hx (known_ne hk)) hn t, ptr_put⟩
    simp only [Instr.box, Sem.run_bind, newVar, newRow, run_newObj, Result.andThen_ok, Sem.run_pure]
  · cases hv
theorem times_length {α : Type} (l : List α) (n : Nat) : (times l n).length = n * l.length := by
  induction n with
  | zero => simp [times]
  | succ n ih => simp [times, ih, Nat.succ_mul, Nat.add_comm]
theorem times_get (l : List Value) (n : Nat) : ∀ i, i < n * l.length → (times l n)[i]? = l[i % l.length]? := by
  induction n with
  | zero => intro i h; simp at h
  | succ n ih =>
    intro i h
    unfold times
    by_cases hi : i < l.length
    · rw [List.getElem?_append_left hi, Nat.mod_eq_of_lt hi]
    · rw [List.getElem?_append_right (by omega), ih _ (by rw [Nat.succ_mul] at h; omega)]
      congr 1
      rw [Nat.mod_eq_sub_mod (by omega : i ≥ l.length)]
theorem range_times (z : Array Value) (n m : Nat) (hz : z.size = m) (hm : 0 < m) : (Array.range (n * m)).map (fun i => z[i % z.size]!) = ⟨times z.toList n⟩ := by
  apply Array.ext'
  apply List.ext_getElem?
  intro i
  subst hz
  by_cases hi : i < n * z.size
  · have h2 : i % z.size < z.size := Nat.mod_lt _ hm
    rw [show (⟨times z.toList n⟩ : Array Value).toList = times z.toList n from rfl, times_get _ _ _ (by simpa using hi)]
    simp [hi, h2]
  · rw [List.getElem?_eq_none (by simpa using hi), List.getElem?_eq_none (by rw [show (⟨times z.toList n⟩ : Array Value).toList = times z.toList n from rfl, times_length]; simpa using hi)]
theorem map_range0 {α : Type} (f : Nat → α) : (Array.range 0).map f = #[] := by simp
theorem buildSlice_res {c : Cx} {h : T O} {nx : Nat} {w : World} {t : TypeId} {len : Nat} {ps ps' : List (Nat × Value)} {v : Value} {e : Eff} (hv : buildSliceE P nx t len ps = some (v, e)) (hp : PR c ps ps') :
    OpRes P c h nx w v e (do pure (.value (← Instr.buildSlice t len ⟨ps'⟩))) := by
  unfold buildSliceE at hv
  split at hv
  · rename_i el hu
    split at hv
    · rename_i n z hs hz
      split at hv
      · rename_i hb
        simp only [Bool.and_eq_true, Nat.ble_eq, Nat.beq_eq, Nat.blt_eq, Nat.mul_eq] at hb
        obtain ⟨⟨hb1, hb2⟩, hb3⟩ := hb
        obtain ⟨hz1, hz2⟩ := run_zeroT hz w
        split at hv
        · rename_i cs hf
          cases hv
          have hzl := z_lr (c := c) hz2
          have hzs : z.cells.size = n := by rw [← Array.length_toList, hzl.length]; exact hb2
          have hrange : (Array.range (len * n)).map (fun i => z.cells[i % z.cells.size]!) = ⟨times z.cells.toList len⟩ := range_times _ _ _ hzs hb3
          have ht : LR c (times (cellsL z) len) (times z.cells.toList len) := by
            clear hf hb1 hrange
            induction len with
            | zero => exact .nil
            | succ k ih => exact hzl.append ih
          obtain ⟨m', hm, hr⟩ := fill_ok (pl' := fun i => some (i * n, n)) (fun i p hi => by cases hi; rfl) hf hp ht
          have hcap : len < big := by
            have h1 : len * 1 ≤ len * n := Nat.mul_le_mul_left _ hb3
            have : (65536 : Nat) < big := by unfold big; decide
            omega
          refine .new _ rfl fun hn => ⟨_, _, _, val_run ?_, made_push w (.cells ⟨m'⟩ el (0, 0)), or_cells hr hn el, slice_put hcap⟩
          simp only [Instr.buildSlice, Sem.run_bind, run_underlying hu, Result.andThen_ok, run_sizeT hs]
          rw [Sem.run_ite, if_neg (by omega)]
          by_cases h0 : len * n = 0
          · rw [if_pos h0]
            have hlen0 : len = 0 := by
              rcases Nat.mul_eq_zero.1 h0 with h | h
              · exact h
              · omega
            subst hlen0
            simp only [Sem.run_bind, Sem.run_pure, Result.andThen_ok, Nat.zero_mul]
            have : (Array.map (fun x => (#[] : Array Value)[x % (#[] : Array Value).size]!) (Array.range 0)) = ⟨times z.cells.toList 0⟩ := map_range0 _
            rw [this, hm]
            simp only [Sem.run_bind, newRow, run_newObj, Result.andThen_ok, Sem.run_pure]
          · rw [if_neg h0]
            simp only [Sem.run_bind, hz1, Sem.run_pure, Result.andThen_ok, hrange, hm, newRow, run_newObj]
        · cases hv
      · cases hv
    · cases hv
  · cases hv
theorem makeMap_res {c : Cx} {h : T O} {nx : Nat} {w : World} {t : TypeId} : OpRes P c h nx w (.map (some nx)) (.new (.map [] 0)) (do pure (.value (← Instr.makeMap t none))) := by
  refine .new _ rfl fun hn => ⟨_, _, _, val_run (v := .map (some w.heap.size)) ?_, made_push w (.map #[] 0), ⟨[], rfl, trivial⟩, ?_⟩
  · simp only [Instr.makeMap, Sem.run_bind, run_newObj, Result.andThen_ok, Sem.run_pure]
  · have := VR.map (c := c.put nx w.heap.size 0 0 0) (b := nx) put_self.1
    rw [put_self.2.1] at this
    exact this
theorem info_of {e : TypeId} {i : TypeInfo} (h : P.info? e = some i) (w : World) : (typeInfo e).run P w = .ok i w ∧ (sizeOf e).run P w = .ok i.size w := by simp [sizeOf, typeInfo, h]
theorem wrap_small (n : Nat) (h : n ≤ 1000000) : IntKind.i64.wrap (n : Int) = n := by
  rw [IntKind.wrap_i64]; omega
set_option maxRecDepth 20000 in
theorem makeSlice_res {c : Cx} {h : T O} {nx : Nat} {w : World} {t : TypeId} {l l' k k' v : Value} {e : Eff} (hv : makeSliceE P nx t l k = some (v, e)) (hl : VR c l l') (hk : VR c k k') : OpRes P c h nx w v e (do pure (.value (← Instr.makeSlice t l' k'))) := by
  unfold makeSliceE at hv
  split at hv
  · rename_i el ln cp hu hln hcp
    obtain ⟨q1, rfl⟩ := toNat_ok hln hl
    obtain ⟨q2, rfl⟩ := toNat_ok hcp hk
    split at hv
    · rename_i i z hi hz
      split at hv
      · rename_i hb
        simp only [Bool.and_eq_true, Nat.ble_eq, Nat.beq_eq, Nat.blt_eq, Nat.mul_eq] at hb
        obtain ⟨hb1, hb2, hb3, hb4, hb5⟩ := hb
        cases hv
        obtain ⟨hz1, hz2⟩ := run_zeroT hz w
        obtain ⟨hi1, hi2⟩ := info_of hi w
        have hzl := z_lr (c := c) hz2
        have hzs : z.cells.size = i.size := by rw [← Array.length_toList, hzl.length]; exact hb4
        have hrange : (Array.range (cp * i.size)).map (fun j => z.cells[j % z.cells.size]!) = ⟨times z.cells.toList cp⟩ := range_times _ _ _ hzs hb5
        have ht : LR c (times (cellsL z) cp) (times z.cells.toList cp) := by
          clear hrange hb1 hb2 hb3 hcp hk
          induction cp with
          | zero => exact .nil
          | succ k ih => exact hzl.append ih
        have hcap : cp < big := by
          have : (65536 : Nat) < big := by unfold big; decide
          omega
        refine .new _ rfl fun hn => ⟨_, _, _, val_run ?_, made_push w (.cells ⟨times z.cells.toList cp⟩ el (0, 0)), or_cells ht hn el, slice_put hcap⟩
        have w1 := wrap_small ln (by omega)
        have w2 := wrap_small cp (by omega)
        have hbi : (i.bytes : Int) * (cp : Int) ≤ 1000000 := by
          have : i.bytes * cp ≤ 1000000 := by rw [Nat.mul_comm]; exact hb2
          rw [← Int.natCast_mul]
          omega
        have a1 : ∀ (q : IntKind) (n : Nat), (asInt (.int q (n : Int))).run P w = .ok (n : Int) w := fun _ _ => rfl
        unfold Instr.makeSlice
        rw [Sem.run_bind, run_underlying hu, Result.andThen_ok]
        dsimp only
        rw [Sem.run_bind, a1, Result.andThen_ok, Sem.run_bind, a1, Result.andThen_ok, Sem.run_bind, hi1, Result.andThen_ok, w1, w2]
        rw [Sem.run_ite, if_neg]
        · simp only [Sem.run_bind, run_askRoom, Result.andThen_ok, hi2, Int.toNat_natCast]
          by_cases h0 : cp * i.size = 0
          · rw [if_pos h0]
            have hc0 : cp = 0 := by
              rcases Nat.mul_eq_zero.1 h0 with h | h
              · exact h
              · omega
            subst hc0
            simp only [Sem.run_bind, Sem.run_pure, Result.andThen_ok, Nat.zero_mul, newRow, run_newObj, map_range0]
            rfl
          · rw [if_neg h0]
            simp only [Sem.run_bind, hz1, Sem.run_pure, Result.andThen_ok, hrange, newRow, run_newObj]
        · simp only [Bool.or_eq_true, decide_eq_true_eq, not_or]
          refine ⟨⟨⟨by omega, by omega⟩, by omega⟩, by omega⟩
      · cases hv
    · cases hv
  · cases hv
end Go.Eng
