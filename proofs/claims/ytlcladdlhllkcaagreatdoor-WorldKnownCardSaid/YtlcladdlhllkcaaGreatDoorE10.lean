/-
  PROVED HERE: append.
-/
import Derived.Test.YtlcladdlhllkcaaGreatDoorE9
namespace Go.Eng
set_option linter.unusedVariables false
set_option linter.unusedSimpArgs false
variable {P : Program}

theorem zeroCells_len (z : Array Value) (n : Nat) : (Builtin.zeroCells z n).size = n * z.size := by simp [Builtin.zeroCells]
/-- The common head of append: what both ways begin with. -/
theorem append_head {t u el : TypeId} {ts : List TypeId} {ty : TypeId} {i : TypeInfo} {base : Option Addr} {len cap n : Nat} {x' : Value} {w : World} {new : List Value}
    (hu : P.underlying t = some (.slice el)) (hz : isIntT P u = false) (hi : P.info? el = some i) (hl : (Builtin.lenOf x').run P w = .ok n w) (hc : ∀ w2 : World, w2.heap = w.heap → (Builtin.firstCells i.size n x').run P w2 = .ok ⟨new⟩ w2)
    (hfit : len + n ≤ cap) : (Builtin.append_ ⟨t :: u :: ts⟩ ty #[.slice base len cap, x']).run P w = ((do
      if let some a := base then storeCells (a.add (len * i.size)) new
      pure (.slice base (len + n) cap) : Sem Value)).run P w := by
  obtain ⟨hi1, hi2⟩ := info_of hi w
  have h0 : (⟨t :: u :: ts⟩ : Array TypeId)[0]? = some t := rfl
  have h1 : ∀ (a b : Value), (#[a, b] : Array Value)[0]? = some a := fun _ _ => rfl
  have h2 : ∀ (a b : Value), (#[a, b] : Array Value)[1]? = some b := fun _ _ => rfl
  have h3 : (⟨t :: u :: ts⟩ : Array TypeId)[1]? = some u := rfl
  have hz' := zeros_no (t := t) hz w ts
  simp only [h3] at hz'
  simp only [Builtin.append_, h0, h1, h2, h3, Sem.run_bind, run_underlying hu, Result.andThen_ok, hi2]
  simp only [Sem.run_bind] at hz'
  cases hud : P.underlying u with
  | none => unfold isIntT at hz; rw [hud] at hz; cases hz
  | some d =>
    have hd : ∀ q, d ≠ .int q := by
      rintro q rfl
      unfold isIntT at hz; rw [hud] at hz; cases hz
    clear hz
    cases d <;> first
      | exact absurd rfl (hd _)
      | (simp only [run_underlying hud, Result.andThen_ok, Sem.run_pure, Bool.false_eq_true, if_false, hl, hfit, if_true, Sem.run_bind, Bool.not_false, hc w rfl]
         rfl)
theorem append_new {c : Cx} {t u el : TypeId} {ts : List TypeId} {ty : TypeId} {i : TypeInfo} {base : Option Addr} {len cap n : Nat} {x' zv : Value} {w : World} {old new : List Value}
    (hu : P.underlying t = some (.slice el)) (hz : isIntT P u = false) (hi : P.info? el = some i) (hzv : ∀ w2, (zeroValue el).run P w2 = .ok zv w2) (hzs : zv.cells.size = i.size) (hl : (Builtin.lenOf x').run P w = .ok n w)
    (hc : ∀ w2 : World, w2.heap = w.heap → (Builtin.firstCells i.size n x').run P w2 = .ok ⟨new⟩ w2) (ho : ∀ w2 : World, w2.heap = w.heap → (Builtin.firstCells i.size len (.slice base len cap)).run P w2 = .ok ⟨old⟩ w2)
    (hfit : ¬ len + n ≤ cap) (h1 : len + n ≤ 100000) (h2 : i.bytes ≤ 1000) (h3 : 0 < i.bytes) :
    ∃ w' k rest, (Builtin.append_ ⟨t :: u :: ts⟩ ty #[.slice base len cap, x']).run P w = .ok (.slice (some ⟨w.heap.size, 0, none⟩) (len + n) k) w' ∧ len + n ≤ k ∧ rest.length = (k - (len + n)) * i.size ∧ Made w w' (.cells ⟨old ++ new ++ rest⟩ el (0, 0)) := by
  obtain ⟨hi1, hi2⟩ := info_of hi w
  have a0 : (⟨t :: u :: ts⟩ : Array TypeId)[0]? = some t := rfl
  have a1 : ∀ (a b : Value), (#[a, b] : Array Value)[0]? = some a := fun _ _ => rfl
  have a2 : ∀ (a b : Value), (#[a, b] : Array Value)[1]? = some b := fun _ _ => rfl
  have a3 : (⟨t :: u :: ts⟩ : Array TypeId)[1]? = some u := rfl
  have hcap := nextcap_le (len + n) cap (by omega)
  have hsmall : ¬ Builtin.nextslicecap (len + n) cap * i.bytes > 2 ^ 48 := by
    have : Builtin.nextslicecap (len + n) cap * i.bytes ≤ (4 * (len + n) + 4000) * 1000 := Nat.mul_le_mul hcap h2
    omega
  cases hud : P.underlying u with
  | none => unfold isIntT at hz; rw [hud] at hz; cases hz
  | some d =>
    have hd : ∀ q, d ≠ .int q := by
      rintro q rfl
      unfold isIntT at hz; rw [hud] at hz; cases hz
    have hneg : ¬ (((len + n : Nat) : Int) > IntKind.i64.max ∧ (False ∨ i.bytes = 0)) := by
      rintro ⟨_, h | h⟩
      · exact h
      · omega
    obtain ⟨w1, hw1⟩ : ∃ w1 : World, w1 = { w with drawn := w.drawn + 1 } := ⟨_, rfl⟩
    have hw1h : w1.heap = w.heap := by rw [hw1]
    obtain ⟨k, hk⟩ : ∃ k, k = (Question.appendCap (len + n) cap el).cut (w.tape w.drawn (.appendCap (len + n) cap el)) := ⟨_, rfl⟩
    have hkle : len + n ≤ k := by rw [hk]; exact Nat.le_add_right _ _
    have hch : (choose (.appendCap (len + n) cap el)).run P w = .ok k w1 := by rw [hk, hw1]; rfl
    obtain ⟨hj1, hj2⟩ := info_of hi w1
    refine ⟨{ w1 with heap := w1.heap.push (.cells ⟨old ++ new ++ (Builtin.zeroCells zv.cells (k - (len + n))).toList⟩ el (0, 0)) }, k, (Builtin.zeroCells zv.cells (k - (len + n))).toList, ?_, hkle, by rw [Array.length_toList, zeroCells_len, hzs], ?_⟩
    · have : (⟨old⟩ ++ ⟨new⟩ ++ Builtin.zeroCells zv.cells (k - (len + n)) : Array Value) = ⟨old ++ new ++ (Builtin.zeroCells zv.cells (k - (len + n))).toList⟩ := by
        apply Array.ext'
        simp
      clear hz
      cases d <;> first
        | exact absurd rfl (hd _)
        | (simp only [Builtin.append_, a0, a1, a2, a3, Sem.run_bind, run_underlying hu, Result.andThen_ok, hi2, run_underlying hud, Sem.run_pure, Bool.false_eq_true, if_false, hl, hfit, hi1]
           rw [if_neg hneg]
           simp only [Sem.run_bind, hi1, Result.andThen_ok]
           rw [if_neg hsmall]
           simp only [Sem.run_bind, hch, Result.andThen_ok, run_askRoom, hj1, ho w1 hw1h, hc w1 hw1h, hzv, newRow, run_newObj, Sem.run_pure, Bool.not_false, if_true, this, hw1h])
    · have hp := made_push w1 (.cells ⟨old ++ new ++ (Builtin.zeroCells zv.cells (k - (len + n))).toList⟩ el (0, 0))
      exact ⟨by rw [hp.size, hw1h], by rw [← hw1h]; exact hp.at_, fun j hj => by rw [hp.other j (by rw [hw1h]; exact hj), hw1h], by rw [hp.os, hw1], by rw [hp.tape, hw1], by rw [hp.output, hw1]⟩
/-- a row that an append has made, seen from where it begins. -/
theorem grown_res {c : Cx} {h : T O} {nx : Nat} {w w' : World} {z len k : Nat} {el : TypeId} {all all' rest : List Value} (H : HR c h.get w) (hn : ¬ c.av nx) (ha : LR c all all') (hal : all.length = len * z) (hr : rest.length = (k - len) * z) (hk : len ≤ k) (hm : Made w w' (.cells ⟨all' ++ rest⟩ el (0, 0))) :
    ∃ c', St c h.get w c' (h.set nx (some (.opn z all))).get w' nx (nx + 1) ∧ VR c' (.slice (some ⟨nx, 0, none⟩) len (big + len)) (.slice (some ⟨w.heap.size, 0, none⟩) len k) := by
  refine ⟨c.put nx w.heap.size 0 (all'.length + rest.length) z, St.new H _ _ hn hm ?_, ?_⟩
  · exact ⟨[], all', rest, el, by simp, by simp [Cx.put], ha.le (put_le hn), by simp [Cx.put], by simp [Cx.put]⟩
  · have ⟨h1, h2, h3, h4, h5⟩ := put_self (c := c) (n := nx) (b := w.heap.size) (o := 0) (e := all'.length + rest.length) (z := z)
    have := VR.open_ (c := c.put nx w.heap.size 0 (all'.length + rest.length) z) (o := 0) h1 len (big + len) k (by omega) (by omega) (by omega) (by
      rw [h4, h5, ha.length, hal, hr, Nat.zero_add, ← Nat.add_mul]
      congr 1
      omega)
    rw [h2, h3] at this
    exact this
theorem append_res {c : Cx} {h : T O} {nx : Nat} {w : World} {ts : List TypeId} {ty : TypeId} {s s' x x' v : Value} {e : Eff} (hv : appendE P h nx ts s x = some (v, e)) (hs : VR c s s') (hx : VR c x x') : OpRes P c h nx w v e (do pure (.value (← Builtin.append_ ⟨ts⟩ ty #[s', x']))) := by
  unfold appendE at hv
  split at hv
  case h_2 => cases hv
  rename_i t u ts
  split at hv
  case h_2 => cases hv
  rename_i el hu hz
  split at hv
  case h_2 => cases hv
  rename_i i zv hi hzv
  split at hv
  case h_2 => cases hv
  rename_i n cs base len cap hc
  split at hv
  case h_1 => cases hv
  rename_i hb
  simp only [Bool.and_eq_true, Nat.ble_eq, Nat.blt_eq, Nat.beq_eq, Nat.add_eq, Nat.mul_eq] at hb
  obtain ⟨hb1, hb2, hb3, hb4, hb5⟩ := hb
  have hzs : zv.cells.size = i.size := by
    have hz2 := (run_zeroT hzv w).2
    rw [← Array.length_toList, (z_lr (c := c) hz2).length]; exact hb4
  have hz1 : ∀ w2, (zeroValue el).run P w2 = .ok zv w2 := fun w2 => (run_zeroT hzv w2).1
  have drawn : ∀ {w2 : World}, w2.heap = w.heap → HR c h.get w → HR c h.get w2 := fun hw H => ⟨fun i x hx => by rw [hw]; exact H.at_ i x hx, H.inj⟩
  split at hv
  · rename_i hcap
    have hcap' : cap < big := by simpa [Nat.blt_eq] using hcap
    split at hv
    · rename_i hfit
      have hfit' : len + n ≤ cap := Nat.le_of_ble_eq_true hfit
      split at hv
      · rename_i b o
        split at hv
        · rename_i row g hrow
          split at hv
          · rename_i hin
            cases hv
            simp only [Bool.and_eq_true, Nat.ble_eq, Nat.add_eq, Nat.mul_eq] at hin
            obtain ⟨hin1, hin2⟩ := hin
            have hget : h.get b = some (g row) := by
              unfold rowAt at hrow
              split at hrow
              · rename_i hx; cases hrow; exact hx
              · rename_i hx; cases hrow; exact hx
              · cases hrow
            cases hs with
            | open_ _ _ _ _ hk => omega
            | loose _ s _ _ hs => cases hs
            | slice hav =>
              refine .set (hno := rowAt_ro (by assumption) _) hget fun H => ?_
              obtain ⟨hl, cs', hr, hlen, hcells⟩ := cells_run (P := P) hc hx H
              obtain ⟨_, _, pre, l', post, tyy, hw, hp, hrr, hor⟩ := H.rowAt hrow
              have hcsl : cs'.length = n * i.size := by rw [hr.length, hb5]
              have hcut : cut cs' 0 (n * i.size) = cs' := by simp only [cut, List.drop_zero]; exact List.take_of_length_le (by omega)
              have hsum : (len + n) * i.size = len * i.size + n * i.size := Nat.add_mul _ _ _
              have hfit2 : (o + len * i.size) + cs'.length ≤ l'.length := by rw [hrr.length, hcsl]; omega
              obtain ⟨w', hrun, hturn⟩ := run_lay (P := P) hw hfit2 (hr.ones hin2)
              rw [hp, ← Nat.add_assoc] at hrun
              have hfit3 : (o + len * i.size) + cs.length ≤ row.length := by rw [hb5]; omega
              refine ⟨w', _, .slice (some ⟨c.b b, c.o b + o, none⟩) (len + n) cap, hturn, hor _ _ (hrr.lay hr hfit3) (lay_length _ _ _ hfit3), .slice hav _ _ hcap', .inl (val_run ?_)⟩
              rw [append_head hu hz hi hl (fun w2 hw2 => by rw [hcells n (Nat.le_refl _) w2 hw2, hcut]) hfit']
              simp only [Sem.run_bind, add_addr, hrun, Result.andThen_ok, Sem.run_pure]
          · cases hv
        · cases hv
      · split at hv
        · rename_i hn0
          cases hv
          have hn0' := Nat.eq_of_beq_eq_true hn0
          subst hn0'
          cases hs
          refine .rd [] rfl fun u H hu2 => ⟨_, .snil _ _, val_run ?_⟩
          obtain ⟨hl, hz0⟩ := cells_none (P := P) (w := w) hc hx
          have hc0 : ∀ w2 : World, w2.heap = w.heap → (Builtin.firstCells i.size 0 x').run P w2 = .ok ⟨[]⟩ w2 := fun w2 _ => (cells_none (P := P) (w := w2) hc hx).2
          rw [append_head (ty := ty) hu hz hi hl hc0 hfit']
          rfl
        · cases hv
      · cases hv
    · rename_i hfit
      have hfit' : ¬ len + n ≤ cap := fun h => by rw [show Nat.ble (Nat.add len n) cap = true from Nat.ble_eq.mpr h] at hfit; cases hfit
      split at hv
      · rename_i n1 old ho
        rw [forceL_eq] at hv
        cases hv
        refine .act rfl (fun _ _ h => by cases h) fun H hn => ?_
        rw [grow_run]
        obtain ⟨hl, cs', hr, hlen, hcells⟩ := cells_run (P := P) hc hx H
        obtain ⟨hl2, old', hro, hleno, hcello⟩ := cells_run (P := P) ho hs H
        have hcsl : cs'.length = n * i.size := by rw [hr.length, hb5]
        have hcut : cut cs' 0 (n * i.size) = cs' := by simp only [cut, List.drop_zero]; exact List.take_of_length_le (by omega)
        have main : ∀ base' cap', s' = .slice base' len cap' → cap' = cap → ∃ c' w' v', St c h.get w c' (h.set nx (some (.opn i.size (old ++ cs)))).get w' nx (nx + 1) ∧ VR c' (.slice (some ⟨nx, 0, none⟩) (len + n) (big + (len + n))) v' ∧ (Builtin.append_ ⟨t :: u :: ts⟩ ty #[s', x']).run P w = .ok v' w' := by
          rintro base' cap' rfl rfl
          have hn1 : n1 = len := by
            have : (Builtin.lenOf (.slice base' len cap')).run P w = .ok len w := rfl
            rw [this] at hl2
            cases hl2; rfl
          subst hn1
          have hcut2 : cut old' 0 (n1 * i.size) = old' := by simp only [cut, List.drop_zero]; exact List.take_of_length_le (by rw [hro.length]; omega)
          obtain ⟨w', k, rest, hrun, hk, hrest, hm⟩ := append_new (c := c) (ty := ty) (ts := ts) hu hz hi hz1 hzs hl (fun w2 hw2 => by rw [hcells n (Nat.le_refl _) w2 hw2, hcut]) (fun w2 hw2 => by rw [hcello n1 (Nat.le_refl _) w2 hw2, hcut2]) hfit' hb1 hb2 hb3
          obtain ⟨c', h1, h2⟩ := grown_res H hn (hro.append hr) (by rw [List.length_append, hleno, hb5, Nat.add_mul]) hrest hk hm
          exact ⟨c', w', _, h1, h2, hrun⟩
        have fin : ∃ c' w' v', St c h.get w c' (h.set nx (some (.opn i.size (old ++ cs)))).get w' nx (nx + 1) ∧ VR c' (.slice (some ⟨nx, 0, none⟩) (len + n) (big + (len + n))) v' ∧ (Builtin.append_ ⟨t :: u :: ts⟩ ty #[s', x']).run P w = .ok v' w' := by
          cases hs with
          | snil => exact main _ _ rfl rfl
          | slice => exact main _ _ rfl rfl
          | open_ _ _ _ _ hk => omega
          | loose => omega
        obtain ⟨c', w', v', h1, h2, h3⟩ := fin
        exact ⟨c', w', v', h1, h2, .inl (val_run h3)⟩
      · cases hv
  · rename_i hcap
    have hcap' : big ≤ cap := by
      have : ¬ cap < big := fun h => by rw [show Nat.blt cap big = true from by simpa [Nat.blt_eq] using h] at hcap; cases hcap
      omega
    split at hv
    · rename_i b o
      split at hv
      · rename_i z row n1 old hget ho
        split at hv
        · rename_i hin
          simp only [Bool.and_eq_true, Nat.beq_eq] at hin
          obtain ⟨rfl, hin2⟩ := hin
          split at hv
          · rename_i hfit
            rw [forceL_eq] at hv
            cases hv
            simp only [Bool.and_eq_true, Nat.ble_eq, Nat.add_eq, Nat.mul_eq, Nat.sub_eq] at hfit
            obtain ⟨hfit1, hin1⟩ := hfit
            have hrow : rowAt h b = some (row, .opn i.size) := by unfold rowAt; rw [hget]
            cases hs with
            | slice _ _ _ hk => omega
            | loose _ s _ _ hs => cases hs
            | open_ hav _ _ k' hk hlk hk' he =>
              refine .set hget fun H => ?_
              obtain ⟨hl, cs', hr, hlen, hcells⟩ := cells_run (P := P) hc hx H
              obtain ⟨_, _, pre, l', post, tyy, hw, hp, hrr, hor⟩ := H.rowAt hrow
              have hcsl : cs'.length = n * i.size := by rw [hr.length, hb5]
              have hcut : cut cs' 0 (n * i.size) = cs' := by simp only [cut, List.drop_zero]; exact List.take_of_length_le (by omega)
              have hsum : (len + n) * i.size = len * i.size + n * i.size := Nat.add_mul _ _ _
              have hfit2 : (o + len * i.size) + cs'.length ≤ l'.length := by rw [hrr.length, hcsl]; omega
              obtain ⟨w', hrun, hturn⟩ := run_lay (P := P) hw hfit2 (hr.ones hin2)
              rw [hp, ← Nat.add_assoc] at hrun
              have hfit3 : (o + len * i.size) + cs.length ≤ row.length := by rw [hb5]; omega
              refine ⟨w', _, .slice (some ⟨c.b b, c.o b + o, none⟩) (len + n) k', hturn, hor _ _ (hrr.lay hr hfit3) (lay_length _ _ _ hfit3), .open_ hav _ _ _ hk hfit1 hk' he, .inl (val_run ?_)⟩
              rw [append_head hu hz hi hl (fun w2 hw2 => by rw [hcells n (Nat.le_refl _) w2 hw2, hcut]) (by omega)]
              simp only [Sem.run_bind, add_addr, hrun, Result.andThen_ok, Sem.run_pure]
          rw [forceL_eq] at hv
          cases hv
          cases hs with
          | slice _ _ _ hk => omega
          | loose _ s _ _ hs => cases hs
          | open_ hav _ _ k' hk hlk hk' he =>
            refine .act rfl (fun _ _ h => by cases h) fun H hn => ?_
            rw [shift_run]
            obtain ⟨hl, cs', hr, hlen, hcells⟩ := cells_run (P := P) hc hx H
            obtain ⟨hl2, old', hro, hleno, hcello⟩ := cells_run (P := P) ho (.open_ hav _ _ _ hk hlk hk' he) H
            have hn1 : n1 = len := by
              have : (Builtin.lenOf (.slice (some ⟨c.b b, c.o b + o, none⟩) len k')).run P w = .ok len w := rfl
              rw [this] at hl2
              cases hl2; rfl
            subst hn1
            have hcsl : cs'.length = n * i.size := by rw [hr.length, hb5]
            have hcut : cut cs' 0 (n * i.size) = cs' := by simp only [cut, List.drop_zero]; exact List.take_of_length_le (by omega)
            have hcut2 : cut old' 0 (n1 * i.size) = old' := by simp only [cut, List.drop_zero]; exact List.take_of_length_le (by rw [hro.length]; omega)
            have hsum : (n1 + n) * i.size = n1 * i.size + n * i.size := Nat.add_mul _ _ _
            obtain ⟨_, pre, l', post, tyy, hw, hp, hrr, hz2, he2⟩ := H.at_ b _ hget
            by_cases hfit : n1 + n ≤ k'
            · -- in place
              have hkz : (n1 + n) * i.size ≤ k' * i.size := Nat.mul_le_mul_right _ hfit
              rw [hz2] at he
              have hroom : o + k' * i.size = (l' ++ post).length := by rw [he, he2, List.length_append]
              have hw2 : w.heap[c.b b]? = some (.cells ⟨pre ++ (l' ++ post) ++ []⟩ tyy (0, 0)) := by rw [hw]; simp
              have hfit2 : (o + n1 * i.size) + cs'.length ≤ (l' ++ post).length := by rw [← hroom, hcsl]; omega
              obtain ⟨w', hrun, hturn⟩ := run_lay (P := P) hw2 hfit2 (hr.ones hin2)
              rw [hp, ← Nat.add_assoc] at hrun
              -- what lies there
              have hold : ((l' ++ post).drop o).take (n1 * i.size) = old' := by
                have hf := run_cells (P := P) hw2 (o := o) (n := n1 * i.size) (by rw [← hroom]; omega)
                rw [hp] at hf
                have := hcello n1 (Nat.le_refl _) w rfl
                rw [hcut2] at this
                have e2 : (Builtin.firstCells i.size n1 (.slice (some ⟨c.b b, c.o b + o, none⟩) n1 k')).run P w = (loadCells ⟨c.b b, c.o b + o, none⟩ (n1 * i.size)).run P w := rfl
                rw [e2, hf] at this
                have e3 : (⟨cut (l' ++ post) o (n1 * i.size)⟩ : Array Value) = ⟨old'⟩ := by injection this
                have e4 := congrArg Array.toList e3
                exact e4
              refine ⟨c.put nx (c.b b) (c.o b + o) (k' * i.size) i.size, w', .slice (some ⟨c.b b, c.o b + o, none⟩) (n1 + n) k', St.shift H _ _ _ hn hget hturn ?_, ?_, .inl (val_run ?_)⟩
              · refine ⟨pre ++ (l' ++ post).take o, old' ++ cs', (l' ++ post).drop (o + n1 * i.size + cs'.length), tyy, ?_, ?_, (hro.append hr).le (put_le hn), by simp [Cx.put], ?_⟩
                · rw [lay_eq _ _ _ hfit2, ← hold]
                  congr 2
                  have : (l' ++ post).take (o + n1 * i.size) = (l' ++ post).take o ++ ((l' ++ post).drop o).take (n1 * i.size) := by
                    rw [List.take_add]
                  rw [this]
                  simp only [List.append_assoc, List.append_nil]
                · simp only [List.length_append, Cx.put, if_true, hp]
                  rw [List.length_take, Nat.min_eq_left (by rw [← hroom]; omega)]
                · simp only [Cx.put, if_true, List.length_append, List.length_drop] at hroom ⊢
                  rw [hro.length, hleno, hcsl]
                  omega
              · have ⟨h1, h2, h3, h4, h5⟩ := put_self (c := c) (n := nx) (b := c.b b) (o := c.o b + o) (e := k' * i.size) (z := i.size)
                have := VR.open_ (c := c.put nx (c.b b) (c.o b + o) (k' * i.size) i.size) (o := 0) h1 (n1 + n) (big + (n1 + n)) k' (by omega) (by omega) (by omega) (by rw [h4, h5]; omega)
                rw [h2, h3] at this
                exact this
              · rw [append_head hu hz hi hl (fun w2 hw2 => by rw [hcells n (Nat.le_refl _) w2 hw2, hcut]) hfit]
                simp only [Sem.run_bind, add_addr, hrun, Result.andThen_ok, Sem.run_pure]
            · obtain ⟨w', k, rest, hrun, hk2, hrest, hm⟩ := append_new (c := c) (ty := ty) (ts := ts) hu hz hi hz1 hzs hl (fun w2 hw2 => by rw [hcells n (Nat.le_refl _) w2 hw2, hcut]) (fun w2 hw2 => by rw [hcello n1 (Nat.le_refl _) w2 hw2, hcut2]) hfit hb1 hb2 hb3
              obtain ⟨c', h1, h2⟩ := grown_res H hn (hro.append hr) (by rw [List.length_append, hleno, hb5, Nat.add_mul]) hrest hk2 hm
              refine ⟨c', w', _, h1.sub fun j y hj => ?_, h2, .inl (val_run hrun)⟩
              rw [T.get_set, T.get_set] at hj
              rw [T.get_set]
              split at hj
              · rename_i hjn; rw [if_pos hjn]; exact hj
              · rename_i hjn
                rw [if_neg hjn]
                split at hj
                · cases hj
                · exact hj
        · cases hv
      · cases hv
    · cases hv
end Go.Eng
