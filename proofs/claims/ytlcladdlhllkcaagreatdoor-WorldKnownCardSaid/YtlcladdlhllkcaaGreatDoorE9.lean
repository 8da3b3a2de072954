/-
  PROVED HERE: append and copy.
-/
import Derived.Test.YtlcladdlhllkcaaGreatDoorE8
namespace Go.Eng
set_option linter.unusedVariables false
set_option linter.unusedSimpArgs false
variable {P : Program}

/-- where a slice's cells lie. -/
theorem cells_run {c : Cx} {h : T O} {w : World} {z : Nat} {x x' : Value} {n : Nat} {cs : List Value} (hc : cellsOf h z x = some (n, cs)) (hx : VR c x x') (H : HR c h.get w) :
    (Builtin.lenOf x').run P w = .ok n w ∧ ∃ cs', LR c cs cs' ∧ cs.length = n * z ∧ ∀ m, m ≤ n → ∀ w2 : World, w2.heap = w.heap → (Builtin.firstCells z m x').run P w2 = .ok ⟨cut cs' 0 (m * z)⟩ w2 := by
  have zero : ∀ (a : Addr) (k : Nat), (Builtin.lenOf (.slice (some a) 0 k)).run P w = .ok 0 w ∧ ∃ cs', LR c [] cs' ∧ ([] : List Value).length = 0 * z ∧ ∀ m, m ≤ 0 → ∀ w2 : World, w2.heap = w.heap → (Builtin.firstCells z m (.slice (some a) 0 k)).run P w2 = .ok ⟨cut cs' 0 (m * z)⟩ w2 := fun a k =>
    ⟨rfl, [], .nil, by simp, fun m hm w2 hw2 => by
      have : m = 0 := by omega
      subst this
      simp [Builtin.firstCells, loadCells, loadCellsFrom, cut]⟩
  unfold cellsOf at hc
  split at hc
  · cases hc; cases hx
    exact ⟨rfl, [], .nil, by simp, fun m hm w2 hw2 => by simp [Builtin.firstCells, cut]⟩
  · cases hc
    cases hx with
    | slice => exact zero _ _
    | open_ => exact zero _ _
    | loose => exact zero _ _
  · rename_i b o l k hl0
    split at hc
    · rename_i row hrow
      split at hc
      · rename_i hle
        obtain ⟨rfl, rfl⟩ : l = n ∧ cut row o (Nat.mul l z) = cs := by simpa using hc
        have hle' := Nat.le_of_ble_eq_true hle
        simp only [Nat.add_eq, Nat.mul_eq] at hle' ⊢
        obtain ⟨hav, pre, l', post, ty, fr, hw, hp, hr⟩ := H.row rfl hrow
        have main : ∀ k', (Builtin.lenOf (.slice (some ⟨c.b b, c.o b + o, none⟩) l k')).run P w = .ok l w ∧ ∃ cs', LR c (cut row o (l * z)) cs' ∧ (cut row o (l * z)).length = l * z ∧ ∀ m, m ≤ l → ∀ w2 : World, w2.heap = w.heap → (Builtin.firstCells z m (.slice (some ⟨c.b b, c.o b + o, none⟩) l k')).run P w2 = .ok ⟨cut cs' 0 (m * z)⟩ w2 := fun k' => by
          refine ⟨rfl, cut l' o (l * z), hr.cut _ _, by simp [cut]; omega, fun m hm w2 hw2 => ?_⟩
          have hmz : m * z ≤ l * z := Nat.mul_le_mul_right _ hm
          rw [← hw2] at hw
          have := run_cells (P := P) hw (o := o) (n := m * z) (by rw [hr.length]; omega)
          rw [hp] at this
          have e : cut (cut l' o (l * z)) 0 (m * z) = cut l' o (m * z) := by
            simp only [cut, List.drop_zero, List.take_take]
            rw [Nat.min_eq_left hmz]
          rw [e]
          exact this
        cases hx with
        | slice => exact main _
        | open_ => exact main _
        | loose _ s _ _ hs => cases hs
      · cases hc
    · cases hc
  · rename_i s
    split at hc
    · rename_i hz
      cases hc
      have hz' := Nat.eq_of_beq_eq_true hz
      subst hz'
      cases hx
      refine ⟨rfl, s.data.toList.map (fun b => .int .u8 b.toNat), ?_, by simp, fun m hm w2 hw2 => ?_⟩
      · generalize s.data.toList = l
        induction l with
        | nil => exact .nil
        | cons a l ih => exact .cons (.int _ _) ih
      · simp only [Builtin.firstCells, Sem.run_pure, Nat.mul_one, cut, List.drop_zero]
        congr 1
        apply Array.ext'
        simp [List.map_take]
    · cases hc
  · cases hc
theorem zeros_no {t u : TypeId} (h : isIntT P u = false) (w : World) (ts : List TypeId) :
    (((match (⟨t :: u :: ts⟩ : Array TypeId)[1]? with | some xType => do pure ((← underlying xType) matches .int _) | none => pure false) : Sem Bool)).run P w = .ok false w := by
  unfold isIntT at h
  split at h
  · cases h
  · cases h
  · rename_i d hd
    cases hu : P.underlying u with
    | none => exact absurd hu (by assumption)
    | some d =>
      have h1 : (⟨t :: u :: ts⟩ : Array TypeId)[1]? = some u := rfl
      simp only [h1, Sem.run_bind, run_underlying hu, Result.andThen_ok, Sem.run_pure]
      cases d <;> first | rfl | exact absurd hu (by simp_all)
theorem nextcap_le (need old : Nat) (h : old < need) : Builtin.nextslicecap need old ≤ 4 * need + 4000 := by
  unfold Builtin.nextslicecap
  split
  · omega
  · split
    · omega
    · simp only [Builtin.growBy]
      repeat' split
      all_goals omega
theorem cells_none {c : Cx} {h : T O} {w : World} {z : Nat} {x x' : Value} {n : Nat} {cs : List Value} (hc : cellsOf h z x = some (n, cs)) (hx : VR c x x') :
    (Builtin.lenOf x').run P w = .ok n w ∧ (Builtin.firstCells z 0 x').run P w = .ok #[] w := by
  have key : ∀ (a : Addr) (l k : Nat), (Builtin.firstCells z 0 (.slice (some a) l k)).run P w = .ok #[] w := fun a l k => by simp [Builtin.firstCells, loadCells, loadCellsFrom]
  unfold cellsOf at hc
  split at hc
  · cases hc; cases hx; exact ⟨rfl, rfl⟩
  · cases hc; cases hx <;> exact ⟨rfl, key _ _ _⟩
  · split at hc
    · split at hc
      · cases hx <;> (have := hc; simp only [Option.some.injEq, Prod.mk.injEq] at this; obtain ⟨rfl, _⟩ := this; exact ⟨rfl, key _ _ _⟩)
      · cases hc
    · cases hc
  · rename_i s
    split at hc
    · cases hc; cases hx
      refine ⟨rfl, ?_⟩
      simp only [Builtin.firstCells, Sem.run_pure]
      congr 1
      apply Array.ext'
      simp
    · cases hc
  · cases hc
theorem copy_res {c : Cx} {h : T O} {nx : Nat} {w : World} {ts : List TypeId} {ty : TypeId} {d d' s s' v : Value} {e : Eff} (hv : copyE P h ts d s = some (v, e)) (hd : VR c d d') (hs : VR c s s') : OpRes P c h nx w v e (do pure (.value (← Builtin.copy_ ⟨ts⟩ ty #[d', s']))) := by
  unfold copyE at hv
  split at hv
  case h_2 => cases hv
  rename_i t ts
  split at hv
  case h_2 => cases hv
  rename_i el hu
  split at hv
  case h_2 => cases hv
  rename_i z base dl k hz
  split at hv
  case h_2 => cases hv
  rename_i n cs hc
  split at hv
  · rename_i hm0
    cases hv
    refine .rd [] rfl fun u H hu2 => ⟨.int .i64 0, .int _ _, val_run ?_⟩
    obtain ⟨hl, hz0⟩ := cells_none (P := P) (w := w) hc hs
    have h0 : (⟨t :: ts⟩ : Array TypeId)[0]? = some t := rfl
    have h1 : ∀ (a b : Value), (#[a, b] : Array Value)[0]? = some a := fun _ _ => rfl
    have h2 : ∀ (a b : Value), (#[a, b] : Array Value)[1]? = some b := fun _ _ => rfl
    have main : ∀ b' k', (Builtin.copy_ ⟨t :: ts⟩ ty #[.slice b' dl k', s']).run P w = .ok (.int .i64 0) w := fun b' k' => by
      simp only [Builtin.copy_, h0, h1, h2, Sem.run_bind, run_underlying hu, Result.andThen_ok, hl, run_sizeT hz, hm0, hz0, Sem.run_pure]
      cases b' <;> rfl
    cases hd with
    | snil => exact main _ _
    | slice => exact main _ _
    | open_ => exact main _ _
    | loose => exact main _ _
  · rename_i b o hm0
    split at hv
    case h_2 => cases hv
    rename_i row g hrow
    split at hv
    case h_2 => cases hv
    rename_i hb
    cases hv
    simp only [Bool.and_eq_true, Nat.ble_eq, Nat.add_eq, Nat.mul_eq] at hb
    obtain ⟨hb1, hb2⟩ := hb
    have hget : h.get b = some (g row) := by
      unfold rowAt at hrow
      split at hrow
      · rename_i hx; cases hrow; exact hx
      · rename_i hx; cases hrow; exact hx
      · cases hrow
    refine .set (hno := rowAt_ro (by assumption) _) hget fun H => ?_
    obtain ⟨hl, cs', hr, hlen, hcells⟩ := cells_run (P := P) hc hs H
    obtain ⟨_, _, pre, l', post, tyy, hw, hp, hrr, hor⟩ := H.rowAt hrow
    have hmn : Nat.min n dl ≤ n := Nat.min_le_left _ _
    have hmz : Nat.min n dl * z ≤ cs.length := by rw [hlen]; exact Nat.mul_le_mul_right _ hmn
    have hcl : LR c (cut cs 0 (Nat.min n dl * z)) (cut cs' 0 (Nat.min n dl * z)) := hr.cut _ _
    have hclen : (cut cs 0 (Nat.min n dl * z)).length = Nat.min n dl * z := by simp only [cut, List.drop_zero, List.length_take]; exact Nat.min_eq_left hmz
    have hones : (cut cs 0 (Nat.min n dl * z)).all oneV = true := by
      simp only [List.all_eq_true] at hb2 ⊢
      intro x hx
      exact hb2 x (by simp only [cut, List.drop_zero] at hx; exact List.mem_of_mem_take hx)
    have hfit : o + (cut cs' 0 (Nat.min n dl * z)).length ≤ l'.length := by rw [hcl.length, hrr.length, hclen]; exact hb1
    obtain ⟨w', hrun, hturn⟩ := run_lay (P := P) hw hfit (hcl.ones hones)
    rw [hp] at hrun
    refine ⟨w', _, .int .i64 (Nat.min n dl : Nat), hturn, hor _ _ (hrr.lay hcl (by rw [hclen]; exact hb1)) (lay_length _ _ _ (by simp only [Nat.mul_eq]; rw [hclen]; exact hb1)), .int _ _, .inl (val_run ?_)⟩
    have h0 : (⟨t :: ts⟩ : Array TypeId)[0]? = some t := rfl
    have h1 : ∀ (a b : Value), (#[a, b] : Array Value)[0]? = some a := fun _ _ => rfl
    have h2 : ∀ (a b : Value), (#[a, b] : Array Value)[1]? = some b := fun _ _ => rfl
    have main : ∀ k', (Builtin.copy_ ⟨t :: ts⟩ ty #[.slice (some ⟨c.b b, c.o b + o, none⟩) dl k', s']).run P w = .ok (.int .i64 (Nat.min n dl : Nat)) w' := fun k' => by
      simp only [Builtin.copy_, h0, h1, h2, Sem.run_bind, run_underlying hu, Result.andThen_ok, hl, run_sizeT hz, hcells _ hmn w rfl, hrun, Sem.run_pure]
      rfl
    cases hd with
    | slice => exact main _
    | open_ => exact main _
    | loose _ s _ _ hs => cases hs
  · cases hv
end Go.Eng
