/-
  PROVED HERE: each operation of the evaluator that enters no function is what the model's operation does.
-/
import Derived.Test.YtlcladdlhllkcaaGreatDoorE10
namespace Go.Eng
set_option linter.unusedVariables false
set_option linter.unusedSimpArgs false
variable {P : Program}

theorem len_rd {c : Cx} {h : T O} {w : World} {ts : List TypeId} {ty : TypeId} {x x' v : Value} {e : Eff} (hv : lenE P h ts x = some (v, e)) (hx : VR c x x') : RdOK P c h w v e (Builtin.len_ ⟨ts⟩ ty #[x']) := by
  unfold lenE at hv
  split at hv
  case h_2 => cases hv
  rename_i t ts
  have h0 : (⟨t :: ts⟩ : Array TypeId)[0]? = some t := rfl
  have h1 : ∀ (a : Value), (#[a] : Array Value)[0]? = some a := fun _ => rfl
  split at hv
  · rename_i s hu
    cases hv; cases hx
    exact .now [] rfl (.int _ _) (by simp only [Builtin.len_, h0, h1, Sem.run_bind, run_underlying hu, Result.andThen_ok, Sem.run_pure]; rfl)
  · rename_i n el hu
    cases hv
    exact .now [] rfl (.int _ _) (by simp only [Builtin.len_, h0, h1, Sem.run_bind, run_underlying hu, Result.andThen_ok, Sem.run_pure]; rfl)
  · rename_i a n k hu
    cases hv
    have key : ∀ a' k', (Builtin.len_ ⟨t :: ts⟩ ty #[.slice a' n k']).run P w = .ok (.int .i64 (n : Int)) w := fun a' k' => by
      simp only [Builtin.len_, h0, h1, Sem.run_bind, run_underlying hu, Result.andThen_ok, Sem.run_pure]; rfl
    cases hx with
    | snil => exact .now [] rfl (.int _ _) (key _ _)
    | slice => exact .now [] rfl (.int _ _) (key _ _)
    | open_ => exact .now [] rfl (.int _ _) (key _ _)
    | loose => exact .now [] rfl (.int _ _) (key _ _)
  · rename_i hu
    cases hv; cases hx
    exact .now [] rfl (.int _ _) (by simp only [Builtin.len_, h0, h1, Sem.run_bind, run_underlying hu, Result.andThen_ok, Sem.run_pure]; rfl)
  · rename_i b hu
    split at hv
    · rename_i es clk hg
      cases hv
      cases hx with
      | map hav =>
        refine ⟨[b], rfl, fun u H hu2 => ⟨_, .int _ _, ?_⟩⟩
        obtain ⟨es', hw, her⟩ := (H.at_ b _ ((hu2 b (List.mem_cons_self ..)).trans hg)).2
        simp only [Builtin.len_, h0, h1, Sem.run_bind, run_underlying hu, Result.andThen_ok, run_getMap hw, Sem.run_pure]
        congr 1
        show goInt ((⟨es'⟩ : Array MapEntry).size : Nat) = _
        rw [show (⟨es'⟩ : Array MapEntry).size = es'.length from rfl, her.length]
        rfl
    · cases hv
  · cases hv
theorem clear_res {c : Cx} {h : T O} {nx : Nat} {w : World} {ts : List TypeId} {ty : TypeId} {x x' v : Value} {e : Eff} (hv : clearE P h ts x = some (v, e)) (hx : VR c x x') : OpRes P c h nx w v e (do pure (.value (← Builtin.clear_ ⟨ts⟩ ty #[x']))) := by
  unfold clearE at hv
  split at hv
  case h_2 => cases hv
  rename_i t ts
  have h0 : (⟨t :: ts⟩ : Array TypeId)[0]? = some t := rfl
  have h1 : ∀ (a : Value), (#[a] : Array Value)[0]? = some a := fun _ => rfl
  split at hv
  case h_2 => cases hv
  rename_i el base n cap hu
  split at hv
  · cases hv
    have key : ∀ b' k', (Builtin.clear_ ⟨t :: ts⟩ ty #[.slice b' 0 k']).run P w = .ok (.tuple #[]) w := fun b' k' => by
      cases b' <;> simp only [Builtin.clear_, h0, h1, Sem.run_bind, run_underlying hu, Result.andThen_ok, Sem.run_pure]
    refine .rd [] rfl fun u H hu2 => ⟨.tuple #[], .tuple .nil, val_run ?_⟩
    cases hx with
    | snil => exact key _ _
    | slice => exact key _ _
    | open_ => exact key _ _
    | loose => exact key _ _
  · rename_i b o hn0
    split at hv
    case h_2 => cases hv
    rename_i z row g hz hrow
    split at hv
    case h_2 => cases hv
    rename_i hb
    simp only [Bool.and_eq_true, Nat.blt_eq, Nat.ble_eq, Nat.add_eq, Nat.mul_eq] at hb
    obtain ⟨hb1, hb2, hb3⟩ := hb
    rw [forceL_eq] at hv
    cases hv
    have hget : h.get b = some (g row) := by
      unfold rowAt at hrow
      split at hrow
      · rename_i hx; cases hrow; exact hx
      · rename_i hx; cases hrow; exact hx
      · cases hrow
    refine .set (hno := rowAt_ro (by assumption) _) hget fun H => ?_
    obtain ⟨hz1, hz2⟩ := run_zeroT hz w
    have hzl := z_lr (c := c) hz2
    obtain ⟨_, _, pre, l', post, tyy, hw, hp, hrr, hor⟩ := H.rowAt hrow
    have ht : LR c (times (cellsL z) n) (times z.cells.toList n) := by
      clear hn0 hb2 hx
      induction n with
      | zero => exact .nil
      | succ k ih => exact hzl.append ih
    have hones : (times (cellsL z) n).all oneV = true := by
      clear hn0 hb2 ht hx
      induction n with
      | zero => rfl
      | succ k ih => simp only [times, List.all_append, hb3, ih, Bool.and_self]
    have htl : (times (cellsL z) n).length = n * (cellsL z).length := times_length _ _
    have hfit : o + (times z.cells.toList n).length ≤ l'.length := by rw [ht.length, hrr.length, htl]; exact hb2
    obtain ⟨w', hrun, hturn⟩ := run_lay (P := P) hw hfit (ht.ones hones)
    rw [hp] at hrun
    have hzc : (Builtin.zeroCells z.cells n).toList = times z.cells.toList n := by
      have := range_times z.cells n z.cells.size rfl (by rw [← Array.length_toList, hzl.length]; exact hb1)
      exact congrArg Array.toList this
    have main : ∀ k', (Builtin.clear_ ⟨t :: ts⟩ ty #[.slice (some ⟨c.b b, c.o b + o, none⟩) n k']).run P w = .ok (.tuple #[]) w' := fun k' => by
      cases n with
      | zero => exact absurd rfl hn0
      | succ n => simp only [Builtin.clear_, h0, h1, Sem.run_bind, run_underlying hu, Result.andThen_ok, hz1, hzc, hrun, Sem.run_pure]
    refine ⟨w', _, .tuple #[], hturn, hor _ _ (hrr.lay ht (by rw [htl]; exact hb2)) (lay_length _ _ _ (by rw [htl]; exact hb2)), .tuple .nil, .inl (val_run ?_)⟩
    cases hx with
    | slice => exact main _
    | open_ => exact main _
    | loose _ s _ _ hs => cases hs
  · cases hv
theorem flats_eq {c : Cx} {l l' : List Value} (h : flats l = true) (hl : LR c l l') : l' = l := (flats_lr c l h).2 _ hl
theorem builtin_res {c : Cx} {h : T O} {nx : Nat} {w : World} {b : Builtin} {ts : List TypeId} {ty : TypeId} {vs vs' : List Value} {v : Value} {e : Eff} (hv : builtinE P h nx b ts ty vs = some (v, e)) (hl : LR c vs vs') (cs : Array Bool) : OpRes P c h nx w v e (builtin b ⟨ts⟩ ty cs ⟨vs'⟩) := by
  unfold builtinE at hv
  split at hv
  · cases hl with | cons h1 hl => cases hl with | cons h2 hl => cases hl; exact append_res hv h1 h2
  · cases hl with | cons h1 hl => cases hl with | cons h2 hl => cases hl; exact copy_res hv h1 h2
  · cases hl with | cons h1 hl => cases hl; exact (len_rd hv h1).res
  · cases hl with | cons h1 hl => cases hl; exact clear_res hv h1
  · cases hl with | cons h1 hl => cases hl with | cons h2 hl =>
      cases hl
      split at hv
      · exact delete_res hv h1 h2
      · cases hv
  · split at hv
    · rename_i hf; rw [flats_eq hf hl]; exact (RdOK.flat hv).res
    · cases hv
  · split at hv
    · rename_i hf; rw [flats_eq hf hl]; exact (RdOK.flat hv).res
    · cases hv
  · split at hv
    · rename_i hf; rw [flats_eq hf hl]; exact (RdOK.flat hv).res
    · cases hv
  · split at hv
    · rename_i hf; rw [flats_eq hf hl]; exact (RdOK.flat hv).res
    · cases hv
  · split at hv
    · rename_i hf; rw [flats_eq hf hl]; exact (RdOK.flat hv).res
    · cases hv
  · cases hv
theorem vo_ev {c : Cx} {a : A} {x : Act} (y : Option Operand) (E : ∀ z, y = some z → VR c (a.ev z) (x.eval z)) : VO c (y.map a.ev) (y.map x.eval) := by
  cases y with
  | none => trivial
  | some y => exact E y rfl
theorem map_arr {α β : Type} (l : List α) (f : α → β) : (⟨l⟩ : Array α).map f = ⟨l.map f⟩ := by apply Array.ext'; simp
theorem op_res {c : Cx} {h : T O} {nx : Nat} {w : World} {a : A} {x : Act} {o : Oper} {v : Value} {e : Eff} (hv : opE P a h nx o.op o.type = some (v, e)) (E : ∀ y, y ∈ o.op.operands → VR c (a.ev y) (x.eval y)) : OpRes P c h nx w v e (execOp x.eval o) := by
  obtain ⟨dst, op, type, pos, after, guard⟩ := o
  have now : ∀ {v v' : Value} {s : Sem Next}, VR c v v' → s.run P w = .ok (.value v') w → OpRes P c h nx w v (.rd []) s := fun h1 h2 => .rd [] rfl fun _ _ _ => ⟨_, h1, h2⟩
  unfold opE at hv
  dsimp only at hv E
  split at hv
  · cases hv; exact now (E _ (by simp [Op.operands])) rfl
  · cases hv; exact now (E _ (by simp [Op.operands])) rfl
  · rename_i p q r
    obtain ⟨r0, he, hs⟩ := pick_rd (P := P) (h := h) (w := w) hv (E p (by simp [Op.operands])) (E q (by simp [Op.operands])) (E r (by simp [Op.operands]))
    refine .rd r0 he fun u H hu => ?_
    obtain ⟨v', h1, h2⟩ := hs u H hu
    refine ⟨v', h1, ?_⟩
    show (do pure (Next.value (if ← asBool (x.eval p) then x.eval q else x.eval r)) : Sem Next).run P w = _
    simp only [Sem.run_bind, Sem.run_pure] at h2 ⊢
    cases hb : (asBool (x.eval p)).run P w with
    | ok b w2 => rw [hb] at h2; simp only [Result.andThen_ok] at h2 ⊢; cases h2; rfl
    | halt e w2 => rw [hb] at h2; cases h2
  · exact alloc_res hv
  · exact box_res hv (E _ (by simp [Op.operands]))
  · rename_i t ps
    have := build_rd (P := P) (h := h) (w := w) hv (evps_pr ps fun y hy => E y.2 (by simp [Op.operands]; exact ⟨_, hy⟩))
    have := this.res (nx := nx)
    simpa only [execOp, map_arr] using this
  · rename_i t n ps
    have := buildSlice_res (P := P) (h := h) (w := w) hv (evps_pr ps fun y hy => E y.2 (by simp [Op.operands]; exact ⟨_, hy⟩))
    simpa only [execOp, map_arr] using this
  · exact (load_rd hv (E _ (by simp [Op.operands]))).res
  · exact store_res hv (E _ (by simp [Op.operands])) (E _ (by simp [Op.operands]))
  · rename_i y
    obtain ⟨r, he, hs⟩ := nilCheck_rd (P := P) (h := h) (w := w) hv (E y (by simp [Op.operands])) ⟨dst, .nilCheck y, type, pos, after, guard⟩ x.eval y rfl rfl
    exact .rd r he hs
  · exact (bin_rd hv (E _ (by simp [Op.operands])) (E _ (by simp [Op.operands]))).res
  · exact (un_rd hv (E _ (by simp [Op.operands]))).res
  · exact (conv_rd hv (E _ (by simp [Op.operands]))).res
  · exact (fieldAddr_rd hv (E _ (by simp [Op.operands]))).res
  · exact (field_rd hv (E _ (by simp [Op.operands]))).res
  · exact (indexAddr_rd hv (E _ (by simp [Op.operands])) (E _ (by simp [Op.operands]))).res
  · exact (index_rd hv (E _ (by simp [Op.operands])) (E _ (by simp [Op.operands]))).res
  · rename_i t y lo hi mx
    exact (slice_rd hv (E _ (by simp [Op.operands])) (vo_ev lo fun z hz => E z (by simp [Op.operands, hz])) (vo_ev hi fun z hz => E z (by simp [Op.operands, hz])) (vo_ev mx fun z hz => E z (by simp [Op.operands, hz]))).res
  · rename_i f p q
    cases hv
    refine now (v' := .func (.func f) ⟨p.map x.eval⟩ ⟨q.map x.eval⟩) (.func f (evs_lr p fun y hy => E y (by simp [Op.operands, hy])) (evs_lr q fun y hy => E y (by simp [Op.operands, hy]))) ?_
    show (do pure (Next.value (← Instr.makeFunc (.func f) ((⟨p⟩ : Array Operand).map x.eval) ((⟨q⟩ : Array Operand).map x.eval))) : Sem Next).run P w = _
    rw [map_arr, map_arr]
    rfl
  · cases hv; exact makeMap_res
  · exact makeSlice_res hv (E _ (by simp [Op.operands])) (E _ (by simp [Op.operands]))
  · exact (lookup_rd hv (E _ (by simp [Op.operands])) (E _ (by simp [Op.operands]))).res
  · exact mapSet_res hv (E _ (by simp [Op.operands])) (E _ (by simp [Op.operands])) (E _ (by simp [Op.operands]))
  · exact mapSet_res hv (E _ (by simp [Op.operands])) (E _ (by simp [Op.operands])) (E _ (by simp [Op.operands]))
  · exact (extract_rd hv (E _ (by simp [Op.operands]))).res
  · rename_i b xs ts
    have := builtin_res (w := w) hv (evs_lr xs fun y hy => E y (by simp [Op.operands, Call.operands, hy])) (xs.map fun | .const _ => true | _ => false).toArray
    have e1 : execOp x.eval ⟨dst, .call { callee := .builtin b, args := ⟨xs⟩, argTypes := ⟨ts⟩ }, type, pos, after, guard⟩ = builtin b ⟨ts⟩ type ((⟨xs⟩ : Array Operand).map fun | .const _ => true | _ => false) ((⟨xs⟩ : Array Operand).map x.eval) := rfl
    rw [e1, map_arr, map_arr]
    exact this
  · cases hv
end Go.Eng
