/-
  PROVED HERE: each operation of the evaluator that only reads is what the model's operation does.
-/
import Derived.Test.YtlcladdlhllkcaaGreatDoorE3
import Derived.Laws.BytesString
namespace Go.Eng
set_option linter.unusedVariables false
set_option linter.unusedSimpArgs false

/-- the first blocks stand for themselves. -/
def Gl (c : Cx) : Prop := ∀ g, g < 64 → c.av g ∧ c.b g = g ∧ c.o g = 0
structure AR (c : Cx) (a : A) (x : Act) : Prop where
  size : a.size = x.tmps.size
  tmps : TR c a.t x.tmps
  defers : x.defers = a.ds.map fun d => { target := .collected (c.b d), args := #[] }
  av : ∀ d, d ∈ a.ds → c.av d
theorem Gl.le {c c' : Cx} (h : Gl c) (hc : Le c c') : Gl c' := fun g hg =>
  have ⟨h1, h2, h3⟩ := h g hg
  have ⟨k1, k2, k3, _, _⟩ := hc g h1
  ⟨k1, k2.trans h2, k3.trans h3⟩
theorem AR.le {c c' : Cx} {a : A} {x : Act} (h : AR c a x) (hc : Le c c') : AR c' a x :=
  ⟨h.size, h.tmps.le hc, by rw [h.defers]; exact List.map_congr_left fun d hd => by rw [(hc d (h.av d hd)).2.1], fun d hd => (hc d (h.av d hd)).1⟩
theorem AR.ev {c : Cx} {a : A} {x : Act} (h : AR c a x) (g : Gl c) (y : Operand) : VR c (a.ev y) (x.eval y) := by
  cases y with
  | tmp t => exact h.tmps t
  | const v =>
    show VR c (match flat 4 v with | true => v | false => unk) v
    cases hf : flat 4 v with
    | true => exact (flat_vr c 4 v hf).1
    | false => exact .any _
  | global n =>
    show VR c (match Nat.blt n 64 with | true => _ | false => unk) _
    cases hf : Nat.blt n 64 with
    | true =>
      obtain ⟨h1, h2, h3⟩ := g n (by simpa [Nat.blt_eq] using hf)
      have := VR.ptr (c := c) (o := 0) h1
      rw [h2, h3] at this
      exact this
    | false => exact .any _
  | func f => exact .func f .nil .nil
theorem evs_lr {c : Cx} {a : A} {x : Act} (l : List Operand) (E : ∀ y, y ∈ l → VR c (a.ev y) (x.eval y)) : LR c (evs a l) (l.map x.eval) := by
  induction l with
  | nil => exact .nil
  | cons y l ih => exact .cons (E y (List.mem_cons_self ..)) (ih fun z hz => E z (List.mem_cons_of_mem _ hz))
/-- parts, by their places. -/
def PR (c : Cx) : List (Nat × Value) → List (Nat × Value) → Prop
  | [], [] => True
  | x :: l, y :: m => y.1 = x.1 ∧ VR c x.2 y.2 ∧ PR c l m
  | _, _ => False
theorem evps_pr {c : Cx} {a : A} {x : Act} (l : List (Nat × Operand)) (E : ∀ y, y ∈ l → VR c (a.ev y.2) (x.eval y.2)) : PR c (evps a l) (l.map fun p => (p.1, x.eval p.2)) := by
  induction l with
  | nil => trivial
  | cons y l ih => exact ⟨rfl, E y (List.mem_cons_self ..), ih fun z hz => E z (List.mem_cons_of_mem _ hz)⟩

/-! ### types -/
variable {P : Program}
theorem run_aggT {t : TypeId} {b : Bool} (h : aggT P t = some b) (w : World) : (isAgg t).run P w = .ok b w := by
  unfold aggT at h
  cases hu : P.underlying t with
  | none => rw [hu] at h; cases h
  | some d =>
    rw [hu] at h
    cases h
    unfold isAgg
    simp only [Sem.run_bind, run_underlying hu, Result.andThen_ok]
    cases d <;> rfl
theorem run_sizeT {t : TypeId} {n : Nat} (h : sizeT P t = some n) (w : World) : (sizeOf t).run P w = .ok n w := by
  unfold sizeT at h
  cases hu : P.info? t with
  | none => rw [hu] at h; cases h
  | some d => rw [hu] at h; cases h; simp [sizeOf, typeInfo, hu]
theorem run_zeroT {t : TypeId} {z : Value} (h : zeroT P t = some z) (w : World) : (zeroValue t).run P w = .ok z w ∧ flat 4 z = true := by
  unfold zeroT at h
  cases hu : P.info? t with
  | none => rw [hu] at h; cases h
  | some d =>
    rw [hu] at h
    cases hz : d.zero with
    | none => simp [hz] at h
    | some z' =>
      simp only [Option.bind_some, hz] at h
      split at h
      · rename_i hf; cases h; exact ⟨by simp [zeroValue, typeInfo, hu, hz], hf⟩
      · cases h
theorem cells_eq {c : Cx} {v v' : Value} (h : VR c v v') (hn : ∀ s, v ≠ .chan s) : LR c (cellsL v) v'.cells.toList := by
  have one : (cellsL v = [v] ∧ v'.cells = #[v']) → LR c (cellsL v) v'.cells.toList := fun ⟨a, b⟩ => by rw [a, b]; exact .cons h .nil
  cases h with
  | any => exact absurd rfl (hn _)
  | agg hx => exact hx
  | _ => exact one ⟨rfl, rfl⟩
theorem known_ne {v : Value} (h : known v = true) (s : Option Nat) : v ≠ .chan s := by rintro rfl; cases h
theorem extract_cut (l : List Value) (o n : Nat) : (⟨l⟩ : Array Value).extract o (o + n) = ⟨cut l o n⟩ := by
  apply Array.ext'
  simp [cut, List.extract_eq_take_drop]
theorem part_ok {c : Cx} {t : TypeId} {l l' : List Value} {o : Nat} {v : Value} (h : fromCells P t l o = some v) (hl : LR c l l') (w : World) : ∃ v', VR c v v' ∧ (part t ⟨l'⟩ o).run P w = .ok v' w := by
  unfold fromCells at h
  split at h
  · rename_i ha
    rw [nth_eq] at h
    obtain ⟨v', hv, hr⟩ := hl.get h
    refine ⟨v', hr, ?_⟩
    have hv2 : (⟨l'⟩ : Array Value)[o]? = some v' := by rw [← Array.getElem?_toList]; exact hv
    simp [part, run_aggT ha, hv2]
  · rename_i ha
    split at h
    · rename_i n hs
      split at h
      · cases h
        refine ⟨.agg ⟨cut l' o n⟩, .agg (hl.cut o n), ?_⟩
        simp [part, run_aggT ha, run_sizeT hs]
        rfl
      · cases h
    · cases h
  · cases h
theorem load_ok {c : Cx} {u : Nat → Option O} {h : T O} {w : World} {t : TypeId} {x x' v : Value} {e : Eff} (hv : loadE P h t x = some (v, e)) (hx : VR c x x') :
    ∃ b, e = .rd [b] ∧ (HR c u w → u b = h.get b → ∃ v', VR c v v' ∧ (Instr.loadAt t x').run P w = .ok v' w) := by
  unfold loadE at hv
  split at hv
  · rename_i b o
    split at hv
    · rename_i l hl
      split at hv
      · rename_i v0 hf
        cases hv
        refine ⟨b, rfl, fun H hu => ?_⟩
        obtain ⟨hav, pre, l', post, ty, fr, hw, hp, hr⟩ := H.row hu hl
        cases hx with
        | ptr _ =>
          unfold fromCells at hf
          split at hf
          · rename_i ha
            rw [nth_eq] at hf
            obtain ⟨v', hv', hr'⟩ := hr.get hf
            refine ⟨v', hr', ?_⟩
            have hc := cell_of_parts hw hv'
            rw [hp] at hc
            simp [Instr.loadAt, Instr.sureAddr, loadVar, run_aggT ha, hc]
          · rename_i ha
            split at hf
            · rename_i n hs
              split at hf
              · rename_i hle
                cases hf
                refine ⟨.agg ⟨cut l' o n⟩, .agg (hr.cut o n), ?_⟩
                have hle' : o + n ≤ l'.length := by rw [hr.length]; exact Nat.le_of_ble_eq_true hle
                have := run_cells (P := P) hw hle'
                rw [hp] at this
                simp [Instr.loadAt, Instr.sureAddr, loadVar, run_aggT ha, run_sizeT hs, this]
              · cases hf
            · cases hf
          · cases hf
      · cases hv
    · cases hv
  · cases hv

/-! ### build -/
theorem zipIdx_lay (cs : List Value) : ∀ (o j : Nat) (l : List Value), o + j + cs.length ≤ l.length →
    (cs.zipIdx j).foldl (fun (r : Array Value) (p : Value × Nat) => r.setIfInBounds (o + p.2) p.1) ⟨l⟩ = ⟨lay l (o + j) cs⟩ := by
  induction cs with
  | nil => intro o j l h; rw [lay_eq _ _ _ (by simpa using h)]; simp
  | cons x cs ih =>
    intro o j l h
    simp only [List.zipIdx_cons, List.foldl_cons]
    have hlt : o + j < l.length := by simp at h; omega
    have hset : (⟨l⟩ : Array Value).setIfInBounds (o + j) x = ⟨l.set (o + j) x⟩ := by
      apply Array.ext'
      simp
    rw [hset, ih o (j + 1) _ (by simp at h ⊢; omega)]
    congr 1
    rw [lay_eq _ _ _ (by simp at h ⊢; omega), lay_eq _ _ _ (by simp at h ⊢; omega)]
    apply List.ext_getElem?
    intro i
    simp only [List.length_cons]
    rw [show o + (j + 1) = o + j + 1 by omega, show o + j + (cs.length + 1) = o + j + 1 + cs.length by omega]
    rw [List.take_set, List.drop_set_of_lt (by omega)]
    have hl1 : ((l.take (o + j + 1)).set (o + j) x) = l.take (o + j) ++ [x] := by
      rw [List.take_succ_eq_append_getElem hlt, List.set_append_right _ _ (by simp; omega)]
      simp [Nat.min_eq_left (Nat.le_of_lt hlt)]
    rw [hl1]
    simp
theorem fill_ok {c : Cx} {pl pl' : Nat → Option (Nat × Nat)} (hp : ∀ i p, pl i = some p → pl' i = some p) : ∀ {ps ps' : List (Nat × Value)} {l l' m : List Value}, fillL pl ps l = some m → PR c ps ps' → LR c l l' →
    ∃ m', Instr.fill pl' ⟨l'⟩ ps' = some ⟨m'⟩ ∧ LR c m m'
  | [], [], l, l', m, h, _, hl => by cases h; exact ⟨l', rfl, hl⟩
  | (i, v) :: ps, (i', v') :: ps', l, l', m, h, hr, hl => by
    obtain ⟨h1, h2, h3⟩ := hr
    cases h1
    simp only [fillL] at h
    split at h
    · cases h
    · rename_i o n hpl
      split at h
      · rename_i hb
        simp only [Bool.and_eq_true, Nat.beq_eq, Nat.ble_eq, Nat.add_eq] at hb
        dsimp only at h2 h3
        obtain ⟨hk, hb⟩ := hb
        have hc := cells_eq h2 (known_ne hk)
        have hlay : LR c (lay l o (cellsL v)) (lay l' o v'.cells.toList) := hl.lay hc (by have := hb.1; have := hb.2; omega)
        obtain ⟨m', hm, hr'⟩ := fill_ok hp h h3 hlay
        refine ⟨m', ?_, hr'⟩
        have hlen : v'.cells.size = n := by rw [← Array.length_toList, hc.length]; exact hb.1
        have hfit : o + v'.cells.toList.length ≤ l'.length := by rw [hc.length, hl.length]; have := hb.1; have := hb.2; omega
        have hz := zipIdx_lay v'.cells.toList o 0 l' (by simpa using hfit)
        have hz2 : v'.cells.zipIdx.foldl (fun (cs : Array Value) (p : Value × Nat) => cs.setIfInBounds (o + p.2) p.1) ⟨l'⟩ = ⟨lay l' o v'.cells.toList⟩ := by
          rw [← Array.foldl_toList]
          simpa using hz
        show (match pl' i with | none => none | some (off, size) => if v'.cells.size ≠ size || off + v'.cells.size > (⟨l'⟩ : Array Value).size then none else Instr.fill pl' (v'.cells.zipIdx.foldl (fun cs (c, j) => cs.setIfInBounds (off + j) c) ⟨l'⟩) ps') = _
        rw [hp i _ hpl]
        simp only []
        have hfit2 : o + n ≤ l'.length := by rw [← hlen]; simpa using hfit
        rw [if_neg (by simp [hlen]; exact hfit2)]
        rw [← hm]
        congr 1
      · cases h
  | [], _ :: _, _, _, _, _, h, _ => h.elim
  | _ :: _, [], _, _, _, _, h, _ => h.elim
theorem run_mapM {α β : Type} (g : α → Sem β) (w : World) : ∀ (l : List α) (r : List β), l.length = r.length → (∀ (i : Nat) (x : α) (y : β), l[i]? = some x → r[i]? = some y → (g x).run P w = .ok y w) → (l.mapM g).run P w = .ok r w
  | [], [], _, _ => rfl
  | x :: l, y :: r, hlen, h => by
    have ih := run_mapM g w l r (by simpa using hlen) (fun i a b ha hb => h (i + 1) a b (by simpa using ha) (by simpa using hb))
    rw [List.mapM_cons]
    simp only [Sem.run_bind, h 0 x y rfl rfl, Result.andThen_ok, ih, Sem.run_pure]
  | [], _ :: _, h, _ => by simp at h
  | _ :: _, [], h, _ => by simp at h
theorem places_len {fs : List Field} {pl : List (Nat × Nat)} (h : placesL P fs = some pl) : fs.length = pl.length ∧ ∀ (i : Nat) (f : Field) (p : Nat × Nat), fs[i]? = some f → pl[i]? = some p → ∃ n, sizeT P f.type = some n ∧ p = (f.offset, n) := by
  induction fs generalizing pl with
  | nil => cases h; exact ⟨rfl, fun i f p h => by simp at h⟩
  | cons f fs ih =>
    simp only [placesL] at h
    split at h
    · rename_i n r h1 h2
      cases h
      obtain ⟨hl, hi⟩ := ih h2
      refine ⟨by simp [hl], fun i g p hg hp => ?_⟩
      cases i with
      | zero => simp at hg hp; subst hg; exact ⟨n, h1, hp.symm⟩
      | succ i => exact hi i g p (by simpa using hg) (by simpa using hp)
    · cases h
theorem places_ok {fs : List Field} {pl : List (Nat × Nat)} (h : placesL P fs = some pl) (w : World) :
    ((⟨fs⟩ : Array Field).mapM fun f => do pure (f.offset, ← sizeOf f.type) : Sem (Array (Nat × Nat))).run P w = .ok ⟨pl⟩ w := by
  obtain ⟨hl, hi⟩ := places_len h
  rw [Array.mapM_eq_mapM_toList]
  have := run_mapM (P := P) (fun f : Field => (do pure (f.offset, ← sizeOf f.type) : Sem (Nat × Nat))) w fs pl hl (fun i x y hx hy => by
    obtain ⟨n, hn, rfl⟩ := hi i x y hx hy
    simp only [Sem.run_bind, run_sizeT hn, Result.andThen_ok, Sem.run_pure])
  simp only [Sem.run_map, this, Result.andThen_ok]
end Go.Eng
