/-
  PROVED HERE: each operation of the evaluator that only reads is what the model's operation does (the third part: cuts, conversions, maps, lengths).
-/
import Derived.Test.YtlcladdlhllkcaaGreatDoorE5
namespace Go.Eng
set_option linter.unusedVariables false
set_option linter.unusedSimpArgs false
variable {P : Program}

/-- an operand that may be wanting. -/
def VO (c : Cx) : Option Value → Option Value → Prop
  | none, none => True
  | some x, some y => VR c x y
  | _, _ => False
theorem bounds_ok {c : Cx} {len lb cap l h m : Nat} {lo hi mx lo' hi' mx' : Option Value} (hb : boundsE len lb lo hi mx = some (l, h, m)) (hl : VO c lo lo') (hh : VO c hi hi') (hm : VO c mx mx') (hc : lb ≤ cap) (s : Bool) (w : World) :
    (Instr.sliceBounds s len cap lo' hi' mx').run P w = .ok (l, h, if mx.isSome then m else cap) w ∧ l ≤ h ∧ (hi = none → h = len) ∧ (hi ≠ none → h ≤ m) ∧ m ≤ lb ∧ (mx = none → m = lb) := by
  unfold boundsE at hb
  split at hb
  · cases hb
  · rename_i h0 m0 hq
    have low : l ≤ h ∧ h0 = h ∧ m0 = m ∧ (lo' = none ∧ l = 0 ∨ ∃ k, lo' = some (.int k (l : Int))) := by
      split at hb
      · cases hb
        cases lo' with
        | some _ => exact hl.elim
        | none => exact ⟨Nat.zero_le _, rfl, rfl, .inl ⟨rfl, rfl⟩⟩
      · rename_i v
        split at hb
        · rename_i l0 hl0
          split at hb
          · rename_i hle
            cases hb
            cases lo' with
            | none => exact hl.elim
            | some v' =>
              obtain ⟨k, rfl⟩ := toNat_ok hl0 hl
              exact ⟨Nat.le_of_ble_eq_true hle, rfl, rfl, .inr ⟨k, rfl⟩⟩
          · cases hb
        · cases hb
    clear hb hl
    obtain ⟨h1, rfl, rfl, h4⟩ := low
    have h5 : ∀ (k : IntKind) (code : BoundsCode), (Instr.sliceBound (.int k (l : Int)) h0 code).run P w = .ok l w := fun k code => by simp [Instr.sliceBound, asIntOf, h1]
    split at hq
    · cases hq
      cases mx' with
      | some _ => exact hm.elim
      | none => cases hi' with
        | some _ => exact hh.elim
        | none =>
          refine ⟨?_, h1, fun _ => rfl, fun h => absurd rfl h, Nat.le_refl _, fun _ => rfl⟩
          rcases h4 with ⟨rfl, rfl⟩ | ⟨k, rfl⟩ <;> simp [Instr.sliceBounds, h5]
    · rename_i v
      split at hq
      · rename_i h2 hh2
        split at hq
        · rename_i hle
          cases hq
          cases mx' with
          | some _ => exact hm.elim
          | none => cases hi' with
            | none => exact hh.elim
            | some v' =>
              obtain ⟨k, rfl⟩ := toNat_ok hh2 hh
              have hle' := Nat.le_of_ble_eq_true hle
              refine ⟨?_, h1, (fun h => by cases h), fun _ => hle', Nat.le_refl _, fun _ => rfl⟩
              have hle2 : h0 ≤ cap := Nat.le_trans hle' hc
              have hb1 : ∀ code, (Instr.sliceBound (.int k (h0 : Int)) cap code).run P w = .ok h0 w := fun code => by simp [Instr.sliceBound, asIntOf, hle2]
              rcases h4 with ⟨rfl, rfl⟩ | ⟨k, rfl⟩ <;> simp [Instr.sliceBounds, h5, hb1]
        · cases hq
      · cases hq
    · rename_i u v
      split at hq
      · rename_i m2 h2 hm2 hh2
        split at hq
        · rename_i hle
          cases hq
          simp only [Bool.and_eq_true] at hle
          have hle1 := Nat.le_of_ble_eq_true hle.1
          have hle2 := Nat.le_of_ble_eq_true hle.2
          cases mx' with
          | none => exact hm.elim
          | some u' => cases hi' with
            | none => exact hh.elim
            | some v' =>
              obtain ⟨k, rfl⟩ := toNat_ok hh2 hh
              obtain ⟨k2, rfl⟩ := toNat_ok hm2 hm
              refine ⟨?_, h1, (fun h => by cases h), fun _ => hle2, hle1, fun h => by cases h⟩
              have hle3 : m0 ≤ cap := Nat.le_trans hle1 hc
              have hb1 : ∀ code, (Instr.sliceBound (.int k2 (m0 : Int)) cap code).run P w = .ok m0 w := fun code => by simp [Instr.sliceBound, asIntOf, hle3]
              have hb2 : ∀ code, (Instr.sliceBound (.int k (h0 : Int)) m0 code).run P w = .ok h0 w := fun code => by simp [Instr.sliceBound, asIntOf, hle2]
              rcases h4 with ⟨rfl, rfl⟩ | ⟨k, rfl⟩ <;> simp [Instr.sliceBounds, h5, hb1, hb2]
        · cases hq
      · cases hq
    · cases hq
theorem flatO_eq {c : Cx} {x x' : Option Value} (h : flatO x = true) (hx : VO c x x') : x' = x := by
  cases x with
  | none => cases x' with
    | none => rfl
    | some _ => exact hx.elim
  | some v => cases x' with
    | none => exact hx.elim
    | some v' => rw [(flat_vr c 4 v h).2 _ hx]
theorem cutA_ok {c : Cx} {b o l m z : Nat} (hav : c.av b) (len cap : Nat) (hc : cap < big) :
    VR c (.slice (some (cutA b o l m z)) len cap) (.slice (some (if m = l then ⟨c.b b, c.o b + o, none⟩ else (⟨c.b b, c.o b + o, none⟩ : Addr).add (l * z))) len cap) := by
  unfold cutA
  by_cases h : m = l
  · have : Nat.beq m l = true := by rw [Nat.beq_eq]; exact h
    rw [this, if_pos h]
    exact .slice hav _ _ hc
  · have : Nat.beq m l = false := by
      cases hq : Nat.beq m l with
      | false => rfl
      | true => exact absurd (Nat.eq_of_beq_eq_true hq) h
    rw [this, if_neg h, add_addr, Nat.add_assoc]
    exact .slice hav _ _ hc
theorem slice_rd {c : Cx} {h : T O} {w : World} {t : TypeId} {x x' v : Value} {lo hi mx lo' hi' mx' : Option Value} {e : Eff} (hv : sliceE P h t x lo hi mx = some (v, e)) (hx : VR c x x') (hl : VO c lo lo') (hh : VO c hi hi') (hm : VO c mx mx') :
    RdOK P c h w v e (Instr.sliceAt t x' lo' hi' mx') := by
  unfold sliceE at hv
  split at hv
  · rename_i s hu
    split at hv
    · rename_i hf
      simp only [Bool.and_eq_true] at hf
      cases hx
      rw [flatO_eq hf.1 hl, flatO_eq hf.2.1 hh, flatO_eq hf.2.2 hm]
      exact .flat hv
    · cases hv
  · rename_i n el b o hu
    split at hv
    · rename_i z l hi0 m hs hb
      split at hv
      · rename_i hlt
        rw [forceN_eq, forceN_eq, forceN_eq] at hv
        cases hv
        have hlt' : m < big := by simpa [Nat.blt_eq] using hlt
        obtain ⟨hr, h1, h2, h3, h4, h5⟩ := bounds_ok (P := P) hb hl hh hm (Nat.le_refl _) false w
        have hmm : (if mx.isSome then m else n) = m := by
          cases mx with
          | none => exact (h5 rfl).symm
          | some _ => rfl
        rw [hmm] at hr
        cases hx with
        | ptr hav =>
          refine .now [] rfl (cutA_ok hav _ _ (by simp only [Nat.sub_eq]; omega)) ?_
          simp only [Instr.sliceAt, Sem.run_bind, run_underlying hu, Result.andThen_ok, Instr.sureAddr, Sem.run_pure, hr, run_sizeT hs]
          rfl
      · cases hv
    · cases hv
  · rename_i el b o len cap hu
    split at hv
    · rename_i hcap
      have hcap' : cap < big := by simpa [Nat.blt_eq] using hcap
      split at hv
      · rename_i z l hi0 m hs hb
        rw [forceN_eq, forceN_eq, forceN_eq] at hv
        cases hv
        obtain ⟨hr, h1, h2, h3, h4, h5⟩ := bounds_ok (P := P) hb hl hh hm (Nat.le_refl _) true w
        have hmm : (if mx.isSome then m else cap) = m := by
          cases mx with
          | none => exact (h5 rfl).symm
          | some _ => rfl
        rw [hmm] at hr
        cases hx with
        | slice hav =>
          refine .now [] rfl (cutA_ok hav _ _ (by simp only [Nat.sub_eq]; omega)) ?_
          simp only [Instr.sliceAt, Sem.run_bind, run_underlying hu, Result.andThen_ok, Instr.slice, Sem.run_pure, hr, run_sizeT hs]
          congr 2
          split <;> rfl
        | open_ hav _ _ _ hk => omega
        | loose _ s _ _ hs => cases hs
      · cases hv
    · rename_i hcap
      have hcap' : big ≤ cap := by
        have : ¬ cap < big := fun h => by rw [show Nat.blt cap big = true from by simpa [Nat.blt_eq] using h] at hcap; cases hcap
        omega
      split at hv
      · rename_i z l hi0 m z' cs hs hb hg
        simp only [Nat.sub_eq] at hb
        cases hx with
        | slice hav _ _ hk => omega
        | loose _ s _ _ hs => cases hs
        | open_ hav _ _ k' hk hlen hk' he =>
          obtain ⟨hr, h1, h2, h3, h4, h5⟩ := bounds_ok (P := P) hb hl hh hm hk' true w
          have hhl : hi0 ≤ cap - big := by
            cases hi with
            | none => rw [h2 rfl]; exact hlen
            | some _ => exact Nat.le_trans (h3 (by simp)) h4
          split at hv
          · rename_i u hz
            have hz' := Nat.eq_of_beq_eq_true hz
            split at hv
            · rename_i hlt
              rw [forceN_eq, forceN_eq, forceN_eq] at hv
              cases hv
              have hlt' : m < big := by simpa [Nat.blt_eq] using hlt
              refine .now [] rfl (cutA_ok hav _ _ (by simp only [Nat.sub_eq]; omega)) ?_
              simp only [Instr.sliceAt, Sem.run_bind, run_underlying hu, Result.andThen_ok, Instr.slice, Sem.run_pure, hr, run_sizeT hs]
              simp only [Option.isSome_some, if_true]
              congr 2
              split <;> rfl
            · cases hv
          · rename_i hz
            have hz' := Nat.eq_of_beq_eq_true hz
            have hm5 := h5 rfl
            simp only [Option.isSome_none, Bool.false_eq_true, if_false] at hr
            have hrun : (Instr.sliceAt t (.slice (some ⟨c.b b, c.o b + o, none⟩) len k') lo' hi' mx').run P w = .ok (.slice (some (if k' = l then ⟨c.b b, c.o b + o, none⟩ else (⟨c.b b, c.o b + o, none⟩ : Addr).add (l * z))) (hi0 - l) (k' - l)) w := by
              simp only [Instr.sliceAt, Sem.run_bind, run_underlying hu, Result.andThen_ok, Instr.slice, Sem.run_pure, hr, run_sizeT hs]
              congr 2
              split <;> rfl
            split at hv
            · rename_i hml
              cases hv
              simp only [Bool.and_eq_true] at hml
              have hml' := Nat.eq_of_beq_eq_true hml.1
              have : hi0 - l = 0 := by omega
              rw [this] at hrun
              exact .now [] rfl (.loose _ 0 _ _ rfl) hrun
            · rename_i hno
              rw [forceN_eq, forceN_eq] at hv
              cases hv
              refine ⟨[b], rfl, fun u H hu => ?_⟩
              have hob := (H.at_ b _ ((hu b (List.mem_cons_self ..)).trans hg)).2
              obtain ⟨pre, l', post, ty, hx1, hp, hlr, hz1, he1⟩ := hob
              refine ⟨_, ?_, hrun⟩
              have hkl : l = 0 ∨ k' ≠ l := by
                by_cases h0 : l = 0
                · exact .inl h0
                · right
                  intro hkl
                  have e1 : Nat.beq m l = true := by rw [Nat.beq_eq]; omega
                  have e2 : Nat.blt 0 l = true := by rw [Nat.blt_eq]; omega
                  rw [e1, e2] at hno
                  cases hno
              have hadd : (if k' = l then (⟨c.b b, c.o b + o, none⟩ : Addr) else (⟨c.b b, c.o b + o, none⟩ : Addr).add (l * z)) = ⟨c.b b, c.o b + (o + l * z), none⟩ := by
                rcases hkl with h0 | h0
                · subst h0; split <;> simp [add_addr]
                · rw [if_neg h0, add_addr, Nat.add_assoc]
              rw [hadd]
              have hsub : Nat.sub cap l - big = cap - big - l := by simp only [Nat.sub_eq]; omega
              refine .open_ hav _ _ _ (by simp only [Nat.sub_eq]; omega) (by simp only [Nat.sub_eq] at hsub ⊢; omega) (by simp only [Nat.sub_eq] at hsub ⊢; omega) ?_
              rw [← he, hz1, ← hz']
              have hlk : l ≤ k' := by omega
              have : k' * z = l * z + (k' - l) * z := by rw [← Nat.add_mul]; congr 1; omega
              simp only [Nat.add_eq, Nat.mul_eq]
              omega
          · cases hv
      · cases hv
  · rename_i el hu
    split at hv
    · rename_i z hs hb
      cases hv
      cases hx
      obtain ⟨hr, h1, h2, h3, h4, h5⟩ := bounds_ok (P := P) hb hl hh hm (Nat.le_refl _) true w
      have hmm : (if mx.isSome then 0 else 0) = 0 := by split <;> rfl
      rw [hmm] at hr
      refine ⟨[], rfl, fun u H hu2 => ⟨.slice none 0 0, .snil 0 0, ?_⟩⟩
      simp only [Instr.sliceAt, Sem.run_bind, run_underlying hu, Result.andThen_ok, Instr.slice, Sem.run_pure, hr, run_sizeT hs]
      rfl
    · cases hv
  · cases hv

/-! conversions -/
theorem bytes_ok {c : Cx} : ∀ {l l' : List Value} {bs : List UInt8}, bytesOf l = some bs → LR c l l' → ∃ ns : List Int, l' = ns.map (Value.int .u8) ∧ bs = ns.map fun n => UInt8.ofNat n.toNat
  | [], l', bs, h, hl => by cases hl; cases h; exact ⟨[], rfl, rfl⟩
  | x :: l, l', bs, h, hl => by
    unfold bytesOf at h
    split at h
    · rename_i hh; cases hh
    · rename_i n l0 hh
      cases hh
      cases hq : bytesOf l with
      | none => rw [hq] at h; cases h
      | some bs0 =>
        rw [hq] at h
        cases h
        cases hl with
        | cons hx hl =>
          cases hx
          obtain ⟨ns, h1, h2⟩ := bytes_ok hq hl
          exact ⟨n :: ns, by simp [h1], by simp [h2]⟩
    · cases h
theorem foldl_push (ns : List Int) : ∀ (s : List UInt8), ns.foldl (fun r n => r.push (UInt8.ofNat n.toNat)) (⟨⟨s⟩⟩ : ByteArray) = ⟨⟨s ++ ns.map fun n => UInt8.ofNat n.toNat⟩⟩ := by
  induction ns with
  | nil => intro s; simp
  | cons n ns ih =>
    intro s
    have : (⟨⟨s⟩⟩ : ByteArray).push (UInt8.ofNat n.toNat) = ⟨⟨s ++ [UInt8.ofNat n.toNat]⟩⟩ := by
      show (⟨(⟨s⟩ : Array UInt8).push _⟩ : ByteArray) = _
      congr 1
      apply Array.ext'
      simp
    simp only [List.foldl_cons, this, ih, List.map_cons, List.append_assoc, List.singleton_append]
theorem conv_rd {c : Cx} {h : T O} {w : World} {s d : TypeId} {x x' v : Value} {e : Eff} (hv : convE P h s d x = some (v, e)) (hx : VR c x x') : RdOK P c h w v e (convert s d x') := by
  unfold convE at hv
  split at hv
  · rename_i b o l k
    split at hv
    · rename_i el hu1 hu2
      split at hv
      · rename_i r hu3 hrow
        split at hv
        · rename_i bs hle hbs
          cases hv
          refine ⟨[b], rfl, fun u H hu => ⟨_, .string _, ?_⟩⟩
          obtain ⟨hav, pre, l', post, ty, fr, hw, hp, hr⟩ := H.row (hu b (List.mem_cons_self ..)) hrow
          have hle' : o + l ≤ l'.length := by rw [hr.length]; exact Nat.le_of_ble_eq_true hle
          obtain ⟨ns, hns, hbs'⟩ := bytes_ok hbs (hr.cut o l)
          have hc := run_cells (P := P) hw hle'
          rw [hp, hns] at hc
          have key : ∀ k', (convert s d (.slice (some ⟨c.b b, c.o b + o, none⟩) l k')).run P w = .ok (.string ⟨⟨bs⟩⟩) w := fun k' => by
            have := run_bytesToString (P := P) w ⟨c.b b, c.o b + o, none⟩ l k' ns (by rw [hc])
            have e0 : ByteArray.empty = ⟨⟨[]⟩⟩ := rfl
            rw [e0, foldl_push, List.nil_append, ← hbs'] at this
            simp only [convert, Sem.run_bind, run_underlying hu1, run_underlying hu2, run_underlying hu3, Result.andThen_ok, this]
          cases hx with
          | slice => exact key _
          | open_ => exact key _
          | loose _ s _ _ hs => cases hs
        · cases hv
      · cases hv
    · cases hv
  · split at hv
    · rename_i hf; rw [(flat_vr c 4 _ hf).2 _ hx]; exact .flat hv
    · cases hv

/-! maps -/
theorem keyEq_ok {x y : Value} {b : Bool} (h : keyEq x y = some b) : ∃ k a a', x = .int k a ∧ y = .int k a' ∧ b = decide (a = a') := by
  unfold keyEq at h
  split at h
  · split at h
    · rename_i hk; cases h; have := of_decide_eq_true hk; subst this; exact ⟨_, _, _, rfl, rfl, rfl⟩
    · cases h
  · cases h
def FR (c : Cx) : Option (Nat × Value) → Option (Nat × Value) → Prop
  | none, none => True
  | some (j, v), some (j', v') => j' = j ∧ VR c v v'
  | _, _ => False
theorem find_ok {c : Cx} {q : IntKind} {k : Value} : ∀ {es : List E} {es' : List MapEntry} {i : Nat} {r : Option (Nat × Value)}, findE k es i = some r → ER c es es' →
    ∃ r', Instr.findNow (.int q) k es' i = some r' ∧ FR c r r'
  | [], [], i, r, h, _ => by cases h; exact ⟨none, rfl, trivial⟩
  | x :: es, y :: es', i, r, h, ⟨h1, h2, h3, h4⟩ => by
    unfold findE at h
    split at h
    · rename_i hk
      cases h
      obtain ⟨kk, a, a', rfl, e2, e3⟩ := keyEq_ok hk
      rw [e2] at h1
      have hy : y.key = .int kk a' := by cases hq : y.key <;> (rw [hq] at h1; cases h1; try rfl)
      refine ⟨some (i, y.val), ?_, rfl, h2⟩
      have : a = a' := by simpa using e3
      simp [Instr.findNow, hy, Instr.sameNow, this]
    · rename_i hk
      obtain ⟨kk, a, a', rfl, e2, e3⟩ := keyEq_ok hk
      rw [e2] at h1
      have hy : y.key = .int kk a' := by cases hq : y.key <;> (rw [hq] at h1; cases h1; try rfl)
      obtain ⟨r', hr, hm⟩ := find_ok (q := q) h h4
      refine ⟨r', ?_, hm⟩
      have : (a == a') = false := by simpa using e3
      simp only [Instr.findNow, hy, Instr.sameNow, if_true, this]
      exact hr
    · cases h
  | [], _ :: _, _, _, _, h => h.elim
  | _ :: _, [], _, _, _, h => h.elim
theorem keyT_ok {t e : TypeId} (h : keyT P t = some e) : ∃ k q, P.underlying t = some (.map k e) ∧ P.underlying k = some (.int q) := by
  unfold keyT at h
  split at h
  · rename_i k el hu
    split at h
    · rename_i q hq; cases h; exact ⟨k, q, hu, hq⟩
    · cases h
  · cases h
theorem run_checkKey {k : TypeId} {q : IntKind} (hk : P.underlying k = some (.int q)) (kk : IntKind) (a : Int) (b : Bool) (w : World) : (Instr.checkKey b 10000 k (.int kk a)).run P w = .ok () w := by
  show (Instr.checkKey b (9999 + 1) k (.int kk a)).run P w = _
  generalize 9999 = n
  simp [Instr.checkKey, run_underlying hk]
theorem run_findKey {c : Cx} {k : TypeId} {q : IntKind} (hk : P.underlying k = some (.int q)) {x : Value} {es : List E} {es' : List MapEntry} {r : Option (Nat × Value)} (h : findE x es 0 = some r) (he : ER c es es') (w : World) :
    ∃ r', (Instr.findKey k x es').run P w = .ok r' w ∧ FR c r r' := by
  obtain ⟨r', h1, h2⟩ := find_ok (q := q) h he
  refine ⟨r', ?_, h2⟩
  simp [Instr.findKey, run_underlying hk, h1]
theorem isInt_ok {c : Cx} {x x' : Value} (h : isInt x = true) (hx : VR c x x') : ∃ k a, x = .int k a ∧ x' = .int k a := by
  cases hx <;> first | exact ⟨_, _, rfl, rfl⟩ | cases h
theorem run_getMap {w : World} {b : Nat} {es : List MapEntry} {clk : Nat} (h : w.heap[b]? = some (.map ⟨es⟩ clk)) : (getObj b).run P w = .ok (.map ⟨es⟩ clk) w := by simp [getObj, Sem.run, h]
theorem lookup_rd {c : Cx} {h : T O} {w : World} {t : TypeId} {m m' k k' v : Value} {ok : Bool} {e : Eff} (hv : lookupE P h t m k ok = some (v, e)) (hm : VR c m m') (hk : VR c k k') : RdOK P c h w v e (Instr.lookup t m' k' ok) := by
  unfold lookupE at hv
  split at hv
  · rename_i el r hkt hi
    obtain ⟨kt, q, hu1, hu2⟩ := keyT_ok hkt
    obtain ⟨kk, a, rfl, rfl⟩ := isInt_ok hi hk
    split at hv
    · cases hv
    · rename_i es rs hmap
      have main : ∀ (es' : List MapEntry) (mv : Value), ER c es es' → (mv = .map none ∧ es' = [] ∨ ∃ b clk, mv = .map (some b) ∧ w.heap[b]? = some (.map ⟨es'⟩ clk)) → e = .rd rs ∧ ∃ v', VR c v v' ∧ (Instr.lookup t mv (.int kk a) ok).run P w = .ok v' w := by
        intro es' mv he hrun
        split at hv
        · rename_i j x z hf
          cases hv
          obtain ⟨r', hr1, hr2⟩ := run_findKey (P := P) hu2 hf he w
          cases r' with
          | none => exact hr2.elim
          | some p =>
            obtain ⟨j', x'⟩ := p
            obtain ⟨rfl, hx⟩ := hr2
            refine ⟨rfl, ?_⟩
            have : (Instr.lookup t mv (.int kk a) ok).run P w = .ok (if ok then .tuple #[x', .bool true] else x') w := by
              rcases hrun with ⟨rfl, rfl⟩ | ⟨b, clk, rfl, hw⟩
              · simp only [Instr.lookup, Sem.run_bind, run_underlying hu1, Result.andThen_ok, run_checkKey hu2, hr1, Sem.run_pure]
              · simp only [Instr.lookup, Sem.run_bind, run_underlying hu1, Result.andThen_ok, run_getMap hw, run_checkKey hu2, hr1, Sem.run_pure]
            cases ok with
            | true => exact ⟨_, .tuple (.cons hx (.cons (.bool _) .nil)), this⟩
            | false => exact ⟨_, hx, this⟩
        · rename_i z hf hz
          cases hv
          obtain ⟨r', hr1, hr2⟩ := run_findKey (P := P) hu2 hf he w
          cases r' with
          | some p => exact hr2.elim
          | none =>
            obtain ⟨hz1, hz2⟩ := run_zeroT hz w
            refine ⟨rfl, ?_⟩
            have : (Instr.lookup t mv (.int kk a) ok).run P w = .ok (if ok then .tuple #[z, .bool false] else z) w := by
              rcases hrun with ⟨rfl, rfl⟩ | ⟨b, clk, rfl, hw⟩
              · simp only [Instr.lookup, Sem.run_bind, run_underlying hu1, Result.andThen_ok, run_checkKey hu2, hr1, hz1, Sem.run_pure]
              · simp only [Instr.lookup, Sem.run_bind, run_underlying hu1, Result.andThen_ok, run_getMap hw, run_checkKey hu2, hr1, hz1, Sem.run_pure]
            cases ok with
            | true => exact ⟨_, .tuple (.cons (flat_vr c 4 z hz2).1 (.cons (.bool _) .nil)), this⟩
            | false => exact ⟨_, (flat_vr c 4 z hz2).1, this⟩
        · cases hv
      cases hm with
      | mnil =>
        cases hmap
        obtain ⟨he, v', h1, h2⟩ := main [] (.map none) trivial (.inl ⟨rfl, rfl⟩)
        exact .now [] he h1 h2
      | map hav =>
        rename_i b
        simp only [] at hmap
        split at hmap
        · rename_i es0 clk hg
          cases hmap
          have he : e = .rd [b] := by
            split at hv
            · cases hv; rfl
            · cases hv; rfl
            · cases hv
          refine ⟨[b], he, fun u H hu => ?_⟩
          obtain ⟨es', hw, her⟩ := (H.at_ b _ ((hu b (List.mem_cons_self ..)).trans hg)).2
          exact (main es' (.map (some (c.b b))) her (.inr ⟨_, _, rfl, hw⟩)).2
        · cases hmap
  · cases hv
end Go.Eng
