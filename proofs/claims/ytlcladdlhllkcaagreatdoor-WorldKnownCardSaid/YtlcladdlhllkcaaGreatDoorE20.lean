/-
  PROVED HERE: regions whose order is drawn.
-/
import Derived.Test.YtlcladdlhllkcaaGreatDoorE19
namespace Go.Eng
set_option linter.unusedVariables false
set_option linter.unusedSimpArgs false
variable {P : Program}

/-- how many are not listed, below a place. -/
def cnt (l : Array Bool) : Nat → Nat
  | 0 => 0
  | n + 1 => cnt l n + if l.getD n false = true then 0 else 1
theorem cnt_set (l : Array Bool) (i : Nat) (hi : i < l.size) (h : l.getD i false ≠ true) : ∀ n, cnt (l.setIfInBounds i true) n = if i < n then cnt l n - 1 else cnt l n := by
  have pos : ∀ n, i < n → 1 ≤ cnt l n := by
    intro n
    induction n with
    | zero => intro h; omega
    | succ n ih =>
      intro hn
      show 1 ≤ cnt l n + _
      rcases Nat.lt_or_ge i n with hlt | hge
      · have := ih hlt; omega
      · have : i = n := by omega
        subst this
        rw [if_neg h]; omega
  intro n
  induction n with
  | zero => simp [cnt]
  | succ n ih =>
    show cnt (l.setIfInBounds i true) n + _ = _
    rw [ih]
    by_cases hin : i = n
    · subst hin
      have h1 : (l.setIfInBounds i true).getD i false = true := by simp [hi]
      rw [if_pos h1, if_neg (by omega), if_pos (by omega)]
      show _ = (cnt l i + _) - 1
      rw [if_neg h]; omega
    · have h1 : (l.setIfInBounds i true).getD n false = l.getD n false := by simp [Array.getElem?_setIfInBounds_ne hin]
      rw [h1]
      show _ = if i < n + 1 then (cnt l n + if l.getD n false = true then 0 else 1) - 1 else cnt l n + if l.getD n false = true then 0 else 1
      rcases Nat.lt_or_ge i n with hlt | hge
      · have h2 := pos n hlt
        have h3 : i < n + 1 := by omega
        simp only [hlt, h3, if_true]
        split <;> omega
      · have h2 : ¬ i < n := by omega
        have h3 : ¬ i < n + 1 := by omega
        simp only [h2, h3, if_false]
theorem cnt_zero (l : Array Bool) : ∀ n, cnt l n = 0 → ∀ j, j < n → l.getD j false = true
  | 0, _, j, hj => by omega
  | n + 1, h, j, hj => by
    have h' : cnt l n + (if l.getD n false = true then 0 else 1) = 0 := h
    have h1 : cnt l n = 0 := by omega
    have h2 : l.getD n false = true := by
      by_cases hq : l.getD n false = true
      · exact hq
      · rw [if_neg hq] at h'; omega
    rcases Nat.lt_or_ge j n with hlt | hge
    · exact cnt_zero l n h1 j hlt
    · have : j = n := by omega
      subst this; exact h2
section
variable {cl : Cl} {ops : Array Oper} {t : Tr} {c0 : Cx} {w0 : World} {x0 : Act}
theorem Full.ads (hf : Full cl P ops t) : ∀ i, i ≤ ops.size → (t.a i).ds = (t.a 0).ds
  | 0, _ => rfl
  | i + 1, hi => by
    obtain ⟨o, ho⟩ := hf.ok i (by omega)
    rw [← Full.ads hf i (by omega)]
    have hp := ho.put
    unfold A.put at hp
    split at hp
    · rw [← Option.some.inj hp]
    · split at hp
      · rw [force_eq, T.setK_eq] at hp
        rw [← Option.some.inj hp]
      · cases hp
theorem sched (hf : Full cl P ops t) (hcl : ClOK P cl) (hg : Gl c0) (hfree : Free c0 (t.h 0).next (t.h ops.size).next) : ∀ (fuel τ : Nat) (listed : Array Bool) (X : Nat → Prop) (m : Nat) (C : Nat → Option O) (c : Cx) (x : Act) (w : World),
    Inv t ops c0 w0 x0 X m C c x w → listed.size = ops.size → (∀ j, j < ops.size → (X j ↔ listed.getD j false = true)) → cnt listed ops.size ≤ fuel →
    ∃ X' m' C' c' x' w', Inv t ops c0 w0 x0 X' m' C' c' x' w' ∧ (∀ j, j < ops.size → X' j) ∧ ∀ (F : Fx) (k : List Item) (cs : List Frame), Steps P (lone (F.at x (.inRegion ops (Region.linearise.go .any ops fuel τ listed []) :: k)) cs w) (lone (F.at x' k) cs w')
  | 0, τ, listed, X, m, C, c, x, w, I, hs, hX, hc => by
    have hall := cnt_zero listed ops.size (by omega)
    exact ⟨X, m, C, c, x, w, I, fun j hj => (hX j hj).2 (hall j hj), fun F k cs => .one st_region_end⟩
  | fuel + 1, τ, listed, X, m, C, c, x, w, I, hs, hX, hc => by
    simp only [Region.linearise.go]
    change ∃ X' m' C' c' x' w', _ ∧ _ ∧ ∀ (F : Fx) (k : List Item) (cs : List Frame), Steps P (lone (F.at x (.inRegion ops (match (Region.ready .any ops listed)[τ % (Region.ready .any ops listed).length]? with
      | some i => Region.linearise.go .any ops fuel (τ / (Region.ready .any ops listed).length) (listed.setIfInBounds i true) [i]
      | none => [].reverse) :: k)) cs w) _
    cases hi : (Region.ready .any ops listed)[τ % (Region.ready .any ops listed).length]? with
    | none =>
      have hnil : Region.ready .any ops listed = [] := by
        cases hr : Region.ready .any ops listed with
        | nil => rfl
        | cons a as =>
          rw [hr] at hi
          have hlt : τ % (a :: as).length < (a :: as).length := Nat.mod_lt _ (by simp)
          simp at hi
          simp at hlt
          omega
      have hall : ∀ n, ∀ j, j < n → j < ops.size → listed.getD j false = true := by
        intro n
        induction n with
        | zero => intro j h; omega
        | succ n ih =>
          intro j hjn hj
          cases hq : listed.getD j false with
          | true => rfl
          | false =>
            exfalso
            obtain ⟨o, ho⟩ := hf.ok j hj
            have hmem : j ∈ Region.ready .any ops listed := by
              rw [mem_ready]
              refine ⟨?_, o, ho.op, fun e he hb => ih e.on (by have := ho.less e he hb; omega) (by have := ho.less e he hb; omega)⟩
              simp [hs, hj] at hq ⊢
              exact hq
            rw [hnil] at hmem
            cases hmem
      exact ⟨X, m, C, c, x, w, I, fun j hj => (hX j hj).2 (hall (j + 1) j (by omega) hj), fun F k cs => .one st_region_end⟩
    | some i =>
      have hmem := List.mem_of_getElem? hi
      obtain ⟨hun, o, ho, hafter⟩ := mem_ready.1 hmem
      have hlt : i < ops.size := (Array.getElem?_eq_some_iff.1 ho).1
      have hun' : listed.getD i false ≠ true := by
        simp [hs, hlt] at hun ⊢
        exact hun
      obtain ⟨oi, hoi⟩ := hf.ok i hlt
      have hoo : oi = o := by have := hoi.op; rw [ho] at this; cases this; rfl
      subst hoo
      have r : Ready ops X i oi := ⟨hlt, ho, fun h => hun' ((hX i hlt).1 h), fun e he hb => (hX e.on (by have := hoi.less e he hb; omega)).2 (hafter e he hb)⟩
      obtain ⟨m1, C1, c1, x1, w1, I1, hstep⟩ := I.step hf hcl hg hfree r
      have hset : ∀ j, j < ops.size → ((X j ∨ j = i) ↔ (listed.setIfInBounds i true).getD j false = true) := fun j hj => by
        by_cases hji : j = i
        · subst hji; simp [hs, hlt]
        · rw [show (listed.setIfInBounds i true).getD j false = listed.getD j false by simp [Array.getElem?_setIfInBounds_ne (Ne.symm hji)], ← hX j hj]
          exact ⟨fun h => h.elim id (fun h => absurd h hji), .inl⟩
      have hcnt : cnt (listed.setIfInBounds i true) ops.size ≤ fuel := by
        rw [cnt_set listed i (by rw [hs]; exact hlt) hun', if_pos hlt]; omega
      obtain ⟨X', m', C', c', x', w', I', hall, hsteps⟩ := sched hf hcl hg hfree fuel (τ / (Region.ready .any ops listed).length) (listed.setIfInBounds i true) _ m1 C1 c1 x1 w1 I1 (by simpa using hs) hset hcnt
      refine ⟨X', m', C', c', x', w', I', hall, fun F k cs => ?_⟩
      simp only []
      rw [linearise_go_acc, List.reverse_singleton, List.singleton_append]
      exact .trans (hstep F k cs _) (hsteps F k cs)
end
theorem regD_ok {cl : Cl} (hcl : ClOK P cl) (hm : P.follows .mixedOrders = true) {ops : Array Oper} {fn : FuncId} {rd : Option Nat} {a a' : A} {h h' : H} (hr : regD cl P ops ops.toList 0 [] [] a h = some (a', h')) (rid : Nat) :
    Moves P fn rd a h a' h' fun F x w x' w' => ∀ k cs, Steps P (lone (F.at x (.code (.region rid ops true) :: k)) cs w) (lone (F.at x' k) cs w') := by
  obtain ⟨t, hsame, hok, hh, ha⟩ := regD_tr ops.toList 0 [] [] a h a' h' ⟨fun _ => h, fun _ => a, fun _ => undef, fun _ => .heavy, fun _ => false, fun _ => 0⟩ hr rfl rfl rfl (fun j hj => by omega) (fun j b hb => by cases hb) (fun j hj => by omega) (Nat.zero_le _)
  have hf : Full cl P ops t := ⟨hok⟩
  have h0 : t.h 0 = h := hsame.h 0 (Nat.le_refl _)
  have a0 : t.a 0 = a := hsame.a 0 (Nat.le_refl _)
  have hmono := hf.mono hcl (Nat.zero_le ops.size) (Nat.le_refl _)
  rw [h0, hh] at hmono
  refine ⟨hmono, fun c w x F g H har hF hR hfree => ?_⟩
  have hI : Inv t ops c w x (fun _ => False) 0 h.t.get c x { w with drawn := w.drawn + 1 } := by
    refine ⟨Le.refl c, fun i => ⟨.inl, fun h => h.elim id fun ⟨j, _, h, _⟩ => h.elim⟩, fun i _ => ⟨rfl, rfl, rfl, rfl⟩, rfl, rfl, by rw [a0]; exact har.size, fun d u hu => ?_, by rw [h0]; exact Sd.refl H rfl rfl rfl rfl, fun j o _ h => h.elim, Nat.zero_le _, fun k hk => by omega, fun k _ _ _ _ h => h, fun k b _ _ h => h.elim, fun b _ => by rw [h0]⟩
    rcases hu with ⟨j, o, _, h, _⟩ | ⟨_, rfl⟩
    · exact h.elim
    · rw [a0]; exact har.tmps d
  obtain ⟨X', m', C', c', x', w', I, hall, hsteps⟩ := sched hf hcl g (by rw [h0, hh]; exact hfree) ops.size (w.tape w.drawn (.order F.fn rid)) (Array.replicate ops.size false) _ 0 _ c x _ hI (by simp) (fun j hj => by simp [hj]) (by
    have : ∀ n, cnt (Array.replicate ops.size false) n ≤ n := by
      intro n
      induction n with
      | zero => exact Nat.le_refl _
      | succ n ih => show cnt _ n + _ ≤ _; split <;> omega
    exact this _)
  have hnext : ∀ i, h.next ≤ i → i < h'.next → ∃ j, j < ops.size ∧ (t.h j).next ≤ i ∧ i < (t.h (j + 1)).next := by
    intro i h1 h2
    have key : ∀ n, n ≤ ops.size → i < (t.h n).next → ∃ j, j < n ∧ (t.h j).next ≤ i ∧ i < (t.h (j + 1)).next := by
      intro n
      induction n with
      | zero => intro _ hlt; rw [h0] at hlt; omega
      | succ n ih =>
        intro hn hlt
        rcases Nat.lt_or_ge i (t.h n).next with hl | hge
        · obtain ⟨j, j1, j2⟩ := ih (by omega) hl; exact ⟨j, by omega, j2⟩
        · exact ⟨n, by omega, hge, hlt⟩
    exact key ops.size (Nat.le_refl _) (by rw [hh]; exact h2)
  have hCfin : ∀ b, C' b = h'.t.get b := fun b => by
    rw [← hh]
    exact I.content hf hcl (Nat.le_refl _) I.mle (fun k a1 a2 a3 a4 => absurd (hall k a2) (I.m2 k a1 a2 a3 a4)) (fun k b' a1 a2 a3 a4 a5 => absurd (hall k a2) a5) (fun k b' a1 a2 => by omega)
  have hC : C' = h'.t.get := funext hCfin
  have hsd := I.sd
  rw [h0, hC] at hsd
  have hds : a'.ds = a.ds := by rw [← ha, ← a0]; exact hf.ads ops.size (Nat.le_refl _)
  have hsz : a'.size = a.size := by rw [← ha, ← a0]; exact hf.asize ops.size (Nat.le_refl _)
  refine ⟨c', x', w', ⟨⟨hmono, hfree, fun i => ?_, fun i hi => I.out i (by rw [h0, hh]; exact hi)⟩, hsd.hr, hsd.size, hsd.keep, hsd.img, hsd.os, hsd.tape, hsd.output, hsd.ros⟩, ⟨?_, fun d => ?_, ?_, fun d hd => (I.le d (har.av d (by rwa [hds] at hd))).1⟩, fun k cs => ?_⟩
  · rw [I.av]
    constructor
    · rintro (h1 | ⟨j, j1, j2, j3, j4⟩)
      · exact .inl h1
      · have e1 := hf.mono hcl (Nat.zero_le j) (Nat.le_of_lt j1)
        have e2 := hf.mono hcl (i := j + 1) (j := ops.size) j1 (Nat.le_refl _)
        rw [h0] at e1
        rw [hh] at e2
        exact .inr ⟨by omega, by omega⟩
    · rintro (h1 | ⟨h1, h2⟩)
      · exact .inl h1
      · obtain ⟨j, j1, j2⟩ := hnext i h1 h2
        exact .inr ⟨j, j1, hall j j1, j2⟩
  · rw [hsz, har.size]; exact I.size.symm
  · have := I.vals d (a'.get d) ?_
    · exact this
    · rw [← ha]
      rcases hf.last d ops.size (Nat.le_refl _) with ⟨j, oj, h1, h2, h3, h4, h5⟩ | ⟨h1, h2⟩
      · exact .inl ⟨j, oj, h1, hall j h1, h2, h3, h4, fun j' o' hj' _ => h5 j' o' hj'⟩
      · exact .inr ⟨fun j o hj _ => h1 j o hj, h2⟩
  · rw [I.defers, har.defers, hds]
    exact List.map_congr_left fun d hd => by rw [(I.le d (har.av d hd)).2.1]
  · refine .head st_region_draw ?_
    have := hsteps F k cs
    simp only [Region.schedule, hm, Bool.true_or, if_true]
    exact this
end Go.Eng
