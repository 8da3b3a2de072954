/-
  PROVED HERE: the evaluator's way through code is the machine's.
-/
import Derived.Test.YtlcladdlhllkcaaGreatDoorE22
namespace Go.Eng
set_option linter.unusedVariables false
set_option linter.unusedSimpArgs false
variable {P : Program}

theorem rangeE_ok {cl : Cl} (hcl : ClOK P cl) {fn : FuncId} {rd : Option Nat} {f : Operand} {ps : Array Tmp} {as bd : Code} : Runs P fn rd (fun a h => rangeE cl P fn rd f ps.toList as bd a h) fun k => .code (.rangeFunc f ps as bd) :: k := by
  intro a h e a' h' hr
  have hps : (⟨ps.toList⟩ : Array Tmp) = ps := rfl
  unfold rangeE at hr
  dsimp only at hr
  split at hr
  · rw [T.setK_eq, forceN_eq] at hr
    obtain ⟨hle, hb⟩ := rangeB_ok hcl (rd := none) hr
    simp only [Nat.succ_eq_add_one] at hle hb
    refine ⟨by omega, fun c w x F G H ha hF hR hfree => ?_⟩
    have hn : ¬ c.av h.next := hfree h.next (Nat.le_refl _) (by omega)
    have hmade := made_push w (.deferred (some []))
    have s1 := St.new (o := .deferred) H 0 0 hn hmade rfl
    have hle1 := s1.ext.toLe
    have hcb : (c.put h.next w.heap.size 0 0 0).b h.next = w.heap.size := put_self.2.1
    have hca : (c.put h.next w.heap.size 0 0 0).av h.next := put_self.1
    have hFr : F.rd = none := hR
    obtain ⟨c', x', w', t1, t2, t3⟩ := hb _ { w with heap := w.heap.push (.deferred (some [])) } x F w.heap.size [{ target := .collected w.heap.size, args := #[] }] (G.le hle1) s1.hr (ha.le hle1) hF (hfree.right s1.ext) (by
        simp only [List.map_cons, hcb, List.singleton_append]
        congr 1
        rw [ha.defers]
        exact List.map_congr_left fun d hd => by rw [(hle1 d (ha.av d hd)).2.1]) (fun d hd => by
        rcases List.mem_cons.1 hd with rfl | hd
        · exact hca
        · exact (hle1 d (ha.av d hd)).1) w (by
        rw [hFr]
        simp only [Instr.enterLoop, Sem.run_bind, run_newObj, Result.andThen_ok, Sem.run_pure])
    exact ⟨c', x', w', s1.trans t1, t2, t3⟩
  · rename_i l
    split at hr
    · rename_i st pend fn' sz tm ps' as' bd' hget
      obtain ⟨hle, hb⟩ := rangeB_ok hcl (rd := some l) hr
      refine ⟨hle, fun c w x F G H ha hF hR hfree => ?_⟩
      obtain ⟨hav, tm', ds2, hw2, hsz, htm⟩ := H.at_ _ _ hget
      have hFr : F.rd = some (c.b l) := hR.1
      exact hb c w x F ds2 [] G H ha hF hfree (by rw [List.nil_append]; exact ha.defers) ha.av w (by
        rw [hFr]
        simp only [Instr.enterLoop, Sem.run_bind, run_getLoop hw2, run_newObj, Result.andThen_ok, Sem.run_pure])
    · cases hr
theorem codeE_ok {cl : Cl} (hcl : ClOK P cl) (hm : P.follows .mixedOrders = true) (fn : FuncId) (rd : Option Nat) (c : Code) : Runs P fn rd (codeE cl P fn rd c).1 (fun k => .code c :: k) ∧ Labels P fn rd c (codeE cl P fn rd c).2 := by
  have noLabel : ∀ c : Code, (∀ l, findLabel c l = none) → Labels P fn rd c (fun _ => none) := fun c h => ⟨fun l g hg => (by cases hg), fun l _ => h l⟩
  induction c with
  | skip =>
    refine ⟨fun a h e a' h' hr => ?_, noLabel _ fun _ => rfl⟩
    cases hr
    exact Moves.self fun F x w k cs => .one st_skip
  | region id ops d =>
    refine ⟨fun a h e a' h' hr => ?_, noLabel _ fun _ => rfl⟩
    change (match (match d with | false => regE cl P ops.toList ops.toList a h | true => regD cl P ops ops.toList 0 [] [] a h) with | some (a, h) => some (X.normal, a, h) | none => none) = some (e, a', h') at hr
    split at hr
    · rename_i a1 h1 h2
      cases hr
      cases d with
      | false =>
        refine (regE_ok hcl ops.toList 0 a h a' h' h2 rfl).mono fun F x w x' w' m k cs => ?_
        exact .head st_region (m k cs)
      | true => exact (regD_ok hcl hm h2 id).mono fun F x w x' w' m k cs => m k cs
    · cases hr
  | seq x y ihx ihy =>
    have hthen : ∀ (f : A → H → R) (c : Code), Runs P fn rd f (fun k => .code c :: k) → Runs P fn rd (fun a h => thenE (f a h) (codeE cl P fn rd y).1) fun k => .code (.seq c y) :: k := fun f c hf =>
      Runs.head (its := fun k => .code c :: .code y :: k) (Runs.then (its := fun k => .code c :: k) hf ihy.1) fun F x k cs w => .one st_seq
    refine ⟨hthen _ _ ihx.1, fun l g hg => ?_, fun l hg => ?_⟩
    · change (match (codeE cl P fn rd x).2 l with | some g => some fun a h => thenE (g a h) (codeE cl P fn rd y).1 | none => (codeE cl P fn rd y).2 l) = some g at hg
      split at hg
      · rename_i g1 hg1
        cases hg
        obtain ⟨c1, h1, h2⟩ := ihx.2.1 l g1 hg1
        exact ⟨.seq c1 y, by simp [findLabel, h1], hthen _ _ h2⟩
      · rename_i hg1
        obtain ⟨c1, h1, h2⟩ := ihy.2.1 l g hg
        exact ⟨c1, by simp [findLabel, ihx.2.2 l hg1, h1], h2⟩
    · change (match (codeE cl P fn rd x).2 l with | some g => some fun a h => thenE (g a h) (codeE cl P fn rd y).1 | none => (codeE cl P fn rd y).2 l) = none at hg
      split at hg
      · cases hg
      · rename_i hg1
        simp [findLabel, ihx.2.2 l hg1, ihy.2.2 l hg]
  | cond cc x y ihx ihy =>
    refine ⟨fun a h e a' h' hr => ?_, noLabel _ fun _ => rfl⟩
    change condE (a.ev cc) ((codeE cl P fn rd x).1 a h) ((codeE cl P fn rd y).1 a h) = some (e, a', h') at hr
    have main : ∀ (b : Bool) (z : Code) (f : A → H → R), Runs P fn rd f (fun k => .code z :: k) → a.ev cc = .bool b → z = (if b then x else y) → f a h = some (e, a', h') →
        Moves P fn rd a h a' h' fun F x1 w x' w' => ∀ k cs, Arr P F (lone (F.at x1 (.code (.cond cc x y) :: k)) cs w) e x' w' k cs := by
      intro b z f hf hb hz hfr
      obtain ⟨h1, h2⟩ := hf _ _ _ _ _ hfr
      refine ⟨h1, fun c w x1 F G H ha hF hR hfree => ?_⟩
      obtain ⟨c', x', w', s1, s2, s3⟩ := h2 c w x1 F G H ha hF hR hfree
      refine ⟨c', x', w', s1, s2, fun k cs => ?_⟩
      have hev := ha.ev G cc
      rw [hb] at hev
      generalize hq : x1.eval cc = q at hev
      cases hev
      refine Arr.of (.one (st_cond hq)) ?_
      rw [← hz]
      exact s3 k cs
    unfold condE at hr
    split at hr
    · rename_i hb; exact main true x _ ihx.1 hb rfl hr
    · rename_i hb; exact main false y _ ihy.1 hb rfl hr
    · cases hr
  | block id b ih => exact ⟨Runs.block ih.1, noLabel _ fun _ => rfl⟩
  | loop b ih =>
    have h1 : ∀ n, Runs P fn rd (fun a h => again (codeE cl P fn rd b).1 n a h) fun k => .code (.loop b) :: k := fun n => Runs.head (its := fun k => .code b :: .inLoop b :: k) (Runs.again ih.1 n) fun F x k cs w => .one st_loop
    have h2 : (codeE cl P fn rd (.loop b)).1 = fun a h => again (codeE cl P fn rd b).1 lots a h := by unfold codeE; rfl
    exact ⟨h2 ▸ h1 lots, noLabel _ fun _ => rfl⟩
  | rangeFunc f ps as bd _ _ => exact ⟨rangeE_ok hcl, noLabel _ fun _ => rfl⟩
  | exit id =>
    refine ⟨fun a h e a' h' hr => ?_, noLabel _ fun _ => rfl⟩
    cases hr
    exact Moves.self fun F x w k cs => ⟨k, rfl, .refl _ _⟩
  | scope b ih =>
    have h1 : ∀ n, Runs P fn rd (fun a h => goes (codeE cl P fn rd b).2 n ((codeE cl P fn rd b).1 a h)) fun k => .code (.scope b) :: k := fun n => Runs.head (its := fun k => .code b :: .inScope b :: k) (Runs.goes ih.2 n _ b ih.1) fun F x k cs w => .one st_scope
    have h2 : (codeE cl P fn rd (.scope b)).1 = fun a h => goes (codeE cl P fn rd b).2 lots ((codeE cl P fn rd b).1 a h) := by unfold codeE; rfl
    exact ⟨h2 ▸ h1 lots, noLabel _ fun _ => rfl⟩
  | label l =>
    refine ⟨fun a h e a' h' hr => ?_, fun l' g hg => ?_, fun l' hg => ?_⟩
    · cases hr
      exact Moves.self fun F x w k cs => .one st_label
    · change (Bool.rec (motive := fun _ => Option (A → H → R)) none (some fun a h => some (.normal, a, h)) (Nat.beq l l')) = some g at hg
      cases hq : Nat.beq l l' with
      | false => rw [hq] at hg; cases hg
      | true =>
        rw [hq] at hg
        cases hg
        refine ⟨.skip, by simp [findLabel, Nat.eq_of_beq_eq_true hq], fun a h e a' h' hr => ?_⟩
        cases hr
        exact Moves.self fun F x w k cs => .one st_skip
    · change (Bool.rec (motive := fun _ => Option (A → H → R)) none (some fun a h => some (.normal, a, h)) (Nat.beq l l')) = none at hg
      cases hq : Nat.beq l l' with
      | true => rw [hq] at hg; cases hg
      | false =>
        have : l ≠ l' := fun e => by rw [e, show Nat.beq l' l' = true from by rw [Nat.beq_eq]] at hq; cases hq
        simp [findLabel, this]
  | goto l =>
    refine ⟨fun a h e a' h' hr => ?_, noLabel _ fun _ => rfl⟩
    cases hr
    exact Moves.self fun F x w k cs => ⟨k, rfl, .refl _ _⟩
  | ret =>
    refine ⟨fun a h e a' h' hr => ?_, noLabel _ fun _ => rfl⟩
    cases hr
    exact Moves.self fun F x w k cs => ⟨k, .refl _ _⟩
  | refuse why => exact ⟨fun a h e a' h' hr => (by cases hr), noLabel _ fun _ => rfl⟩
end Go.Eng
