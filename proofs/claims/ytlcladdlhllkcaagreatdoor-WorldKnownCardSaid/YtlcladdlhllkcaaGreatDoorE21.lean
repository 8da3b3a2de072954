/-
  PROVED HERE: the evaluator's control is the machine's.
-/
import Derived.Test.YtlcladdlhllkcaaGreatDoorE20
namespace Go.Eng
set_option linter.unusedVariables false
set_option linter.unusedSimpArgs false
variable {P : Program}

/-- where a piece of code has led, by its way out. -/
def Arr (P : Program) (F : Fx) (m : Machine) (e : X) (x : Act) (w : World) (k : List Item) (cs : List Frame) : Prop := match e with
  | .normal => Steps P m (lone (F.at x k) cs w)
  | .exit id => ∃ kk, exitTo id kk = exitTo id k ∧ Steps P m (lone (F.at x (.code (.exit id) :: kk)) cs w)
  | .goto l => ∃ kk, gotoIn l kk = gotoIn l k ∧ Steps P m (lone (F.at x (.code (.goto l) :: kk)) cs w)
  | .ret => ∃ kk, Steps P m (lone (F.at x (.code .ret :: kk)) cs w)
theorem Arr.of {F : Fx} {m m1 : Machine} {e : X} {x : Act} {w : World} {k : List Item} {cs : List Frame} (h : Steps P m m1) (a : Arr P F m1 e x w k cs) : Arr P F m e x w k cs := by
  cases e with
  | normal => exact Steps.trans h a
  | exit id => obtain ⟨kk, h1, h2⟩ := a; exact ⟨kk, h1, Steps.trans h h2⟩
  | goto l => obtain ⟨kk, h1, h2⟩ := a; exact ⟨kk, h1, Steps.trans h h2⟩
  | ret => obtain ⟨kk, h2⟩ := a; exact ⟨kk, Steps.trans h h2⟩
/-- an item that neither a jump nor a label sees is passed. -/
theorem Arr.pass {F : Fx} {m : Machine} {e : X} {x : Act} {w : World} {i : Item} {k : List Item} {cs : List Frame} (he : e ≠ .normal) (h1 : ∀ id, exitTo id (i :: k) = exitTo id k) (h2 : ∀ l, gotoIn l (i :: k) = gotoIn l k) (a : Arr P F m e x w (i :: k) cs) : Arr P F m e x w k cs := by
  cases e with
  | normal => exact absurd rfl he
  | exit id => obtain ⟨kk, a1, a2⟩ := a; exact ⟨kk, a1.trans (h1 id), a2⟩
  | goto l => obtain ⟨kk, a1, a2⟩ := a; exact ⟨kk, a1.trans (h2 l), a2⟩
  | ret => exact a
/-- f is what the machine does from the items 'its' on. -/
def Runs (P : Program) (fn : FuncId) (rd : Option Nat) (f : A → H → R) (its : List Item → List Item) : Prop :=
  ∀ a h e a' h', f a h = some (e, a', h') → Moves P fn rd a h a' h' fun F x w x' w' => ∀ k cs, Arr P F (lone (F.at x (its k)) cs w) e x' w' k cs
theorem Moves.mono {fn : FuncId} {rd : Option Nat} {a a' : A} {h h' : H} {M N : Fx → Act → World → Act → World → Prop} (m : Moves P fn rd a h a' h' M) (hMN : ∀ F x w x' w', M F x w x' w' → N F x w x' w') : Moves P fn rd a h a' h' N :=
  ⟨m.1, fun c w x F g H ha hF hR hfree => have ⟨c', x', w', h1, h2, h3⟩ := m.2 c w x F g H ha hF hR hfree; ⟨c', x', w', h1, h2, hMN _ _ _ _ _ h3⟩⟩
theorem Moves.self {fn : FuncId} {rd : Option Nat} {a : A} {h : H} {M : Fx → Act → World → Act → World → Prop} (hM : ∀ F x w, M F x w x w) : Moves P fn rd a h a h M :=
  ⟨Nat.le_refl _, fun c w x F g H ha hF hR hfree => ⟨c, x, w, St.refl H _, ha, hM _ _ _⟩⟩
theorem Moves.then {fn : FuncId} {rd : Option Nat} {a b d : A} {h i j : H} {M N L : Fx → Act → World → Act → World → Prop} (m : Moves P fn rd a h b i M) (n : Moves P fn rd b i d j N) (hL : ∀ F x w x1 w1 x2 w2, M F x w x1 w1 → N F x1 w1 x2 w2 → L F x w x2 w2) : Moves P fn rd a h d j L :=
  ⟨Nat.le_trans m.1 n.1, fun c w x F g H ha hF hR hfree => by
    obtain ⟨c1, x1, w1, s1, a1, m1⟩ := m.2 c w x F g H ha hF hR (hfree.left n.1)
    have hle := s1.ext.toLe
    obtain ⟨c2, x2, w2, s2, a2, m2⟩ := n.2 c1 w1 x1 F (g.le hle) s1.hr a1 hF (hR.le hle) (hfree.right s1.ext)
    exact ⟨c2, x2, w2, s1.trans s2, a2, hL _ _ _ _ _ _ _ m1 m2⟩⟩
theorem Runs.then {fn : FuncId} {rd : Option Nat} {f g : A → H → R} {its : List Item → List Item} {y : Code} (hf : Runs P fn rd f its) (hg : Runs P fn rd g fun k => .code y :: k) : Runs P fn rd (fun a h => thenE (f a h) g) fun k => its (.code y :: k) := by
  intro a h e a' h' hr
  unfold thenE at hr
  dsimp only at hr
  split at hr
  · rename_i a1 h1 h2
    refine (hf _ _ _ _ _ h2).then (hg _ _ _ _ _ hr) fun F x w x1 w1 x2 w2 m n k cs => ?_
    have := m (.code y :: k) cs
    exact Arr.of this (n k cs)
  · rename_i hne
    refine (hf _ _ _ _ _ hr).mono fun F x w x' w' m k cs => ?_
    have he : e ≠ .normal := fun h => hne _ _ (by rw [hr, h])
    exact Arr.pass he (fun _ => rfl) (fun _ => rfl) (m (.code y :: k) cs)
theorem Runs.head {fn : FuncId} {rd : Option Nat} {f : A → H → R} {its its' : List Item → List Item} (hf : Runs P fn rd f its) (hs : ∀ (F : Fx) x k cs w, Steps P (lone (F.at x (its' k)) cs w) (lone (F.at x (its k)) cs w)) : Runs P fn rd f its' :=
  fun a h e a' h' hr => (hf a h e a' h' hr).mono fun F x w x' w' m k cs => Arr.of (hs F x k cs w) (m k cs)
theorem Runs.block {fn : FuncId} {rd : Option Nat} {f : A → H → R} {id : Nat} {b : Code} (hf : Runs P fn rd f fun k => .code b :: k) : Runs P fn rd (fun a h => outOf id (f a h)) fun k => .code (.block id b) :: k := by
  intro a h e a' h' hr
  unfold outOf at hr
  dsimp only at hr
  split at hr
  · rename_i id' a1 h1 h2
    split at hr
    · rename_i hid
      cases hr
      have hid' := Nat.eq_of_beq_eq_true hid
      subst hid'
      refine (hf _ _ _ _ _ h2).mono fun F x w x' w' m k cs => ?_
      obtain ⟨kk, h3, h4⟩ := m (.inBlock id' :: k) cs
      refine .head st_block (.trans h4 (.one (st_exit ?_)))
      rw [h3]
      simp [exitTo]
    · rename_i hid
      cases hr
      refine (hf _ _ _ _ _ h2).mono fun F x w x' w' m k cs => ?_
      obtain ⟨kk, h3, h4⟩ := m (.inBlock id :: k) cs
      refine ⟨kk, h3.trans ?_, .head st_block h4⟩
      have hne : (id == id') = false := by
        have : id' ≠ id := fun e => by rw [e] at hid; rw [show Nat.beq id id = true from by rw [Nat.beq_eq]] at hid; cases hid
        simp; exact Ne.symm this
      simp [exitTo, hne]
  · rename_i hne
    refine (hf _ _ _ _ _ hr).mono fun F x w x' w' m k cs => ?_
    have := m (.inBlock id :: k) cs
    cases e with
    | normal => exact .head st_block (Steps.trans this (.one st_inBlock))
    | exit id' => exact absurd hr (hne _ _ _)
    | goto l => obtain ⟨kk, h3, h4⟩ := this; exact ⟨kk, h3.trans rfl, .head st_block h4⟩
    | ret => obtain ⟨kk, h4⟩ := this; exact ⟨kk, .head st_block h4⟩
theorem Runs.again {fn : FuncId} {rd : Option Nat} {f : A → H → R} {b : Code} (hf : Runs P fn rd f fun k => .code b :: k) : ∀ n, Runs P fn rd (fun a h => again f n a h) fun k => .code b :: .inLoop b :: k
  | 0 => fun a h e a' h' hr => by cases hr
  | n + 1 => by
    intro a h e a' h' hr
    have hr' : (match f a h with | some (.normal, a, h) => Eng.again f n a h | r => r) = some (e, a', h') := hr
    split at hr'
    · rename_i a1 h1 h2
      refine (hf _ _ _ _ _ h2).then (Runs.again hf n _ _ _ _ _ hr') fun F x w x1 w1 x2 w2 m m2 k cs => ?_
      have := m (.inLoop b :: k) cs
      exact Arr.of (Steps.trans this (.one st_inLoop)) (m2 k cs)
    · rename_i hne
      refine (hf _ _ _ _ _ hr').mono fun F x w x' w' m k cs => ?_
      have he : e ≠ .normal := fun h => hne _ _ (by rw [hr', h])
      exact Arr.pass he (fun _ => rfl) (fun _ => rfl) (m (.inLoop b :: k) cs)
/-- what a body knows of its labels. -/
def Labels (P : Program) (fn : FuncId) (rd : Option Nat) (b : Code) (rest : Nat → Option (A → H → R)) : Prop :=
  (∀ l g, rest l = some g → ∃ c, findLabel b l = some c ∧ Runs P fn rd g fun k => .code c :: k) ∧ ∀ l, rest l = none → findLabel b l = none
theorem Runs.goes {fn : FuncId} {rd : Option Nat} {b : Code} {rest : Nat → Option (A → H → R)} (hl : Labels P fn rd b rest) : ∀ (n : Nat) (f : A → H → R) (c : Code), Runs P fn rd f (fun k => .code c :: k) → Runs P fn rd (fun a h => goes rest n (f a h)) fun k => .code c :: .inScope b :: k
  | 0, f, c, hf => fun a h e a' h' hr => by cases hr
  | n + 1, f, c, hf => by
    intro a h e a' h' hr
    have hr' : (match f a h with
      | some (.goto l, a, h) => match rest l with
        | some g => Eng.goes rest n (g a h)
        | none => some (.goto l, a, h)
      | r => r) = some (e, a', h') := hr
    split at hr'
    · rename_i l a1 h1 h2
      split at hr'
      · rename_i g hg
        obtain ⟨c2, hc, hg2⟩ := hl.1 l g hg
        refine (hf _ _ _ _ _ h2).then (Runs.goes hl n g c2 hg2 _ _ _ _ _ hr') fun F x w x1 w1 x2 w2 m m2 k cs => ?_
        obtain ⟨kk, h3, h4⟩ := m (.inScope b :: k) cs
        refine Arr.of (Steps.trans h4 (.one (st_goto ?_))) (m2 k cs)
        rw [h3]
        simp [gotoIn, hc]
      · rename_i hg
        cases hr'
        have hn := hl.2 l hg
        refine (hf _ _ _ _ _ h2).mono fun F x w x' w' m k cs => ?_
        obtain ⟨kk, h3, h4⟩ := m (.inScope b :: k) cs
        refine ⟨kk, h3.trans ?_, h4⟩
        simp [gotoIn, hn]
    · rename_i hne
      refine (hf _ _ _ _ _ hr').mono fun F x w x' w' m k cs => ?_
      have := m (.inScope b :: k) cs
      cases e with
      | normal => exact Steps.trans this (.one st_inScope)
      | exit id => obtain ⟨kk, h3, h4⟩ := this; exact ⟨kk, h3.trans rfl, h4⟩
      | goto l => exact absurd hr' (hne _ _ _)
      | ret => exact this
end Go.Eng
