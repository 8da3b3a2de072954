/-
  PROVED HERE: regions that are carried out in their order.
-/
import Derived.Test.YtlcladdlhllkcaaGreatDoorE13
namespace Go.Eng
set_option linter.unusedVariables false
set_option linter.unusedSimpArgs false
variable {P : Program}

/-- whose round a frame is. -/
def RdR (c : Cx) (rd : Option Nat) (F : Fx) : Prop := match rd with
  | none => F.rd = none
  | some l => F.rd = some (c.b l) ∧ c.av l
theorem RdR.le {c c' : Cx} {rd : Option Nat} {F : Fx} (h : RdR c rd F) (hc : Le c c') : RdR c' rd F := by
  cases rd with
  | none => exact h
  | some l => exact ⟨by rw [(hc l h.2).2.1]; exact h.1, (hc l h.2).1⟩
/-- What a piece of a frame's code gives: from a and h it goes to a' and h'; the machine goes so, whatever stands for them. -/
def Moves (P : Program) (fn : FuncId) (rd : Option Nat) (a : A) (h : H) (a' : A) (h' : H) (M : Fx → Act → World → Act → World → Prop) : Prop :=
  h.next ≤ h'.next ∧ ∀ (c : Cx) (w : World) (x : Act) (F : Fx), Gl c → HR c h.t.get w → AR c a x → F.fn = fn → RdR c rd F → Free c h.next h'.next →
    ∃ c' x' w', St c h.t.get w c' h'.t.get w' h.next h'.next ∧ AR c' a' x' ∧ M F x w x' w'
theorem drop_range (n i : Nat) (h : i < n) : (List.range n).drop i = i :: (List.range n).drop (i + 1) := by
  rw [List.drop_eq_getElem_cons (by simpa using h)]
  simp
theorem regE_ok {cl : Cl} (hcl : ClOK P cl) {ops : Array Oper} {fn : FuncId} {rd : Option Nat} : ∀ (l : List Oper) (i : Nat) (a : A) (h : H) (a' : A) (h' : H), regE cl P ops.toList l a h = some (a', h') → l = ops.toList.drop i →
    Moves P fn rd a h a' h' fun F x w x' w' => ∀ k cs, Steps P (lone (F.at x (.inRegion ops ((List.range ops.size).drop i) :: k)) cs w) (lone (F.at x' k) cs w')
  | [], i, a, h, a', h', hr, hl => by
    simp only [regE, Option.some.injEq, Prod.mk.injEq] at hr
    obtain ⟨rfl, rfl⟩ := hr
    refine ⟨Nat.le_refl _, fun c w x F g H ha _ _ _ => ⟨c, x, w, St.refl H _, ha, fun k cs => ?_⟩⟩
    have hlen : ops.size ≤ i := by
      have := congrArg List.length hl
      simp at this
      omega
    rw [List.drop_eq_nil_of_le (by simpa using hlen)]
    exact .one st_region_end
  | o :: l, i, a, h, a', h', hr, hl => by
    have hi : i < ops.size := by
      rcases Nat.lt_or_ge i ops.size with h | h
      · exact h
      · rw [List.drop_eq_nil_of_le (by simpa using h)] at hl; cases hl
    have hsplit := List.drop_eq_getElem_cons (l := ops.toList) (i := i) (by simpa using hi)
    rw [← hl] at hsplit
    obtain ⟨ho, hl2⟩ : o = ops[i] ∧ l = ops.toList.drop (i + 1) := by simpa using hsplit
    have hoi : ops[i]? = some o := by rw [ho]; exact Array.getElem?_eq_getElem hi
    unfold regE at hr
    split at hr
    · cases hr
    · rename_i hwant
      split at hr
      · rename_i a1 hput
        obtain ⟨hle, ih⟩ := regE_ok hcl l (i + 1) a1 h a' h' hr hl2
        refine ⟨hle, fun c w x F g H ha hF hR hfree => ?_⟩
        have hw := want_ok hwant fun _ _ _ d _ _ _ => ha.tmps d
        obtain ⟨c', x', w', h1, h2, h3⟩ := ih c w (x.put o.dst undef) F g H (put_ok hput ha (VR.undef c)) hF hR hfree
        refine ⟨c', x', w', h1, h2, fun k cs => ?_⟩
        rw [drop_range _ _ hi]
        refine .head (st_op_skip (by rw [hoi]; exact hw)) ?_
        rw [hoi]
        exact h3 k cs
      · cases hr
    · rename_i hwant
      split at hr
      · rename_i v h1 kk hst
        split at hr
        · rename_i a1 hput
          obtain ⟨hle1, hstep⟩ := stepE_ok hcl hst
          obtain ⟨hle2, ih⟩ := regE_ok hcl l (i + 1) a1 h1 a' h' hr hl2
          refine ⟨Nat.le_trans hle1 hle2, fun c w x F g H ha hF hR hfree => ?_⟩
          have hw := want_ok hwant fun _ _ _ d _ _ _ => ha.tmps d
          obtain ⟨c1, w1, v', s1, s2, s3⟩ := hstep c w x g H (fun y _ => ha.ev g y) (hfree.left hle2)
          have hc1 := s1.ext.toLe
          obtain ⟨c', x', w', t1, t2, t3⟩ := ih c1 w1 (x.put o.dst v') F (g.le hc1) s1.hr (put_ok hput (ha.le hc1) s2) hF (hR.le hc1) (hfree.right s1.ext)
          refine ⟨c', x', w', s1.trans t1, t2, fun k cs => ?_⟩
          rw [drop_range _ _ hi]
          exact .trans (goes_step hoi hw s3) (t3 k cs)
        · cases hr
      · cases hr
end Go.Eng
