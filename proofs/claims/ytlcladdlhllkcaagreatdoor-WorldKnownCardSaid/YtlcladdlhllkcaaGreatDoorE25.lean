/-
  PROVED HERE: the evaluator's answer to a call is the machine's.
-/
import Derived.Test.YtlcladdlhllkcaaGreatDoorE24
namespace Go.Eng
set_option linter.unusedVariables false
set_option linter.unusedSimpArgs false
variable {P : Program}
/-- The evaluator: n is how deep calls may lie. -/
noncomputable def evalF (p : Program) : Nat → Cl :=
  Nat.rec (motive := fun _ => Cl) (fun _ _ => none) fun _ cl r h => match r with
    | .fn f args => match p.funcs[f]? with
      | some fn => match fn.body with
        | some b => layT args 0 .leaf fun t => match (codeE cl p f none b).1 ⟨Nat.max fn.ntmps args.length, t, []⟩ h with
          | some (.normal, a, h) => leaveE p fn a h
          | some (.ret, a, h) => leaveE p fn a h
          | _ => none
        | none => none
      | none => none
    | .yield l args => match h.t.get l with
      | some (.loop .ready pending fn sz tm ps assign body) =>
        match Nat.beq ps.length args.length && ps.all (fun d => Nat.blt d sz) with
        | false => none
        | true => layP ps args tm fun t => match (codeE cl p fn (some l) assign).1 ⟨sz, t, []⟩ h with
          | some (.normal, a, h) => match h.t.get l with
            | some (.loop .ready pending fn1 sz tm ps assign body1) => h.t.setK l (some (.loop .busy pending fn1 sz tm ps assign body1)) fun t =>
              match (codeE cl p fn (some l) body).1 a ⟨t, h.next⟩ with
              | some (x, a, h) => match a.ds with
                | [] => match h.t.get l with
                  | some (.loop _ _ fn sz tm ps assign body) => match jumpOf x with
                    | none => h.t.setK l (some (.loop .ready none fn sz tm ps assign body)) fun t => some (.bool true, ⟨t, h.next⟩)
                    | some j => h.t.setK l (some (.loop .done (some j) fn sz tm ps assign body)) fun t => some (.bool false, ⟨t, h.next⟩)
                  | _ => none
                | _ => none
              | none => none
            | _ => none
          | _ => none
      | _ => none

theorem LR.len {c : Cx} : ∀ {l l' : List Value}, LR c l l' → l.length = l'.length
  | _, _, .nil => rfl
  | _, _, .cons _ h => by simp [h.len]
theorem LR.getD' {c : Cx} : ∀ {l l' : List Value}, LR c l l' → ∀ (i : Nat), VR c (l[i]?.getD undef) (l'[i]?.getD undef)
  | _, _, .nil, i => by simp only [List.getElem?_nil, Option.getD_none]; exact VR.tuple .nil
  | _, _, .cons h _, 0 => by simpa using h
  | _, _, .cons _ h, i + 1 => by simpa using h.getD' i
theorem layT_ok {β : Type} : ∀ (l : List Value) (n : Nat) (t : T Value) (k : T Value → β), ∃ t', layT l n t k = k t' ∧ ∀ i, t'.get i = if n ≤ i ∧ i < n + l.length then l[i - n]? else t.get i
  | [], n, t, k => ⟨t, rfl, fun i => by rw [if_neg (by simp)]⟩
  | x :: l, n, t, k => by
    have hs : layT (x :: l) n t k = force x fun x => t.setK n (some x) fun t => layT l (Nat.succ n) t k := rfl
    rw [hs, force_eq, T.setK_eq]
    obtain ⟨t', h1, h2⟩ := layT_ok l (Nat.succ n) (t.set n (some x)) k
    refine ⟨t', h1, fun i => ?_⟩
    rw [h2, T.get_set]
    by_cases hi : i = n
    · subst hi
      rw [if_neg (by omega), if_pos rfl, if_pos (by simp)]
      simp
    · by_cases hj : n ≤ i ∧ i < n + (x :: l).length
      · rw [if_pos hj, if_pos (by simp only [List.length_cons] at hj; omega)]
        have : i - n = (i - n.succ) + 1 := by omega
        rw [this, List.getElem?_cons_succ]
      · rw [if_neg hj, if_neg (by simp only [List.length_cons] at hj; omega), if_neg hi]
theorem layT_tr {c : Cx} {l l' : List Value} (h : LR c l l') {t : T Value} (ht : ∀ i, t.get i = if 0 ≤ i ∧ i < 0 + l.length then l[i - 0]? else (T.leaf : T Value).get i) (m : Nat) : TR c t (⟨l'⟩ ++ Array.replicate m undef) := by
  intro i
  have h1 : (t.get i).getD undef = l[i]?.getD undef := by
    rw [ht]
    split
    · simp
    · rename_i hn
      rw [List.getElem?_eq_none (by omega)]
      simp [T.get_leaf]
  have h2 : (⟨l'⟩ ++ Array.replicate m undef : Array Value).getD i undef = l'[i]?.getD undef := by
    rw [Array.getD_eq_getD_getElem?]
    by_cases hi : i < l'.length
    · rw [Array.getElem?_append_left (by simpa using hi)]; simp
    · rw [Array.getElem?_append_right (by simpa using hi), List.getElem?_eq_none (by omega)]
      simp only [Array.getElem?_replicate]
      split <;> rfl
  rw [h1, h2]
  exact h.getD' i
theorem layP_ok {β : Type} {c : Cx} : ∀ (ps : List Tmp) (vs vs' : List Value) (t : T Value) (tm : Array Value) (k : T Value → β), LR c vs vs' → TR c t tm → ps.length = vs.length → (∀ d, d ∈ ps → d < tm.size) →
    ∃ t', layP ps vs t k = k t' ∧ TR c t' ((ps.zip vs').foldl (fun tmps x => tmps.setIfInBounds x.1 x.2) tm) ∧ ((ps.zip vs').foldl (fun tmps x => tmps.setIfInBounds x.1 x.2) tm).size = tm.size
  | [], vs, vs', t, tm, k, hl, ht, hn, hd => ⟨t, rfl, ht, rfl⟩
  | d :: ps, [], vs', t, tm, k, hl, ht, hn, hd => by simp at hn
  | d :: ps, v :: vs, vs', t, tm, k, hl, ht, hn, hd => by
    cases hl with
    | cons hv hl =>
      rename_i v' vs'
      have hs : layP (d :: ps) (v :: vs) t k = force v fun v => t.setK d (some v) fun t => layP ps vs t k := rfl
      rw [hs, force_eq, T.setK_eq]
      have hdl := hd d (by simp)
      obtain ⟨t', h1, h2, h3⟩ := layP_ok ps vs vs' (t.set d (some v)) (tm.setIfInBounds d v') k hl (fun i => by
        rw [T.get_set, Array.getD_eq_getD_getElem?]
        by_cases hi : i = d
        · subst hi; simp [hdl]; exact hv
        · rw [if_neg hi, Array.getElem?_setIfInBounds_ne (Ne.symm hi), ← Array.getD_eq_getD_getElem?]; exact ht i) (by simpa using hn) (fun e he => by simpa using hd e (by simp [he]))
      exact ⟨t', h1, h2, by rw [List.zip_cons_cons, List.foldl_cons, h3]; simp⟩

theorem layP_id {β : Type} : ∀ (ps : List Tmp) (vs : List Value) (t : T Value) (k : T Value → β), layP ps vs t k = k (layP ps vs t id)
  | [], vs, t, k => rfl
  | d :: ps, [], t, k => rfl
  | d :: ps, v :: vs, t, k => by
    have hs : ∀ {γ : Type} (k : T Value → γ), layP (d :: ps) (v :: vs) t k = force v fun v => t.setK d (some v) fun t => layP ps vs t k := fun _ => rfl
    rw [hs, hs, force_eq, force_eq, T.setK_eq, T.setK_eq]
    exact layP_id ps vs _ k
theorem fn_ok {cl : Cl} (ih : ClOK P cl) (hm : P.follows .mixedOrders = true) {f : FuncId} {fn : Func} {b : Code} (hf : P.funcs[f]? = some fn) (hbd : fn.body = some b) {args : List Value} {t : T Value}
    (ht : ∀ i, t.get i = if 0 ≤ i ∧ i < 0 + args.length then args[i - 0]? else (T.leaf : T Value).get i) {h h1 h' : H} {a1 : A} {e : X} {v : Value}
    (hc : (codeE cl P f none b).1 ⟨Nat.max fn.ntmps args.length, t, []⟩ h = some (e, a1, h1)) (he : e = .normal ∨ e = .ret) (hl : leaveE P fn a1 h1 = some (v, h')) :
    h.next ≤ h'.next ∧ ∀ c w args', Gl c → HR c h.t.get w → Free c h.next h'.next → LR c args args' → ∃ c' w' v' x, St c h.t.get w c' h'.t.get w' h.next h'.next ∧ VR c' v v' ∧ (results fn x.tmps).run P w' = .ok v' w' ∧
      ∀ cs, ∃ todo, Steps P (lone (Frame.enter P f ⟨args'⟩ .normal) cs w) (lone (Fx.off ⟨f, none⟩ x [] todo) cs w') := by
  obtain ⟨hn1, hrun⟩ := (codeE_ok ih hm f none b).1 _ _ _ _ _ hc
  obtain ⟨hn2, hlv⟩ := leave_ok (P := P) (F := ⟨f, none⟩) hl
  refine ⟨by omega, fun c w args' g H hfree hargs => ?_⟩
  have hlen := hargs.len
  obtain ⟨c1, x1, w1, s1, ha1, harr⟩ := hrun c w ⟨⟨args'⟩ ++ Array.replicate (fn.ntmps - args'.length) undef, []⟩ ⟨f, none⟩ g H
    ⟨by show max fn.ntmps args.length = _; simp [hlen]; omega, layT_tr hargs ht _, rfl, fun d hd => by cases hd⟩ rfl rfl (hn2 ▸ hfree)
  obtain ⟨w2, v', s2, hv, hres, hst⟩ := hlv c1 w1 x1 s1.hr ha1
  refine ⟨c1, w2, v', x1, by rw [hn2]; exact s1.trans s2, hv, hres, fun cs => ?_⟩
  have hen : Frame.enter P f ⟨args'⟩ .normal = Fx.at ⟨f, none⟩ ⟨⟨args'⟩ ++ Array.replicate (fn.ntmps - args'.length) undef, []⟩ [.code b] := by
    simp [Frame.enter, Fx.at, hf, hbd]
  rw [hen]
  rcases he with rfl | rfl
  · have := harr [] cs
    exact ⟨[], .trans (.trans this (.one (st_end rfl))) (hst cs _)⟩
  · obtain ⟨kk, h3⟩ := harr [] cs
    exact ⟨_, .trans (.trans h3 (.one (st_ret rfl))) (hst cs _)⟩

theorem evalF_fn (n : Nat) (f : FuncId) (args : List Value) (h : H) : evalF P (n + 1) (.fn f args) h = (match P.funcs[f]? with
      | some fn => match fn.body with
        | some b => layT args 0 .leaf fun t => match (codeE (evalF P n) P f none b).1 ⟨Nat.max fn.ntmps args.length, t, []⟩ h with
          | some (.normal, a, h) => leaveE P fn a h
          | some (.ret, a, h) => leaveE P fn a h
          | _ => none
        | none => none
      | none => none) := rfl
theorem evalF_yield (n : Nat) (l : Nat) (args : List Value) (h : H) : evalF P (n + 1) (.yield l args) h = (match h.t.get l with
      | some (.loop .ready pending fn sz tm ps assign body) =>
        match Nat.beq ps.length args.length && ps.all (fun d => Nat.blt d sz) with
        | false => none
        | true => layP ps args tm fun t => match (codeE (evalF P n) P fn (some l) assign).1 ⟨sz, t, []⟩ h with
          | some (.normal, a, h) => match h.t.get l with
            | some (.loop .ready pending fn1 sz tm ps assign body1) => h.t.setK l (some (.loop .busy pending fn1 sz tm ps assign body1)) fun t =>
              match (codeE (evalF P n) P fn (some l) body).1 a ⟨t, h.next⟩ with
              | some (x, a, h) => match a.ds with
                | [] => match h.t.get l with
                  | some (.loop _ _ fn sz tm ps assign body) => match jumpOf x with
                    | none => h.t.setK l (some (.loop .ready none fn sz tm ps assign body)) fun t => some (.bool true, ⟨t, h.next⟩)
                    | some j => h.t.setK l (some (.loop .done (some j) fn sz tm ps assign body)) fun t => some (.bool false, ⟨t, h.next⟩)
                  | _ => none
                | _ => none
              | none => none
            | _ => none
          | _ => none
      | _ => none) := rfl
/-- what evalF says of a function's call, taken apart. -/
theorem evalF_fn_some {n : Nat} {f : FuncId} {args : List Value} {h h' : H} {v : Value} (hv : evalF P (n + 1) (.fn f args) h = some (v, h')) : ∃ fn b t a1 h1 e, P.funcs[f]? = some fn ∧ fn.body = some b ∧
    (∀ i, t.get i = if 0 ≤ i ∧ i < 0 + args.length then args[i - 0]? else (T.leaf : T Value).get i) ∧
    (codeE (evalF P n) P f none b).1 ⟨Nat.max fn.ntmps args.length, t, []⟩ h = some (e, a1, h1) ∧ (e = .normal ∨ e = .ret) ∧ leaveE P fn a1 h1 = some (v, h') := by
  rw [evalF_fn] at hv
  split at hv
  · rename_i fn hf
    split at hv
    · rename_i b hb
      obtain ⟨t, h1, h2⟩ := layT_ok args 0 .leaf fun t => match (codeE (evalF P n) P f none b).1 ⟨Nat.max fn.ntmps args.length, t, []⟩ h with
          | some (.normal, a, h) => leaveE P fn a h
          | some (.ret, a, h) => leaveE P fn a h
          | _ => none
      rw [h1] at hv
      split at hv
      · rename_i a1 h1 hc; exact ⟨fn, b, t, a1, h1, _, hf, hb, h2, hc, .inl rfl, hv⟩
      · rename_i a1 h1 hc; exact ⟨fn, b, t, a1, h1, _, hf, hb, h2, hc, .inr rfl, hv⟩
      · cases hv
    · cases hv
  · cases hv
theorem round_end {F : Fx} {x : Act} {w : World} {l : Nat} {e : X} {m : Machine} {caller : Frame} {cs : List Frame} (hF : F.rd = some l) {v : Value} {w' : World} (hd : x.defers = [])
    (hr : (Instr.endRound l (jumpOf e)).run P w = .ok v w') (ha : Arr P F m e x w [] (caller :: cs)) : Steps P m (lone (caller.finish v) cs w') := by
  cases e with
  | normal => exact .trans ha (.one (leave_round hF hr hd [] (.inl ⟨rfl, rfl⟩)))
  | ret => obtain ⟨kk, h1⟩ := ha; exact .trans h1 (.one (leave_round hF hr hd _ (.inr (.inl ⟨kk, rfl, rfl⟩))))
  | exit id => obtain ⟨kk, h0, h1⟩ := ha; exact .trans h1 (.one (leave_round hF hr hd _ (.inr (.inr (.inl ⟨id, kk, rfl, rfl, h0⟩)))))
  | goto id => obtain ⟨kk, h0, h1⟩ := ha; exact .trans h1 (.one (leave_round hF hr hd _ (.inr (.inr (.inr ⟨id, kk, rfl, rfl, h0⟩)))))
theorem yield_ok {cl : Cl} (ih : ClOK P cl) (hm : P.follows .mixedOrders = true) {n : Nat} (hcl : cl = evalF P n) {l : Nat} {args : List Value} {h h' : H} {v : Value} (hv : evalF P (n + 1) (.yield l args) h = some (v, h')) :
    h.next ≤ h'.next ∧ ∀ c w args', Gl c → HR c h.t.get w → Free c h.next h'.next → c.av l → LR c args args' → ∃ c' w' v', St c h.t.get w c' h'.t.get w' h.next h'.next ∧ VR c' v v' ∧ Goes P (Instr.yield (c.b l) ⟨args'⟩) w v' w' := by
  rw [evalF_yield, ← hcl] at hv
  split at hv
  case h_2 => cases hv
  rename_i pend fn sz tm ps as bd hget
  split at hv
  · cases hv
  rename_i hchk
  rw [Bool.and_eq_true] at hchk
  obtain ⟨hlen, hall⟩ := hchk
  have hlen := Nat.eq_of_beq_eq_true hlen
  have hall' : ∀ d, d ∈ ps → d < sz := fun d hd => by
    have := List.all_eq_true.1 hall d hd
    simpa [Nat.blt_eq] using this
  rw [layP_id] at hv
  have hlay : ∀ {c : Cx} {vs' : List Value} {tm' : Array Value}, LR c args vs' → TR c tm tm' → sz = tm'.size → TR c (layP ps args tm id) ((ps.zip vs').foldl (fun tmps x => tmps.setIfInBounds x.1 x.2) tm') ∧ ((ps.zip vs').foldl (fun tmps x => tmps.setIfInBounds x.1 x.2) tm').size = tm'.size := by
    intro c vs' tm' h1 h2 h3
    obtain ⟨t', e1, e2⟩ := layP_ok ps args vs' tm tm' id h1 h2 hlen (h3 ▸ hall')
    rw [e1]
    exact e2
  generalize layP ps args tm id = t1 at hv hlay
  split at hv
  case h_2 => cases hv
  rename_i a1 h1 hc1
  split at hv
  case h_2 => cases hv
  rename_i pend1 fn1 sz1 tm1 ps1 as1 bd1 hget1
  rw [T.setK_eq] at hv
  split at hv
  case h_2 => cases hv
  rename_i e a2 h2 hc2
  split at hv
  case h_2 => cases hv
  rename_i hds
  split at hv
  case h_2 => cases hv
  rename_i st3 pend3 fn3 sz3 tm3 ps3 as3 bd3 hget3
  have hend : v = .bool (jumpOf e).isNone ∧ h' = ⟨h2.t.set l (some (.loop (if (jumpOf e).isNone then .ready else .done) (jumpOf e) fn3 sz3 tm3 ps3 as3 bd3)), h2.next⟩ := by
    rw [T.setK_eq] at hv
    cases hj : jumpOf e with
    | none => rw [hj] at hv; cases hv; exact ⟨rfl, rfl⟩
    | some j => rw [hj] at hv; dsimp only at hv; rw [T.setK_eq] at hv; cases hv; exact ⟨rfl, rfl⟩
  clear hv
  obtain ⟨rfl, rfl⟩ := hend
  obtain ⟨m1, r1⟩ := (codeE_ok ih hm fn (some l) as).1 _ _ _ _ _ hc1
  obtain ⟨m2, r2⟩ := (codeE_ok ih hm fn (some l) bd).1 _ _ _ _ _ hc2
  simp only at m2
  refine ⟨by simp only; omega, fun c w args' g H hfree hav hargs => ?_⟩
  simp only at hfree
  obtain ⟨_, tm', dfs, hw, hsz, htm⟩ := H.at_ _ _ hget
  obtain ⟨ht1, hts⟩ := hlay hargs htm hsz
  obtain ⟨c1, x1, w1, s1, ha1, arr1⟩ := r1 c w ⟨(ps.zip args').foldl (fun tmps x => tmps.setIfInBounds x.1 x.2) tm', []⟩ ⟨fn, some (c.b l)⟩ g H ⟨by rw [hts]; exact hsz, ht1, rfl, fun d hd => by cases hd⟩ rfl ⟨rfl, hav⟩ (hfree.left m2)
  have le1 := s1.ext.toLe
  have hb1 := (le1 l hav).2.1
  obtain ⟨_, tm1', dfs1, hw1, hsz1, htm1⟩ := s1.hr.at_ _ _ hget1
  obtain ⟨w2, hset2, hturn2⟩ := run_loopSet (P := P) hw1 (.loop { state := .busy, pending := pend1, fn := fn1, tmps := tm1', params := ⟨ps1⟩, assign := as1, body := bd1, defers := dfs1 })
  have hbegin : (Instr.beginRound (c.b l)).run P w1 = .ok () w2 := by
    rw [← hb1]
    simp only [Instr.beginRound, Sem.run_bind, run_getLoop hw1, Result.andThen_ok, hset2, Sem.run_pure]
  have s2 := St.set (o := .loop .busy pend1 fn1 sz1 tm1 ps1 as1 bd1) s1.hr hget1 hturn2 ⟨tm1', dfs1, rfl, hsz1, htm1⟩ h1.next
  obtain ⟨c2, x2, w3, s3, ha2, arr2⟩ := r2 c1 w2 x1 ⟨fn, some (c.b l)⟩ (s1.ext.gl g) s2.hr ha1 rfl ⟨by rw [hb1], (le1 l hav).1⟩ (hfree.right s1.ext)
  have le2 := s3.ext.toLe
  have hb2 : c2.b l = c.b l := ((le2 l (le1 l hav).1).2.1).trans hb1
  obtain ⟨_, tm3', dfs3, hw3, hsz3, htm3⟩ := s3.hr.at_ _ _ hget3
  obtain ⟨w4, hset4, hturn4⟩ := run_loopSet (P := P) hw3 (.loop { state := if (jumpOf e).isNone then .ready else .done, pending := jumpOf e, fn := fn3, tmps := tm3', params := ⟨ps3⟩, assign := as3, body := bd3, defers := dfs3 })
  have hfin : (Instr.endRound (c.b l) (jumpOf e)).run P w3 = .ok (.bool (jumpOf e).isNone) w4 := by
    rw [← hb2]
    simp only [Instr.endRound, Sem.run_bind, run_getLoop hw3, Result.andThen_ok, hset4, Sem.run_pure]
  have s4 := St.set (o := .loop (if (jumpOf e).isNone then .ready else .done) (jumpOf e) fn3 sz3 tm3 ps3 as3 bd3) s3.hr hget3 hturn4 ⟨tm3', dfs3, rfl, hsz3, htm3⟩ h2.next
  have hd2 : x2.defers = [] := by rw [ha2.defers, hds]; rfl
  refine ⟨c2, w4, _, ((s1.trans s2).trans s3).trans s4, .bool _, .round (c.b l) fn ((ps.zip args').foldl (fun tmps x => tmps.setIfInBounds x.1 x.2) tm') as bd w ?_ fun caller cs => ?_⟩
  · have hsize : (⟨args'⟩ : Array Value).size = (⟨ps⟩ : Array Tmp).size := by simp [← hargs.len, hlen]
    simp only [Instr.yield, Sem.run_bind, run_getLoop hw, Result.andThen_ok]
    rw [if_neg (by simpa using hsize)]
    simp only [Sem.run_bind, Sem.run_pure, Result.andThen_ok]
    simp
  · have hfr : Frame.round (c.b l) fn ((ps.zip args').foldl (fun tmps x => tmps.setIfInBounds x.1 x.2) tm') as bd .normal = Fx.at ⟨fn, some (c.b l)⟩ ⟨(ps.zip args').foldl (fun tmps x => tmps.setIfInBounds x.1 x.2) tm', []⟩ [.code as, .beginRound, .code bd] := rfl
    rw [hfr]
    have q1 := arr1 [.beginRound, .code bd] (caller :: cs)
    have q2 := arr2 [] (caller :: cs)
    exact round_end (F := ⟨fn, some (c.b l)⟩) rfl hd2 hfin (Arr.of (.trans q1 (.one (st_beginRound rfl hbegin))) q2)
theorem evalF_ok (hm : P.follows .mixedOrders = true) : ∀ n, ClOK P (evalF P n)
  | 0 => fun r h v h' hv _ => by cases hv
  | n + 1 => fun r h v h' hv hb => by
    have ih := evalF_ok hm n
    cases r with
    | fn f args =>
      obtain ⟨fn, b, t, a1, h1, e, hf, hbd, ht, hc, he, hl⟩ := evalF_fn_some hv
      obtain ⟨hn, hrun⟩ := fn_ok ih hm hf hbd ht hc he hl
      have hb := hb f args rfl
      simp only [hasBody, hf, hbd] at hb
      refine ⟨hn, fun c w g H hfree s hs => ?_⟩
      cases hs with
      | fn _ hargs =>
        rename_i args'
        obtain ⟨c', w', v', x, s1, hv', hres, hst⟩ := hrun c w args' g H hfree hargs
        refine ⟨c', w', v', s1, hv', .enter f ⟨args'⟩ w ?_ fun caller cs => ?_⟩
        · have hp : (program).run P w = .ok P w := rfl
          simp only [callFunc, Sem.run_bind, hp, Result.andThen_ok, hf]
          simp at hb
          simp [hb, hbd]
        · obtain ⟨todo, h4⟩ := hst (caller :: cs)
          exact .trans h4 (.one (st_leave (F := ⟨f, none⟩) hf hres))
    | yield l args =>
      obtain ⟨hn, hrun⟩ := yield_ok ih hm rfl hv
      refine ⟨hn, fun c w g H hfree s hs => ?_⟩
      cases hs with
      | yield hl hargs => exact hrun c w _ g H hfree hl hargs
end Go.Eng
