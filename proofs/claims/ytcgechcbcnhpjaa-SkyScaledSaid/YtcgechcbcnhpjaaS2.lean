/-
  PROVED HERE: the sky's Ticks return what its pieces come to.
-/
import Derived.Test.YtcgechcbcnhpjaaS1
namespace Go.Proofs.Ytcgechcbcnhpjaa
set_option linter.unusedVariables false
set_option linter.unusedSimpArgs false
open Go.RowKit
attribute [local go_sem 10] cellOf frozenOf
attribute [local go_sem] heap_drew heap_drewN

/-- Pieces lie there: from when on (f), by how much faster (o). -/
def Pcs (w : World) (A : Option Addr) (n : Nat) (f : Nat → Nat) (o : Nat → Int) : Prop :=
  0 < n → ∃ g off, A = some ⟨g, off, none⟩ ∧ g < w.heap.size ∧ ∀ i, i < n → w.cell? ⟨g, off + i * 2, none⟩ = some (.int .i64 (f i : Nat)) ∧ w.cell? ⟨g, off + i * 2 + 1, none⟩ = some (.int .i64 (o i))
theorem Pcs.fr {w w' : World} {A n f o} (h : Pcs w A n f o) (k : Fr [] w w') : Pcs w' A n f o := fun hn => by
  obtain ⟨g, off, e, hg, hc⟩ := h hn
  exact ⟨g, off, e, Nat.lt_of_lt_of_le hg k.size, fun i hi => ⟨(k.cell hg (by simp)).trans (hc i hi).1, (k.cell hg (by simp)).trans (hc i hi).2⟩⟩
structure Fits (n : Nat) (f : Nat → Nat) (o : Nat → Int) : Prop where
  n_le : n ≤ 64
  f_le : ∀ i, i < n → f i ≤ 4503599627370496
  o_ge : ∀ i, i < n → -500000 ≤ o i ∧ o i ≤ 500000

def pace (o : Nat → Int) (i : Nat) : Nat := (1000000000 + o i).toNat
def ende (n t : Nat) (f : Nat → Nat) (i : Nat) : Nat := if i + 1 < n then min t (f (i + 1)) else t
def part (n t : Nat) (f : Nat → Nat) (o : Nat → Int) (i : Nat) : Nat := (ende n t f i - f i) * pace o i
def psum (n t : Nat) (f : Nat → Nat) (o : Nat → Int) : Nat → Nat
  | 0 => 0
  | k + 1 => psum n t f o k + part n t f o k
def ticks (h n t : Nat) (f : Nat → Nat) (o : Nat → Int) : Nat := psum n t f o n * h / 1000000000000000000

theorem pace_le {n f o} (hf : Fits n f o) {i} (hi : i < n) : pace o i ≤ 1000500000 ∧ 0 < pace o i ∧ 1000000000 + o i = (pace o i : Int) := by
  have := hf.o_ge i hi
  unfold pace
  omega
theorem ende_le (n t f i) : ende n t f i ≤ t := by unfold ende; split <;> omega
theorem part_le {n f o} (hf : Fits n f o) {t i} (hi : i < n) (ht : t ≤ 4503599627370496) : part n t f o i ≤ 4505851427184181248 * 1000000 := by
  unfold part
  exact Nat.le_trans (Nat.mul_le_mul (show ende n t f i - f i ≤ 4503599627370496 by have := ende_le n t f i; omega) (pace_le hf hi).1) (by decide)
theorem psum_le {n f o} (hf : Fits n f o) {t} (ht : t ≤ 4503599627370496) : ∀ k, k ≤ n → psum n t f o k ≤ k * (4505851427184181248 * 1000000)
  | 0, _ => by simp [psum]
  | k + 1, hk => by
    rw [psum, Nat.add_mul k 1]
    have h1 := psum_le hf ht k (by omega)
    have h2 := part_le hf (i := k) hk ht
    omega
theorem psum_max {n f o} (hf : Fits n f o) {t} (ht : t ≤ 4503599627370496) {k} (hk : k ≤ n) : psum n t f o k ≤ 288374491339787599872000000 :=
  Nat.le_trans (psum_le hf ht k hk) (Nat.le_trans (Nat.mul_le_mul_right _ (show k ≤ 64 by have := hf.n_le; omega)) (by decide))

set_option maxHeartbeats 4000000 in
set_option maxRecDepth 20000 in
theorem ticks_any (b h m fi : Nat) (A : Option Addr) (n c : Nat) (f : Nat → Nat) (o : Nat → Int) (t : Nat) (w : World) (hs : w.heap[b]? = some (sk h m fi A n c)) (hp : Pcs w A n f o) (hf : Fits n f o) (hh : 0 < h) (hh' : h ≤ 1000000000) (ht : t ≤ 4503599627370496) :
    Calls Try.prog 13 #[.pointer (some ⟨b, 0, none⟩), .int .i64 t] w fun e w' => e = .returned (.int .u64 (ticks h n t f o : Nat)) ∧ Fr [] w w' := by
  go_enter Try.func13, Try.ntmps13
  go_wp2_with (fail)
  refine (none_no b h m fi A n c _ hs hh).mono ?_
  rintro e w1 ⟨rfl, rfl⟩
  go_wp2_with (fail)
  refine (time_any t _ ht).mono ?_
  rintro e w1 ⟨rfl, rfl⟩
  have hb0 := heap_alloc_new w (.cells #[.int .u64 0, .int .u64 0] 59)
  have hs0 := heap_alloc_old (.cells #[.int .u64 0, .int .u64 0] 59) hs
  have hF0 := (Fr.refl [] w).alloc (.cells #[.int .u64 0, .int .u64 0] 59)
  have hbl0 := lt_of_block hs
  have hne : b ≠ w.heap.size := by have := lt_of_block hs; omega
  have hM := Nat.le_refl w.heap.size
  generalize hMM : w.heap.size = M at hb0 hne
  go_wp2_with (fail)
  generalize w.alloc (.cells #[.int .u64 0, .int .u64 0] 59) = W at *
  go_loopg [6, 7, 8, 21] n (fun g s6 s7 s8 s21 wr => ∃ (i hi lo : Nat), i + g = n ∧ s21 = .int .i64 i ∧ wr.heap[M]? = some (.cells #[.int .u64 hi, .int .u64 lo] 59 (0, 0)) ∧ hi * 18446744073709551616 + lo = psum n t f o i ∧ lo < 18446744073709551616 ∧ wr.heap[b]? = some (sk h m fi A n c) ∧ Fr [] w wr)
  case atStart => exact ⟨0, 0, 0, by omega, rfl, hb0, rfl, by omega, hs0, hF0⟩
  case round =>
    clear hb0 hs0 hF0
    obtain ⟨i, hi, lo, hig, rfl, hb, hsum, hlo, hsb, hF⟩ := hrel
    rcases Nat.eq_zero_or_pos gk with rfl | hg0
    · obtain rfl : i = n := by omega
      have hmax := psum_max hf ht (Nat.le_refl i)
      have hS : ticks h i t f o = psum i t f o i * h / 1000000000000000000 := rfl
      generalize psum i t f o i = S at *
      have hSh : S * h ≤ 288374491339787599872000000 * 1000000000 := Nat.mul_le_mul hmax hh'
      have hhi : hi ≤ 15632900 := by omega
      have hhh : hi * h ≤ 15632900 * 1000000000 := Nat.mul_le_mul hhi hh'
      obtain ⟨H, hH⟩ : ∃ H, hi * h = H := ⟨_, rfl⟩
      rw [hH] at hhh
      have hHw : IntKind.u64.wrap ((hi : Int) * (h : Int)) = (H : Int) := by rw [← Int.natCast_mul, hH]; exact DivMath.wrapN _ (by omega)
      have hN : H * 18446744073709551616 + lo * h = S * h := by rw [← hH, ← hsum, Nat.add_mul, Nat.mul_right_comm]
      have HPL := plus_any H 0 (H * 18446744073709551616) lo h
      have HN := Lib.hid hN
      have hMl : M ≤ wr.heap.size := by have := lt_of_block hb; omega
      clear hsum hN hmax hH hhi
      have hbl := lt_of_block hsb
      have hml := lt_of_block hb
      go_upto_region 14 with fail
      go_cut [9] (fun s9 wx => ∃ N h1 l1, s9 = .pointer (some ⟨N, 0, none⟩) ∧ wx.heap[N]? = some (.cells #[.int .u64 (h1 : Nat), .int .u64 (l1 : Nat)] 59 (0, 0)) ∧ h1 * 18446744073709551616 + l1 = S * h ∧ l1 < 18446744073709551616 ∧ Fr [] w wx)
      case first =>
        go_region_held3 (fun w' => w'.heap[b]? = some (sk h m fi A i c) ∧ w'.heap[M]? = some (.cells #[.int .u64 hi, .int .u64 lo] 59 (0, 0)))
          (first | exact ⟨hsb, hb⟩ | exact ⟨heap_alloc_old _ hsb, heap_alloc_old _ hb⟩ | exact ⟨hq0, hq1⟩ | exact ⟨heap_alloc_old _ hq0, heap_alloc_old _ hq1⟩ | exact ⟨heap_set_ne (heap_set_ne hq0 (Nat.ne_of_lt hbl) _) (Nat.ne_of_lt hbl) _, heap_set_ne (heap_set_ne hq1 (Nat.ne_of_lt hml) _) (Nat.ne_of_lt hml) _⟩)
          ((go_at_call 26; generalize hz : IntKind.wrap _ _ = z; obtain rfl : z = (H : Int) := hz.symm.trans hHw; refine (HPL _ (by omega) (by omega) hlo (by omega) (by rw [HN.out]; omega)).mono ?_; rintro e w2 ⟨h2, l2, rfl, hs2, hl2, hh2, hf2⟩; have HS2 := Lib.hid (hs2.trans HN.out); clear hs2; have hq0 : w2.heap[b]? = some (sk h m fi A i c) := (by first | exact hf2.heap hsb List.not_mem_nil | exact hf2.heap (heap_alloc_old _ hsb) List.not_mem_nil); have hq1 : w2.heap[M]? = some (.cells #[.int .u64 hi, .int .u64 lo] 59 (0, 0)) := (by first | exact hf2.heap hb List.not_mem_nil | exact hf2.heap (heap_alloc_old _ hb) List.not_mem_nil); have hF2 : Fr [] w w2 := (by first | exact hF.drew.then0 hf2 | exact (hF.drew.alloc _).then0 hf2 | exact (hF.alloc _).drew.then0 hf2); try (have hN2 : w2.heap[wr.heap.size]? = some (.cells #[.int .u64 0, .int .u64 0] 59 (0, 0)) := hf2.heap (heap_alloc_new wr.drew _) List.not_mem_nil)))
        all_goals (go_wp2_with fail)
        all_goals go_meet
        all_goals first
          | exact ⟨_, h2, l2, rfl, heap_alloc_new w2 _, HS2.out, hl2, hF2.alloc _⟩
          | exact ⟨_, h2, l2, rfl, (heap_set (heap_set hN2 _) _).trans (by simp), HS2.out, hl2, (hF2.setNew hF.size _).setNew hF.size _⟩
      case rest =>
        obtain ⟨N, h1, l1, rfl, hN, hs1, hl1, hF1⟩ := hcut
        have hq : h1 < 1000000000000000000 := by omega
        obtain ⟨q, r, hq1, hr1, hq2, hr2, hrun⟩ := div_run h1 l1 1000000000000000000 hq hl1 (by omega)
        rw [hs1, ← hS] at hq1
        have HQ := Lib.hid hq1
        clear hq1 hr1 hs1 hS
        go_wp2_with (fail)
        refine (hrun _).mono ?_
        rintro e w2 ⟨rfl, nd, rfl⟩
        go_wp2_with (fail)
        go_ret
        exact ⟨by rw [← HQ.out]; rfl, hF1.drewN _⟩
    · have hi1 : i < n := by omega
      obtain ⟨gb, off, rfl, hgb, hcs⟩ := (hp.fr hF) (by omega)
      obtain ⟨c0, c1⟩ := hcs i hi1
      have hE := hcs (i + 1)
      have HE := Lib.hid hE
      clear hE hcs
      have j1 : (i : Int) < (n : Int) := by omega
      obtain ⟨F, hFi⟩ : ∃ F, f i = F := ⟨_, rfl⟩
      have hFl := hf.f_le i hi1
      obtain ⟨p1, p2, p3⟩ := pace_le hf hi1
      obtain ⟨P, hP⟩ : ∃ P, pace o i = P := ⟨_, rfl⟩
      obtain ⟨O, hO⟩ : ∃ O, o i = O := ⟨_, rfl⟩
      rw [hP] at p1 p2 p3
      rw [hO] at p3 c1
      rw [hFi] at c0 hFl
      have HFI := Lib.hid hFi
      have HP := Lib.hid hP
      clear hFi hP hO
      have hn64 := hf.n_le
      have hal := (Fr.refl [] wr).alloc (.cells #[.int .i64 F, .int .i64 O] 39)
      have hb1 := heap_alloc_old (.cells #[.int .i64 F, .int .i64 O] 39) hb
      have hs1 := heap_alloc_old (.cells #[.int .i64 F, .int .i64 O] 39) hsb
      have hn1 := heap_alloc_new wr (.cells #[.int .i64 F, .int .i64 O] 39)
      have hMN : M ≠ wr.heap.size := by have := lt_of_block hb; omega
      have hF1 := hF.then0 hal
      generalize hNN : wr.heap.size = N at hn1 hMN
      have hpart : part n t f o i = (ende n t f i - F) * P := by rw [part, HFI.out, HP.out]
      have HPA := Lib.hid hpart
      clear hpart
      have HS := Lib.hid hsum
      clear hsum
      rcases Nat.lt_or_ge (i + 1) n with hl | hl
      · obtain ⟨c2, _⟩ := HE.out hl
        have c2' := (hal.cell (lt_of_cell c2) (by simp)).trans c2
        obtain ⟨E, hE⟩ : ∃ E, f (i + 1) = E := ⟨_, rfl⟩
        have hEl := hf.f_le (i + 1) hl
        rw [hE] at c2 c2' hEl
        obtain ⟨T, hT⟩ : ∃ T, ende n t f i = T := ⟨_, rfl⟩
        have hT2 : min (t : Int) (E : Int) = (T : Int) := by rw [← hT, ende, if_pos hl, hE]; omega
        have hTl : T ≤ 4503599627370496 := by rw [← hT]; exact Nat.le_trans (ende_le n t f i) ht
        have HT := Lib.hid hT
        clear hE hT
        rcases Nat.lt_or_ge F T with hm | hm
        · obtain ⟨D, hD⟩ : ∃ D, T - F = D := ⟨_, rfl⟩
          have hD2 : (T : Int) - (F : Int) = (D : Int) := by omega
          have hD3 : D ≤ 4503599627370496 := by omega
          have hnext : psum n t f o (i + 1) = psum n t f o i + D * P := by rw [psum, HPA.out, HT.out, hD]
          have hlim := psum_max hf ht (k := i + 1) hi1
          rw [hnext] at hlim
          have HPL := plus_any hi lo (psum n t f o i) D P
          have HN := Lib.hid hnext
          clear hnext hD
          go_wp2_with (fail)
          refine (HPL _ HS.out hlo (by omega) (by omega) (by omega)).mono ?_
          rintro e w2 ⟨h2, l2, rfl, hs2, hl2, hh2, hf2⟩
          have hb2 := hf2.heap hb1 (by simp)
          have hsb2 := hf2.heap hs1 (by simp)
          have HS2 := Lib.hid hs2
          have hF2 := hF1.then0 hf2
          clear hs2 hb1 hs1 hlim HPL
          go_wp2_with (fail)
          go_roundg (gk - 1)
          case measure => omega
          case rel => exact ⟨i + 1, h2, l2, by omega, by go_num, (heap_set (heap_set hb2 _) _).trans (by simp), by rw [HS2.out, HN.out], hl2, heap_set_ne (heap_set_ne hsb2 hne _) hne _, (hF2.setNew (by omega) _).setNew (by omega) _⟩
        · have hnext : psum n t f o (i + 1) = psum n t f o i := by
            rw [psum, HPA.out, HT.out, show T - F = 0 by omega, Nat.zero_mul, Nat.add_zero]
          have HN := Lib.hid hnext
          clear hnext
          go_wp2_with (fail)
          go_roundg (gk - 1)
          case measure => omega
          case rel => exact ⟨i + 1, hi, lo, by omega, by go_num, hb1, by rw [HS.out, HN.out], hlo, hs1, hF1⟩
      · obtain ⟨T, hT⟩ : ∃ T, ende n t f i = T := ⟨_, rfl⟩
        obtain rfl : t = T := by rw [← hT, ende, if_neg (by omega)]
        have hTl := ht
        have HT := Lib.hid hT
        clear hT
        have j2 : ((i : Int) + 1 < (n : Int)) = False := by simp; omega
        rcases Nat.lt_or_ge F t with hm | hm
        · obtain ⟨D, hD⟩ : ∃ D, t - F = D := ⟨_, rfl⟩
          have hD2 : (t : Int) - (F : Int) = (D : Int) := by omega
          have hD3 : D ≤ 4503599627370496 := by omega
          have hnext : psum n t f o (i + 1) = psum n t f o i + D * P := by rw [psum, HPA.out, HT.out, hD]
          have hlim := psum_max hf ht (k := i + 1) hi1
          rw [hnext] at hlim
          have HPL := plus_any hi lo (psum n t f o i) D P
          have HN := Lib.hid hnext
          clear hnext hD
          go_wp2_with (fail)
          refine (HPL _ HS.out hlo (by omega) (by omega) (by omega)).mono ?_
          rintro e w2 ⟨h2, l2, rfl, hs2, hl2, hh2, hf2⟩
          have hb2 := hf2.heap hb1 (by simp)
          have hsb2 := hf2.heap hs1 (by simp)
          have HS2 := Lib.hid hs2
          have hF2 := hF1.then0 hf2
          clear hs2 hb1 hs1 hlim HPL
          go_wp2_with (fail)
          go_roundg (gk - 1)
          case measure => omega
          case rel => exact ⟨i + 1, h2, l2, by omega, by go_num, (heap_set (heap_set hb2 _) _).trans (by simp), by rw [HS2.out, HN.out], hl2, heap_set_ne (heap_set_ne hsb2 hne _) hne _, (hF2.setNew (by omega) _).setNew (by omega) _⟩
        · have hnext : psum n t f o (i + 1) = psum n t f o i := by
            rw [psum, HPA.out, HT.out, show t - F = 0 by omega, Nat.zero_mul, Nat.add_zero]
          have HN := Lib.hid hnext
          clear hnext
          go_wp2_with (fail)
          go_roundg (gk - 1)
          case measure => omega
          case rel => exact ⟨i + 1, hi, lo, by omega, by go_num, hb1, by rw [HS.out, HN.out], hlo, hs1, hF1⟩
end Go.Proofs.Ytcgechcbcnhpjaa
