-- Written by a program of this session (wip/myprint.py), over the words of the print
import Derived.Test.YticgnaladjmdoaaQSlicesx0
import Derived.Test.YticgnaladjmdoaaQSlicesx2
import Derived.Test.YticgnaladjmdoaaQSlicesx3
import Derived.Test.YticgnaladjmdoaaQSlicesx5
namespace Go.Proofs.Yticgnaladjmdoaa.QSlices
open Go.RowKit Go.Proofs.YticgnaladjmdoaaW.PrintWords Go.Proofs.YticgnaladjmdoaaW.PrintLast Go.Proofs.YticgnaladjmdoaaW.PrintMore
attribute [local go_sem] max2_int min2_int max_two min_two max_three min_three max_four min_four   -- for this text's walks alone
set_option linter.unusedVariables false
set_option linter.unusedSimpArgs false

/-! ### slice_Cut: function 11, by a walk of its own -/
theorem tdiv_pos {a b : Int} (hb : 1 ≤ b) : Int.tdiv a b = a / b + (if Int.tmod a b < 0 then 1 else 0) ∧ Int.tmod a b = a % b - (if Int.tmod a b < 0 then b else 0) ∧ (Int.tmod a b < 0 → 0 < a % b) := by
  have h0 := Int.emod_nonneg a (show b ≠ 0 by omega)
  have h1 := Int.emod_lt_of_pos a (show 0 < b by omega)
  have hs : b.sign = 1 := Int.sign_eq_one_of_pos (by omega)
  have hd := Int.tdiv_eq_ediv (a := a) (b := b)
  have hm := Int.tmod_eq_emod (a := a) (b := b)
  by_cases c : 0 ≤ a ∨ b ∣ a
  · rw [if_pos c] at hd hm
    have hn : ¬ Int.tmod a b < 0 := by omega
    rw [if_neg hn, if_neg hn]
    exact ⟨by omega, by omega, fun h => absurd h hn⟩
  · rw [if_neg c] at hd hm
    have hlt : Int.tmod a b < 0 := by omega
    rw [if_pos hlt, if_pos hlt]
    have hz : a % b ≠ 0 := fun h => c (Or.inr (Int.dvd_of_emod_eq_zero h))
    exact ⟨by omega, by omega, fun _ => by omega⟩
theorem tmod_range {a b : Int} (hb : 1 ≤ b) : -b < Int.tmod a b ∧ Int.tmod a b < b := by
  obtain ⟨hd, hm, hz⟩ := tdiv_pos (a := a) hb
  have h0 := Int.emod_nonneg a (show b ≠ 0 by omega)
  have hl := Int.emod_lt_of_pos a (show 0 < b by omega)
  split at hm <;> omega
theorem mod_eq {a b : Int} (hb : 1 ≤ b) (h3 : b ≤ 9223372036854775807) : floor_Mod.f a b = some (a % b, 0) := by
  obtain ⟨hd, hm, hz⟩ := tdiv_pos (a := a) hb
  have h0 := Int.emod_nonneg a (show b ≠ 0 by omega)
  have hl := Int.emod_lt_of_pos a (show 0 < b by omega)
  unfold floor_Mod.f
  rw [if_neg (by omega), if_neg (by omega)]
  by_cases c : Int.tmod a b < 0
  · rw [if_pos c] at hm
    rw [if_pos c, hm, w64_id (by omega) (by omega)]
    congr 2; omega
  · rw [if_neg c] at hm
    rw [if_neg c, hm]
    congr 2; omega
/-- So many windows, the first one's begin, how far they are apart, their length. -/
def spans (s k m : Int) (n : Nat) : List S26 := (List.range n).map fun (j : Nat) => ⟨s + (j : Int) * k, s + (j : Int) * k + m⟩
theorem spans_snoc (s k m : Int) (n : Nat) : spans s k m (n + 1) = spans s k m n ++ [⟨s + (n : Int) * k, s + (n : Int) * k + m⟩] := by
  unfold spans; rw [List.range_succ, List.map_append]; rfl
theorem spans_len (s k m : Int) (n : Nat) : (spans s k m n).length = n := by unfold spans; simp
def wstep (kind size slide : Int) : Int := if kind = 1 then slide else size
def wfirst (k m t : Int) : Int := (t - m) / k * k + k
def wmany (k m t : Int) : Nat := ((t - wfirst k m t) / k + 1).toNat
/-- May these windows be asked for? -/
def wMay (kind agg size slide : Int) (bs : List Int) (rank t : Int) : Bool := qMay kind agg size slide bs rank && decide (kind ≠ 2 ∧ -1099511627776 ≤ t ∧ t ≤ 1099511627776)
def winL (kind agg size slide : Int) (bs : List Int) (rank t : Int) : List S26 × Int :=
  if wMay kind agg size slide bs rank t = true then (spans (wfirst (wstep kind size slide) size t) (wstep kind size slide) size (wmany (wstep kind size slide) size t), 0) else ([], 400)
theorem wfirst_in (k m t : Int) (hk : 1 ≤ k) : t - m < wfirst k m t ∧ wfirst k m t ≤ t - m + k := by
  unfold wfirst
  have h1 := Int.ediv_mul_le (t - m) (show k ≠ 0 by omega)
  have h2 := Int.lt_ediv_add_one_mul_self (t - m) (show 0 < k by omega)
  rw [Int.add_mul, Int.one_mul] at h2
  omega
theorem wmany_le (k m t : Int) (hk : 1 ≤ k) (hkm : k ≤ m) (j : Nat) : wfirst k m t + (j : Int) * k ≤ t ↔ j < wmany k m t := by
  have hf := wfirst_in k m t hk
  unfold wmany
  generalize wfirst k m t = s at *
  have h0 : 0 ≤ (t - s) / k := Int.ediv_nonneg (by omega) (by omega)
  have h1 := Int.ediv_mul_le (t - s) (show k ≠ 0 by omega)
  have h2 := Int.lt_ediv_add_one_mul_self (t - s) (show 0 < k by omega)
  generalize (t - s) / k = D at *
  constructor
  · intro h
    by_cases c : (j : Int) ≤ D
    · omega
    · have := Int.mul_le_mul_of_nonneg_right (show D + 1 ≤ (j : Int) by omega) (show 0 ≤ k by omega)
      omega
  · intro h
    have := Int.mul_le_mul_of_nonneg_right (show (j : Int) ≤ D by omega) (show 0 ≤ k by omega)
    omega
theorem qMay_parts {kind agg size slide rank : Int} {bs : List Int} (h : qMay kind agg size slide bs rank = true) :
    1 ≤ size ∧ size ≤ 1073741824 ∧ aMay agg bs rank = true ∧ ((kind = 1 ∧ 1 ≤ slide ∧ slide ≤ size ∧ (size - 1) / slide < 64 ∧ size / ((Nat.gcd size.toNat slide.toNat : Nat) : Int) ≤ 256) ∨ ((kind = 0 ∨ kind = 2) ∧ slide = 0)) := by
  unfold qMay at h
  rw [Bool.and_eq_true, Bool.and_eq_true, decide_eq_true_eq] at h
  obtain ⟨⟨h1, h2⟩, h3, h4⟩ := h
  refine ⟨h1, h2, h3, ?_⟩
  by_cases c : kind = 1
  · rw [if_pos c] at h4
    unfold sMay at h4
    exact .inl ⟨c, of_decide_eq_true h4⟩
  · rw [if_neg c] at h4
    exact .inr (of_decide_eq_true h4)
/-- How far windows are apart: from 1 on, at most their length, of which it is a part of 64 or more. -/
theorem wstep_in {kind agg size slide rank : Int} {bs : List Int} (h : qMay kind agg size slide bs rank = true) (hk : kind ≠ 2) : 1 ≤ wstep kind size slide ∧ wstep kind size slide ≤ size ∧ size ≤ 1073741824 ∧ (size - 1) / wstep kind size slide < 64 := by
  obtain ⟨h1, h2, _, h3⟩ := qMay_parts h
  unfold wstep
  rcases h3 with ⟨rfl, a, b, c, _⟩ | ⟨h3, rfl⟩
  · rw [if_pos rfl]; exact ⟨a, b, h2, c⟩
  · rw [if_neg (by omega)]
    refine ⟨h1, Int.le_refl _, h2, ?_⟩
    rw [Int.ediv_eq_zero_of_lt (by omega) (by omega)]
    omega
theorem wmany_64 (k m t : Int) (hk : 1 ≤ k) (hkm : k ≤ m) (h64 : (m - 1) / k < 64) : wmany k m t ≤ 64 := by
  have hf := wfirst_in k m t hk
  unfold wmany
  have h := Int.ediv_le_ediv (show 0 < k by omega) (show t - wfirst k m t ≤ m - 1 by omega)
  omega
theorem step_eq (a0 a1 a2 a3 : Int) (bs : List Int) (a5 : Int) : window_Step.f a0 a1 a2 a3 bs a5 = some (wstep a0 a2 a3, a0, a1, a2, a3, a5) := by
  unfold window_Step.f wstep
  by_cases c : a0 = 1
  · rw [if_pos c, if_pos c]
  · rw [if_neg c, if_neg c]
/-- A query's unit. -/
def uOf (kind size slide : Int) : Int := if kind = 0 then size else ((Nat.gcd size.toNat slide.toNat : Nat) : Int)
def uMay (kind agg size slide : Int) (bs : List Int) (rank : Int) : Bool := qMay kind agg size slide bs rank && decide (kind ≠ 2)
def unitL (kind agg size slide : Int) (bs : List Int) (rank : Int) : Int × Int := if uMay kind agg size slide bs rank = true then (uOf kind size slide, 0) else (0, 500)
theorem uMay_parts {kind agg size slide rank : Int} {bs : List Int} (h : uMay kind agg size slide bs rank = true) :
    qMay kind agg size slide bs rank = true ∧ kind ≠ 2 ∧ 1 ≤ size ∧ size ≤ 1073741824 ∧ 1 ≤ uOf kind size slide ∧ uOf kind size slide ≤ size ∧ uOf kind size slide ∣ size ∧ uOf kind size slide ∣ wstep kind size slide ∧ size / uOf kind size slide ≤ 256 := by
  unfold uMay at h
  rw [Bool.and_eq_true, decide_eq_true_eq] at h
  obtain ⟨h1, h2⟩ := h
  obtain ⟨a, b, _, c⟩ := qMay_parts h1
  refine ⟨h1, h2, a, b, ?_⟩
  unfold uOf wstep
  rcases c with ⟨rfl, c1, c2, _, c3⟩ | ⟨c1, rfl⟩
  · rw [if_neg (by omega), if_pos rfl]
    have hg := gcd_pos (b := slide) a
    have d1 : ((Nat.gcd size.toNat slide.toNat : Nat) : Int) ∣ size := by
      have := Int.natCast_dvd_natCast.2 (Nat.gcd_dvd_left size.toNat slide.toNat)
      rwa [Int.toNat_of_nonneg (by omega)] at this
    have d2 : ((Nat.gcd size.toNat slide.toNat : Nat) : Int) ∣ slide := by
      have := Int.natCast_dvd_natCast.2 (Nat.gcd_dvd_right size.toNat slide.toNat)
      rwa [Int.toNat_of_nonneg (by omega)] at this
    exact ⟨hg, Int.le_of_dvd (by omega) d1, d1, d2, c3⟩
  · have : kind = 0 := by omega
    subst this
    rw [if_pos rfl, if_neg (by omega)]
    exact ⟨a, Int.le_refl _, Int.dvd_refl _, Int.dvd_refl _, by rw [Int.ediv_self (by omega)]; omega⟩
theorem unit_eq (kind agg size slide : Int) (bs : List Int) (rank : Int) (k : Nat) (hk : 1073741840 ≤ k) : slice_Unit.f k kind agg size slide bs rank = some (unitL kind agg size slide bs rank) := by
  unfold slice_Unit.f window_May.f
  rw [Option.bind_some]
  obtain ⟨k, rfl⟩ : ∃ m, k = m + 1 := ⟨k - 1, by omega⟩
  have hu : uMay kind agg size slide bs rank = (qMay kind agg size slide bs rank && decide (kind ≠ 2)) := rfl
  have hp := @uMay_parts kind agg size slide rank bs
  have hq := @qMay_parts kind agg size slide rank bs
  unfold unitL
  generalize uMay kind agg size slide bs rank = um at *
  generalize qMay kind agg size slide bs rank = mv at *
  subst hu
  cases mv with
  | false => rw [if_neg (by decide)]; simp only [slice_Unit.j0]; rw [if_pos True.intro, Bool.false_and, if_neg (by decide)]
  | true =>
    rw [if_pos rfl, Bool.true_and]
    simp only [slice_Unit.j0]
    by_cases k2 : kind = 2
    · subst k2; rfl
    · rw [if_neg (by simpa using k2), decide_eq_true k2, if_pos rfl]
      unfold uOf
      by_cases k0 : kind = 0
      · rw [if_pos k0, if_pos k0]
      · rw [if_neg k0, if_neg k0]
        obtain ⟨a, b, _, c⟩ := hq rfl
        rcases c with ⟨rfl, c1, c2, _, c3⟩ | ⟨c1, rfl⟩
        · rw [w_gcd_eq a c1 k (by omega), Option.bind_some]
        · omega
/-- Is a span one of a query's windows? -/
def isB (size step s e : Int) : Bool := decide (s ≤ 1099511627776 ∧ -1099511627776 - size < s ∧ e = s + size) && decide (s % step = 0)
def cutMay (kind agg size slide : Int) (bs : List Int) (rank s e : Int) : Bool := uMay kind agg size slide bs rank && isB size (wstep kind size slide) s e
/-- A window's parts. -/
def cutL (kind agg size slide : Int) (bs : List Int) (rank s e : Int) : List S26 × Int :=
  if cutMay kind agg size slide bs rank s e = true then (spans s (uOf kind size slide) (uOf kind size slide) (size / uOf kind size slide).toNat, 0) else ([], 500)
attribute [irreducible] spans wstep wfirst wmany uOf
theorem step_same (g : Nat) (a0 a1 a2 a3 a5 : Int) (A : Option Addr) (n c : Nat) (w : World) (hb : w.heap[g]? = some (.cells #[.int .i64 a0, .int .i64 a1, .int .i64 a2, .int .i64 a3, .slice A n c, .int .i64 a5] 24 (0, 0))) :
    Calls Try.prog 30 #[.pointer (some ⟨g, 0, none⟩)] w fun e w' => e = .returned (.int .i64 (wstep a0 a2 a3)) ∧ w' = w := by
  have c0 := blk_cell hb 0
  have c2 := blk_cell hb 2
  have c3 := blk_cell hb 3
  simp at c0 c2 c3
  clear hb
  unfold wstep
  by_cases k : a0 = 1
  · have e1 : (a0 == 1) = true := beq_iff_eq.2 k
    rw [if_pos k]
    clear k
    go_enter Try.func30, Try.ntmps30
    go_wp2
    go_ret
    exact ⟨rfl, rfl⟩
  · have e1 : (a0 == 1) = false := beq_eq_false_iff_ne.2 k
    rw [if_neg k]
    go_enter Try.func30, Try.ntmps30
    go_wp2
    go_ret
    exact ⟨rfl, rfl⟩
/-- A quiet call in a world behind some draws. -/
theorem quiet_more {f : FuncId} {args : Array Value} {w : World} {a n : Nat} {v : Value} (h : ∀ W, (∃ j, W = w.drewN j) → Calls Try.prog f args W fun e w' => e = .returned v ∧ ∃ m, w' = W.drewN m) :
    Calls Try.prog f args (w.drewN (a + n)) fun e w' => e = .returned v ∧ ∃ m, w' = w.drewN (a + m) := by
  refine (h _ ⟨_, rfl⟩).mono ?_
  rintro e w' ⟨he, m, hm⟩
  exact ⟨he, n + m, by rw [hm, World.drewN_drewN, Nat.add_assoc]⟩
set_option maxHeartbeats 4000000 in
set_option maxRecDepth 100000 in
theorem is_calls (g : Nat) (a0 a1 a2 a3 : Int) (bs : List Int) (a5 s e : Int) (w0 w : World) (hI : IsS24 w0 w g a0 a1 a2 a3 bs a5) (h1 : 1 ≤ a2) (h2 : a2 ≤ 1073741824) (h3 : 1 ≤ wstep a0 a2 a3) (h4 : wstep a0 a2 a3 ≤ a2) :
    Calls Try.prog 25 #[.pointer (some ⟨g, 0, none⟩), .agg #[.int .i64 s, .int .i64 e]] w fun r w' => r = .returned (.bool (isB a2 (wstep a0 a2 a3) s e)) ∧ Below w.heap.size w w' := by
  obtain ⟨A4, c4, hb, _, _⟩ := hI
  have hlt := blk_lt hb
  have HG : Aside0 ((w.alloc (.cells #[.int .i64 s, .int .i64 e] 26 (0, 0))).heap[g]? = some (.cells #[.int .i64 a0, .int .i64 a1, .int .i64 a2, .int .i64 a3, .slice A4 bs.length c4, .int .i64 a5] 24 (0, 0))) := ⟨((below_alloc (Below.refl _ w) _).block g hlt).trans hb⟩
  have HS : Aside0 ((w.alloc (.cells #[.int .i64 s, .int .i64 e] 26 (0, 0))).heap[w.heap.size]? = some (.cells #[.int .i64 s, .int .i64 e] 26 (0, 0))) := ⟨by show (w.heap.push _)[w.heap.size]? = _; simp⟩
  have q2 := blk_cell HG.out 2
  have s0 := blk_cell HS.out 0
  have s1 := blk_cell HS.out 1
  simp at q2 s0 s1
  clear hb hlt
  unfold isB
  have A1 := Aside0.mk (mod_eq (a := s) h3 (by omega))
  have hst : ∀ W : World, W.heap[g]? = (w.alloc (.cells #[.int .i64 s, .int .i64 e] 26 (0, 0))).heap[g]? → Calls Try.prog 30 #[.pointer (some ⟨g, 0, none⟩)] W fun e w' => e = .returned (.int .i64 (wstep a0 a2 a3)) ∧ w' = W := fun W hW => step_same g a0 a1 a2 a3 a5 A4 bs.length c4 W (hW.trans HG.out)
  have HST := Aside0.mk hst
  clear hst
  generalize wstep a0 a2 a3 = st at *
  by_cases c1 : 1099511627776 < s
  · rw [decide_eq_false (show ¬ (s ≤ 1099511627776 ∧ -1099511627776 - a2 < s ∧ e = s + a2) by omega), Bool.false_and]
    have e1 := decide_eq_true c1
    go_enter Try.func25, Try.ntmps25
    go_wp2
    repeat (go_quiet (fail); try go_wp2)
    go_ret
    exact ⟨rfl, by repeat (first | exact Below.refl _ _ | apply below_alloc | apply pw_below_drewN | apply below_drew1)⟩
  · have e1 := decide_eq_false c1
    by_cases c2 : s ≤ -1099511627776 - a2
    · rw [decide_eq_false (show ¬ (s ≤ 1099511627776 ∧ -1099511627776 - a2 < s ∧ e = s + a2) by omega), Bool.false_and]
      have e2 := decide_eq_true c2
      have w1 : IntKind.i64.wrap (-1099511627776 - a2) = -1099511627776 - a2 := IntWalk.i64_in _ (by omega)
      go_enter Try.func25, Try.ntmps25
      go_wp2
      repeat (go_quiet (fail); try go_wp2)
      go_ret
      exact ⟨rfl, by repeat (first | exact Below.refl _ _ | apply below_alloc | apply pw_below_drewN | apply below_drew1)⟩
    · have e2 := decide_eq_false c2
      have w1 : IntKind.i64.wrap (-1099511627776 - a2) = -1099511627776 - a2 := IntWalk.i64_in _ (by omega)
      have w2 : IntKind.i64.wrap (s + a2) = s + a2 := IntWalk.i64_in _ (by omega)
      by_cases c3 : e = s + a2
      · rw [decide_eq_true (show s ≤ 1099511627776 ∧ -1099511627776 - a2 < s ∧ e = s + a2 by omega), Bool.true_and]
        have e3 : (e != s + a2) = false := bne_eq_false_iff_eq.2 c3
        clear c3
        generalize hM : s % st = M at *
        clear hM
        rw [show decide (M = 0) = (M == 0) by by_cases z : M = 0 <;> simp [z]]
        generalize hz : (M == 0) = z at *
        have QST : Aside0 (∀ W, (∃ j, W = (w.alloc (.cells #[.int .i64 s, .int .i64 e] 26 (0, 0))).drewN j) → Calls Try.prog 30 #[.pointer (some ⟨g, 0, none⟩)] W fun e w' => e = .returned (.int .i64 st) ∧ ∃ m, w' = W.drewN m) :=
          ⟨fun W ⟨j, hj⟩ => (HST.out W (by rw [hj]; rfl)).mono fun _ _ h => ⟨h.1, 0, by rw [h.2]; rfl⟩⟩
        have QMD : Aside0 (∀ W, (∃ j, W = (w.alloc (.cells #[.int .i64 s, .int .i64 e] 26 (0, 0))).drewN j) → Calls Try.prog 22 #[.int .i64 s, .int .i64 st] W fun e w' => e = .returned (.tuple #[.int .i64 M, .int .i64 0]) ∧ ∃ m, w' = W.drewN m) :=
          ⟨fun W _ => (floor_Mod.calls s st M 0 W A1.out).mono fun _ _ h => ⟨h.1, h.2.out⟩⟩
        go_enter Try.func25, Try.ntmps25
        go_wp2
        repeat (go_quiet ((first
          | (go_at_call 30; exact quiet_more QST.out)
          | (go_at_call 22; exact quiet_more QMD.out))); try go_wp2)
        go_ret
        exact ⟨rfl, by repeat (first | exact Below.refl _ _ | apply below_alloc | apply pw_below_drewN | apply below_drew1)⟩
      · rw [decide_eq_false (show ¬ (s ≤ 1099511627776 ∧ -1099511627776 - a2 < s ∧ e = s + a2) by omega), Bool.false_and]
        have e3 : (e != s + a2) = true := bne_iff_ne.2 c3
        clear c3
        go_enter Try.func25, Try.ntmps25
        go_wp2
        repeat (go_quiet (fail); try go_wp2)
        go_ret
        exact ⟨rfl, by repeat (first | exact Below.refl _ _ | apply below_alloc | apply pw_below_drewN | apply below_drew1)⟩
def slice_Cut.f (a0_0 : Int) (a0_1 : Int) (a0_2 : Int) (a0_3 : Int) (l0_4 : List Int) (a0_5 : Int) (a1_0 : Int) (a1_1 : Int) : Option ((List (S26)) × Int) := some (cutL a0_0 a0_1 a0_2 a0_3 l0_4 a0_5 a1_0 a1_1)
set_option maxHeartbeats 8000000 in
set_option maxRecDepth 100000 in
theorem slice_Cut.calls (a0_0 : Int) (a0_1 : Int) (a0_2 : Int) (a0_3 : Int) (A0_4 : Option Addr) (c0_4 : Nat) (l0_4 : List Int) (a0_5 : Int) (a1_0 : Int) (a1_1 : Int) (r1 : List (S26)) (r2 : Int) (w : World) (hr0_4 : Kd.C (Kd.int .i64) w A0_4 l0_4.length l0_4) (hc0_4 : l0_4.length ≤ c0_4) (h : slice_Cut.f a0_0 a0_1 a0_2 a0_3 l0_4 a0_5 a1_0 a1_1 = some (r1, r2)) :
    Calls Try.prog 11 #[.agg #[.int .i64 a0_0, .int .i64 a0_1, .int .i64 a0_2, .int .i64 a0_3, .slice A0_4 l0_4.length c0_4, .int .i64 a0_5], .agg #[.int .i64 a1_0, .int .i64 a1_1]] w fun e w' => ∃ v0_ : Value, e = .returned (.tuple #[v0_, .int .i64 r2]) ∧ Kd.R k26 26 w' w.heap.size (fun _ => True) v0_ r1 ∧ Below w.heap.size w w' := by
  replace h := Option.some.inj h
  have HI0 : IsS24 w (w.alloc (.cells #[.int .i64 a0_0, .int .i64 a0_1, .int .i64 a0_2, .int .i64 a0_3, .slice A0_4 l0_4.length c0_4, .int .i64 a0_5] 24 (0, 0))) w.heap.size a0_0 a0_1 a0_2 a0_3 l0_4 a0_5 := ⟨A0_4, c0_4, by show (w.heap.push _)[w.heap.size]? = _; simp, Nat.le_refl _, hr0_4⟩
  have HI := Aside0.mk (HI0.alloc (.cells #[.int .i64 a1_0, .int .i64 a1_1] 26 (0, 0)))
  have HB : Aside0 (Below w.heap.size w ((w.alloc (.cells #[.int .i64 a0_0, .int .i64 a0_1, .int .i64 a0_2, .int .i64 a0_3, .slice A0_4 l0_4.length c0_4, .int .i64 a0_5] 24 (0, 0))).alloc (.cells #[.int .i64 a1_0, .int .i64 a1_1] 26 (0, 0)))) := ⟨below_alloc (below_alloc (Below.refl _ _) _) _⟩
  have HS : Aside0 (((w.alloc (.cells #[.int .i64 a0_0, .int .i64 a0_1, .int .i64 a0_2, .int .i64 a0_3, .slice A0_4 l0_4.length c0_4, .int .i64 a0_5] 24 (0, 0))).alloc (.cells #[.int .i64 a1_0, .int .i64 a1_1] 26 (0, 0))).heap[w.heap.size + 1]? = some (.cells #[.int .i64 a1_0, .int .i64 a1_1] 26 (0, 0))) := ⟨by show ((w.heap.push _).push _)[w.heap.size + 1]? = _; rw [Array.getElem?_push, if_pos (by simp)]⟩
  have HR := Aside0.mk (Kd.C_below hr0_4 HB.out)
  have HC := Aside0.mk hc0_4
  have HF : Aside0 (∀ (W : World) (k : Nat), Kd.R k26 26 W w.heap.size (fun _ => True) (.slice none 0 0) []) := ⟨fun W _ => Kd.R_nil _ _ _ _ _⟩
  clear hr0_4 hc0_4 HI0
  have A1 := Aside0.mk (unit_eq a0_0 a0_1 a0_2 a0_3 l0_4 a0_5 1073741840 (by omega))
  generalize 1073741840 = K at A1
  unfold cutL cutMay at h
  have hp := @uMay_parts a0_0 a0_1 a0_2 a0_3 a0_5 l0_4
  have hin := @wstep_in a0_0 a0_1 a0_2 a0_3 a0_5 l0_4
  unfold unitL at A1
  generalize uMay a0_0 a0_1 a0_2 a0_3 l0_4 a0_5 = mv at *
  cases mv with
  | false =>
    rw [Bool.false_and, if_neg (by decide)] at h
    rw [if_neg (by decide)] at A1
    obtain ⟨rfl, rfl⟩ := Prod.mk.inj h
    clear h hin hp
    go_enter Try.func11, Try.ntmps11
    go_wp2_with fail
    refine (slice_Unit.calls K a0_0 a0_1 a0_2 a0_3 A0_4 c0_4 l0_4 a0_5 0 500 _ HR.out HC.out A1.out).mono ?_
    rintro e w1 ⟨rfl, hb1⟩
    have HB2 := Aside0.mk (below_step HB.out hb1)
    clear hb1
    go_wp2_with fail
    go_ret2
    exact ⟨_, rfl, Kd.R_nil _ _ _ _ _, HB2.out⟩
  | true =>
    rw [Bool.true_and] at h
    rw [if_pos rfl] at A1
    obtain ⟨hq, k2, p1, p2, p3, p4, p5, p6, p7⟩ := hp rfl
    obtain ⟨s1, s2, _, _⟩ := hin hq k2
    have HIS := Aside0.mk (fun (W : World) (hI : IsS24 w W w.heap.size a0_0 a0_1 a0_2 a0_3 l0_4 a0_5) => is_calls w.heap.size a0_0 a0_1 a0_2 a0_3 l0_4 a0_5 a1_0 a1_1 w W hI p1 p2 s1 s2)
    have hisv : isB a0_2 (wstep a0_0 a0_2 a0_3) a1_0 a1_1 = true → a1_0 ≤ 1099511627776 ∧ -1099511627776 - a0_2 < a1_0 ∧ a1_1 = a1_0 + a0_2 := by
      intro q; unfold isB at q; rw [Bool.and_eq_true, decide_eq_true_eq] at q; exact q.1
    generalize isB a0_2 (wstep a0_0 a0_2 a0_3) a1_0 a1_1 = iv at *
    generalize uOf a0_0 a0_2 a0_3 = u at *
    clear hp hin hq s1 s2 p6
    cases iv with
    | false =>
      rw [if_neg (by decide)] at h
      obtain ⟨rfl, rfl⟩ := Prod.mk.inj h
      clear h hisv p1 p2 p3 p4 p5 p7 k2
      go_enter Try.func11, Try.ntmps11
      go_wp2_with fail
      refine (slice_Unit.calls K a0_0 a0_1 a0_2 a0_3 A0_4 c0_4 l0_4 a0_5 u 0 _ HR.out HC.out A1.out).mono ?_
      rintro e w1 ⟨rfl, hb1⟩
      have HI2 := Aside0.mk (HI.out.below hb1)
      have HB2 := Aside0.mk (below_step HB.out hb1)
      have HS2 := Aside0.mk ((hb1.block _ (blk_lt HS.out)).trans HS.out)
      have q0 := blk_cell HS2.out 0
      have q1 := blk_cell HS2.out 1
      simp at q0 q1
      clear hb1
      go_wp2_with fail
      refine (HIS.out _ HI2.out).mono ?_
      rintro e w2 ⟨rfl, hb2⟩
      have HB3 := Aside0.mk (below_step HB2.out hb2)
      clear hb2
      go_wp2_with fail
      go_ret2
      exact ⟨_, rfl, Kd.R_nil _ _ _ _ _, HB3.out⟩
    | true =>
      rw [if_pos rfl] at h
      obtain ⟨rfl, rfl⟩ := Prod.mk.inj h
      obtain ⟨i1, i2, i3⟩ := hisv rfl
      obtain ⟨n, hn⟩ := Int.eq_ofNat_of_zero_le (show 0 ≤ a0_2 / u from Int.ediv_nonneg (by omega) (by omega))
      have hnu : a0_2 = (n : Int) * u := by rw [← hn, Int.ediv_mul_cancel p5]
      rw [show (a0_2 / u).toNat = n by omega]
      have hn256 : n ≤ 256 := by omega
      clear h hisv k2 p5 p7 hn
      have I3 := Aside0.mk i3
      have HE : Aside0 (a1_1 = a1_0 + (n : Int) * u) := ⟨by omega⟩
      clear hnu i3
      go_enter Try.func11, Try.ntmps11
      go_wp2_with fail
      refine (slice_Unit.calls K a0_0 a0_1 a0_2 a0_3 A0_4 c0_4 l0_4 a0_5 u 0 _ HR.out HC.out A1.out).mono ?_
      rintro e w1 ⟨rfl, hb1⟩
      have HI2 := Aside0.mk (HI.out.below hb1)
      have HB2 := Aside0.mk (below_step HB.out hb1)
      have HS2 := Aside0.mk ((hb1.block _ (blk_lt HS.out)).trans HS.out)
      have q0 := blk_cell HS2.out 0
      have q1 := blk_cell HS2.out 1
      simp at q0 q1
      clear hb1
      go_wp2_with fail
      refine (HIS.out _ HI2.out).mono ?_
      rintro e w2 ⟨rfl, hb2⟩
      have HB3 := Aside0.mk (below_step HB2.out hb2)
      have HS3 := Aside0.mk ((hb2.block _ (blk_lt HS2.out)).trans HS2.out)
      have HZ := Aside0.mk (blk_lt HS3.out)
      clear q0 q1
      have q0 := blk_cell HS3.out 0
      have q1 := blk_cell HS3.out 1
      simp at q0 q1
      clear hb2 HI2 HB2 HS2 HIS HI HB HS
      go_wp2_with fail
      clear q0 q1
      go_loopw [8, 9] (fun out av wr => ∃ j : Nat, j ≤ n ∧ av = .int .i64 (a1_0 + (j : Int) * u) ∧ Aside0 (Kd.R k26 26 wr (w.heap.size + 2) (fun _ => True) out (spans a1_0 u u j)) ∧ Aside0 (Below (w.heap.size + 2) w2 wr)) (fun _ av _ => (a1_1 - intOf av).toNat)
      case atStart => exact ⟨0, Nat.zero_le _, by simp, ⟨by unfold spans; exact Kd.R_nil _ _ _ _ _⟩, ⟨Below.refl _ _⟩⟩
      case round =>
        obtain ⟨j, hj, rfl, HO, HB⟩ := hrel
        have HS := Aside0.mk ((HB.out.block (w.heap.size + 1) (by omega)).trans HS3.out)
        have hsn := Aside0.mk (spans_snoc a1_0 u u j)
        have hsl := Aside0.mk (spans_len a1_0 u u j)
        have hnx : Aside0 (a1_0 + ((j + 1 : Nat) : Int) * u = a1_0 + (j : Int) * u + u) := ⟨by rw [Int.natCast_add, Int.add_mul]; omega⟩
        have hj0 : 0 ≤ (j : Int) * u := Int.mul_nonneg (by omega) (by omega)
        have q1 := blk_cell HS.out 1
        simp at q1
        by_cases hlt : j < n
        · have b0 : a1_0 + (j : Int) * u + u ≤ a1_1 := by
            have := Int.mul_le_mul_of_nonneg_right (show (j : Int) + 1 ≤ n by omega) (show 0 ≤ u by omega)
            rw [Int.add_mul, Int.one_mul] at this
            have := HE.out
            omega
          have b1 : a1_0 + (j : Int) * u < a1_1 := by omega
          have e1 := decide_eq_true b1
          have hat1 : -1099511627776 - 1073741824 ≤ a1_0 + (j : Int) * u := by omega
          have hat2 : a1_0 + (j : Int) * u ≤ 1099511627776 + 1073741824 := by have := I3.out; omega
          generalize a1_0 + (j : Int) * u = at_ at *
          clear b0
          go_wp2_with (first
            | ((with_reducible refine gate_builtin (b := .append) (xs := #[.tmp 32, .tmp 38]) rfl ?_); at_builtin; refine Kd.R_append k26 (w0 := w2) (w.heap.size + 2) rfl (.tmp 32) (.tmp 38) 36 26 (.agg #[(.int .i64 0), (.int .i64 0)]) 16 rfl Try.underlying36 info26 rfl (by decide) (by omega) u8 (spans a1_0 u u j) (⟨at_, at_ + u⟩ : S26) [.int .i64 at_, .int .i64 (at_ + u)] (fun _ => True) (fun _ => False) rfl rfl ?aP (fun _ hk => hk.elim) ?aF ?aO ?aB ?aS ?aL ?_; (case aP => exact k26_mkM _ _ _ (⟨at_, at_ + u⟩ : S26)); (case aB => exact HB.out); (case aF => exact (fun _ _ => trivial)); (case aO => exact HO.out); (case aS => have z1 := HB.out.size; have z2 := HZ.out; omega); (case aL => rw [hsl.out]; omega); intro v1 w4 ho hb hg hat; have n1_ := Aside0.mk hb; have n2_ := Aside0.mk ho; clear ho hb hg hat))
          go_roundw
          case rel => exact ⟨j + 1, by omega, by rw [hnx.out], ⟨by rw [hsn.out]; exact n2_.out⟩, n1_⟩
          case measure => simp [intOf]; omega
        · obtain rfl : j = n := by omega
          have b1 : ¬ a1_0 + (j : Int) * u < a1_1 := by have := HE.out; omega
          have e1 := decide_eq_false b1
          clear hlt
          generalize a1_0 + (j : Int) * u = at_ at *
          go_wp2_with fail
          go_ret2
          exact ⟨_, rfl, Kd.R_lower HO.out (by omega), HB3.out.trans (HB.out.mono (by omega))⟩
theorem slice_Cut.calls_nil (a0_0 : Int) (a0_1 : Int) (a0_2 : Int) (a0_3 : Int) (a0_5 : Int) (a1_0 : Int) (a1_1 : Int) (r1 : List (S26)) (r2 : Int) (w : World) (h : slice_Cut.f a0_0 a0_1 a0_2 a0_3 ([] : List Int) a0_5 a1_0 a1_1 = some (r1, r2)) :
    Calls Try.prog 11 #[.agg #[.int .i64 a0_0, .int .i64 a0_1, .int .i64 a0_2, .int .i64 a0_3, .slice none 0 0, .int .i64 a0_5], .agg #[.int .i64 a1_0, .int .i64 a1_1]] w fun e w' => ∃ v0_ : Value, e = .returned (.tuple #[v0_, .int .i64 r2]) ∧ Kd.R k26 26 w' w.heap.size (fun _ => True) v0_ r1 ∧ Below w.heap.size w w' :=
  slice_Cut.calls a0_0 a0_1 a0_2 a0_3 none 0 [] a0_5 a1_0 a1_1 r1 r2 w (Kd.C_nil _ _) (Nat.le_refl _) h

/-! ### bourneref1_step: function 26 -/
def bourneref1_step.f (a0_0 : Int) (a0_1 : Int) (a0_2 : Int) (a0_3 : Int) (l0_4 : List Int) (a0_5 : Int) : Option (Int) := if a0_0 = 0 then (some a0_2) else (some a0_3)
set_option maxHeartbeats 8000000 in
set_option maxRecDepth 100000 in
theorem bourneref1_step.calls (a0_0 : Int) (a0_1 : Int) (a0_2 : Int) (a0_3 : Int) (A0_4 : Option Addr) (c0_4 : Nat) (l0_4 : List Int) (a0_5 : Int) (r : Int) (w : World) (hr0_4 : Kd.C (Kd.int .i64) w A0_4 l0_4.length l0_4) (hc0_4 : l0_4.length ≤ c0_4) (h : bourneref1_step.f a0_0 a0_1 a0_2 a0_3 l0_4 a0_5 = some r) :
    Calls Try.prog 26 #[.agg #[.int .i64 a0_0, .int .i64 a0_1, .int .i64 a0_2, .int .i64 a0_3, .slice A0_4 l0_4.length c0_4, .int .i64 a0_5]] w fun e w' => e = .returned (.int .i64 r) ∧ Below w.heap.size w w' := by
  have hu24 := Try.underlying24
  have HR0_4 := Aside0.mk hr0_4
  have HC0_4 := Aside0.mk hc0_4
  clear hr0_4 hc0_4
  have HB := Aside0.mk (Below.refl w.heap.size w)
  have H : (if a0_0 = 0 then (some a0_2) else (some a0_3)) = some r := h
  clear h
  by_cases c2 : a0_0 = 0
  · rw [if_pos c2] at H
    have c2b0 : (a0_0 == 0) = true := beq_iff_eq.mpr c2
    have c2b1 : (a0_0 != 0) = false := bne_eq_false_iff_eq.mpr c2
    clear c2
    obtain rfl := Option.some.inj H
    go_enter Try.func26, Try.ntmps26
    go_wp2_with (first | ((with_reducible refine gate_dst (N := 1) rfl ?_); refine box_event ?hg (N := 1) ?hd (cs := #[.int .i64 a0_0, .int .i64 a0_1, .int .i64 a0_2, .int .i64 a0_3, .slice A0_4 l0_4.length c0_4, .int .i64 a0_5]) (t := 24) ?hr ?_; (case hd => rfl); (case hg => rfl); (case hr => first | (go_simp; done) | (go_simp; rfl)); intro gb144 hg w3 hbox hb; have n0_ := Aside0.mk (below_step (by repeat (first | (with_reducible first | exact HB.out | apply below_alloc | apply pw_below_drewN | apply below_drew1) | exact HB.out)) hb); have n1_ := Aside0.mk (hbox); have n2_ := Aside0.mk ((by rw [hg]; exact (below_size (by repeat (first | (with_reducible first | exact HB.out | apply below_alloc | apply pw_below_drewN | apply below_drew1) | exact HB.out))) : w.heap.size ≤ gb144)); have n3_ := Aside0.mk ((by rw [hg]; exact (below_size (by repeat (first | (with_reducible first | exact HB.out | apply below_alloc | apply pw_below_drewN | apply below_drew1) | exact HB.out))) : w.heap.size ≤ gb144)); clear HB; have HB := n0_; have BK144 := n1_; have GW144 := n2_; have GE144 := n3_; clear n0_ n1_ n2_ n3_; clear hb hbox hg; have hcz4_0 : w3.cell? ⟨gb144, 0, none⟩ = some (.int .i64 a0_0) := (blk_cell BK144.out 0).trans rfl; have hcz4_1 : w3.cell? ⟨gb144, 1, none⟩ = some (.int .i64 a0_1) := (blk_cell BK144.out 1).trans rfl; have hcz4_2 : w3.cell? ⟨gb144, 2, none⟩ = some (.int .i64 a0_2) := (blk_cell BK144.out 2).trans rfl; have hcz4_3 : w3.cell? ⟨gb144, 3, none⟩ = some (.int .i64 a0_3) := (blk_cell BK144.out 3).trans rfl; have hcz4_4 : w3.cell? ⟨gb144, 4, none⟩ = some (.slice A0_4 l0_4.length c0_4) := (blk_cell BK144.out 4).trans rfl; have hcz4_5 : w3.cell? ⟨gb144, 5, none⟩ = some (.int .i64 a0_5) := (blk_cell BK144.out 5).trans rfl; have hfz4_0 := blk_frozen BK144.out 0; have hfz4_1 := blk_frozen BK144.out 1; have hfz4_2 := blk_frozen BK144.out 2; have hfz4_3 := blk_frozen BK144.out 3; have hfz4_4 := blk_frozen BK144.out 4; have hfz4_5 := blk_frozen BK144.out 5))
    go_ret
    exact ⟨by first | rfl | (simp [errW_none, errW_some] <;> rfl) | (simp [*, errW_none, errW_some] <;> rfl), by repeat (first | (with_reducible first | exact HB.out | apply below_alloc | apply pw_below_drewN | apply below_drew1 | refine below_set ?_ GE144.out) | exact HB.out)⟩
  · rw [if_neg c2] at H
    have c2b0 : (a0_0 == 0) = false := beq_eq_false_iff_ne.mpr c2
    have c2b1 : (a0_0 != 0) = true := bne_iff_ne.mpr c2
    obtain rfl := Option.some.inj H
    go_enter Try.func26, Try.ntmps26
    go_wp2_with (first | ((with_reducible refine gate_dst (N := 1) rfl ?_); refine box_event ?hg (N := 1) ?hd (cs := #[.int .i64 a0_0, .int .i64 a0_1, .int .i64 a0_2, .int .i64 a0_3, .slice A0_4 l0_4.length c0_4, .int .i64 a0_5]) (t := 24) ?hr ?_; (case hd => rfl); (case hg => rfl); (case hr => first | (go_simp; done) | (go_simp; rfl)); intro gb144 hg w5 hbox hb; have n0_ := Aside0.mk (below_step (by repeat (first | (with_reducible first | exact HB.out | apply below_alloc | apply pw_below_drewN | apply below_drew1) | exact HB.out)) hb); have n1_ := Aside0.mk (hbox); have n2_ := Aside0.mk ((by rw [hg]; exact (below_size (by repeat (first | (with_reducible first | exact HB.out | apply below_alloc | apply pw_below_drewN | apply below_drew1) | exact HB.out))) : w.heap.size ≤ gb144)); have n3_ := Aside0.mk ((by rw [hg]; exact (below_size (by repeat (first | (with_reducible first | exact HB.out | apply below_alloc | apply pw_below_drewN | apply below_drew1) | exact HB.out))) : w.heap.size ≤ gb144)); clear HB; have HB := n0_; have BK144 := n1_; have GW144 := n2_; have GE144 := n3_; clear n0_ n1_ n2_ n3_; clear hb hbox hg; have hcz6_0 : w5.cell? ⟨gb144, 0, none⟩ = some (.int .i64 a0_0) := (blk_cell BK144.out 0).trans rfl; have hcz6_1 : w5.cell? ⟨gb144, 1, none⟩ = some (.int .i64 a0_1) := (blk_cell BK144.out 1).trans rfl; have hcz6_2 : w5.cell? ⟨gb144, 2, none⟩ = some (.int .i64 a0_2) := (blk_cell BK144.out 2).trans rfl; have hcz6_3 : w5.cell? ⟨gb144, 3, none⟩ = some (.int .i64 a0_3) := (blk_cell BK144.out 3).trans rfl; have hcz6_4 : w5.cell? ⟨gb144, 4, none⟩ = some (.slice A0_4 l0_4.length c0_4) := (blk_cell BK144.out 4).trans rfl; have hcz6_5 : w5.cell? ⟨gb144, 5, none⟩ = some (.int .i64 a0_5) := (blk_cell BK144.out 5).trans rfl; have hfz6_0 := blk_frozen BK144.out 0; have hfz6_1 := blk_frozen BK144.out 1; have hfz6_2 := blk_frozen BK144.out 2; have hfz6_3 := blk_frozen BK144.out 3; have hfz6_4 := blk_frozen BK144.out 4; have hfz6_5 := blk_frozen BK144.out 5))
    go_ret
    exact ⟨by first | rfl | (simp [errW_none, errW_some] <;> rfl) | (simp [*, errW_none, errW_some] <;> rfl), by repeat (first | (with_reducible first | exact HB.out | apply below_alloc | apply pw_below_drewN | apply below_drew1 | refine below_set ?_ GE144.out) | exact HB.out)⟩

end Go.Proofs.Yticgnaladjmdoaa.QSlices
