-- Written by a program of this session (wip/myprint.py), over the words of the print
import Derived.Test.YtejgmbpcnabgjaaQWindowFormsx0
import Derived.Test.YtejgmbpcnabgjaaQWindowFormsx2
namespace Go.Proofs.Ytejgmbpcnabgjaa.QWindowForms
open Go.RowKit Go.Proofs.YtejgmbpcnabgjaaW.PrintWords Go.Proofs.YtejgmbpcnabgjaaW.PrintLast Go.Proofs.YtejgmbpcnabgjaaW.PrintMore
attribute [local go_sem] max2_int min2_int max_two min_two max_three min_three max_four min_four   -- for this text's walks alone
set_option linter.unusedVariables false
set_option linter.unusedSimpArgs false

/-! ### window_May: function 14, by a walk of its own -/
theorem w64_id {n : Int} (h1 : -9223372036854775808 ≤ n) (h2 : n ≤ 9223372036854775807) : wrap64 n = n := by unfold wrap64; omega
/-- May a bound be, at its place? -/
def gAt (bs : List Int) (i : Nat) : Bool := decide (-1099511627776 ≤ bs.getD i 0 ∧ bs.getD i 0 ≤ 1099511627776 ∧ (0 < i → bs.getD (i - 1) 0 < bs.getD i 0))
/-- May all be from a place on, so many? -/
def gFrom (bs : List Int) : Nat → Nat → Bool
  | 0, _ => true
  | d + 1, i => gAt bs i && gFrom bs d (i + 1)
theorem gFrom_zero (bs : List Int) (i : Nat) : gFrom bs 0 i = true := rfl
theorem gFrom_succ (bs : List Int) (d i : Nat) : gFrom bs (d + 1) i = (gAt bs i && gFrom bs d (i + 1)) := rfl
/-- May bounds be? -/
def bMay (bs : List Int) : Bool := decide (bs.length ≤ 8) && gFrom bs bs.length 0
def aMay (agg : Int) (bs : List Int) (rank : Int) : Bool := decide (0 ≤ agg ∧ agg ≤ 7 ∧ (agg = 7 ∨ rank = 0) ∧ 0 ≤ rank ∧ rank ≤ 1000 ∧ (6 ≤ agg ↔ 0 < bs.length)) && bMay bs
def sMay (size slide : Int) : Bool := decide (1 ≤ slide ∧ slide ≤ size ∧ (size - 1) / slide < 64 ∧ size / ((Nat.gcd size.toNat slide.toNat : Nat) : Int) ≤ 256)
/-- May a query be? -/
def qMay (kind agg size slide : Int) (bs : List Int) (rank : Int) : Bool :=
  decide (1 ≤ size ∧ size ≤ 1073741824) && (aMay agg bs rank && (if kind = 1 then sMay size slide else decide ((kind = 0 ∨ kind = 2) ∧ slide = 0)))
theorem within_eq (a : Int) : acc_within.f a 1099511627776 = some (decide (-1099511627776 ≤ a ∧ a ≤ 1099511627776)) := by
  unfold acc_within.f
  rw [w64_id (by omega) (by omega)]
  by_cases c : a ≥ -1099511627776
  · rw [if_pos c]; congr 1; exact decide_eq_decide.2 (by omega)
  · rw [if_neg c]; congr 1; symm; exact decide_eq_false (by omega)
theorem bounds_l0 (bs : List Int) (hn : bs.length ≤ 8) (d : Nat) : ∀ (k i : Nat), i + d = bs.length → d < k → acc_BoundsMay.l0 k bs bs (bs.length : Int) (i : Int) = some (gFrom bs d i) := by
  induction d with
  | zero =>
    intro k i hi hk
    obtain ⟨k, rfl⟩ : ∃ m, k = m + 1 := ⟨k - 1, by omega⟩
    simp only [acc_BoundsMay.l0]
    rw [if_neg (by omega)]
    rfl
  | succ d ih =>
    intro k i hi hk
    obtain ⟨k, rfl⟩ : ∃ m, k = m + 1 := ⟨k - 1, by omega⟩
    simp only [acc_BoundsMay.l0]
    rw [if_pos (by omega), if_pos (by omega), if_pos (by omega), within_eq, Option.bind_some]
    have e : rd bs (i : Int) = bs.getD i 0 := by unfold rd; rw [Int.toNat_natCast]
    have ih := ih k (i + 1) (by omega) (by omega)
    have w1 : wrap64 ((i : Int) + 1) = ((i + 1 : Nat) : Int) := by rw [w64_id (by omega) (by omega)]; omega
    rw [e]
    show _ = some (gAt bs i && gFrom bs d (i + 1))
    unfold gAt
    by_cases c : -1099511627776 ≤ bs.getD i 0 ∧ bs.getD i 0 ≤ 1099511627776
    · rw [if_pos (decide_eq_true c)]
      by_cases c0 : 0 < i
      · have w2 : wrap64 ((i : Int) - 1) = ((i - 1 : Nat) : Int) := by rw [w64_id (by omega) (by omega)]; omega
        have e2 : rd bs ((i - 1 : Nat) : Int) = bs.getD (i - 1) 0 := by unfold rd; rw [Int.toNat_natCast]
        rw [if_pos (by omega), w2, if_pos (by omega), if_pos (by omega), e2]
        by_cases c1 : bs.getD (i - 1) 0 ≥ bs.getD i 0
        · rw [if_pos c1, decide_eq_false (fun h => by have := h.2.2 c0; omega), Bool.false_and]
        · rw [if_neg c1, w1, ih, decide_eq_true ⟨c.1, c.2, fun _ => by omega⟩, Bool.true_and]
      · rw [if_neg (by omega), w1, ih, decide_eq_true ⟨c.1, c.2, fun h => absurd h c0⟩, Bool.true_and]
    · rw [decide_eq_false c, if_neg (by decide), decide_eq_false (fun h => c ⟨h.1, h.2.1⟩), Bool.false_and]
theorem bounds_eq (bs : List Int) (k : Nat) (hk : 9 ≤ k) : acc_BoundsMay.f k bs = some (bMay bs) := by
  unfold acc_BoundsMay.f bMay
  by_cases c : (bs.length : Int) > 8
  · rw [if_pos c, decide_eq_false (by omega), Bool.false_and]
  · have h := bounds_l0 bs (by omega) bs.length k 0 (by omega) (by omega)
    rw [if_neg c, decide_eq_true (by omega), Bool.true_and]
    exact h
theorem asks_eq (a0 a1 a2 a3 : Int) (bs : List Int) (a5 : Int) (k : Nat) (hk : 9 ≤ k) : window_asks.f k a0 a1 a2 a3 bs a5 = some (aMay a1 bs a5, a0, a1, a2, a3, a5) := by
  unfold window_asks.f aMay
  by_cases c : a1 < 0 ∨ 7 < a1 ∨ (a1 ≠ 7 ∧ a5 ≠ 0) ∨ a5 < 0 ∨ 1000 < a5
  · rw [if_pos c, decide_eq_false (by omega), Bool.false_and]
  · rw [if_neg c]
    by_cases d : 6 ≤ a1 ↔ 0 < bs.length
    · rw [if_pos d, bounds_eq bs k hk, Option.bind_some, decide_eq_true ⟨by omega, by omega, by omega, by omega, by omega, d⟩, Bool.true_and]
    · rw [if_neg d, decide_eq_false (fun h => d h.2.2.2.2.2), Bool.false_and]
theorem w_gcd_l0 (n : Nat) : ∀ (a b : Nat), b ≤ n → ∀ k, n < k → floor_Gcd.l0 k (a : Int) (b : Int) = some (((Nat.gcd a b : Nat) : Int), 0) := by
  induction n with
  | zero =>
    intro a b hb k hk
    obtain ⟨k, rfl⟩ : ∃ m, k = m + 1 := ⟨k - 1, by omega⟩
    obtain rfl : b = 0 := by omega
    simp only [floor_Gcd.l0]; rw [if_neg (by omega), Nat.gcd_zero_right]
  | succ n ih =>
    intro a b hb k hk
    obtain ⟨k, rfl⟩ : ∃ m, k = m + 1 := ⟨k - 1, by omega⟩
    by_cases h : b = 0
    · subst h
      simp only [floor_Gcd.l0]; rw [if_neg (by omega), Nat.gcd_zero_right]
    · simp only [floor_Gcd.l0]; rw [if_pos (by omega), if_neg (by omega), ← Int.ofNat_tmod]
      have hlt := Nat.mod_lt a (show b > 0 by omega)
      rw [ih b (a % b) (by omega) k (by omega)]
      congr 3
      rw [Nat.gcd_comm b (a % b), ← Nat.gcd_rec, Nat.gcd_comm]
theorem w_gcd_eq {a b : Int} (ha : 1 ≤ a) (hb : 1 ≤ b) (k : Nat) (hk : b.toNat + 2 ≤ k) : floor_Gcd.f k a b = some (((Nat.gcd a.toNat b.toNat : Nat) : Int), 0) := by
  unfold floor_Gcd.f
  obtain ⟨k, rfl⟩ : ∃ m, k = m + 1 := ⟨k - 1, by omega⟩
  rw [if_neg (by omega), decide_eq_false (by omega)]
  simp only [floor_Gcd.j0]
  have h := w_gcd_l0 b.toNat a.toNat b.toNat (Nat.le_refl _) k (by omega)
  rw [Int.toNat_of_nonneg (by omega), Int.toNat_of_nonneg (by omega)] at h
  simpa using h
theorem gcd_pos {a b : Int} (ha : 1 ≤ a) : 1 ≤ ((Nat.gcd a.toNat b.toNat : Nat) : Int) := by
  have := Nat.gcd_pos_of_pos_left b.toNat (show 0 < a.toNat by omega)
  omega
theorem sliding_eq (a0 a1 a2 a3 : Int) (bs : List Int) (a5 : Int) (h1 : 1 ≤ a2) (h2 : a2 ≤ 1073741824) (k : Nat) (hk : 1073741830 ≤ k) : window_sliding.f k a0 a1 a2 a3 bs a5 = some (sMay a2 a3, a0, a1, a2, a3, a5) := by
  unfold window_sliding.f sMay
  by_cases c1 : a3 < 1
  · rw [if_pos c1, decide_eq_false (by omega)]
  · by_cases c2 : a3 > a2
    · rw [if_neg c1, if_pos c2, decide_eq_false (by omega)]
    · have hd := Int.ediv_nonneg (show 0 ≤ a2 - 1 by omega) (show 0 ≤ a3 by omega)
      have hd2 := Int.ediv_le_self a3 (show 0 ≤ a2 - 1 by omega)
      have e1 : wrap64 (Int.tdiv (wrap64 (a2 - 1)) a3) = (a2 - 1) / a3 := by
        rw [w64_id (n := a2 - 1) (by omega) (by omega), Int.tdiv_eq_ediv_of_nonneg (by omega), w64_id (by omega) (by omega)]
      rw [if_neg c1, if_neg c2, if_neg (by omega), e1]
      by_cases c3 : (a2 - 1) / a3 ≥ 64
      · rw [if_pos c3, decide_eq_false (by omega)]
      · rw [if_neg c3, w_gcd_eq h1 (by omega) k (by omega), Option.bind_some]
        have hg := gcd_pos (b := a3) h1
        generalize ((Nat.gcd a2.toNat a3.toNat : Nat) : Int) = g at *
        have hd3 := Int.ediv_nonneg (show 0 ≤ a2 by omega) (show 0 ≤ g by omega)
        have hd4 := Int.ediv_le_self g (show 0 ≤ a2 by omega)
        have e2 : wrap64 (Int.tdiv a2 g) = a2 / g := by rw [Int.tdiv_eq_ediv_of_nonneg (by omega), w64_id (by omega) (by omega)]
        dsimp only
        rw [if_neg (by omega), e2]
        congr 2
        exact decide_eq_decide.2 (by omega)
def window_May.f (a0_0 : Int) (a0_1 : Int) (a0_2 : Int) (a0_3 : Int) (l0_4 : List Int) (a0_5 : Int) : Option (Bool) := some (qMay a0_0 a0_1 a0_2 a0_3 l0_4 a0_5)
attribute [irreducible] gAt gFrom bMay aMay sMay
set_option maxHeartbeats 8000000 in
set_option maxRecDepth 100000 in
theorem window_May.calls (a0_0 : Int) (a0_1 : Int) (a0_2 : Int) (a0_3 : Int) (A0_4 : Option Addr) (c0_4 : Nat) (l0_4 : List Int) (a0_5 : Int) (r : Bool) (w : World) (hr0_4 : Kd.C (Kd.int .i64) w A0_4 l0_4.length l0_4) (hc0_4 : l0_4.length ≤ c0_4) (h : window_May.f a0_0 a0_1 a0_2 a0_3 l0_4 a0_5 = some r) :
    Calls Try.prog 14 #[.agg #[.int .i64 a0_0, .int .i64 a0_1, .int .i64 a0_2, .int .i64 a0_3, .slice A0_4 l0_4.length c0_4, .int .i64 a0_5]] w fun e w' => e = .returned (.bool r) ∧ Below w.heap.size w w' := by
  obtain rfl := Option.some.inj h
  clear h
  have HW : Aside0 (IsS24 w (w.alloc (.cells #[.int .i64 a0_0, .int .i64 a0_1, .int .i64 a0_2, .int .i64 a0_3, .slice A0_4 l0_4.length c0_4, .int .i64 a0_5] 24 (0, 0))) w.heap.size a0_0 a0_1 a0_2 a0_3 l0_4 a0_5) :=
    ⟨⟨A0_4, c0_4, by show (w.heap.push _)[w.heap.size]? = _; simp, Nat.le_refl _, hr0_4⟩⟩
  have HB : Aside0 (Below w.heap.size w (w.alloc (.cells #[.int .i64 a0_0, .int .i64 a0_1, .int .i64 a0_2, .int .i64 a0_3, .slice A0_4 l0_4.length c0_4, .int .i64 a0_5] 24 (0, 0)))) := ⟨below_alloc (Below.refl _ _) _⟩
  have A1 := Aside0.mk (asks_eq a0_0 a0_1 a0_2 a0_3 l0_4 a0_5 1073741830 (by omega))
  clear hr0_4 hc0_4
  unfold qMay
  by_cases c1 : a0_2 < 1
  · rw [decide_eq_false (show ¬ (1 ≤ a0_2 ∧ a0_2 ≤ 1073741824) by omega), Bool.false_and]
    go_enter Try.func14, Try.ntmps14
    go_wp2_with fail
    go_ret
    exact ⟨rfl, HB.out⟩
  · by_cases c2 : 1073741824 < a0_2
    · rw [decide_eq_false (show ¬ (1 ≤ a0_2 ∧ a0_2 ≤ 1073741824) by omega), Bool.false_and]
      go_enter Try.func14, Try.ntmps14
      go_wp2_with fail
      go_ret
      exact ⟨rfl, HB.out⟩
    · rw [decide_eq_true (show 1 ≤ a0_2 ∧ a0_2 ≤ 1073741824 by omega), Bool.true_and]
      have A2 := Aside0.mk (sliding_eq a0_0 a0_1 a0_2 a0_3 l0_4 a0_5 (by omega) (by omega) 1073741830 (by omega))
      generalize sMay a0_2 a0_3 = sv at *
      generalize aMay a0_1 l0_4 a0_5 = av at *
      generalize 1073741830 = K at *
      cases av with
      | false =>
        rw [Bool.false_and]
        go_enter Try.func14, Try.ntmps14
        go_wp2_with fail
        refine (window_asks.calls K _ _ _ _ _ _ _ _ _ _ _ _ _ w _ HW.out HB.out A1.out).mono ?_
        rintro e w1 ⟨rfl, HW1, HB1, _⟩
        have HB2 := Aside0.mk HB1
        clear HW1 HB1
        go_wp2_with fail
        go_ret
        exact ⟨rfl, HB2.out⟩
      | true =>
        rw [Bool.true_and]
        by_cases k1 : a0_0 = 1
        · subst k1
          rw [if_pos rfl]
          go_enter Try.func14, Try.ntmps14
          go_wp2_with fail
          refine (window_asks.calls K _ _ _ _ _ _ _ _ _ _ _ _ _ w _ HW.out HB.out A1.out).mono ?_
          rintro e w1 ⟨rfl, HW1, HB1, _⟩
          have HB2 := Aside0.mk HB1
          have HW2 := Aside0.mk HW1
          obtain ⟨A4, c4, hb, _, _⟩ := HW1
          have q0 := blk_cell hb 0
          clear HB1 hb
          simp at q0
          go_wp2_with fail
          refine (window_sliding.calls K _ _ _ _ _ _ _ _ _ _ _ _ _ w _ HW2.out HB2.out A2.out).mono ?_
          rintro e w3 ⟨rfl, HW3, HB3, _⟩
          have HB4 := Aside0.mk HB3
          clear HW3 HB3
          go_wp2_with fail
          go_ret
          exact ⟨rfl, HB4.out⟩
        · rw [if_neg k1]
          have e1 : (a0_0 == 1) = false := beq_eq_false_iff_ne.2 k1
          by_cases k0 : a0_0 = 0
          · subst k0
            rw [show decide (((0 : Int) = 0 ∨ (0 : Int) = 2) ∧ a0_3 = 0) = (a0_3 == 0) by by_cases z : a0_3 = 0 <;> simp [z]]
            go_enter Try.func14, Try.ntmps14
            go_wp2_with fail
            refine (window_asks.calls K _ _ _ _ _ _ _ _ _ _ _ _ _ w _ HW.out HB.out A1.out).mono ?_
            rintro e w1 ⟨rfl, HW1, HB1, _⟩
            have HB2 := Aside0.mk HB1
            obtain ⟨A4, c4, hb, _, _⟩ := HW1
            have q0 := blk_cell hb 0
            have q3 := blk_cell hb 3
            clear HB1 hb
            simp at q0 q3
            go_wp2_with fail
            go_ret
            exact ⟨rfl, HB2.out⟩
          · have e0 : (a0_0 == 0) = false := beq_eq_false_iff_ne.2 k0
            by_cases k2 : a0_0 = 2
            · subst k2
              rw [show decide (((2 : Int) = 0 ∨ (2 : Int) = 2) ∧ a0_3 = 0) = (a0_3 == 0) by by_cases z : a0_3 = 0 <;> simp [z]]
              go_enter Try.func14, Try.ntmps14
              go_wp2_with fail
              refine (window_asks.calls K _ _ _ _ _ _ _ _ _ _ _ _ _ w _ HW.out HB.out A1.out).mono ?_
              rintro e w1 ⟨rfl, HW1, HB1, _⟩
              have HB2 := Aside0.mk HB1
              obtain ⟨A4, c4, hb, _, _⟩ := HW1
              have q0 := blk_cell hb 0
              have q3 := blk_cell hb 3
              clear HB1 hb
              simp at q0 q3
              go_wp2_with fail
              go_ret
              exact ⟨rfl, HB2.out⟩
            · have e2 : (a0_0 == 2) = false := beq_eq_false_iff_ne.2 k2
              rw [decide_eq_false (show ¬ ((a0_0 = 0 ∨ a0_0 = 2) ∧ a0_3 = 0) by omega)]
              go_enter Try.func14, Try.ntmps14
              go_wp2_with fail
              refine (window_asks.calls K _ _ _ _ _ _ _ _ _ _ _ _ _ w _ HW.out HB.out A1.out).mono ?_
              rintro e w1 ⟨rfl, HW1, HB1, _⟩
              have HB2 := Aside0.mk HB1
              obtain ⟨A4, c4, hb, _, _⟩ := HW1
              have q0 := blk_cell hb 0
              have q3 := blk_cell hb 3
              clear HB1 hb
              simp at q0 q3
              go_wp2_with fail
              go_ret
              exact ⟨rfl, HB2.out⟩
theorem window_May.calls_nil (a0_0 : Int) (a0_1 : Int) (a0_2 : Int) (a0_3 : Int) (a0_5 : Int) (r : Bool) (w : World) (h : window_May.f a0_0 a0_1 a0_2 a0_3 ([] : List Int) a0_5 = some r) :
    Calls Try.prog 14 #[.agg #[.int .i64 a0_0, .int .i64 a0_1, .int .i64 a0_2, .int .i64 a0_3, .slice none 0 0, .int .i64 a0_5]] w fun e w' => e = .returned (.bool r) ∧ Below w.heap.size w w' :=
  window_May.calls a0_0 a0_1 a0_2 a0_3 none 0 [] a0_5 r w (Kd.C_nil _ _) (Nat.le_refl _) h

/-! ### window_TimeMay: function 17 -/
def window_TimeMay.f (a0 : Int) : Option (Bool) := if a0 ≥ (-1099511627776) then (some (decide (a0 ≤ 1099511627776))) else (some false)
set_option maxHeartbeats 8000000 in
set_option maxRecDepth 100000 in
theorem window_TimeMay.calls (a0 : Int) (r : Bool) (w : World) (h : window_TimeMay.f a0 = some r) :
    Calls Try.prog 17 #[.int .i64 a0] w fun e w' => e = .returned (.bool r) ∧ Drawn0 w w' := by
  have H : (if a0 ≥ (-1099511627776) then (some (decide (a0 ≤ 1099511627776))) else (some false)) = some r := h
  clear h
  by_cases c2 : a0 ≥ (-1099511627776)
  · rw [if_pos c2] at H
    have c2b0 : decide ((-1099511627776) ≤ a0) = true := decide_eq_true c2
    clear c2
    obtain rfl := Option.some.inj H
    go_enter Try.func17, Try.ntmps17
    go_wp2
    go_ret
    exact ⟨by first | rfl | (simp; done) | (simp [*]; done), by repeat (first | exact Drawn0.refl _ | apply Drawn0.step)⟩
  · rw [if_neg c2] at H
    have c2b0 : decide ((-1099511627776) ≤ a0) = false := decide_eq_false c2
    clear c2
    obtain rfl := Option.some.inj H
    go_enter Try.func17, Try.ntmps17
    go_wp2
    go_ret
    exact ⟨by first | rfl | (simp; done) | (simp [*]; done), by repeat (first | exact Drawn0.refl _ | apply Drawn0.step)⟩

/-! ### window_Step: function 19 -/
def window_Step.f (s0_0 : Int) (s0_1 : Int) (s0_2 : Int) (s0_3 : Int) (s0_4 : List Int) (s0_5 : Int) : Option (Int × Int × Int × Int × Int × Int) := if s0_0 = 1 then (some (s0_3, s0_0, s0_1, s0_2, s0_3, s0_5)) else (some (s0_2, s0_0, s0_1, s0_2, s0_3, s0_5))
set_option maxHeartbeats 8000000 in
set_option maxRecDepth 100000 in
theorem window_Step.calls (g : Nat) (s0_0 : Int) (s0_1 : Int) (s0_2 : Int) (s0_3 : Int) (s0_4 : List Int) (s0_5 : Int) (r1 : Int) (r2 : Int) (r3 : Int) (r4 : Int) (r5 : Int) (r6 : Int) (w0 w : World) (hI : IsS24 w0 w g s0_0 s0_1 s0_2 s0_3 s0_4 s0_5) (hB : Below w0.heap.size w0 w) (h : window_Step.f s0_0 s0_1 s0_2 s0_3 s0_4 s0_5 = some (r1, r2, r3, r4, r5, r6)) :
    Calls Try.prog 19 #[.pointer (some ⟨g, 0, none⟩)] w fun e w' => e = .returned (.int .i64 r1) ∧ IsS24 w0 w' g r2 r3 r4 r5 s0_4 r6 ∧ Below w0.heap.size w0 w' ∧ KeepBut w w' g none := by
  have HI0 := Aside0.mk hI
  have HK := Aside0.mk (KeepBut.refl w g none)
  have HL := Aside0.mk hB.size
  clear hI
  have HW0 := Aside0.mk hB.size
  have HB := Aside0.mk hB
  clear hB
  have H : (if s0_0 = 1 then (some (s0_3, s0_0, s0_1, s0_2, s0_3, s0_5)) else (some (s0_2, s0_0, s0_1, s0_2, s0_3, s0_5))) = some (r1, r2, r3, r4, r5, r6) := h
  clear h
  by_cases c2 : s0_0 = 1
  · rw [if_pos c2] at H
    have c2b0 : (s0_0 == 1) = true := beq_iff_eq.mpr c2
    have c2b1 : (s0_0 != 1) = false := bne_eq_false_iff_eq.mpr c2
    clear c2
    simp only [Option.some.injEq, Prod.mk.injEq] at H
    obtain ⟨rfl, rfl, rfl, rfl, rfl, rfl⟩ := H
    obtain ⟨ASz3_4, cSz3_4, HGz3, hgz3, HSz3_4⟩ := HI0.out
    have hcz3_0 := cellS24_0 HGz3
    have hcz3_1 := cellS24_1 HGz3
    have hcz3_2 := cellS24_2 HGz3
    have hcz3_3 := cellS24_3 HGz3
    have hcz3_4 := cellS24_4 HGz3
    have hcz3_5 := cellS24_5 HGz3
    have hfz3_0 := blk_frozen HGz3 0
    have hfz3_1 := blk_frozen HGz3 1
    have hfz3_2 := blk_frozen HGz3 2
    have hfz3_3 := blk_frozen HGz3 3
    have hfz3_5 := blk_frozen HGz3 5
    clear HGz3 hgz3
    go_enter Try.func19, Try.ntmps19
    go_wp2
    go_ret
    exact ⟨by first | rfl | (simp [errW_none, errW_some] <;> rfl) | (simp [*, errW_none, errW_some] <;> rfl), by repeat (first | (with_reducible first | exact HI0.out | apply IsS24.alloc | apply IsS24.drewN | apply IsS24.drew | apply IsS24.set_0 | apply IsS24.set_1 | apply IsS24.set_2 | apply IsS24.set_3 | apply IsS24.set_5) | exact HI0.out), by repeat (first | (with_reducible first | exact HB.out | apply below_alloc | apply pw_below_drewN | apply below_drew1 | refine below_set ?_ (IsS24.ge HI0.out)) | exact HB.out), by repeat (first | (with_reducible first | exact HK.out | apply KeepBut.set_ | apply keep_drewN | apply keep_drew | apply keep_alloc) | exact HK.out)⟩
  · rw [if_neg c2] at H
    have c2b0 : (s0_0 == 1) = false := beq_eq_false_iff_ne.mpr c2
    have c2b1 : (s0_0 != 1) = true := bne_iff_ne.mpr c2
    simp only [Option.some.injEq, Prod.mk.injEq] at H
    obtain ⟨rfl, rfl, rfl, rfl, rfl, rfl⟩ := H
    obtain ⟨ASz4_4, cSz4_4, HGz4, hgz4, HSz4_4⟩ := HI0.out
    have hcz4_0 := cellS24_0 HGz4
    have hcz4_1 := cellS24_1 HGz4
    have hcz4_2 := cellS24_2 HGz4
    have hcz4_3 := cellS24_3 HGz4
    have hcz4_4 := cellS24_4 HGz4
    have hcz4_5 := cellS24_5 HGz4
    have hfz4_0 := blk_frozen HGz4 0
    have hfz4_1 := blk_frozen HGz4 1
    have hfz4_2 := blk_frozen HGz4 2
    have hfz4_3 := blk_frozen HGz4 3
    have hfz4_5 := blk_frozen HGz4 5
    clear HGz4 hgz4
    go_enter Try.func19, Try.ntmps19
    go_wp2
    go_ret
    exact ⟨by first | rfl | (simp [errW_none, errW_some] <;> rfl) | (simp [*, errW_none, errW_some] <;> rfl), by repeat (first | (with_reducible first | exact HI0.out | apply IsS24.alloc | apply IsS24.drewN | apply IsS24.drew | apply IsS24.set_0 | apply IsS24.set_1 | apply IsS24.set_2 | apply IsS24.set_3 | apply IsS24.set_5) | exact HI0.out), by repeat (first | (with_reducible first | exact HB.out | apply below_alloc | apply pw_below_drewN | apply below_drew1 | refine below_set ?_ (IsS24.ge HI0.out)) | exact HB.out), by repeat (first | (with_reducible first | exact HK.out | apply KeepBut.set_ | apply keep_drewN | apply keep_drew | apply keep_alloc) | exact HK.out)⟩

/-! ### floor_Div: function 31 -/
def floor_Div.f (a0 : Int) (a1 : Int) : Option (Int × Int) := if a1 < 1 then (some (0, 300)) else (if a1 = 0 then (none) else (if (Int.tmod a0 a1) < 0 then (some (wrap64 ((wrap64 (Int.tdiv a0 a1)) - 1), 0)) else (some (wrap64 (Int.tdiv a0 a1), 0))))
set_option maxHeartbeats 8000000 in
set_option maxRecDepth 100000 in
theorem floor_Div.calls (a0 : Int) (a1 : Int) (r1 : Int) (r2 : Int) (w : World) (h : floor_Div.f a0 a1 = some (r1, r2)) :
    Calls Try.prog 31 #[.int .i64 a0, .int .i64 a1] w fun e w' => e = .returned (.tuple #[.int .i64 r1, .int .i64 r2]) ∧ Drawn0 w w' := by
  have H : (if a1 < 1 then (some (0, 300)) else (if a1 = 0 then (none) else (if (Int.tmod a0 a1) < 0 then (some (wrap64 ((wrap64 (Int.tdiv a0 a1)) - 1), 0)) else (some (wrap64 (Int.tdiv a0 a1), 0))))) = some (r1, r2) := h
  clear h
  by_cases c3 : a1 < 1
  · rw [if_pos c3] at H
    have c3b0 : decide (a1 < 1) = true := decide_eq_true c3
    clear c3
    simp only [Option.some.injEq, Prod.mk.injEq] at H
    obtain ⟨rfl, rfl⟩ := H
    go_enter Try.func31, Try.ntmps31
    go_wp2
    go_ret2
    exact ⟨by first | rfl | (simp; done) | (simp [*]; done), by repeat (first | exact Drawn0.refl _ | apply Drawn0.step)⟩
  · rw [if_neg c3] at H
    have c3b0 : decide (a1 < 1) = false := decide_eq_false c3
    clear c3
    by_cases c4 : a1 = 0
    · rw [if_pos c4] at H
      exact absurd H (by simp)
    · rw [if_neg c4] at H
      have c4b0 : (a1 == 0) = false := beq_eq_false_iff_ne.mpr c4
      have c4b1 : (a1 != 0) = true := bne_iff_ne.mpr c4
      by_cases c5 : (Int.tmod a0 a1) < 0
      · rw [if_pos c5] at H
        have c5b0 : decide ((Int.tmod a0 a1) < 0) = true := decide_eq_true c5
        clear c5
        simp only [Option.some.injEq, Prod.mk.injEq] at H
        obtain ⟨rfl, rfl⟩ := H
        go_enter Try.func31, Try.ntmps31
        go_wp2
        go_ret2
        exact ⟨by first | rfl | (simp; done) | (simp [*]; done), by repeat (first | exact Drawn0.refl _ | apply Drawn0.step)⟩
      · rw [if_neg c5] at H
        have c5b0 : decide ((Int.tmod a0 a1) < 0) = false := decide_eq_false c5
        clear c5
        simp only [Option.some.injEq, Prod.mk.injEq] at H
        obtain ⟨rfl, rfl⟩ := H
        go_enter Try.func31, Try.ntmps31
        go_wp2
        go_ret2
        exact ⟨by first | rfl | (simp; done) | (simp [*]; done), by repeat (first | exact Drawn0.refl _ | apply Drawn0.step)⟩

/-! ### window_LastOf: function 27 -/
def window_LastOf.f (s0_0 : Int) (s0_1 : Int) (s0_2 : Int) (s0_3 : Int) (s0_4 : List Int) (s0_5 : Int) (a1 : Int) : Option (Int × Int × Int × Int × Int × Int) := (window_Step.f s0_0 s0_1 s0_2 s0_3 s0_4 s0_5).bind fun bt106 => ((floor_Div.f a1 bt106.1).bind fun bt112 => ((window_Step.f bt106.2.1 bt106.2.2.1 bt106.2.2.2.1 bt106.2.2.2.2.1 s0_4 bt106.2.2.2.2.2).bind fun bt114 => (some (wrap64 (bt112.1 * bt114.1), bt114.2.1, bt114.2.2.1, bt114.2.2.2.1, bt114.2.2.2.2.1, bt114.2.2.2.2.2))))
set_option maxHeartbeats 8000000 in
set_option maxRecDepth 100000 in
theorem window_LastOf.calls (g : Nat) (s0_0 : Int) (s0_1 : Int) (s0_2 : Int) (s0_3 : Int) (s0_4 : List Int) (s0_5 : Int) (a1 : Int) (r1 : Int) (r2 : Int) (r3 : Int) (r4 : Int) (r5 : Int) (r6 : Int) (w0 w : World) (hI : IsS24 w0 w g s0_0 s0_1 s0_2 s0_3 s0_4 s0_5) (hB : Below w0.heap.size w0 w) (h : window_LastOf.f s0_0 s0_1 s0_2 s0_3 s0_4 s0_5 a1 = some (r1, r2, r3, r4, r5, r6)) :
    Calls Try.prog 27 #[.pointer (some ⟨g, 0, none⟩), .int .i64 a1] w fun e w' => e = .returned (.int .i64 r1) ∧ IsS24 w0 w' g r2 r3 r4 r5 s0_4 r6 ∧ Below w0.heap.size w0 w' ∧ KeepBut w w' g none := by
  have HI0 := Aside0.mk hI
  have HK := Aside0.mk (KeepBut.refl w g none)
  have HL := Aside0.mk hB.size
  clear hI
  have HW0 := Aside0.mk hB.size
  have HB := Aside0.mk hB
  clear hB
  have H : ((window_Step.f s0_0 s0_1 s0_2 s0_3 s0_4 s0_5).bind fun bt106 => ((floor_Div.f a1 bt106.1).bind fun bt112 => ((window_Step.f bt106.2.1 bt106.2.2.1 bt106.2.2.2.1 bt106.2.2.2.2.1 s0_4 bt106.2.2.2.2.2).bind fun bt114 => (some (wrap64 (bt112.1 * bt114.1), bt114.2.1, bt114.2.2.1, bt114.2.2.2.1, bt114.2.2.2.2.1, bt114.2.2.2.2.2))))) = some (r1, r2, r3, r4, r5, r6) := h
  clear h
  replace H := Option.bind_eq_some_iff.mp H
  obtain ⟨⟨t106, t107, t108, t109, t110, t111⟩, A30, H⟩ := H
  replace H : ((floor_Div.f a1 t106).bind fun bt112 => ((window_Step.f t107 t108 t109 t110 s0_4 t111).bind fun bt114 => (some (wrap64 (bt112.1 * bt114.1), bt114.2.1, bt114.2.2.1, bt114.2.2.2.1, bt114.2.2.2.2.1, bt114.2.2.2.2.2)))) = some (r1, r2, r3, r4, r5, r6) := H
  have A3 := Aside0.mk A30
  clear A30
  replace H := Option.bind_eq_some_iff.mp H
  obtain ⟨⟨t112, t113⟩, A40, H⟩ := H
  replace H : ((window_Step.f t107 t108 t109 t110 s0_4 t111).bind fun bt114 => (some (wrap64 (t112 * bt114.1), bt114.2.1, bt114.2.2.1, bt114.2.2.2.1, bt114.2.2.2.2.1, bt114.2.2.2.2.2))) = some (r1, r2, r3, r4, r5, r6) := H
  have A4 := Aside0.mk A40
  clear A40
  replace H := Option.bind_eq_some_iff.mp H
  obtain ⟨⟨t114, t115, t116, t117, t118, t119⟩, A50, H⟩ := H
  replace H : (some (wrap64 (t112 * t114), t115, t116, t117, t118, t119)) = some (r1, r2, r3, r4, r5, r6) := H
  have A5 := Aside0.mk A50
  clear A50
  simp only [Option.some.injEq, Prod.mk.injEq] at H
  obtain ⟨rfl, rfl, rfl, rfl, rfl, rfl⟩ := H
  go_enter Try.func27, Try.ntmps27
  go_wp2_with (first | ((with_reducible refine gate_callee (f := 19) rfl ?_); refine goesL_ (some 10) rfl rfl Try.func19 (by kernel_rfl) rfl #[.pointer (some ⟨g, 0, none⟩)] rfl (by (try simp only [List.map_toArray, List.map_cons, List.map_nil]); first | done | rfl | (simp only [List.length_drop, List.length_take]; rfl)) ?_; (with_reducible refine (window_Step.calls g s0_0 s0_1 s0_2 s0_3 s0_4 s0_5 t106 t107 t108 t109 t110 t111 w0 _ ?side1 ?side2 A3.out).mono ?_); (case side1 => repeat (first | (with_reducible first | exact HI0.out | apply IsS24.alloc | apply IsS24.drewN | apply IsS24.drew | apply IsS24.set_0 | apply IsS24.set_1 | apply IsS24.set_2 | apply IsS24.set_3 | apply IsS24.set_5) | exact HI0.out)); (case side2 => repeat (first | (with_reducible first | exact HB.out | apply below_alloc | apply pw_below_drewN | apply below_drew1 | refine below_set ?_ (IsS24.ge HI0.out)) | exact HB.out)); rintro e w6 ⟨rfl, hi, hb, hk⟩; refine ⟨_, rfl, ?_⟩; have n0_ := Aside0.mk (KeepBut.trans (by repeat (first | (with_reducible first | exact HK.out | apply KeepBut.set_ | apply keep_drewN | apply keep_drew | apply keep_alloc) | exact HK.out)) hk (.inl rfl)); have n1_ := Aside0.mk (hb); have n2_ := Aside0.mk (hi); clear HK; clear HB; clear HI0; have HK := n0_; have HB := n1_; have HI0 := n2_; clear n0_ n1_ n2_; (try clear hb); (try clear hb2); (try clear hk); (try clear hi)) | ((with_reducible refine gate_callee (f := 31) rfl ?_); refine goesL_ (some 11) rfl rfl Try.func31 (by kernel_rfl) rfl #[.int .i64 a1, .int .i64 t106] rfl (by (try simp only [List.map_toArray, List.map_cons, List.map_nil]); first | done | rfl | (simp only [List.length_drop, List.length_take]; rfl)) ?_; (with_reducible refine (floor_Div.calls a1 t106 t112 t113 _ A4.out).mono ?_); rintro e w' ⟨rfl, ⟨nd, rfl⟩⟩; refine ⟨_, rfl, ?_⟩) | ((with_reducible refine gate_callee (f := 19) rfl ?_); refine goesL_ (some 16) rfl rfl Try.func19 (by kernel_rfl) rfl #[.pointer (some ⟨g, 0, none⟩)] rfl (by (try simp only [List.map_toArray, List.map_cons, List.map_nil]); first | done | rfl | (simp only [List.length_drop, List.length_take]; rfl)) ?_; (with_reducible refine (window_Step.calls g t107 t108 t109 t110 s0_4 t111 t114 t115 t116 t117 t118 t119 w0 _ ?side1 ?side2 A5.out).mono ?_); (case side1 => repeat (first | (with_reducible first | exact HI0.out | apply IsS24.alloc | apply IsS24.drewN | apply IsS24.drew | apply IsS24.set_0 | apply IsS24.set_1 | apply IsS24.set_2 | apply IsS24.set_3 | apply IsS24.set_5) | exact HI0.out)); (case side2 => repeat (first | (with_reducible first | exact HB.out | apply below_alloc | apply pw_below_drewN | apply below_drew1 | refine below_set ?_ (IsS24.ge HI0.out)) | exact HB.out)); rintro e w7 ⟨rfl, hi, hb, hk⟩; refine ⟨_, rfl, ?_⟩; have n0_ := Aside0.mk (KeepBut.trans (by repeat (first | (with_reducible first | exact HK.out | apply KeepBut.set_ | apply keep_drewN | apply keep_drew | apply keep_alloc) | exact HK.out)) hk (.inl rfl)); have n1_ := Aside0.mk (hb); have n2_ := Aside0.mk (hi); clear HK; clear HB; clear HI0; have HK := n0_; have HB := n1_; have HI0 := n2_; clear n0_ n1_ n2_; (try clear hb); (try clear hb2); (try clear hk); (try clear hi)))
  go_ret
  exact ⟨by first | rfl | (simp [errW_none, errW_some] <;> rfl) | (simp [*, errW_none, errW_some] <;> rfl), by repeat (first | (with_reducible first | exact HI0.out | apply IsS24.alloc | apply IsS24.drewN | apply IsS24.drew | apply IsS24.set_0 | apply IsS24.set_1 | apply IsS24.set_2 | apply IsS24.set_3 | apply IsS24.set_5) | exact HI0.out), by repeat (first | (with_reducible first | exact HB.out | apply below_alloc | apply pw_below_drewN | apply below_drew1 | refine below_set ?_ (IsS24.ge HI0.out)) | exact HB.out), by repeat (first | (with_reducible first | exact HK.out | apply KeepBut.set_ | apply keep_drewN | apply keep_drew | apply keep_alloc) | exact HK.out)⟩

/-! ### window_FirstOf: function 18 -/
def window_FirstOf.f (s0_0 : Int) (s0_1 : Int) (s0_2 : Int) (s0_3 : Int) (s0_4 : List Int) (s0_5 : Int) (a1 : Int) : Option (Int × Int × Int × Int × Int × Int) := (window_LastOf.f s0_0 s0_1 s0_2 s0_3 s0_4 s0_5 (wrap64 (a1 - s0_2))).bind fun bt120 => ((window_Step.f bt120.2.1 bt120.2.2.1 bt120.2.2.2.1 bt120.2.2.2.2.1 s0_4 bt120.2.2.2.2.2).bind fun bt126 => (some (wrap64 (bt120.1 + bt126.1), bt126.2.1, bt126.2.2.1, bt126.2.2.2.1, bt126.2.2.2.2.1, bt126.2.2.2.2.2)))
set_option maxHeartbeats 8000000 in
set_option maxRecDepth 100000 in
theorem window_FirstOf.calls (g : Nat) (s0_0 : Int) (s0_1 : Int) (s0_2 : Int) (s0_3 : Int) (s0_4 : List Int) (s0_5 : Int) (a1 : Int) (r1 : Int) (r2 : Int) (r3 : Int) (r4 : Int) (r5 : Int) (r6 : Int) (w0 w : World) (hI : IsS24 w0 w g s0_0 s0_1 s0_2 s0_3 s0_4 s0_5) (hB : Below w0.heap.size w0 w) (h : window_FirstOf.f s0_0 s0_1 s0_2 s0_3 s0_4 s0_5 a1 = some (r1, r2, r3, r4, r5, r6)) :
    Calls Try.prog 18 #[.pointer (some ⟨g, 0, none⟩), .int .i64 a1] w fun e w' => e = .returned (.int .i64 r1) ∧ IsS24 w0 w' g r2 r3 r4 r5 s0_4 r6 ∧ Below w0.heap.size w0 w' ∧ KeepBut w w' g none := by
  have HI0 := Aside0.mk hI
  have HK := Aside0.mk (KeepBut.refl w g none)
  have HL := Aside0.mk hB.size
  clear hI
  have HW0 := Aside0.mk hB.size
  have HB := Aside0.mk hB
  clear hB
  have H : ((window_LastOf.f s0_0 s0_1 s0_2 s0_3 s0_4 s0_5 (wrap64 (a1 - s0_2))).bind fun bt120 => ((window_Step.f bt120.2.1 bt120.2.2.1 bt120.2.2.2.1 bt120.2.2.2.2.1 s0_4 bt120.2.2.2.2.2).bind fun bt126 => (some (wrap64 (bt120.1 + bt126.1), bt126.2.1, bt126.2.2.1, bt126.2.2.2.1, bt126.2.2.2.2.1, bt126.2.2.2.2.2)))) = some (r1, r2, r3, r4, r5, r6) := h
  clear h
  replace H := Option.bind_eq_some_iff.mp H
  obtain ⟨⟨t120, t121, t122, t123, t124, t125⟩, A30, H⟩ := H
  replace H : ((window_Step.f t121 t122 t123 t124 s0_4 t125).bind fun bt126 => (some (wrap64 (t120 + bt126.1), bt126.2.1, bt126.2.2.1, bt126.2.2.2.1, bt126.2.2.2.2.1, bt126.2.2.2.2.2))) = some (r1, r2, r3, r4, r5, r6) := H
  have A3 := Aside0.mk A30
  clear A30
  replace H := Option.bind_eq_some_iff.mp H
  obtain ⟨⟨t126, t127, t128, t129, t130, t131⟩, A40, H⟩ := H
  replace H : (some (wrap64 (t120 + t126), t127, t128, t129, t130, t131)) = some (r1, r2, r3, r4, r5, r6) := H
  have A4 := Aside0.mk A40
  clear A40
  simp only [Option.some.injEq, Prod.mk.injEq] at H
  obtain ⟨rfl, rfl, rfl, rfl, rfl, rfl⟩ := H
  obtain ⟨ASz5_4, cSz5_4, HGz5, hgz5, HSz5_4⟩ := HI0.out
  have hcz5_0 := cellS24_0 HGz5
  have hcz5_1 := cellS24_1 HGz5
  have hcz5_2 := cellS24_2 HGz5
  have hcz5_3 := cellS24_3 HGz5
  have hcz5_4 := cellS24_4 HGz5
  have hcz5_5 := cellS24_5 HGz5
  have hfz5_0 := blk_frozen HGz5 0
  have hfz5_1 := blk_frozen HGz5 1
  have hfz5_2 := blk_frozen HGz5 2
  have hfz5_3 := blk_frozen HGz5 3
  have hfz5_5 := blk_frozen HGz5 5
  clear HGz5 hgz5
  go_enter Try.func18, Try.ntmps18
  go_wp2_with (first | ((with_reducible refine gate_callee (f := 27) rfl ?_); refine goesL_ (some 12) rfl rfl Try.func27 (by kernel_rfl) rfl #[.pointer (some ⟨g, 0, none⟩), .int .i64 (wrap64 (a1 - s0_2))] rfl (by (try simp only [List.map_toArray, List.map_cons, List.map_nil]); first | done | rfl | (simp only [List.length_drop, List.length_take]; rfl)) ?_; (with_reducible refine (window_LastOf.calls g s0_0 s0_1 s0_2 s0_3 s0_4 s0_5 (wrap64 (a1 - s0_2)) t120 t121 t122 t123 t124 t125 w0 _ ?side1 ?side2 A3.out).mono ?_); (case side1 => repeat (first | (with_reducible first | exact HI0.out | apply IsS24.alloc | apply IsS24.drewN | apply IsS24.drew | apply IsS24.set_0 | apply IsS24.set_1 | apply IsS24.set_2 | apply IsS24.set_3 | apply IsS24.set_5) | exact HI0.out)); (case side2 => repeat (first | (with_reducible first | exact HB.out | apply below_alloc | apply pw_below_drewN | apply below_drew1 | refine below_set ?_ (IsS24.ge HI0.out)) | exact HB.out)); rintro e w6 ⟨rfl, hi, hb, hk⟩; refine ⟨_, rfl, ?_⟩; have n0_ := Aside0.mk (KeepBut.trans (by repeat (first | (with_reducible first | exact HK.out | apply KeepBut.set_ | apply keep_drewN | apply keep_drew | apply keep_alloc) | exact HK.out)) hk (.inl rfl)); have n1_ := Aside0.mk (hb); have n2_ := Aside0.mk (hi); clear HK; clear HB; clear HI0; have HK := n0_; have HB := n1_; have HI0 := n2_; clear n0_ n1_ n2_; (try clear hb); (try clear hb2); (try clear hk); (try clear hi)) | ((with_reducible refine gate_callee (f := 19) rfl ?_); refine goesL_ (some 14) rfl rfl Try.func19 (by kernel_rfl) rfl #[.pointer (some ⟨g, 0, none⟩)] rfl (by (try simp only [List.map_toArray, List.map_cons, List.map_nil]); first | done | rfl | (simp only [List.length_drop, List.length_take]; rfl)) ?_; (with_reducible refine (window_Step.calls g t121 t122 t123 t124 s0_4 t125 t126 t127 t128 t129 t130 t131 w0 _ ?side1 ?side2 A4.out).mono ?_); (case side1 => repeat (first | (with_reducible first | exact HI0.out | apply IsS24.alloc | apply IsS24.drewN | apply IsS24.drew | apply IsS24.set_0 | apply IsS24.set_1 | apply IsS24.set_2 | apply IsS24.set_3 | apply IsS24.set_5) | exact HI0.out)); (case side2 => repeat (first | (with_reducible first | exact HB.out | apply below_alloc | apply pw_below_drewN | apply below_drew1 | refine below_set ?_ (IsS24.ge HI0.out)) | exact HB.out)); rintro e w7 ⟨rfl, hi, hb, hk⟩; refine ⟨_, rfl, ?_⟩; have n0_ := Aside0.mk (KeepBut.trans (by repeat (first | (with_reducible first | exact HK.out | apply KeepBut.set_ | apply keep_drewN | apply keep_drew | apply keep_alloc) | exact HK.out)) hk (.inl rfl)); have n1_ := Aside0.mk (hb); have n2_ := Aside0.mk (hi); clear HK; clear HB; clear HI0; have HK := n0_; have HB := n1_; have HI0 := n2_; clear n0_ n1_ n2_; (try clear hb); (try clear hb2); (try clear hk); (try clear hi)))
  go_ret
  exact ⟨by first | rfl | (simp [errW_none, errW_some] <;> rfl) | (simp [*, errW_none, errW_some] <;> rfl), by repeat (first | (with_reducible first | exact HI0.out | apply IsS24.alloc | apply IsS24.drewN | apply IsS24.drew | apply IsS24.set_0 | apply IsS24.set_1 | apply IsS24.set_2 | apply IsS24.set_3 | apply IsS24.set_5) | exact HI0.out), by repeat (first | (with_reducible first | exact HB.out | apply below_alloc | apply pw_below_drewN | apply below_drew1 | refine below_set ?_ (IsS24.ge HI0.out)) | exact HB.out), by repeat (first | (with_reducible first | exact HK.out | apply KeepBut.set_ | apply keep_drewN | apply keep_drew | apply keep_alloc) | exact HK.out)⟩

/-! ### window_Of: function 9, by a walk of its own -/
theorem tdiv_pos {a b : Int} (hb : 1 ≤ b) : Int.tdiv a b = a / b + (if Int.tmod a b < 0 then 1 else 0) ∧ Int.tmod a b = a % b - (if Int.tmod a b < 0 then b else 0) ∧ (Int.tmod a b < 0 → 0 < a % b) := by
  have h0 := Int.emod_nonneg a (show b ≠ 0 by omega)
  have h1 := Int.emod_lt_of_pos a (show 0 < b by omega)
  have hs : b.sign = 1 := Int.sign_eq_one_of_pos (by omega)
  have hd := Int.tdiv_eq_ediv (a := a) (b := b)
  have hm := Int.tmod_eq_emod (a := a) (b := b)
  by_cases c : 0 ≤ a ∨ b ∣ a
  · rw [if_pos c] at hd hm
    have hn : ¬ Int.tmod a b < 0 := by omega
    rw [if_neg hn, if_neg hn]
    exact ⟨by omega, by omega, fun h => absurd h hn⟩
  · rw [if_neg c] at hd hm
    have hlt : Int.tmod a b < 0 := by omega
    rw [if_pos hlt, if_pos hlt]
    have hz : a % b ≠ 0 := fun h => c (Or.inr (Int.dvd_of_emod_eq_zero h))
    exact ⟨by omega, by omega, fun _ => by omega⟩
theorem tmod_range {a b : Int} (hb : 1 ≤ b) : -b < Int.tmod a b ∧ Int.tmod a b < b := by
  obtain ⟨hd, hm, hz⟩ := tdiv_pos (a := a) hb
  have h0 := Int.emod_nonneg a (show b ≠ 0 by omega)
  have hl := Int.emod_lt_of_pos a (show 0 < b by omega)
  split at hm <;> omega
theorem div_bound {a b : Int} (hb : 1 ≤ b) (h1 : -9223372036854775808 ≤ a) (h2 : a ≤ 9223372036854775807) : -9223372036854775808 ≤ a / b ∧ a / b ≤ 9223372036854775807 := by
  have e := Int.mul_ediv_add_emod a b
  have h0 := Int.emod_nonneg a (show b ≠ 0 by omega)
  have hl := Int.emod_lt_of_pos a (show 0 < b by omega)
  constructor
  · exact Int.le_ediv_of_mul_le (by omega) (by omega)
  · by_cases h : 0 ≤ a
    · exact Int.le_trans (Int.ediv_le_self b h) h2
    · have : a / b < 0 := Int.ediv_neg_of_neg_of_pos (by omega) (by omega)
      omega
theorem div_eq {a b : Int} (hb : 1 ≤ b) (h1 : -9223372036854775808 ≤ a) (h2 : a ≤ 9223372036854775807) : floor_Div.f a b = some (a / b, 0) := by
  obtain ⟨hd, hm, hz⟩ := tdiv_pos (a := a) hb
  obtain ⟨g1, g2⟩ := div_bound hb h1 h2
  unfold floor_Div.f
  rw [if_neg (by omega), if_neg (by omega)]
  by_cases c : Int.tmod a b < 0
  · have hq : a / b + 1 ≤ 9223372036854775807 := by
      have : ¬ 0 ≤ a := fun h => by
        have := Int.tmod_nonneg b h
        omega
      have : a / b < 0 := Int.ediv_neg_of_neg_of_pos (by omega) (by omega)
      omega
    rw [if_pos c] at hd
    rw [if_pos c, hd, w64_id (n := a / b + 1) (by omega) (by omega), w64_id (by omega) (by omega)]
    congr 2; omega
  · rw [if_neg c] at hd
    rw [if_neg c, hd, w64_id (by omega) (by omega)]
    congr 2; omega
/-- So many windows, the first one's begin, how far they are apart, their length. -/
def spans (s k m : Int) (n : Nat) : List S38 := (List.range n).map fun (j : Nat) => ⟨s + (j : Int) * k, s + (j : Int) * k + m⟩
theorem spans_snoc (s k m : Int) (n : Nat) : spans s k m (n + 1) = spans s k m n ++ [⟨s + (n : Int) * k, s + (n : Int) * k + m⟩] := by
  unfold spans; rw [List.range_succ, List.map_append]; rfl
theorem spans_len (s k m : Int) (n : Nat) : (spans s k m n).length = n := by unfold spans; simp
def wstep (kind size slide : Int) : Int := if kind = 1 then slide else size
def wfirst (k m t : Int) : Int := (t - m) / k * k + k
def wmany (k m t : Int) : Nat := ((t - wfirst k m t) / k + 1).toNat
/-- May these windows be asked for? -/
def wMay (kind agg size slide : Int) (bs : List Int) (rank t : Int) : Bool := qMay kind agg size slide bs rank && decide (kind ≠ 2 ∧ -1099511627776 ≤ t ∧ t ≤ 1099511627776)
def winL (kind agg size slide : Int) (bs : List Int) (rank t : Int) : List S38 × Int :=
  if wMay kind agg size slide bs rank t = true then (spans (wfirst (wstep kind size slide) size t) (wstep kind size slide) size (wmany (wstep kind size slide) size t), 0) else ([], 400)
theorem wfirst_in (k m t : Int) (hk : 1 ≤ k) : t - m < wfirst k m t ∧ wfirst k m t ≤ t - m + k := by
  unfold wfirst
  have h1 := Int.ediv_mul_le (t - m) (show k ≠ 0 by omega)
  have h2 := Int.lt_ediv_add_one_mul_self (t - m) (show 0 < k by omega)
  rw [Int.add_mul, Int.one_mul] at h2
  omega
theorem wmany_le (k m t : Int) (hk : 1 ≤ k) (hkm : k ≤ m) (j : Nat) : wfirst k m t + (j : Int) * k ≤ t ↔ j < wmany k m t := by
  have hf := wfirst_in k m t hk
  unfold wmany
  generalize wfirst k m t = s at *
  have h0 : 0 ≤ (t - s) / k := Int.ediv_nonneg (by omega) (by omega)
  have h1 := Int.ediv_mul_le (t - s) (show k ≠ 0 by omega)
  have h2 := Int.lt_ediv_add_one_mul_self (t - s) (show 0 < k by omega)
  generalize (t - s) / k = D at *
  constructor
  · intro h
    by_cases c : (j : Int) ≤ D
    · omega
    · have := Int.mul_le_mul_of_nonneg_right (show D + 1 ≤ (j : Int) by omega) (show 0 ≤ k by omega)
      omega
  · intro h
    have := Int.mul_le_mul_of_nonneg_right (show (j : Int) ≤ D by omega) (show 0 ≤ k by omega)
    omega
theorem qMay_parts {kind agg size slide rank : Int} {bs : List Int} (h : qMay kind agg size slide bs rank = true) :
    1 ≤ size ∧ size ≤ 1073741824 ∧ aMay agg bs rank = true ∧ ((kind = 1 ∧ 1 ≤ slide ∧ slide ≤ size ∧ (size - 1) / slide < 64 ∧ size / ((Nat.gcd size.toNat slide.toNat : Nat) : Int) ≤ 256) ∨ ((kind = 0 ∨ kind = 2) ∧ slide = 0)) := by
  unfold qMay at h
  rw [Bool.and_eq_true, Bool.and_eq_true, decide_eq_true_eq] at h
  obtain ⟨⟨h1, h2⟩, h3, h4⟩ := h
  refine ⟨h1, h2, h3, ?_⟩
  by_cases c : kind = 1
  · rw [if_pos c] at h4
    unfold sMay at h4
    exact .inl ⟨c, of_decide_eq_true h4⟩
  · rw [if_neg c] at h4
    exact .inr (of_decide_eq_true h4)
/-- How far windows are apart: from 1 on, at most their length, of which it is a part of 64 or more. -/
theorem wstep_in {kind agg size slide rank : Int} {bs : List Int} (h : qMay kind agg size slide bs rank = true) (hk : kind ≠ 2) : 1 ≤ wstep kind size slide ∧ wstep kind size slide ≤ size ∧ size ≤ 1073741824 ∧ (size - 1) / wstep kind size slide < 64 := by
  obtain ⟨h1, h2, _, h3⟩ := qMay_parts h
  unfold wstep
  rcases h3 with ⟨rfl, a, b, c, _⟩ | ⟨h3, rfl⟩
  · rw [if_pos rfl]; exact ⟨a, b, h2, c⟩
  · rw [if_neg (by omega)]
    refine ⟨h1, Int.le_refl _, h2, ?_⟩
    rw [Int.ediv_eq_zero_of_lt (by omega) (by omega)]
    omega
theorem wmany_64 (k m t : Int) (hk : 1 ≤ k) (hkm : k ≤ m) (h64 : (m - 1) / k < 64) : wmany k m t ≤ 64 := by
  have hf := wfirst_in k m t hk
  unfold wmany
  have h := Int.ediv_le_ediv (show 0 < k by omega) (show t - wfirst k m t ≤ m - 1 by omega)
  omega
theorem step_eq (a0 a1 a2 a3 : Int) (bs : List Int) (a5 : Int) : window_Step.f a0 a1 a2 a3 bs a5 = some (wstep a0 a2 a3, a0, a1, a2, a3, a5) := by
  unfold window_Step.f wstep
  by_cases c : a0 = 1
  · rw [if_pos c, if_pos c]
  · rw [if_neg c, if_neg c]
theorem last_eq (a0 a1 a2 a3 : Int) (bs : List Int) (a5 t : Int) (hk : 1 ≤ wstep a0 a2 a3) (hk2 : wstep a0 a2 a3 ≤ 1073741824) (h1 : -2199023255552 ≤ t) (h2 : t ≤ 2199023255552) : window_LastOf.f a0 a1 a2 a3 bs a5 t = some (t / wstep a0 a2 a3 * wstep a0 a2 a3, a0, a1, a2, a3, a5) := by
  unfold window_LastOf.f
  rw [step_eq, Option.bind_some]
  dsimp only
  have h1' := Int.ediv_mul_le t (show wstep a0 a2 a3 ≠ 0 by omega)
  have h2' := Int.lt_ediv_add_one_mul_self t (show 0 < wstep a0 a2 a3 by omega)
  rw [Int.add_mul, Int.one_mul] at h2'
  rw [div_eq hk (by omega) (by omega), Option.bind_some, step_eq, Option.bind_some]
  dsimp only
  rw [w64_id (by omega) (by omega)]
theorem first_eq (a0 a1 a2 a3 : Int) (bs : List Int) (a5 t : Int) (hk : 1 ≤ wstep a0 a2 a3) (hk2 : wstep a0 a2 a3 ≤ a2) (hm : a2 ≤ 1073741824) (h1 : -1099511627776 ≤ t) (h2 : t ≤ 1099511627776) : window_FirstOf.f a0 a1 a2 a3 bs a5 t = some (wfirst (wstep a0 a2 a3) a2 t, a0, a1, a2, a3, a5) := by
  unfold window_FirstOf.f
  have hf := wfirst_in (wstep a0 a2 a3) a2 t hk
  rw [w64_id (n := t - a2) (by omega) (by omega), last_eq a0 a1 a2 a3 bs a5 (t - a2) hk (by omega) (by omega) (by omega), Option.bind_some]
  dsimp only
  rw [step_eq, Option.bind_some]
  dsimp only
  have e : (t - a2) / wstep a0 a2 a3 * wstep a0 a2 a3 + wstep a0 a2 a3 = wfirst (wstep a0 a2 a3) a2 t := rfl
  rw [e, w64_id (by omega) (by omega)]
def window_Of.f (a0_0 : Int) (a0_1 : Int) (a0_2 : Int) (a0_3 : Int) (l0_4 : List Int) (a0_5 : Int) (a1 : Int) : Option ((List (S38)) × Int) := some (winL a0_0 a0_1 a0_2 a0_3 l0_4 a0_5 a1)
theorem time_eq (t : Int) : window_TimeMay.f t = some (decide (-1099511627776 ≤ t ∧ t ≤ 1099511627776)) := by
  unfold window_TimeMay.f
  by_cases c : t ≥ -1099511627776
  · rw [if_pos c]; congr 1; exact decide_eq_decide.2 (by omega)
  · rw [if_neg c]; congr 1; symm; exact decide_eq_false (by omega)
attribute [irreducible] spans wstep wfirst wmany
set_option maxHeartbeats 8000000 in
set_option maxRecDepth 100000 in
theorem window_Of.calls (a0_0 : Int) (a0_1 : Int) (a0_2 : Int) (a0_3 : Int) (A0_4 : Option Addr) (c0_4 : Nat) (l0_4 : List Int) (a0_5 : Int) (a1 : Int) (r1 : List (S38)) (r2 : Int) (w : World) (hr0_4 : Kd.C (Kd.int .i64) w A0_4 l0_4.length l0_4) (hc0_4 : l0_4.length ≤ c0_4) (h : window_Of.f a0_0 a0_1 a0_2 a0_3 l0_4 a0_5 a1 = some (r1, r2)) :
    Calls Try.prog 9 #[.agg #[.int .i64 a0_0, .int .i64 a0_1, .int .i64 a0_2, .int .i64 a0_3, .slice A0_4 l0_4.length c0_4, .int .i64 a0_5], .int .i64 a1] w fun e w' => ∃ v0_ : Value, e = .returned (.tuple #[v0_, .int .i64 r2]) ∧ Kd.R k38 38 w' w.heap.size (fun _ => True) v0_ r1 ∧ Below w.heap.size w w' := by
  replace h := Option.some.inj h
  have HI : Aside0 (IsS24 w (w.alloc (.cells #[.int .i64 a0_0, .int .i64 a0_1, .int .i64 a0_2, .int .i64 a0_3, .slice A0_4 l0_4.length c0_4, .int .i64 a0_5] 24 (0, 0))) w.heap.size a0_0 a0_1 a0_2 a0_3 l0_4 a0_5) :=
    ⟨⟨A0_4, c0_4, by show (w.heap.push _)[w.heap.size]? = _; simp, Nat.le_refl _, hr0_4⟩⟩
  have HB : Aside0 (Below w.heap.size w (w.alloc (.cells #[.int .i64 a0_0, .int .i64 a0_1, .int .i64 a0_2, .int .i64 a0_3, .slice A0_4 l0_4.length c0_4, .int .i64 a0_5] 24 (0, 0)))) := ⟨below_alloc (Below.refl _ _) _⟩
  have HR := Aside0.mk hr0_4
  have HC := Aside0.mk hc0_4
  clear hr0_4 hc0_4
  have A1 := Aside0.mk (show window_May.f a0_0 a0_1 a0_2 a0_3 l0_4 a0_5 = some (qMay a0_0 a0_1 a0_2 a0_3 l0_4 a0_5) from rfl)
  unfold winL wMay at h
  have hin := @wstep_in a0_0 a0_1 a0_2 a0_3 a0_5 l0_4
  generalize qMay a0_0 a0_1 a0_2 a0_3 l0_4 a0_5 = mv at *
  cases mv with
  | false =>
    rw [Bool.false_and, if_neg (by decide)] at h
    obtain ⟨rfl, rfl⟩ := Prod.mk.inj h
    clear h hin
    go_enter Try.func9, Try.ntmps9
    go_wp2_with fail
    refine (window_May.calls a0_0 a0_1 a0_2 a0_3 A0_4 c0_4 l0_4 a0_5 false _ (Kd.C_below HR.out HB.out) HC.out A1.out).mono ?_
    rintro e w1 ⟨rfl, hb1⟩
    have HB2 := Aside0.mk (below_step HB.out hb1)
    clear hb1
    go_wp2_with fail
    go_ret2
    exact ⟨_, rfl, Kd.R_nil _ _ _ _ _, HB2.out⟩
  | true =>
    rw [Bool.true_and] at h
    by_cases k2 : a0_0 = 2
    · rw [decide_eq_false (by omega), if_neg (by decide)] at h
      obtain ⟨rfl, rfl⟩ := Prod.mk.inj h
      have e2 : (a0_0 == 2) = true := beq_iff_eq.2 k2
      clear h hin k2
      go_enter Try.func9, Try.ntmps9
      go_wp2_with fail
      refine (window_May.calls a0_0 a0_1 a0_2 a0_3 A0_4 c0_4 l0_4 a0_5 true _ (Kd.C_below HR.out HB.out) HC.out A1.out).mono ?_
      rintro e w1 ⟨rfl, hb1⟩
      have HI2 := Aside0.mk (HI.out.below hb1)
      have HB2 := Aside0.mk (below_step HB.out hb1)
      obtain ⟨A4, c4, hb, _, _⟩ := HI2.out
      have q0 := blk_cell hb 0
      clear hb1 hb
      simp at q0
      go_wp2_with fail
      go_ret2
      exact ⟨_, rfl, Kd.R_nil _ _ _ _ _, HB2.out⟩
    · have e2 : (a0_0 == 2) = false := beq_eq_false_iff_ne.2 k2
      have A2 := Aside0.mk (time_eq a1)
      by_cases c : -1099511627776 ≤ a1 ∧ a1 ≤ 1099511627776
      · rw [decide_eq_true ⟨k2, c⟩, if_pos rfl] at h
        rw [decide_eq_true c] at A2
        obtain ⟨rfl, rfl⟩ := Prod.mk.inj h
        obtain ⟨s1, s2, s3, s4⟩ := hin rfl k2
        have A3 := Aside0.mk (first_eq a0_0 a0_1 a0_2 a0_3 l0_4 a0_5 a1 s1 s2 s3 c.1 c.2)
        have A4 := Aside0.mk (step_eq a0_0 a0_1 a0_2 a0_3 l0_4 a0_5)
        have hf := wfirst_in (wstep a0_0 a0_2 a0_3) a0_2 a1 s1
        have h64 := wmany_64 (wstep a0_0 a0_2 a0_3) a0_2 a1 s1 s2 s4
        have hle := Aside0.mk (wmany_le (wstep a0_0 a0_2 a0_3) a0_2 a1 s1 s2)
        obtain ⟨t0, t1⟩ := c
        generalize wmany (wstep a0_0 a0_2 a0_3) a0_2 a1 = N at *
        generalize wfirst (wstep a0_0 a0_2 a0_3) a0_2 a1 = s at *
        generalize wstep a0_0 a0_2 a0_3 = k at *
        clear h hin k2 s4
        go_enter Try.func9, Try.ntmps9
        go_wp2_with fail
        refine (window_May.calls a0_0 a0_1 a0_2 a0_3 A0_4 c0_4 l0_4 a0_5 true _ (Kd.C_below HR.out HB.out) HC.out A1.out).mono ?_
        rintro e w1 ⟨rfl, hb1⟩
        have HI2 := Aside0.mk (HI.out.below hb1)
        have HB2 := Aside0.mk (below_step HB.out hb1)
        obtain ⟨Aq, cq, hb, _, _⟩ := HI2.out
        have q0 := blk_cell hb 0
        clear hb1 hb
        simp at q0
        go_wp2_with fail
        refine (window_TimeMay.calls a1 true _ A2.out).mono ?_
        rintro e w2 ⟨rfl, hd⟩
        have HI3 := Aside0.mk (HI2.out.below hd.below)
        have HB3 := Aside0.mk (below_step HB2.out hd.below)
        clear hd q0 HI2 HB2
        go_wp2_with fail
        refine (window_FirstOf.calls w.heap.size _ _ _ _ _ _ _ _ _ _ _ _ _ w _ HI3.out HB3.out A3.out).mono ?_
        rintro e w3 ⟨rfl, hi4, hb4, _⟩
        have HI4 := Aside0.mk hi4
        have HB4 := Aside0.mk hb4
        clear hi4 hb4 HI3 HB3 HI HB
        go_wp2_with fail
        go_loopw [6, 7] (fun out sv wr => ∃ j : Nat, j ≤ N ∧ sv = .int .i64 (s + (j : Int) * k) ∧ Aside0 (Kd.R k38 38 wr w.heap.size (fun _ => True) out (spans s k a0_2 j)) ∧ Aside0 (IsS24 w wr w.heap.size a0_0 a0_1 a0_2 a0_3 l0_4 a0_5) ∧ Aside0 (Below w.heap.size w wr)) (fun _ sv _ => (a1 + 1 - intOf sv).toNat)
        case atStart => exact ⟨0, Nat.zero_le _, by simp, ⟨by unfold spans; exact Kd.R_nil _ _ _ _ _⟩, HI4, HB4⟩
        case round =>
          clear HI4 HB4
          obtain ⟨j, hj, rfl, HO, HI, HB⟩ := hrel
          have hjl := hle.out j
          have hsn := Aside0.mk (spans_snoc s k a0_2 j)
          have hsl := Aside0.mk (spans_len s k a0_2 j)
          have hnx : Aside0 (s + ((j + 1 : Nat) : Int) * k = s + (j : Int) * k + k) := ⟨by rw [Int.natCast_add, Int.add_mul]; omega⟩
          have hj0 : 0 ≤ (j : Int) * k := Int.mul_nonneg (by omega) (by omega)
          by_cases hlt : j < N
          · have b1 : s + (j : Int) * k ≤ a1 := hjl.2 hlt
            have e1 := decide_eq_true b1
            clear hjl
            generalize (j : Int) * k = jk at *
            have hat1 : -1099511627776 - 1073741824 ≤ s + jk := by omega
            have hat2 : s + jk ≤ 1099511627776 := by omega
            generalize s + jk = at_ at *
            obtain ⟨Aq, cq, hb, _, _⟩ := HI.out
            have q2 := blk_cell hb 2
            have BK := Aside0.mk hb
            clear hb
            simp at q2
            go_wp2_with (first
              | ((with_reducible refine gate_builtin (b := .append) (xs := #[.tmp 29, .tmp 36]) rfl ?_); at_builtin; refine Kd.R_append k38 (w0 := w) w.heap.size rfl (.tmp 29) (.tmp 36) 25 38 (.agg #[(.int .i64 0), (.int .i64 0)]) 16 rfl Try.underlying25 info38 rfl (by decide) (by omega) u6 (spans s k a0_2 j) (⟨at_, at_ + a0_2⟩ : S38) [.int .i64 at_, .int .i64 (at_ + a0_2)] (fun _ => True) (fun _ => False) rfl rfl ?aP (fun _ hk => hk.elim) ?aF ?aO ?aB ?aS ?aL ?_; (case aP => exact k38_mkM _ _ _ (⟨at_, at_ + a0_2⟩ : S38)); (case aB => exact HB.out); (case aF => exact (fun _ _ => trivial)); (case aO => exact HO.out); (case aS => exact HB.out.size); (case aL => rw [hsl.out]; omega); intro v1 w4 ho hb hg hat; have n0_ := Aside0.mk (HI.out.grown hg (Kd.R_ne HO.out BK.out (by decide))); have n1_ := Aside0.mk hb; have n2_ := Aside0.mk ho; clear ho hb hg hat)
              | (go_at_call 19; (with_reducible refine (window_Step.calls w.heap.size _ _ _ _ _ _ _ _ _ _ _ _ w _ n0_.out n1_.out A4.out).mono ?_); rintro e w5 ⟨rfl, hi5, hb5, hk5⟩; have m0_ := Aside0.mk hi5; have m1_ := Aside0.mk hb5; have m2_ := Aside0.mk (Kd.R_mono (Kd.R_keep (n0_.out.apart n2_.out (by decide)) hk5 (fun _ h => h.2)) (fun _ _ => trivial)); clear hi5 hb5 hk5))
            go_roundw
            case rel => exact ⟨j + 1, by omega, by rw [hnx.out], ⟨by rw [hsn.out]; exact m2_.out⟩, m0_, m1_⟩
            case measure => simp [intOf]; omega
          · have b1 : ¬ s + (j : Int) * k ≤ a1 := fun h => hlt (hjl.1 h)
            obtain rfl : j = N := by omega
            have e1 := decide_eq_false b1
            clear hjl hlt
            generalize (j : Int) * k = jk at *
            go_wp2_with fail
            go_ret2
            exact ⟨_, rfl, HO.out, HB.out⟩
      · rw [decide_eq_false (fun h => c h.2), if_neg (by decide)] at h
        rw [decide_eq_false c] at A2
        obtain ⟨rfl, rfl⟩ := Prod.mk.inj h
        clear h hin k2 c
        go_enter Try.func9, Try.ntmps9
        go_wp2_with fail
        refine (window_May.calls a0_0 a0_1 a0_2 a0_3 A0_4 c0_4 l0_4 a0_5 true _ (Kd.C_below HR.out HB.out) HC.out A1.out).mono ?_
        rintro e w1 ⟨rfl, hb1⟩
        have HI2 := Aside0.mk (HI.out.below hb1)
        have HB2 := Aside0.mk (below_step HB.out hb1)
        obtain ⟨A4, c4, hb, _, _⟩ := HI2.out
        have q0 := blk_cell hb 0
        clear hb1 hb
        simp at q0
        go_wp2_with fail
        refine (window_TimeMay.calls a1 false _ A2.out).mono ?_
        rintro e w2 ⟨rfl, hd⟩
        have HB3 := Aside0.mk (below_step HB2.out hd.below)
        clear hd
        go_wp2_with fail
        go_ret2
        exact ⟨_, rfl, Kd.R_nil _ _ _ _ _, HB3.out⟩
theorem window_Of.calls_nil (a0_0 : Int) (a0_1 : Int) (a0_2 : Int) (a0_3 : Int) (a0_5 : Int) (a1 : Int) (r1 : List (S38)) (r2 : Int) (w : World) (h : window_Of.f a0_0 a0_1 a0_2 a0_3 ([] : List Int) a0_5 a1 = some (r1, r2)) :
    Calls Try.prog 9 #[.agg #[.int .i64 a0_0, .int .i64 a0_1, .int .i64 a0_2, .int .i64 a0_3, .slice none 0 0, .int .i64 a0_5], .int .i64 a1] w fun e w' => ∃ v0_ : Value, e = .returned (.tuple #[v0_, .int .i64 r2]) ∧ Kd.R k38 38 w' w.heap.size (fun _ => True) v0_ r1 ∧ Below w.heap.size w w' :=
  window_Of.calls a0_0 a0_1 a0_2 a0_3 none 0 [] a0_5 a1 r1 r2 w (Kd.C_nil _ _) (Nat.le_refl _) h

/-! ### bournelaw0_Num: function 12 -/
def bournelaw0_Num.f (a0 : Int) : Option (Int) := some a0
set_option maxHeartbeats 8000000 in
set_option maxRecDepth 100000 in
theorem bournelaw0_Num.calls (a0 : Int) (r : Int) (w : World) (h : bournelaw0_Num.f a0 = some r) :
    Calls Try.prog 12 #[.int .i64 a0] w fun e w' => e = .returned (.int .i64 r) ∧ Drawn0 w w' := by
  have H : (some a0) = some r := h
  clear h
  obtain rfl := Option.some.inj H
  go_enter Try.func12, Try.ntmps12
  go_wp2
  go_ret
  exact ⟨by first | rfl | (simp; done) | (simp [*]; done), by repeat (first | exact Drawn0.refl _ | apply Drawn0.step)⟩

end Go.Proofs.Ytejgmbpcnabgjaa.QWindowForms
