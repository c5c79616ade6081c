-- Written by a program of this session (wip/myprint.py), over the words of the print
import Derived.Test.YtcbckolcmfbjhaaQAdmitFormsx0
import Derived.Test.YtcbckolcmfbjhaaQAdmitFormsx1
import Derived.Shelf.Abstract
namespace Go.Proofs.Ytcbckolcmfbjhaa.QAdmitForms
open Go.RowKit Go.Proofs.YtcbckolcmfbjhaaW.PrintWords Go.Proofs.YtcbckolcmfbjhaaW.PrintLast Go.Proofs.YtcbckolcmfbjhaaW.PrintMore
attribute [local go_sem] max2_int min2_int max_two min_two max_three min_three max_four min_four   -- for this text's walks alone
set_option linter.unusedVariables false
set_option linter.unusedSimpArgs false

/-! ### window_May: function 21, by a walk of its own -/
theorem w64_id {n : Int} (h1 : -9223372036854775808 ≤ n) (h2 : n ≤ 9223372036854775807) : wrap64 n = n := by unfold wrap64; omega
/-- May a bound be, at its place? -/
def gAt (bs : List Int) (i : Nat) : Bool := decide (-1099511627776 ≤ bs.getD i 0 ∧ bs.getD i 0 ≤ 1099511627776 ∧ (0 < i → bs.getD (i - 1) 0 < bs.getD i 0))
/-- May all be from a place on, so many? -/
def gFrom (bs : List Int) : Nat → Nat → Bool
  | 0, _ => true
  | d + 1, i => gAt bs i && gFrom bs d (i + 1)
theorem gFrom_zero (bs : List Int) (i : Nat) : gFrom bs 0 i = true := rfl
theorem gFrom_succ (bs : List Int) (d i : Nat) : gFrom bs (d + 1) i = (gAt bs i && gFrom bs d (i + 1)) := rfl
/-- May bounds be? -/
def bMay (bs : List Int) : Bool := decide (bs.length ≤ 8) && gFrom bs bs.length 0
def aMay (agg : Int) (bs : List Int) (rank : Int) : Bool := decide (0 ≤ agg ∧ agg ≤ 7 ∧ (agg = 7 ∨ rank = 0) ∧ 0 ≤ rank ∧ rank ≤ 1000 ∧ (6 ≤ agg ↔ 0 < bs.length)) && bMay bs
def sMay (size slide : Int) : Bool := decide (1 ≤ slide ∧ slide ≤ size ∧ (size - 1) / slide < 64 ∧ size / ((Nat.gcd size.toNat slide.toNat : Nat) : Int) ≤ 256)
/-- May a query be? -/
def qMay (kind agg size slide : Int) (bs : List Int) (rank : Int) : Bool :=
  decide (1 ≤ size ∧ size ≤ 1073741824) && (aMay agg bs rank && (if kind = 1 then sMay size slide else decide ((kind = 0 ∨ kind = 2) ∧ slide = 0)))
theorem within_eq (a : Int) : acc_within.f a 1099511627776 = some (decide (-1099511627776 ≤ a ∧ a ≤ 1099511627776)) := by
  unfold acc_within.f
  rw [w64_id (by omega) (by omega)]
  by_cases c : a ≥ -1099511627776
  · rw [if_pos c]; congr 1; exact decide_eq_decide.2 (by omega)
  · rw [if_neg c]; congr 1; symm; exact decide_eq_false (by omega)
theorem bounds_l0 (bs : List Int) (hn : bs.length ≤ 8) (d : Nat) : ∀ (k i : Nat), i + d = bs.length → d < k → acc_BoundsMay.l0 k bs bs (bs.length : Int) (i : Int) = some (gFrom bs d i) := by
  induction d with
  | zero =>
    intro k i hi hk
    obtain ⟨k, rfl⟩ : ∃ m, k = m + 1 := ⟨k - 1, by omega⟩
    simp only [acc_BoundsMay.l0]
    rw [if_neg (by omega)]
    rfl
  | succ d ih =>
    intro k i hi hk
    obtain ⟨k, rfl⟩ : ∃ m, k = m + 1 := ⟨k - 1, by omega⟩
    simp only [acc_BoundsMay.l0]
    rw [if_pos (by omega), if_pos (by omega), if_pos (by omega), within_eq, Option.bind_some]
    have e : rd bs (i : Int) = bs.getD i 0 := by unfold rd; rw [Int.toNat_natCast]
    have ih := ih k (i + 1) (by omega) (by omega)
    have w1 : wrap64 ((i : Int) + 1) = ((i + 1 : Nat) : Int) := by rw [w64_id (by omega) (by omega)]; omega
    rw [e]
    show _ = some (gAt bs i && gFrom bs d (i + 1))
    unfold gAt
    by_cases c : -1099511627776 ≤ bs.getD i 0 ∧ bs.getD i 0 ≤ 1099511627776
    · rw [if_pos (decide_eq_true c)]
      by_cases c0 : 0 < i
      · have w2 : wrap64 ((i : Int) - 1) = ((i - 1 : Nat) : Int) := by rw [w64_id (by omega) (by omega)]; omega
        have e2 : rd bs ((i - 1 : Nat) : Int) = bs.getD (i - 1) 0 := by unfold rd; rw [Int.toNat_natCast]
        rw [if_pos (by omega), w2, if_pos (by omega), if_pos (by omega), e2]
        by_cases c1 : bs.getD (i - 1) 0 ≥ bs.getD i 0
        · rw [if_pos c1, decide_eq_false (fun h => by have := h.2.2 c0; omega), Bool.false_and]
        · rw [if_neg c1, w1, ih, decide_eq_true ⟨c.1, c.2, fun _ => by omega⟩, Bool.true_and]
      · rw [if_neg (by omega), w1, ih, decide_eq_true ⟨c.1, c.2, fun h => absurd h c0⟩, Bool.true_and]
    · rw [decide_eq_false c, if_neg (by decide), decide_eq_false (fun h => c ⟨h.1, h.2.1⟩), Bool.false_and]
theorem bounds_eq (bs : List Int) (k : Nat) (hk : 9 ≤ k) : acc_BoundsMay.f k bs = some (bMay bs) := by
  unfold acc_BoundsMay.f bMay
  by_cases c : (bs.length : Int) > 8
  · rw [if_pos c, decide_eq_false (by omega), Bool.false_and]
  · have h := bounds_l0 bs (by omega) bs.length k 0 (by omega) (by omega)
    rw [if_neg c, decide_eq_true (by omega), Bool.true_and]
    exact h
theorem asks_eq (a0 a1 a2 a3 : Int) (bs : List Int) (a5 : Int) (k : Nat) (hk : 9 ≤ k) : window_asks.f k a0 a1 a2 a3 bs a5 = some (aMay a1 bs a5, a0, a1, a2, a3, a5) := by
  unfold window_asks.f aMay
  by_cases c : a1 < 0 ∨ 7 < a1 ∨ (a1 ≠ 7 ∧ a5 ≠ 0) ∨ a5 < 0 ∨ 1000 < a5
  · rw [if_pos c, decide_eq_false (by omega), Bool.false_and]
  · rw [if_neg c]
    by_cases d : 6 ≤ a1 ↔ 0 < bs.length
    · rw [if_pos d, bounds_eq bs k hk, Option.bind_some, decide_eq_true ⟨by omega, by omega, by omega, by omega, by omega, d⟩, Bool.true_and]
    · rw [if_neg d, decide_eq_false (fun h => d h.2.2.2.2.2), Bool.false_and]
theorem w_gcd_l0 (n : Nat) : ∀ (a b : Nat), b ≤ n → ∀ k, n < k → floor_Gcd.l0 k (a : Int) (b : Int) = some (((Nat.gcd a b : Nat) : Int), 0) := by
  induction n with
  | zero =>
    intro a b hb k hk
    obtain ⟨k, rfl⟩ : ∃ m, k = m + 1 := ⟨k - 1, by omega⟩
    obtain rfl : b = 0 := by omega
    simp only [floor_Gcd.l0]; rw [if_neg (by omega), Nat.gcd_zero_right]
  | succ n ih =>
    intro a b hb k hk
    obtain ⟨k, rfl⟩ : ∃ m, k = m + 1 := ⟨k - 1, by omega⟩
    by_cases h : b = 0
    · subst h
      simp only [floor_Gcd.l0]; rw [if_neg (by omega), Nat.gcd_zero_right]
    · simp only [floor_Gcd.l0]; rw [if_pos (by omega), if_neg (by omega), ← Int.ofNat_tmod]
      have hlt := Nat.mod_lt a (show b > 0 by omega)
      rw [ih b (a % b) (by omega) k (by omega)]
      congr 3
      rw [Nat.gcd_comm b (a % b), ← Nat.gcd_rec, Nat.gcd_comm]
theorem w_gcd_eq {a b : Int} (ha : 1 ≤ a) (hb : 1 ≤ b) (k : Nat) (hk : b.toNat + 2 ≤ k) : floor_Gcd.f k a b = some (((Nat.gcd a.toNat b.toNat : Nat) : Int), 0) := by
  unfold floor_Gcd.f
  obtain ⟨k, rfl⟩ : ∃ m, k = m + 1 := ⟨k - 1, by omega⟩
  rw [if_neg (by omega), decide_eq_false (by omega)]
  simp only [floor_Gcd.j0]
  have h := w_gcd_l0 b.toNat a.toNat b.toNat (Nat.le_refl _) k (by omega)
  rw [Int.toNat_of_nonneg (by omega), Int.toNat_of_nonneg (by omega)] at h
  simpa using h
theorem gcd_pos {a b : Int} (ha : 1 ≤ a) : 1 ≤ ((Nat.gcd a.toNat b.toNat : Nat) : Int) := by
  have := Nat.gcd_pos_of_pos_left b.toNat (show 0 < a.toNat by omega)
  omega
theorem sliding_eq (a0 a1 a2 a3 : Int) (bs : List Int) (a5 : Int) (h1 : 1 ≤ a2) (h2 : a2 ≤ 1073741824) (k : Nat) (hk : 1073741830 ≤ k) : window_sliding.f k a0 a1 a2 a3 bs a5 = some (sMay a2 a3, a0, a1, a2, a3, a5) := by
  unfold window_sliding.f sMay
  by_cases c1 : a3 < 1
  · rw [if_pos c1, decide_eq_false (by omega)]
  · by_cases c2 : a3 > a2
    · rw [if_neg c1, if_pos c2, decide_eq_false (by omega)]
    · have hd := Int.ediv_nonneg (show 0 ≤ a2 - 1 by omega) (show 0 ≤ a3 by omega)
      have hd2 := Int.ediv_le_self a3 (show 0 ≤ a2 - 1 by omega)
      have e1 : wrap64 (Int.tdiv (wrap64 (a2 - 1)) a3) = (a2 - 1) / a3 := by
        rw [w64_id (n := a2 - 1) (by omega) (by omega), Int.tdiv_eq_ediv_of_nonneg (by omega), w64_id (by omega) (by omega)]
      rw [if_neg c1, if_neg c2, if_neg (by omega), e1]
      by_cases c3 : (a2 - 1) / a3 ≥ 64
      · rw [if_pos c3, decide_eq_false (by omega)]
      · rw [if_neg c3, w_gcd_eq h1 (by omega) k (by omega), Option.bind_some]
        have hg := gcd_pos (b := a3) h1
        generalize ((Nat.gcd a2.toNat a3.toNat : Nat) : Int) = g at *
        have hd3 := Int.ediv_nonneg (show 0 ≤ a2 by omega) (show 0 ≤ g by omega)
        have hd4 := Int.ediv_le_self g (show 0 ≤ a2 by omega)
        have e2 : wrap64 (Int.tdiv a2 g) = a2 / g := by rw [Int.tdiv_eq_ediv_of_nonneg (by omega), w64_id (by omega) (by omega)]
        dsimp only
        rw [if_neg (by omega), e2]
        congr 2
        exact decide_eq_decide.2 (by omega)
def window_May.f (a0_0 : Int) (a0_1 : Int) (a0_2 : Int) (a0_3 : Int) (l0_4 : List Int) (a0_5 : Int) : Option (Bool) := some (qMay a0_0 a0_1 a0_2 a0_3 l0_4 a0_5)
attribute [irreducible] gAt gFrom bMay aMay sMay
set_option maxHeartbeats 8000000 in
set_option maxRecDepth 100000 in
theorem window_May.calls (a0_0 : Int) (a0_1 : Int) (a0_2 : Int) (a0_3 : Int) (A0_4 : Option Addr) (c0_4 : Nat) (l0_4 : List Int) (a0_5 : Int) (r : Bool) (w : World) (hr0_4 : Kd.C (Kd.int .i64) w A0_4 l0_4.length l0_4) (hc0_4 : l0_4.length ≤ c0_4) (h : window_May.f a0_0 a0_1 a0_2 a0_3 l0_4 a0_5 = some r) :
    Calls Try.prog 21 #[.agg #[.int .i64 a0_0, .int .i64 a0_1, .int .i64 a0_2, .int .i64 a0_3, .slice A0_4 l0_4.length c0_4, .int .i64 a0_5]] w fun e w' => e = .returned (.bool r) ∧ Below w.heap.size w w' := by
  obtain rfl := Option.some.inj h
  clear h
  have HW : Aside0 (IsS42 w (w.alloc (.cells #[.int .i64 a0_0, .int .i64 a0_1, .int .i64 a0_2, .int .i64 a0_3, .slice A0_4 l0_4.length c0_4, .int .i64 a0_5] 42 (0, 0))) w.heap.size a0_0 a0_1 a0_2 a0_3 l0_4 a0_5) :=
    ⟨⟨A0_4, c0_4, by show (w.heap.push _)[w.heap.size]? = _; simp, Nat.le_refl _, hr0_4⟩⟩
  have HB : Aside0 (Below w.heap.size w (w.alloc (.cells #[.int .i64 a0_0, .int .i64 a0_1, .int .i64 a0_2, .int .i64 a0_3, .slice A0_4 l0_4.length c0_4, .int .i64 a0_5] 42 (0, 0)))) := ⟨below_alloc (Below.refl _ _) _⟩
  have A1 := Aside0.mk (asks_eq a0_0 a0_1 a0_2 a0_3 l0_4 a0_5 1073741830 (by omega))
  clear hr0_4 hc0_4
  unfold qMay
  by_cases c1 : a0_2 < 1
  · rw [decide_eq_false (show ¬ (1 ≤ a0_2 ∧ a0_2 ≤ 1073741824) by omega), Bool.false_and]
    go_enter Try.func21, Try.ntmps21
    go_wp2_with fail
    go_ret
    exact ⟨rfl, HB.out⟩
  · by_cases c2 : 1073741824 < a0_2
    · rw [decide_eq_false (show ¬ (1 ≤ a0_2 ∧ a0_2 ≤ 1073741824) by omega), Bool.false_and]
      go_enter Try.func21, Try.ntmps21
      go_wp2_with fail
      go_ret
      exact ⟨rfl, HB.out⟩
    · rw [decide_eq_true (show 1 ≤ a0_2 ∧ a0_2 ≤ 1073741824 by omega), Bool.true_and]
      have A2 := Aside0.mk (sliding_eq a0_0 a0_1 a0_2 a0_3 l0_4 a0_5 (by omega) (by omega) 1073741830 (by omega))
      generalize sMay a0_2 a0_3 = sv at *
      generalize aMay a0_1 l0_4 a0_5 = av at *
      generalize 1073741830 = K at *
      cases av with
      | false =>
        rw [Bool.false_and]
        go_enter Try.func21, Try.ntmps21
        go_wp2_with fail
        refine (window_asks.calls K _ _ _ _ _ _ _ _ _ _ _ _ _ w _ HW.out HB.out A1.out).mono ?_
        rintro e w1 ⟨rfl, HW1, HB1, _⟩
        have HB2 := Aside0.mk HB1
        clear HW1 HB1
        go_wp2_with fail
        go_ret
        exact ⟨rfl, HB2.out⟩
      | true =>
        rw [Bool.true_and]
        by_cases k1 : a0_0 = 1
        · subst k1
          rw [if_pos rfl]
          go_enter Try.func21, Try.ntmps21
          go_wp2_with fail
          refine (window_asks.calls K _ _ _ _ _ _ _ _ _ _ _ _ _ w _ HW.out HB.out A1.out).mono ?_
          rintro e w1 ⟨rfl, HW1, HB1, _⟩
          have HB2 := Aside0.mk HB1
          have HW2 := Aside0.mk HW1
          obtain ⟨A4, c4, hb, _, _⟩ := HW1
          have q0 := blk_cell hb 0
          clear HB1 hb
          simp at q0
          go_wp2_with fail
          refine (window_sliding.calls K _ _ _ _ _ _ _ _ _ _ _ _ _ w _ HW2.out HB2.out A2.out).mono ?_
          rintro e w3 ⟨rfl, HW3, HB3, _⟩
          have HB4 := Aside0.mk HB3
          clear HW3 HB3
          go_wp2_with fail
          go_ret
          exact ⟨rfl, HB4.out⟩
        · rw [if_neg k1]
          have e1 : (a0_0 == 1) = false := beq_eq_false_iff_ne.2 k1
          by_cases k0 : a0_0 = 0
          · subst k0
            rw [show decide (((0 : Int) = 0 ∨ (0 : Int) = 2) ∧ a0_3 = 0) = (a0_3 == 0) by by_cases z : a0_3 = 0 <;> simp [z]]
            go_enter Try.func21, Try.ntmps21
            go_wp2_with fail
            refine (window_asks.calls K _ _ _ _ _ _ _ _ _ _ _ _ _ w _ HW.out HB.out A1.out).mono ?_
            rintro e w1 ⟨rfl, HW1, HB1, _⟩
            have HB2 := Aside0.mk HB1
            obtain ⟨A4, c4, hb, _, _⟩ := HW1
            have q0 := blk_cell hb 0
            have q3 := blk_cell hb 3
            clear HB1 hb
            simp at q0 q3
            go_wp2_with fail
            go_ret
            exact ⟨rfl, HB2.out⟩
          · have e0 : (a0_0 == 0) = false := beq_eq_false_iff_ne.2 k0
            by_cases k2 : a0_0 = 2
            · subst k2
              rw [show decide (((2 : Int) = 0 ∨ (2 : Int) = 2) ∧ a0_3 = 0) = (a0_3 == 0) by by_cases z : a0_3 = 0 <;> simp [z]]
              go_enter Try.func21, Try.ntmps21
              go_wp2_with fail
              refine (window_asks.calls K _ _ _ _ _ _ _ _ _ _ _ _ _ w _ HW.out HB.out A1.out).mono ?_
              rintro e w1 ⟨rfl, HW1, HB1, _⟩
              have HB2 := Aside0.mk HB1
              obtain ⟨A4, c4, hb, _, _⟩ := HW1
              have q0 := blk_cell hb 0
              have q3 := blk_cell hb 3
              clear HB1 hb
              simp at q0 q3
              go_wp2_with fail
              go_ret
              exact ⟨rfl, HB2.out⟩
            · have e2 : (a0_0 == 2) = false := beq_eq_false_iff_ne.2 k2
              rw [decide_eq_false (show ¬ ((a0_0 = 0 ∨ a0_0 = 2) ∧ a0_3 = 0) by omega)]
              go_enter Try.func21, Try.ntmps21
              go_wp2_with fail
              refine (window_asks.calls K _ _ _ _ _ _ _ _ _ _ _ _ _ w _ HW.out HB.out A1.out).mono ?_
              rintro e w1 ⟨rfl, HW1, HB1, _⟩
              have HB2 := Aside0.mk HB1
              obtain ⟨A4, c4, hb, _, _⟩ := HW1
              have q0 := blk_cell hb 0
              have q3 := blk_cell hb 3
              clear HB1 hb
              simp at q0 q3
              go_wp2_with fail
              go_ret
              exact ⟨rfl, HB2.out⟩
theorem window_May.calls_nil (a0_0 : Int) (a0_1 : Int) (a0_2 : Int) (a0_3 : Int) (a0_5 : Int) (r : Bool) (w : World) (h : window_May.f a0_0 a0_1 a0_2 a0_3 ([] : List Int) a0_5 = some r) :
    Calls Try.prog 21 #[.agg #[.int .i64 a0_0, .int .i64 a0_1, .int .i64 a0_2, .int .i64 a0_3, .slice none 0 0, .int .i64 a0_5]] w fun e w' => e = .returned (.bool r) ∧ Below w.heap.size w w' :=
  window_May.calls a0_0 a0_1 a0_2 a0_3 none 0 [] a0_5 r w (Kd.C_nil _ _) (Nat.le_refl _) h

-- NOT PRINTED: function 20 (admit_May_1)

/-! ### admit_May: function 11, by a walk of its own -/
def qB (q : S42) : Bool := qMay q.f0 q.f1 q.f2 q.f3 q.f4 q.f5
def allQ (l : List S42) : Bool := l.all qB
/-- A query as it is handed to the predicate: with its bounds' slice; it may be read in the world w. -/
structure QV (w : World) where
  q : S42
  A : Option Addr
  c : Nat
  hr : Kd.C (Kd.int .i64) w A q.f4.length q.f4
  hc : q.f4.length ≤ c
def QV.enc {w : World} (x : QV w) : Array Value := #[.int .i64 x.q.f0, .int .i64 x.q.f1, .int .i64 x.q.f2, .int .i64 x.q.f3, .slice x.A x.q.f4.length x.c, .int .i64 x.q.f5]
set_option maxHeartbeats 2000000 in
set_option maxRecDepth 100000 in
theorem pred_calls {w : World} (x : QV w) (W : World) (hb : Below w.heap.size w W) :
    Calls Try.prog 20 #[.agg x.enc] W fun e w' => e = .returned (.bool (!qB x.q)) ∧ Below w.heap.size w w' := by
  obtain ⟨q, A, c, hr, hc⟩ := x
  unfold QV.enc
  dsimp only
  have HB := Aside0.mk hb
  have hb2 : Below W.heap.size W (W.alloc (.cells #[.int .i64 q.f0, .int .i64 q.f1, .int .i64 q.f2, .int .i64 q.f3, .slice A q.f4.length c, .int .i64 q.f5] 42 (0, 0))) := below_alloc (Below.refl _ _) _
  have HA := Aside0.mk (below_step hb hb2)
  have HR := Aside0.mk (Kd.C_below hr (below_step hb hb2))
  have HC := Aside0.mk hc
  have HM : Aside0 (window_May.f q.f0 q.f1 q.f2 q.f3 q.f4 q.f5 = some (qB q)) := ⟨rfl⟩
  clear hr hc hb hb2
  generalize qB q = r at *
  go_enter Try.func20, Try.ntmps20
  go_wp2_with fail
  refine (window_May.calls q.f0 q.f1 q.f2 q.f3 A c q.f4 q.f5 r _ HR.out HC.out HM.out).mono ?_
  rintro e w1 ⟨rfl, hb⟩
  have HD := Aside0.mk (below_step HA.out hb)
  clear hb
  go_wp2_with fail
  go_ret
  exact ⟨rfl, HD.out⟩
theorem all_snoc (l : List S42) (k : Nat) (h : k < l.length) (q : S42) (hq : rd_T42 l (k : Int) = q) (ha : (l.take k).all qB = true) : (qB q = true → (l.take (k + 1)).all qB = true) ∧ (qB q = false → allQ l = false) := by
  have e : l[k] = q := by
    rw [← hq]; unfold rd_T42
    rw [Int.toNat_natCast, List.getD_eq_getElem?_getD, List.getElem?_eq_getElem h]; rfl
  constructor
  · intro hb
    rw [List.take_succ_eq_append_getElem h, List.all_append, ha, e]
    simp [hb]
  · intro hb
    unfold allQ
    rw [Bool.eq_false_iff]
    intro hall
    rw [List.all_eq_true] at hall
    have := hall _ (List.getElem_mem h)
    rw [e, hb] at this
    cases this
def IdxPost (b : Bool) (w : World) (e : Ending) (w' : World) : Prop := ∃ i : Int, e = .returned (.int .i64 i) ∧ decide (0 ≤ i) = b ∧ Below w.heap.size w w'
set_option maxHeartbeats 4000000 in
set_option maxRecDepth 100000 in
theorem index_calls (A : Option Addr) (c : Nat) (l : List S42) (w : World) (hr : Kd.C k42 w A l.length l) (hc : l.length ≤ c) (hn : l.length ≤ 8) :
    Calls Try.prog 28 #[.slice A l.length c, .func (.func 20) #[] #[]] w (IdxPost (!allQ l) w) := by
  have HR := Aside0.mk hr
  have HC := Aside0.mk hc
  have eg : ∀ args w, (callFunc 20 args).run Try.prog w = .ok (.enter 20 args) w := enters_of Try.func20 (by kernel_rfl) rfl
  clear hr hc
  go_enter Try.func28, Try.ntmps28
  go_wp2
  go_loopw [5, 8] (fun _ s8 wr => ∃ kk : Nat, kk ≤ l.length ∧ s8 = .int .i64 kk ∧ Aside0 (Below w.heap.size w wr) ∧ Aside0 ((l.take kk).all qB = true)) (fun _ s8 _ => l.length - (intOf s8).toNat)
  case atStart => exact ⟨0, Nat.zero_le _, rfl, ⟨Below.refl _ _⟩, ⟨rfl⟩⟩
  case round =>
    obtain ⟨kk, hkk, rfl, BW, AL⟩ := hrel
    by_cases hlt : kk < l.length
    · obtain ⟨ad, A4, c4, e, x0, x1, x2, x3, x4, x5, l4, g4⟩ := at_T42 (Kd.C_below HR.out BW.out) (kk : Int) (by omega) (by omega)
      simp only [Int.toNat_natCast] at x0 x1 x2 x3 x4 x5
      have hs := all_snoc l kk hlt _ rfl AL.out
      have hq := pred_calls (⟨rd_T42 l (kk : Int), A4, c4, g4, l4⟩ : QV wr) wr (Below.refl _ _)
      unfold QV.enc at hq
      dsimp only at hq
      clear g4 l4 AL HR
      subst e
      generalize rd_T42 l (kk : Int) = q at *
      have HS := Aside0.mk hs
      clear hs
      have hltz : (kk : Int) < (l.length : Int) := by omega
      cases hb : qB q with
      | true =>
        rw [hb] at hq
        have HQ := Aside0.mk hb
        clear hb
        go_wp2_with (go_at_fn 20; refine hq.mono ?_; rintro e w' ⟨rfl, hb'⟩)
        go_roundw
        case rel => exact ⟨kk + 1, by omega, by go_num, ⟨below_step BW.out hb'⟩, ⟨HS.out.1 HQ.out⟩⟩
        case measure => simp [intOf]; omega
      | false =>
        rw [hb] at hq
        have HQ := Aside0.mk hb
        clear hb
        go_wp2_with (go_at_fn 20; refine hq.mono ?_; rintro e w' ⟨rfl, hb'⟩)
        go_ret
        exact ⟨_, rfl, by rw [HS.out.2 HQ.out]; exact decide_eq_true (by omega), below_step BW.out hb'⟩
    · have hltz : ¬ (kk : Int) < (l.length : Int) := by omega
      have e : allQ l = true := by
        have := AL.out
        rw [List.take_of_length_le (by omega)] at this
        exact this
      have E := Aside0.mk e
      clear e AL HR
      go_wp2
      go_ret
      exact ⟨_, rfl, by rw [E.out]; rfl, BW.out⟩
set_option maxHeartbeats 4000000 in
set_option maxRecDepth 100000 in
theorem contains_calls (A : Option Addr) (c : Nat) (l : List S42) (w : World) (hr : Kd.C k42 w A l.length l) (hc : l.length ≤ c) (hn : l.length ≤ 8) :
    Calls Try.prog 19 #[.slice A l.length c, .func (.func 20) #[] #[]] w fun e w' => e = .returned (.bool (!allQ l)) ∧ Below w.heap.size w w' := by
  have HI := Aside0.mk (index_calls A c l w hr hc hn)
  clear hr hc hn
  generalize (!allQ l) = b at *
  go_enter Try.func19, Try.ntmps19
  go_wp2_with fail
  refine HI.out.mono ?_
  rintro e w1 ⟨i, rfl, hi, hb⟩
  have HB := Aside0.mk hb
  clear hb
  go_wp2_with fail
  go_ret
  exact ⟨by rfl, HB.out⟩
def cMay (l : List S42) (late room series sources : Int) : Bool :=
  decide (1 ≤ l.length ∧ l.length ≤ 8) && allQ l && decide (0 ≤ late ∧ late ≤ 1073741824 ∧ 1 ≤ room ∧ room ≤ 4096 ∧ 1 ≤ series ∧ series ≤ 64 ∧ 1 ≤ sources ∧ sources ≤ 8)
def admit_May.f (l0_0 : List S42) (a0_1 : Int) (a0_2 : Int) (a0_3 : Int) (a0_4 : Int) : Option (Bool) := some (cMay l0_0 a0_1 a0_2 a0_3 a0_4)
set_option maxHeartbeats 8000000 in
set_option maxRecDepth 100000 in
theorem admit_May.calls (A0_0 : Option Addr) (c0_0 : Nat) (l0_0 : List (S42)) (a0_1 : Int) (a0_2 : Int) (a0_3 : Int) (a0_4 : Int) (r : Bool) (w : World) (hr0_0 : Kd.C k42 w A0_0 l0_0.length l0_0) (hc0_0 : l0_0.length ≤ c0_0) (h : admit_May.f l0_0 a0_1 a0_2 a0_3 a0_4 = some r) :
    Calls Try.prog 11 #[.agg #[.slice A0_0 l0_0.length c0_0, .int .i64 a0_1, .int .i64 a0_2, .int .i64 a0_3, .int .i64 a0_4]] w fun e w' => e = .returned (.bool r) ∧ Below w.heap.size w w' := by
  obtain rfl := Option.some.inj h
  clear h
  unfold cMay
  have HW : Aside0 ((w.alloc (.cells #[.slice A0_0 l0_0.length c0_0, .int .i64 a0_1, .int .i64 a0_2, .int .i64 a0_3, .int .i64 a0_4] 24 (0, 0))).heap[w.heap.size]? = some (.cells #[.slice A0_0 l0_0.length c0_0, .int .i64 a0_1, .int .i64 a0_2, .int .i64 a0_3, .int .i64 a0_4] 24 (0, 0))) :=
    ⟨by show (w.heap.push _)[w.heap.size]? = _; simp⟩
  have HB : Aside0 (Below w.heap.size w (w.alloc (.cells #[.slice A0_0 l0_0.length c0_0, .int .i64 a0_1, .int .i64 a0_2, .int .i64 a0_3, .int .i64 a0_4] 24 (0, 0)))) := ⟨below_alloc (Below.refl _ _) _⟩
  by_cases c1 : l0_0.length < 1
  · rw [decide_eq_false (show ¬ (1 ≤ l0_0.length ∧ l0_0.length ≤ 8) by omega), Bool.false_and, Bool.false_and]
    have e1 : decide ((l0_0.length : Int) < 1) = true := decide_eq_true (by omega)
    have e2 : decide (l0_0.length < 1) = true := decide_eq_true c1
    have e3 : l0_0.length = 0 := by omega
    clear c1 hr0_0
    go_enter Try.func11, Try.ntmps11
    go_wp2_with fail
    go_ret
    exact ⟨rfl, below_alloc (Below.refl _ _) _⟩
  · have e1 : decide ((l0_0.length : Int) < 1) = false := decide_eq_false (by omega)
    have e2 : decide (l0_0.length < 1) = false := decide_eq_false c1
    by_cases c2 : 8 < l0_0.length
    · rw [decide_eq_false (show ¬ (1 ≤ l0_0.length ∧ l0_0.length ≤ 8) by omega), Bool.false_and, Bool.false_and]
      have e3 : decide (8 < (l0_0.length : Int)) = true := decide_eq_true (by omega)
      have e4 : decide (8 < l0_0.length) = true := decide_eq_true c2
      clear c1 hr0_0
      go_enter Try.func11, Try.ntmps11
      go_wp2_with fail
      go_ret
      exact ⟨rfl, below_alloc (Below.refl _ _) _⟩
    · have e3 : decide (8 < (l0_0.length : Int)) = false := decide_eq_false (by omega)
      have e4 : decide (8 < l0_0.length) = false := decide_eq_false c2
      rw [decide_eq_true (show 1 ≤ l0_0.length ∧ l0_0.length ≤ 8 by omega), Bool.true_and]
      have HC := Aside0.mk (contains_calls A0_0 c0_0 l0_0 _ (Kd.C_below hr0_0 HB.out) hc0_0 (show l0_0.length ≤ 8 by omega))
      clear hr0_0 c1 c2
      generalize hv : allQ l0_0 = v at *
      clear hv
      obtain ⟨b, hb0⟩ : ∃ b, (v && decide (0 ≤ a0_1 ∧ a0_1 ≤ 1073741824 ∧ 1 ≤ a0_2 ∧ a0_2 ≤ 4096 ∧ 1 ≤ a0_3 ∧ a0_3 ≤ 64 ∧ 1 ≤ a0_4 ∧ a0_4 ≤ 8)) = b := ⟨_, rfl⟩
      rw [hb0]
      have HV := Aside0.mk hb0
      clear hb0
      go_enter Try.func11, Try.ntmps11
      go_wp2_with fail
      refine HC.out.mono ?_
      rintro e w1 ⟨rfl, hb⟩
      have HW1 := Aside0.mk (blk_below HW.out hb)
      have HB1 := Aside0.mk (below_step HB.out hb)
      clear hb HW HB HC e1 e2 e3 e4
      cases v with
      | false =>
        go_wp2_with fail
        go_ret
        exact ⟨by rw [← HV.out]; rfl, HB1.out⟩
      | true =>
        have q1 := blk_cell HW1.out 1
        have q2 := blk_cell HW1.out 2
        have q3 := blk_cell HW1.out 3
        have q4 := blk_cell HW1.out 4
        simp at q1 q2 q3 q4
        by_cases d0 : 0 ≤ a0_1
        · have f0 := decide_eq_true d0
          by_cases d1 : a0_1 ≤ 1073741824
          · have f1 := decide_eq_true d1
            by_cases d2 : 1 ≤ a0_2
            · have f2 := decide_eq_true d2
              by_cases d3 : a0_2 ≤ 4096
              · have f3 := decide_eq_true d3
                by_cases d4 : 1 ≤ a0_3
                · have f4 := decide_eq_true d4
                  by_cases d5 : a0_3 ≤ 64
                  · have f5 := decide_eq_true d5
                    by_cases d6 : 1 ≤ a0_4
                    · have f6 := decide_eq_true d6
                      by_cases d7 : a0_4 ≤ 8
                      · have f7 := decide_eq_true d7
                        have HX := Aside0.mk (HV.out.symm.trans (show (true && decide (0 ≤ a0_1 ∧ a0_1 ≤ 1073741824 ∧ 1 ≤ a0_2 ∧ a0_2 ≤ 4096 ∧ 1 ≤ a0_3 ∧ a0_3 ≤ 64 ∧ 1 ≤ a0_4 ∧ a0_4 ≤ 8)) = true by rw [decide_eq_true (show 0 ≤ a0_1 ∧ a0_1 ≤ 1073741824 ∧ 1 ≤ a0_2 ∧ a0_2 ≤ 4096 ∧ 1 ≤ a0_3 ∧ a0_3 ≤ 64 ∧ 1 ≤ a0_4 ∧ a0_4 ≤ 8 by omega)]; rfl))
                        clear d0 d1 d2 d3 d4 d5 d6 d7
                        go_wp2_with fail
                        go_ret
                        exact ⟨by (try rw [HX.out]); (first | done | rfl | (simp only [f7]; done) | (simp [*]; done)), HB1.out⟩
                      · have f7 := decide_eq_false d7
                        have HX := Aside0.mk (HV.out.symm.trans (show (true && decide (0 ≤ a0_1 ∧ a0_1 ≤ 1073741824 ∧ 1 ≤ a0_2 ∧ a0_2 ≤ 4096 ∧ 1 ≤ a0_3 ∧ a0_3 ≤ 64 ∧ 1 ≤ a0_4 ∧ a0_4 ≤ 8)) = false by rw [decide_eq_false (show ¬ (0 ≤ a0_1 ∧ a0_1 ≤ 1073741824 ∧ 1 ≤ a0_2 ∧ a0_2 ≤ 4096 ∧ 1 ≤ a0_3 ∧ a0_3 ≤ 64 ∧ 1 ≤ a0_4 ∧ a0_4 ≤ 8) by omega)]; rfl))
                        clear d0 d1 d2 d3 d4 d5 d6 d7
                        go_wp2_with fail
                        go_ret
                        exact ⟨by (try rw [HX.out]); (first | done | rfl | (simp only [f7]; done) | (simp [*]; done)), HB1.out⟩
                    · have f6 := decide_eq_false d6
                      have HX := Aside0.mk (HV.out.symm.trans (show (true && decide (0 ≤ a0_1 ∧ a0_1 ≤ 1073741824 ∧ 1 ≤ a0_2 ∧ a0_2 ≤ 4096 ∧ 1 ≤ a0_3 ∧ a0_3 ≤ 64 ∧ 1 ≤ a0_4 ∧ a0_4 ≤ 8)) = false by rw [decide_eq_false (show ¬ (0 ≤ a0_1 ∧ a0_1 ≤ 1073741824 ∧ 1 ≤ a0_2 ∧ a0_2 ≤ 4096 ∧ 1 ≤ a0_3 ∧ a0_3 ≤ 64 ∧ 1 ≤ a0_4 ∧ a0_4 ≤ 8) by omega)]; rfl))
                      clear d0 d1 d2 d3 d4 d5 d6
                      go_wp2_with fail
                      go_ret
                      exact ⟨by (try rw [HX.out]); (first | done | rfl | (simp only [f7]; done) | (simp [*]; done)), HB1.out⟩
                  · have f5 := decide_eq_false d5
                    have HX := Aside0.mk (HV.out.symm.trans (show (true && decide (0 ≤ a0_1 ∧ a0_1 ≤ 1073741824 ∧ 1 ≤ a0_2 ∧ a0_2 ≤ 4096 ∧ 1 ≤ a0_3 ∧ a0_3 ≤ 64 ∧ 1 ≤ a0_4 ∧ a0_4 ≤ 8)) = false by rw [decide_eq_false (show ¬ (0 ≤ a0_1 ∧ a0_1 ≤ 1073741824 ∧ 1 ≤ a0_2 ∧ a0_2 ≤ 4096 ∧ 1 ≤ a0_3 ∧ a0_3 ≤ 64 ∧ 1 ≤ a0_4 ∧ a0_4 ≤ 8) by omega)]; rfl))
                    clear d0 d1 d2 d3 d4 d5
                    go_wp2_with fail
                    go_ret
                    exact ⟨by (try rw [HX.out]); (first | done | rfl | (simp only [f7]; done) | (simp [*]; done)), HB1.out⟩
                · have f4 := decide_eq_false d4
                  have HX := Aside0.mk (HV.out.symm.trans (show (true && decide (0 ≤ a0_1 ∧ a0_1 ≤ 1073741824 ∧ 1 ≤ a0_2 ∧ a0_2 ≤ 4096 ∧ 1 ≤ a0_3 ∧ a0_3 ≤ 64 ∧ 1 ≤ a0_4 ∧ a0_4 ≤ 8)) = false by rw [decide_eq_false (show ¬ (0 ≤ a0_1 ∧ a0_1 ≤ 1073741824 ∧ 1 ≤ a0_2 ∧ a0_2 ≤ 4096 ∧ 1 ≤ a0_3 ∧ a0_3 ≤ 64 ∧ 1 ≤ a0_4 ∧ a0_4 ≤ 8) by omega)]; rfl))
                  clear d0 d1 d2 d3 d4
                  go_wp2_with fail
                  go_ret
                  exact ⟨by (try rw [HX.out]); (first | done | rfl | (simp only [f7]; done) | (simp [*]; done)), HB1.out⟩
              · have f3 := decide_eq_false d3
                have HX := Aside0.mk (HV.out.symm.trans (show (true && decide (0 ≤ a0_1 ∧ a0_1 ≤ 1073741824 ∧ 1 ≤ a0_2 ∧ a0_2 ≤ 4096 ∧ 1 ≤ a0_3 ∧ a0_3 ≤ 64 ∧ 1 ≤ a0_4 ∧ a0_4 ≤ 8)) = false by rw [decide_eq_false (show ¬ (0 ≤ a0_1 ∧ a0_1 ≤ 1073741824 ∧ 1 ≤ a0_2 ∧ a0_2 ≤ 4096 ∧ 1 ≤ a0_3 ∧ a0_3 ≤ 64 ∧ 1 ≤ a0_4 ∧ a0_4 ≤ 8) by omega)]; rfl))
                clear d0 d1 d2 d3
                go_wp2_with fail
                go_ret
                exact ⟨by (try rw [HX.out]); (first | done | rfl | (simp only [f7]; done) | (simp [*]; done)), HB1.out⟩
            · have f2 := decide_eq_false d2
              have HX := Aside0.mk (HV.out.symm.trans (show (true && decide (0 ≤ a0_1 ∧ a0_1 ≤ 1073741824 ∧ 1 ≤ a0_2 ∧ a0_2 ≤ 4096 ∧ 1 ≤ a0_3 ∧ a0_3 ≤ 64 ∧ 1 ≤ a0_4 ∧ a0_4 ≤ 8)) = false by rw [decide_eq_false (show ¬ (0 ≤ a0_1 ∧ a0_1 ≤ 1073741824 ∧ 1 ≤ a0_2 ∧ a0_2 ≤ 4096 ∧ 1 ≤ a0_3 ∧ a0_3 ≤ 64 ∧ 1 ≤ a0_4 ∧ a0_4 ≤ 8) by omega)]; rfl))
              clear d0 d1 d2
              go_wp2_with fail
              go_ret
              exact ⟨by (try rw [HX.out]); (first | done | rfl | (simp only [f7]; done) | (simp [*]; done)), HB1.out⟩
          · have f1 := decide_eq_false d1
            have HX := Aside0.mk (HV.out.symm.trans (show (true && decide (0 ≤ a0_1 ∧ a0_1 ≤ 1073741824 ∧ 1 ≤ a0_2 ∧ a0_2 ≤ 4096 ∧ 1 ≤ a0_3 ∧ a0_3 ≤ 64 ∧ 1 ≤ a0_4 ∧ a0_4 ≤ 8)) = false by rw [decide_eq_false (show ¬ (0 ≤ a0_1 ∧ a0_1 ≤ 1073741824 ∧ 1 ≤ a0_2 ∧ a0_2 ≤ 4096 ∧ 1 ≤ a0_3 ∧ a0_3 ≤ 64 ∧ 1 ≤ a0_4 ∧ a0_4 ≤ 8) by omega)]; rfl))
            clear d0 d1
            go_wp2_with fail
            go_ret
            exact ⟨by (try rw [HX.out]); (first | done | rfl | (simp only [f7]; done) | (simp [*]; done)), HB1.out⟩
        · have f0 := decide_eq_false d0
          have HX := Aside0.mk (HV.out.symm.trans (show (true && decide (0 ≤ a0_1 ∧ a0_1 ≤ 1073741824 ∧ 1 ≤ a0_2 ∧ a0_2 ≤ 4096 ∧ 1 ≤ a0_3 ∧ a0_3 ≤ 64 ∧ 1 ≤ a0_4 ∧ a0_4 ≤ 8)) = false by rw [decide_eq_false (show ¬ (0 ≤ a0_1 ∧ a0_1 ≤ 1073741824 ∧ 1 ≤ a0_2 ∧ a0_2 ≤ 4096 ∧ 1 ≤ a0_3 ∧ a0_3 ≤ 64 ∧ 1 ≤ a0_4 ∧ a0_4 ≤ 8) by omega)]; rfl))
          clear d0
          go_wp2_with fail
          go_ret
          exact ⟨by (try rw [HX.out]); (first | done | rfl | (simp only [f7]; done) | (simp [*]; done)), HB1.out⟩

/-! ### admit_LeastMay: function 16 -/
def admit_LeastMay.f (a0 : Int) : Option (Bool) := if a0 ≥ (-4398046511104) then (some (decide (a0 ≤ 4398046511104))) else (some false)
set_option maxHeartbeats 8000000 in
set_option maxRecDepth 100000 in
theorem admit_LeastMay.calls (a0 : Int) (r : Bool) (w : World) (h : admit_LeastMay.f a0 = some r) :
    Calls Try.prog 16 #[.int .i64 a0] w fun e w' => e = .returned (.bool r) ∧ Drawn0 w w' := by
  have H : (if a0 ≥ (-4398046511104) then (some (decide (a0 ≤ 4398046511104))) else (some false)) = some r := h
  clear h
  by_cases c2 : a0 ≥ (-4398046511104)
  · rw [if_pos c2] at H
    have c2b0 : decide ((-4398046511104) ≤ a0) = true := decide_eq_true c2
    clear c2
    obtain rfl := Option.some.inj H
    go_enter Try.func16, Try.ntmps16
    go_wp2
    go_ret
    exact ⟨by first | rfl | (simp; done) | (simp [*]; done), by repeat (first | exact Drawn0.refl _ | apply Drawn0.step)⟩
  · rw [if_neg c2] at H
    have c2b0 : decide ((-4398046511104) ≤ a0) = false := decide_eq_false c2
    clear c2
    obtain rfl := Option.some.inj H
    go_enter Try.func16, Try.ntmps16
    go_wp2
    go_ret
    exact ⟨by first | rfl | (simp; done) | (simp [*]; done), by repeat (first | exact Drawn0.refl _ | apply Drawn0.step)⟩

/-! ### wire_source: function 25 -/
def wire_source.f (a0 : Int) : Option (Bool) := if a0 ≥ 0 then (some (decide (a0 < 8))) else (some false)
set_option maxHeartbeats 8000000 in
set_option maxRecDepth 100000 in
theorem wire_source.calls (a0 : Int) (r : Bool) (w : World) (h : wire_source.f a0 = some r) :
    Calls Try.prog 25 #[.int .i64 a0] w fun e w' => e = .returned (.bool r) ∧ Drawn0 w w' := by
  have H : (if a0 ≥ 0 then (some (decide (a0 < 8))) else (some false)) = some r := h
  clear h
  by_cases c2 : a0 ≥ 0
  · rw [if_pos c2] at H
    have c2b0 : decide (0 ≤ a0) = true := decide_eq_true c2
    clear c2
    obtain rfl := Option.some.inj H
    go_enter Try.func25, Try.ntmps25
    go_wp2
    go_ret
    exact ⟨by first | rfl | (simp; done) | (simp [*]; done), by repeat (first | exact Drawn0.refl _ | apply Drawn0.step)⟩
  · rw [if_neg c2] at H
    have c2b0 : decide (0 ≤ a0) = false := decide_eq_false c2
    clear c2
    obtain rfl := Option.some.inj H
    go_enter Try.func25, Try.ntmps25
    go_wp2
    go_ret
    exact ⟨by first | rfl | (simp; done) | (simp [*]; done), by repeat (first | exact Drawn0.refl _ | apply Drawn0.step)⟩

/-- A state of type 26 at block g of W; what its slices lead to came in by w0. -/
def IsS26 (w0 W : World) (g : Nat) (f0 : Int) (f1 : Int) (f2 : Int) (f3 : Int) (f4 : Int) : Prop := W.heap[g]? = some (.cells #[.int .i64 f0, .int .i64 f1, .int .i64 f2, .int .i64 f3, .int .i64 f4] 26 (0, 0)) ∧ w0.heap.size ≤ g
theorem IsS26.grown {w0 W : World} {g : Nat} {f0 : Int} {f1 : Int} {f2 : Int} {f3 : Int} {f4 : Int} {W1 : World} {row : Option Nat} (h : IsS26 w0 W g f0 f1 f2 f3 f4) (hw : W.grownBy W1 row) (hne : some g ≠ row) : IsS26 w0 W1 g f0 f1 f2 f3 f4 := by
  obtain ⟨hb, hg⟩ := h
  exact ⟨blk_grown hb hw hne, hg⟩
theorem IsS26.own_neN {w0 W : World} {g : Nat} {f0 : Int} {f1 : Int} {f2 : Int} {f3 : Int} {f4 : Int} {α : Type} {d : Kd α} {e : Nat} {base : Nat} {ok : Nat → Prop} {v : Value} {xs : List α} (h : IsS26 w0 W g f0 f1 f2 f3 f4) (ho : Kd.N d e W base ok v xs) (ht : e ≠ 26) : some g ≠ v.ownBlock := by
  obtain ⟨hb, hg⟩ := h
  exact Kd.N_ne ho hb ht
theorem IsS26.fresh {w0 W : World} {g : Nat} {f0 : Int} {f1 : Int} {f2 : Int} {f3 : Int} {f4 : Int} (h : IsS26 w0 W g f0 f1 f2 f3 f4) : ∀ k, W.heap.size ≤ k → k ≠ g := by
  obtain ⟨hb, hg⟩ := h
  exact Kd.freshB hb
theorem IsS26.kept {w0 W : World} {g : Nat} {f0 : Int} {f1 : Int} {f2 : Int} {f3 : Int} {f4 : Int} {W1 : World} {S : Nat → Prop} (h : IsS26 w0 W g f0 f1 f2 f3 f4) (hk : Kept W W1 S) (hne : ¬ S g) : IsS26 w0 W1 g f0 f1 f2 f3 f4 := by
  obtain ⟨hb, hg⟩ := h
  exact ⟨blk_kept hb hk hne, hg⟩
theorem IsS26.below {w0 W : World} {g : Nat} {f0 : Int} {f1 : Int} {f2 : Int} {f3 : Int} {f4 : Int} {W1 : World} (h : IsS26 w0 W g f0 f1 f2 f3 f4) (hw : Below W.heap.size W W1) : IsS26 w0 W1 g f0 f1 f2 f3 f4 := h.grown (grown_of_below hw none) (by simp)
theorem IsS26.alloc {w0 W : World} {g : Nat} {f0 : Int} {f1 : Int} {f2 : Int} {f3 : Int} {f4 : Int} (h : IsS26 w0 W g f0 f1 f2 f3 f4) (o : Obj) : IsS26 w0 (W.alloc o) g f0 f1 f2 f3 f4 := h.below (below_alloc (Below.refl _ _) o)
theorem IsS26.drewN {w0 W : World} {g : Nat} {f0 : Int} {f1 : Int} {f2 : Int} {f3 : Int} {f4 : Int} (h : IsS26 w0 W g f0 f1 f2 f3 f4) (m : Nat) : IsS26 w0 (W.drewN m) g f0 f1 f2 f3 f4 := h
theorem IsS26.drew {w0 W : World} {g : Nat} {f0 : Int} {f1 : Int} {f2 : Int} {f3 : Int} {f4 : Int} (h : IsS26 w0 W g f0 f1 f2 f3 f4) : IsS26 w0 W.drew g f0 f1 f2 f3 f4 := h
theorem IsS26.at_ {w0 W : World} {g : Nat} {f0 : Int} {f1 : Int} {f2 : Int} {f3 : Int} {f4 : Int} {w' : World} {m : Nat} (hq : W.drewN m = w') (h : IsS26 w0 W g f0 f1 f2 f3 f4) : IsS26 w0 w' g f0 f1 f2 f3 f4 := by subst hq; exact IsS26.drewN h m
theorem IsS26.apart {w0 W : World} {g : Nat} {f0 : Int} {f1 : Int} {f2 : Int} {f3 : Int} {f4 : Int} {α : Type} {d : Kd α} {e : Nat} {base : Nat} {ok : Nat → Prop} {v : Value} {xs : List α} (h : IsS26 w0 W g f0 f1 f2 f3 f4) (ho : d.R e W base ok v xs) (ht : ∀ q, q ∈ e :: d.E → q ≠ 26) : d.R e W base (fun k => ok k ∧ k ≠ g) v xs := by
  obtain ⟨hb, hg⟩ := h
  exact Kd.R_types ho hb ht
theorem IsS26.own_ne {w0 W : World} {g : Nat} {f0 : Int} {f1 : Int} {f2 : Int} {f3 : Int} {f4 : Int} {α : Type} {d : Kd α} {e : Nat} {base : Nat} {ok : Nat → Prop} {v : Value} {xs : List α} (h : IsS26 w0 W g f0 f1 f2 f3 f4) (ho : d.R e W base ok v xs) (ht : e ≠ 26) : some g ≠ v.ownBlock := by
  obtain ⟨hb, hg⟩ := h
  exact Kd.R_ne ho hb ht
theorem IsS26.apartQ {w0 W : World} {g : Nat} {f0 : Int} {f1 : Int} {f2 : Int} {f3 : Int} {f4 : Int} {α : Type} {d : Kd α} {e : Nat} {base : Nat} {ok : Nat → Prop} {v : Value} {xs : List α} (h : IsS26 w0 W g f0 f1 f2 f3 f4) (ho : d.Q e W base ok v xs) (ht : ∀ q, q ∈ e :: d.E → q ≠ 26) : d.Q e W base (fun k => ok k ∧ k ≠ g) v xs := by
  obtain ⟨hb, hg⟩ := h
  exact Kd.Q_types ho hb ht
theorem IsS26.own_neQ {w0 W : World} {g : Nat} {f0 : Int} {f1 : Int} {f2 : Int} {f3 : Int} {f4 : Int} {α : Type} {d : Kd α} {e : Nat} {base : Nat} {ok : Nat → Prop} {v : Value} {xs : List α} (h : IsS26 w0 W g f0 f1 f2 f3 f4) (ho : d.Q e W base ok v xs) (ht : e ≠ 26) : some g ≠ v.ownBlock := by
  obtain ⟨hb, hg⟩ := h
  exact Kd.Q_ne ho hb ht
theorem IsS26.apartS {w0 W : World} {g : Nat} {f0 : Int} {f1 : Int} {f2 : Int} {f3 : Int} {f4 : Int} {α : Type} {d : Kd α} {e : Nat} {base : Nat} {ok : Nat → Prop} {v : Value} {xs : List α} (h : IsS26 w0 W g f0 f1 f2 f3 f4) (ho : d.S e W base ok v xs) (ht : ∀ q, q ∈ e :: d.E → q ≠ 26) : d.S e W base (fun k => ok k ∧ k ≠ g) v xs := by
  obtain ⟨hb, hg⟩ := h
  exact Kd.S_types ho hb ht
theorem IsS26.own_neS {w0 W : World} {g : Nat} {f0 : Int} {f1 : Int} {f2 : Int} {f3 : Int} {f4 : Int} {α : Type} {d : Kd α} {e : Nat} {base : Nat} {ok : Nat → Prop} {v : Value} {xs : List α} (h : IsS26 w0 W g f0 f1 f2 f3 f4) (ho : d.S e W base ok v xs) (ht : e ≠ 26) : some g ≠ v.ownBlock := by
  obtain ⟨hb, hg⟩ := h
  exact Kd.S_ne ho hb ht
theorem IsS26.lt {w0 W : World} {g : Nat} {f0 : Int} {f1 : Int} {f2 : Int} {f3 : Int} {f4 : Int} (h : IsS26 w0 W g f0 f1 f2 f3 f4) : g < W.heap.size := by
  obtain ⟨hb, hg⟩ := h
  exact blk_lt hb
theorem IsS26.ge {w0 W : World} {g : Nat} {f0 : Int} {f1 : Int} {f2 : Int} {f3 : Int} {f4 : Int} (h : IsS26 w0 W g f0 f1 f2 f3 f4) : w0.heap.size ≤ g := by
  obtain ⟨hb, hg⟩ := h
  exact hg
theorem IsS26.ne_blk {w0 W : World} {g : Nat} {f0 : Int} {f1 : Int} {f2 : Int} {f3 : Int} {f4 : Int} {a : Nat} {cs : Array Value} {t : TypeId} {fr : Nat × Nat} (h : IsS26 w0 W g f0 f1 f2 f3 f4) (hb2 : W.heap[a]? = some (.cells cs t fr)) (ht : t ≠ 26) : g ≠ a := by
  obtain ⟨hb, hg⟩ := h
  rintro rfl
  rw [hb] at hb2
  injection hb2 with hb2
  injection hb2 with _ ht2
  exact ht ht2.symm
theorem IsS26.far {w0 W : World} {g : Nat} {f0 : Int} {f1 : Int} {f2 : Int} {f3 : Int} {f4 : Int} {p : Addr} (h : IsS26 w0 W g f0 f1 f2 f3 f4) (hne : g ≠ p.block) (u : Value) : IsS26 w0 (W.setCell p u) g f0 f1 f2 f3 f4 := by
  obtain ⟨hb, hg⟩ := h
  exact ⟨blk_far hb hne u, hg⟩
theorem cellS26_0 {W : World} {g : Nat} {f0 : Int} {f1 : Int} {f2 : Int} {f3 : Int} {f4 : Int} (h : W.heap[g]? = some (.cells #[.int .i64 f0, .int .i64 f1, .int .i64 f2, .int .i64 f3, .int .i64 f4] 26 (0, 0))) : W.cell? ⟨g, 0, none⟩ = some (.int .i64 f0) := (blk_cell h 0).trans rfl
theorem IsS26.set_0 {w0 W : World} {g : Nat} {f0 : Int} {f1 : Int} {f2 : Int} {f3 : Int} {f4 : Int} (h : IsS26 w0 W g f0 f1 f2 f3 f4) (x : Int) : IsS26 w0 (W.setCell ⟨g, 0, none⟩ (.int .i64 x)) g x f1 f2 f3 f4 := by
  obtain ⟨hb, hg⟩ := h
  exact ⟨by simpa using blk_set hb 0 (.int .i64 x), hg⟩
theorem cellS26_1 {W : World} {g : Nat} {f0 : Int} {f1 : Int} {f2 : Int} {f3 : Int} {f4 : Int} (h : W.heap[g]? = some (.cells #[.int .i64 f0, .int .i64 f1, .int .i64 f2, .int .i64 f3, .int .i64 f4] 26 (0, 0))) : W.cell? ⟨g, 1, none⟩ = some (.int .i64 f1) := (blk_cell h 1).trans rfl
theorem IsS26.set_1 {w0 W : World} {g : Nat} {f0 : Int} {f1 : Int} {f2 : Int} {f3 : Int} {f4 : Int} (h : IsS26 w0 W g f0 f1 f2 f3 f4) (x : Int) : IsS26 w0 (W.setCell ⟨g, 1, none⟩ (.int .i64 x)) g f0 x f2 f3 f4 := by
  obtain ⟨hb, hg⟩ := h
  exact ⟨by simpa using blk_set hb 1 (.int .i64 x), hg⟩
theorem cellS26_2 {W : World} {g : Nat} {f0 : Int} {f1 : Int} {f2 : Int} {f3 : Int} {f4 : Int} (h : W.heap[g]? = some (.cells #[.int .i64 f0, .int .i64 f1, .int .i64 f2, .int .i64 f3, .int .i64 f4] 26 (0, 0))) : W.cell? ⟨g, 2, none⟩ = some (.int .i64 f2) := (blk_cell h 2).trans rfl
theorem IsS26.set_2 {w0 W : World} {g : Nat} {f0 : Int} {f1 : Int} {f2 : Int} {f3 : Int} {f4 : Int} (h : IsS26 w0 W g f0 f1 f2 f3 f4) (x : Int) : IsS26 w0 (W.setCell ⟨g, 2, none⟩ (.int .i64 x)) g f0 f1 x f3 f4 := by
  obtain ⟨hb, hg⟩ := h
  exact ⟨by simpa using blk_set hb 2 (.int .i64 x), hg⟩
theorem cellS26_3 {W : World} {g : Nat} {f0 : Int} {f1 : Int} {f2 : Int} {f3 : Int} {f4 : Int} (h : W.heap[g]? = some (.cells #[.int .i64 f0, .int .i64 f1, .int .i64 f2, .int .i64 f3, .int .i64 f4] 26 (0, 0))) : W.cell? ⟨g, 3, none⟩ = some (.int .i64 f3) := (blk_cell h 3).trans rfl
theorem IsS26.set_3 {w0 W : World} {g : Nat} {f0 : Int} {f1 : Int} {f2 : Int} {f3 : Int} {f4 : Int} (h : IsS26 w0 W g f0 f1 f2 f3 f4) (x : Int) : IsS26 w0 (W.setCell ⟨g, 3, none⟩ (.int .i64 x)) g f0 f1 f2 x f4 := by
  obtain ⟨hb, hg⟩ := h
  exact ⟨by simpa using blk_set hb 3 (.int .i64 x), hg⟩
theorem cellS26_4 {W : World} {g : Nat} {f0 : Int} {f1 : Int} {f2 : Int} {f3 : Int} {f4 : Int} (h : W.heap[g]? = some (.cells #[.int .i64 f0, .int .i64 f1, .int .i64 f2, .int .i64 f3, .int .i64 f4] 26 (0, 0))) : W.cell? ⟨g, 4, none⟩ = some (.int .i64 f4) := (blk_cell h 4).trans rfl
theorem IsS26.set_4 {w0 W : World} {g : Nat} {f0 : Int} {f1 : Int} {f2 : Int} {f3 : Int} {f4 : Int} (h : IsS26 w0 W g f0 f1 f2 f3 f4) (x : Int) : IsS26 w0 (W.setCell ⟨g, 4, none⟩ (.int .i64 x)) g f0 f1 f2 f3 x := by
  obtain ⟨hb, hg⟩ := h
  exact ⟨by simpa using blk_set hb 4 (.int .i64 x), hg⟩
theorem IsS26.new (w0 W : World) (f0 : Int) (f1 : Int) (f2 : Int) (f3 : Int) (f4 : Int) (hB : Below w0.heap.size w0 W) : IsS26 w0 (W.alloc (.cells #[.int .i64 f0, .int .i64 f1, .int .i64 f2, .int .i64 f3, .int .i64 f4] 26)) W.heap.size f0 f1 f2 f3 f4 := ⟨by simpa using heap_alloc_new W _, hB.size⟩

/-! ### wire_sample: function 24 -/
def wire_sample.f (s0_0 : Int) (s0_1 : Int) (s0_2 : Int) (s0_3 : Int) (s0_4 : Int) : Option (Bool × Int × Int × Int × Int × Int) := (wire_source.f s0_1).bind fun t106 => (if t106 = true then (if s0_2 ≥ 0 then (if s0_2 ≤ 1048575 then (if s0_3 ≥ (-1099511627776) then (if s0_3 ≤ 1099511627776 then (if s0_4 ≥ (-1099511627776) then (some (decide (s0_4 ≤ 1099511627776), s0_0, s0_1, s0_2, s0_3, s0_4)) else (some (false, s0_0, s0_1, s0_2, s0_3, s0_4))) else (some (false, s0_0, s0_1, s0_2, s0_3, s0_4))) else (some (false, s0_0, s0_1, s0_2, s0_3, s0_4))) else (some (false, s0_0, s0_1, s0_2, s0_3, s0_4))) else (some (false, s0_0, s0_1, s0_2, s0_3, s0_4))) else (some (false, s0_0, s0_1, s0_2, s0_3, s0_4)))
set_option maxHeartbeats 8000000 in
set_option maxRecDepth 100000 in
theorem wire_sample.calls (g : Nat) (s0_0 : Int) (s0_1 : Int) (s0_2 : Int) (s0_3 : Int) (s0_4 : Int) (r1 : Bool) (r2 : Int) (r3 : Int) (r4 : Int) (r5 : Int) (r6 : Int) (w0 w : World) (hI : IsS26 w0 w g s0_0 s0_1 s0_2 s0_3 s0_4) (hB : Below w0.heap.size w0 w) (h : wire_sample.f s0_0 s0_1 s0_2 s0_3 s0_4 = some (r1, r2, r3, r4, r5, r6)) :
    Calls Try.prog 24 #[.pointer (some ⟨g, 0, none⟩)] w fun e w' => e = .returned (.bool r1) ∧ IsS26 w0 w' g r2 r3 r4 r5 r6 ∧ Below w0.heap.size w0 w' ∧ KeepBut w w' g none := by
  have HI0 := Aside0.mk hI
  have HK := Aside0.mk (KeepBut.refl w g none)
  have HL := Aside0.mk hB.size
  clear hI
  have HW0 := Aside0.mk hB.size
  have HB := Aside0.mk hB
  clear hB
  have H : ((wire_source.f s0_1).bind fun t106 => (if t106 = true then (if s0_2 ≥ 0 then (if s0_2 ≤ 1048575 then (if s0_3 ≥ (-1099511627776) then (if s0_3 ≤ 1099511627776 then (if s0_4 ≥ (-1099511627776) then (some (decide (s0_4 ≤ 1099511627776), s0_0, s0_1, s0_2, s0_3, s0_4)) else (some (false, s0_0, s0_1, s0_2, s0_3, s0_4))) else (some (false, s0_0, s0_1, s0_2, s0_3, s0_4))) else (some (false, s0_0, s0_1, s0_2, s0_3, s0_4))) else (some (false, s0_0, s0_1, s0_2, s0_3, s0_4))) else (some (false, s0_0, s0_1, s0_2, s0_3, s0_4))) else (some (false, s0_0, s0_1, s0_2, s0_3, s0_4)))) = some (r1, r2, r3, r4, r5, r6) := h
  clear h
  replace H := Option.bind_eq_some_iff.mp H
  obtain ⟨t106, A20, H⟩ := H
  replace H : (if t106 = true then (if s0_2 ≥ 0 then (if s0_2 ≤ 1048575 then (if s0_3 ≥ (-1099511627776) then (if s0_3 ≤ 1099511627776 then (if s0_4 ≥ (-1099511627776) then (some (decide (s0_4 ≤ 1099511627776), s0_0, s0_1, s0_2, s0_3, s0_4)) else (some (false, s0_0, s0_1, s0_2, s0_3, s0_4))) else (some (false, s0_0, s0_1, s0_2, s0_3, s0_4))) else (some (false, s0_0, s0_1, s0_2, s0_3, s0_4))) else (some (false, s0_0, s0_1, s0_2, s0_3, s0_4))) else (some (false, s0_0, s0_1, s0_2, s0_3, s0_4))) else (some (false, s0_0, s0_1, s0_2, s0_3, s0_4))) = some (r1, r2, r3, r4, r5, r6) := H
  have A2 := Aside0.mk A20
  clear A20
  by_cases c3 : t106 = true
  · subst c3
    have H1 : (if s0_2 ≥ 0 then (if s0_2 ≤ 1048575 then (if s0_3 ≥ (-1099511627776) then (if s0_3 ≤ 1099511627776 then (if s0_4 ≥ (-1099511627776) then (some (decide (s0_4 ≤ 1099511627776), s0_0, s0_1, s0_2, s0_3, s0_4)) else (some (false, s0_0, s0_1, s0_2, s0_3, s0_4))) else (some (false, s0_0, s0_1, s0_2, s0_3, s0_4))) else (some (false, s0_0, s0_1, s0_2, s0_3, s0_4))) else (some (false, s0_0, s0_1, s0_2, s0_3, s0_4))) else (some (false, s0_0, s0_1, s0_2, s0_3, s0_4))) = some (r1, r2, r3, r4, r5, r6) := by rw [if_pos rfl] at H; exact H
    clear H
    have H := H1
    clear H1
    by_cases c4 : s0_2 ≥ 0
    · rw [if_pos c4] at H
      have c4b0 : decide (0 ≤ s0_2) = true := decide_eq_true c4
      clear c4
      by_cases c5 : s0_2 ≤ 1048575
      · rw [if_pos c5] at H
        have c5b0 : decide (s0_2 ≤ 1048575) = true := decide_eq_true c5
        clear c5
        by_cases c6 : s0_3 ≥ (-1099511627776)
        · rw [if_pos c6] at H
          have c6b0 : decide ((-1099511627776) ≤ s0_3) = true := decide_eq_true c6
          clear c6
          by_cases c7 : s0_3 ≤ 1099511627776
          · rw [if_pos c7] at H
            have c7b0 : decide (s0_3 ≤ 1099511627776) = true := decide_eq_true c7
            clear c7
            by_cases c8 : s0_4 ≥ (-1099511627776)
            · rw [if_pos c8] at H
              have c8b0 : decide ((-1099511627776) ≤ s0_4) = true := decide_eq_true c8
              clear c8
              simp only [Option.some.injEq, Prod.mk.injEq] at H
              obtain ⟨rfl, rfl, rfl, rfl, rfl, rfl⟩ := H
              obtain ⟨HGz9, hgz9⟩ := HI0.out
              have hcz9_0 := cellS26_0 HGz9
              have hcz9_1 := cellS26_1 HGz9
              have hcz9_2 := cellS26_2 HGz9
              have hcz9_3 := cellS26_3 HGz9
              have hcz9_4 := cellS26_4 HGz9
              have hfz9_0 := blk_frozen HGz9 0
              have hfz9_1 := blk_frozen HGz9 1
              have hfz9_2 := blk_frozen HGz9 2
              have hfz9_3 := blk_frozen HGz9 3
              have hfz9_4 := blk_frozen HGz9 4
              clear HGz9 hgz9
              go_enter Try.func24, Try.ntmps24
              go_wp2_with (first | ((with_reducible refine gate_callee (f := 25) rfl ?_); refine goesL_ (some 7) rfl rfl Try.func25 (by kernel_rfl) rfl #[.int .i64 s0_1] rfl (by (try simp only [List.map_toArray, List.map_cons, List.map_nil]); first | done | rfl | (simp only [List.length_drop, List.length_take]; rfl)) ?_; (with_reducible refine (wire_source.calls s0_1 true _ A2.out).mono ?_); rintro e w' ⟨rfl, ⟨nd, rfl⟩⟩; refine ⟨_, rfl, ?_⟩))
              go_ret
              exact ⟨by first | rfl | (simp [errW_none, errW_some] <;> rfl) | (simp [*, errW_none, errW_some] <;> rfl), by repeat (first | (with_reducible first | exact HI0.out | apply IsS26.alloc | apply IsS26.drewN | apply IsS26.drew | apply IsS26.set_0 | apply IsS26.set_1 | apply IsS26.set_2 | apply IsS26.set_3 | apply IsS26.set_4) | exact HI0.out), by repeat (first | (with_reducible first | exact HB.out | apply below_alloc | apply pw_below_drewN | apply below_drew1 | refine below_set ?_ (IsS26.ge HI0.out)) | exact HB.out), by repeat (first | (with_reducible first | exact HK.out | apply KeepBut.set_ | apply keep_drewN | apply keep_drew | apply keep_alloc) | exact HK.out)⟩
            · rw [if_neg c8] at H
              have c8b0 : decide ((-1099511627776) ≤ s0_4) = false := decide_eq_false c8
              clear c8
              simp only [Option.some.injEq, Prod.mk.injEq] at H
              obtain ⟨rfl, rfl, rfl, rfl, rfl, rfl⟩ := H
              obtain ⟨HGz10, hgz10⟩ := HI0.out
              have hcz10_0 := cellS26_0 HGz10
              have hcz10_1 := cellS26_1 HGz10
              have hcz10_2 := cellS26_2 HGz10
              have hcz10_3 := cellS26_3 HGz10
              have hcz10_4 := cellS26_4 HGz10
              have hfz10_0 := blk_frozen HGz10 0
              have hfz10_1 := blk_frozen HGz10 1
              have hfz10_2 := blk_frozen HGz10 2
              have hfz10_3 := blk_frozen HGz10 3
              have hfz10_4 := blk_frozen HGz10 4
              clear HGz10 hgz10
              go_enter Try.func24, Try.ntmps24
              go_wp2_with (first | ((with_reducible refine gate_callee (f := 25) rfl ?_); refine goesL_ (some 7) rfl rfl Try.func25 (by kernel_rfl) rfl #[.int .i64 s0_1] rfl (by (try simp only [List.map_toArray, List.map_cons, List.map_nil]); first | done | rfl | (simp only [List.length_drop, List.length_take]; rfl)) ?_; (with_reducible refine (wire_source.calls s0_1 true _ A2.out).mono ?_); rintro e w' ⟨rfl, ⟨nd, rfl⟩⟩; refine ⟨_, rfl, ?_⟩))
              go_ret
              exact ⟨by first | rfl | (simp [errW_none, errW_some] <;> rfl) | (simp [*, errW_none, errW_some] <;> rfl), by repeat (first | (with_reducible first | exact HI0.out | apply IsS26.alloc | apply IsS26.drewN | apply IsS26.drew | apply IsS26.set_0 | apply IsS26.set_1 | apply IsS26.set_2 | apply IsS26.set_3 | apply IsS26.set_4) | exact HI0.out), by repeat (first | (with_reducible first | exact HB.out | apply below_alloc | apply pw_below_drewN | apply below_drew1 | refine below_set ?_ (IsS26.ge HI0.out)) | exact HB.out), by repeat (first | (with_reducible first | exact HK.out | apply KeepBut.set_ | apply keep_drewN | apply keep_drew | apply keep_alloc) | exact HK.out)⟩
          · rw [if_neg c7] at H
            have c7b0 : decide (s0_3 ≤ 1099511627776) = false := decide_eq_false c7
            clear c7
            simp only [Option.some.injEq, Prod.mk.injEq] at H
            obtain ⟨rfl, rfl, rfl, rfl, rfl, rfl⟩ := H
            obtain ⟨HGz11, hgz11⟩ := HI0.out
            have hcz11_0 := cellS26_0 HGz11
            have hcz11_1 := cellS26_1 HGz11
            have hcz11_2 := cellS26_2 HGz11
            have hcz11_3 := cellS26_3 HGz11
            have hcz11_4 := cellS26_4 HGz11
            have hfz11_0 := blk_frozen HGz11 0
            have hfz11_1 := blk_frozen HGz11 1
            have hfz11_2 := blk_frozen HGz11 2
            have hfz11_3 := blk_frozen HGz11 3
            have hfz11_4 := blk_frozen HGz11 4
            clear HGz11 hgz11
            go_enter Try.func24, Try.ntmps24
            go_wp2_with (first | ((with_reducible refine gate_callee (f := 25) rfl ?_); refine goesL_ (some 7) rfl rfl Try.func25 (by kernel_rfl) rfl #[.int .i64 s0_1] rfl (by (try simp only [List.map_toArray, List.map_cons, List.map_nil]); first | done | rfl | (simp only [List.length_drop, List.length_take]; rfl)) ?_; (with_reducible refine (wire_source.calls s0_1 true _ A2.out).mono ?_); rintro e w' ⟨rfl, ⟨nd, rfl⟩⟩; refine ⟨_, rfl, ?_⟩))
            go_ret
            exact ⟨by first | rfl | (simp [errW_none, errW_some] <;> rfl) | (simp [*, errW_none, errW_some] <;> rfl), by repeat (first | (with_reducible first | exact HI0.out | apply IsS26.alloc | apply IsS26.drewN | apply IsS26.drew | apply IsS26.set_0 | apply IsS26.set_1 | apply IsS26.set_2 | apply IsS26.set_3 | apply IsS26.set_4) | exact HI0.out), by repeat (first | (with_reducible first | exact HB.out | apply below_alloc | apply pw_below_drewN | apply below_drew1 | refine below_set ?_ (IsS26.ge HI0.out)) | exact HB.out), by repeat (first | (with_reducible first | exact HK.out | apply KeepBut.set_ | apply keep_drewN | apply keep_drew | apply keep_alloc) | exact HK.out)⟩
        · rw [if_neg c6] at H
          have c6b0 : decide ((-1099511627776) ≤ s0_3) = false := decide_eq_false c6
          clear c6
          simp only [Option.some.injEq, Prod.mk.injEq] at H
          obtain ⟨rfl, rfl, rfl, rfl, rfl, rfl⟩ := H
          obtain ⟨HGz12, hgz12⟩ := HI0.out
          have hcz12_0 := cellS26_0 HGz12
          have hcz12_1 := cellS26_1 HGz12
          have hcz12_2 := cellS26_2 HGz12
          have hcz12_3 := cellS26_3 HGz12
          have hcz12_4 := cellS26_4 HGz12
          have hfz12_0 := blk_frozen HGz12 0
          have hfz12_1 := blk_frozen HGz12 1
          have hfz12_2 := blk_frozen HGz12 2
          have hfz12_3 := blk_frozen HGz12 3
          have hfz12_4 := blk_frozen HGz12 4
          clear HGz12 hgz12
          go_enter Try.func24, Try.ntmps24
          go_wp2_with (first | ((with_reducible refine gate_callee (f := 25) rfl ?_); refine goesL_ (some 7) rfl rfl Try.func25 (by kernel_rfl) rfl #[.int .i64 s0_1] rfl (by (try simp only [List.map_toArray, List.map_cons, List.map_nil]); first | done | rfl | (simp only [List.length_drop, List.length_take]; rfl)) ?_; (with_reducible refine (wire_source.calls s0_1 true _ A2.out).mono ?_); rintro e w' ⟨rfl, ⟨nd, rfl⟩⟩; refine ⟨_, rfl, ?_⟩))
          go_ret
          exact ⟨by first | rfl | (simp [errW_none, errW_some] <;> rfl) | (simp [*, errW_none, errW_some] <;> rfl), by repeat (first | (with_reducible first | exact HI0.out | apply IsS26.alloc | apply IsS26.drewN | apply IsS26.drew | apply IsS26.set_0 | apply IsS26.set_1 | apply IsS26.set_2 | apply IsS26.set_3 | apply IsS26.set_4) | exact HI0.out), by repeat (first | (with_reducible first | exact HB.out | apply below_alloc | apply pw_below_drewN | apply below_drew1 | refine below_set ?_ (IsS26.ge HI0.out)) | exact HB.out), by repeat (first | (with_reducible first | exact HK.out | apply KeepBut.set_ | apply keep_drewN | apply keep_drew | apply keep_alloc) | exact HK.out)⟩
      · rw [if_neg c5] at H
        have c5b0 : decide (s0_2 ≤ 1048575) = false := decide_eq_false c5
        clear c5
        simp only [Option.some.injEq, Prod.mk.injEq] at H
        obtain ⟨rfl, rfl, rfl, rfl, rfl, rfl⟩ := H
        obtain ⟨HGz13, hgz13⟩ := HI0.out
        have hcz13_0 := cellS26_0 HGz13
        have hcz13_1 := cellS26_1 HGz13
        have hcz13_2 := cellS26_2 HGz13
        have hcz13_3 := cellS26_3 HGz13
        have hcz13_4 := cellS26_4 HGz13
        have hfz13_0 := blk_frozen HGz13 0
        have hfz13_1 := blk_frozen HGz13 1
        have hfz13_2 := blk_frozen HGz13 2
        have hfz13_3 := blk_frozen HGz13 3
        have hfz13_4 := blk_frozen HGz13 4
        clear HGz13 hgz13
        go_enter Try.func24, Try.ntmps24
        go_wp2_with (first | ((with_reducible refine gate_callee (f := 25) rfl ?_); refine goesL_ (some 7) rfl rfl Try.func25 (by kernel_rfl) rfl #[.int .i64 s0_1] rfl (by (try simp only [List.map_toArray, List.map_cons, List.map_nil]); first | done | rfl | (simp only [List.length_drop, List.length_take]; rfl)) ?_; (with_reducible refine (wire_source.calls s0_1 true _ A2.out).mono ?_); rintro e w' ⟨rfl, ⟨nd, rfl⟩⟩; refine ⟨_, rfl, ?_⟩))
        go_ret
        exact ⟨by first | rfl | (simp [errW_none, errW_some] <;> rfl) | (simp [*, errW_none, errW_some] <;> rfl), by repeat (first | (with_reducible first | exact HI0.out | apply IsS26.alloc | apply IsS26.drewN | apply IsS26.drew | apply IsS26.set_0 | apply IsS26.set_1 | apply IsS26.set_2 | apply IsS26.set_3 | apply IsS26.set_4) | exact HI0.out), by repeat (first | (with_reducible first | exact HB.out | apply below_alloc | apply pw_below_drewN | apply below_drew1 | refine below_set ?_ (IsS26.ge HI0.out)) | exact HB.out), by repeat (first | (with_reducible first | exact HK.out | apply KeepBut.set_ | apply keep_drewN | apply keep_drew | apply keep_alloc) | exact HK.out)⟩
    · rw [if_neg c4] at H
      have c4b0 : decide (0 ≤ s0_2) = false := decide_eq_false c4
      clear c4
      simp only [Option.some.injEq, Prod.mk.injEq] at H
      obtain ⟨rfl, rfl, rfl, rfl, rfl, rfl⟩ := H
      obtain ⟨HGz14, hgz14⟩ := HI0.out
      have hcz14_0 := cellS26_0 HGz14
      have hcz14_1 := cellS26_1 HGz14
      have hcz14_2 := cellS26_2 HGz14
      have hcz14_3 := cellS26_3 HGz14
      have hcz14_4 := cellS26_4 HGz14
      have hfz14_0 := blk_frozen HGz14 0
      have hfz14_1 := blk_frozen HGz14 1
      have hfz14_2 := blk_frozen HGz14 2
      have hfz14_3 := blk_frozen HGz14 3
      have hfz14_4 := blk_frozen HGz14 4
      clear HGz14 hgz14
      go_enter Try.func24, Try.ntmps24
      go_wp2_with (first | ((with_reducible refine gate_callee (f := 25) rfl ?_); refine goesL_ (some 7) rfl rfl Try.func25 (by kernel_rfl) rfl #[.int .i64 s0_1] rfl (by (try simp only [List.map_toArray, List.map_cons, List.map_nil]); first | done | rfl | (simp only [List.length_drop, List.length_take]; rfl)) ?_; (with_reducible refine (wire_source.calls s0_1 true _ A2.out).mono ?_); rintro e w' ⟨rfl, ⟨nd, rfl⟩⟩; refine ⟨_, rfl, ?_⟩))
      go_ret
      exact ⟨by first | rfl | (simp [errW_none, errW_some] <;> rfl) | (simp [*, errW_none, errW_some] <;> rfl), by repeat (first | (with_reducible first | exact HI0.out | apply IsS26.alloc | apply IsS26.drewN | apply IsS26.drew | apply IsS26.set_0 | apply IsS26.set_1 | apply IsS26.set_2 | apply IsS26.set_3 | apply IsS26.set_4) | exact HI0.out), by repeat (first | (with_reducible first | exact HB.out | apply below_alloc | apply pw_below_drewN | apply below_drew1 | refine below_set ?_ (IsS26.ge HI0.out)) | exact HB.out), by repeat (first | (with_reducible first | exact HK.out | apply KeepBut.set_ | apply keep_drewN | apply keep_drew | apply keep_alloc) | exact HK.out)⟩
  · replace c3 := Bool.eq_false_iff.mpr c3
    subst c3
    have H1 : (some (false, s0_0, s0_1, s0_2, s0_3, s0_4)) = some (r1, r2, r3, r4, r5, r6) := by rw [if_neg (show ¬ (false = true) by decide)] at H; exact H
    clear H
    have H := H1
    clear H1
    simp only [Option.some.injEq, Prod.mk.injEq] at H
    obtain ⟨rfl, rfl, rfl, rfl, rfl, rfl⟩ := H
    obtain ⟨HGz15, hgz15⟩ := HI0.out
    have hcz15_0 := cellS26_0 HGz15
    have hcz15_1 := cellS26_1 HGz15
    have hcz15_2 := cellS26_2 HGz15
    have hcz15_3 := cellS26_3 HGz15
    have hcz15_4 := cellS26_4 HGz15
    have hfz15_0 := blk_frozen HGz15 0
    have hfz15_1 := blk_frozen HGz15 1
    have hfz15_2 := blk_frozen HGz15 2
    have hfz15_3 := blk_frozen HGz15 3
    have hfz15_4 := blk_frozen HGz15 4
    clear HGz15 hgz15
    go_enter Try.func24, Try.ntmps24
    go_wp2_with (first | ((with_reducible refine gate_callee (f := 25) rfl ?_); refine goesL_ (some 7) rfl rfl Try.func25 (by kernel_rfl) rfl #[.int .i64 s0_1] rfl (by (try simp only [List.map_toArray, List.map_cons, List.map_nil]); first | done | rfl | (simp only [List.length_drop, List.length_take]; rfl)) ?_; (with_reducible refine (wire_source.calls s0_1 false _ A2.out).mono ?_); rintro e w' ⟨rfl, ⟨nd, rfl⟩⟩; refine ⟨_, rfl, ?_⟩))
    go_ret
    exact ⟨by first | rfl | (simp [errW_none, errW_some] <;> rfl) | (simp [*, errW_none, errW_some] <;> rfl), by repeat (first | (with_reducible first | exact HI0.out | apply IsS26.alloc | apply IsS26.drewN | apply IsS26.drew | apply IsS26.set_0 | apply IsS26.set_1 | apply IsS26.set_2 | apply IsS26.set_3 | apply IsS26.set_4) | exact HI0.out), by repeat (first | (with_reducible first | exact HB.out | apply below_alloc | apply pw_below_drewN | apply below_drew1 | refine below_set ?_ (IsS26.ge HI0.out)) | exact HB.out), by repeat (first | (with_reducible first | exact HK.out | apply KeepBut.set_ | apply keep_drewN | apply keep_drew | apply keep_alloc) | exact HK.out)⟩

/-! ### wire_MarkMay: function 26 -/
def wire_MarkMay.f (a0 : Int) : Option (Bool) := if a0 > (-4398046511104) then (some (decide (a0 ≤ 4398046511104))) else (some false)
set_option maxHeartbeats 8000000 in
set_option maxRecDepth 100000 in
theorem wire_MarkMay.calls (a0 : Int) (r : Bool) (w : World) (h : wire_MarkMay.f a0 = some r) :
    Calls Try.prog 26 #[.int .i64 a0] w fun e w' => e = .returned (.bool r) ∧ Drawn0 w w' := by
  have H : (if a0 > (-4398046511104) then (some (decide (a0 ≤ 4398046511104))) else (some false)) = some r := h
  clear h
  by_cases c2 : a0 > (-4398046511104)
  · rw [if_pos c2] at H
    have c2b0 : decide ((-4398046511104) < a0) = true := decide_eq_true c2
    clear c2
    obtain rfl := Option.some.inj H
    go_enter Try.func26, Try.ntmps26
    go_wp2
    go_ret
    exact ⟨by first | rfl | (simp; done) | (simp [*]; done), by repeat (first | exact Drawn0.refl _ | apply Drawn0.step)⟩
  · rw [if_neg c2] at H
    have c2b0 : decide ((-4398046511104) < a0) = false := decide_eq_false c2
    clear c2
    obtain rfl := Option.some.inj H
    go_enter Try.func26, Try.ntmps26
    go_wp2
    go_ret
    exact ⟨by first | rfl | (simp; done) | (simp [*]; done), by repeat (first | exact Drawn0.refl _ | apply Drawn0.step)⟩

end Go.Proofs.Ytcbckolcmfbjhaa.QAdmitForms
