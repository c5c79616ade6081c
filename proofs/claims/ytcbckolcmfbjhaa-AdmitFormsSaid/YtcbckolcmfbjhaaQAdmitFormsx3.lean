-- Written by a program of this session (wip/myprint.py), over the words of the print
import Derived.Test.YtcbckolcmfbjhaaQAdmitFormsx0
import Derived.Test.YtcbckolcmfbjhaaQAdmitFormsx2
namespace Go.Proofs.Ytcbckolcmfbjhaa.QAdmitForms
open Go.RowKit Go.Proofs.YtcbckolcmfbjhaaW.PrintWords Go.Proofs.YtcbckolcmfbjhaaW.PrintLast Go.Proofs.YtcbckolcmfbjhaaW.PrintMore
attribute [local go_sem] max2_int min2_int max_two min_two max_three min_three max_four min_four   -- for this text's walks alone
set_option linter.unusedVariables false
set_option linter.unusedSimpArgs false

/-! ### wire_May: function 17, by a walk of its own -/
def srcMay (x : Int) : Bool := decide (0 ≤ x ∧ x < 8)
def markMay (x : Int) : Bool := decide (-4398046511104 < x ∧ x ≤ 4398046511104)
def sampMay (a1 a2 a3 a4 : Int) : Bool := decide (0 ≤ a1 ∧ a1 < 8 ∧ 0 ≤ a2 ∧ a2 ≤ 1048575 ∧ -1099511627776 ≤ a3 ∧ a3 ≤ 1099511627776 ∧ -1099511627776 ≤ a4 ∧ a4 ≤ 1099511627776)
def oMay (a0 a1 a2 a3 a4 : Int) : Bool := if a0 = 0 then sampMay a1 a2 a3 a4 else if a0 = 1 then (((srcMay a1 && markMay a3) && (a2 == 0)) && (a4 == 0)) else ((((a0 == 2) && (a1 == 0)) && (a2 == 0)) && (a3 == 0)) && (a4 == 0)
theorem source_eq (a : Int) : wire_source.f a = some (srcMay a) := by
  unfold wire_source.f srcMay
  by_cases c : a ≥ 0
  · rw [if_pos c]; exact congrArg some (decide_eq_decide.2 (by omega))
  · rw [if_neg c, decide_eq_false (by omega)]
theorem mark_eq (a : Int) : wire_MarkMay.f a = some (markMay a) := by
  unfold wire_MarkMay.f markMay
  by_cases c : a > (-4398046511104)
  · rw [if_pos c]; exact congrArg some (decide_eq_decide.2 (by omega))
  · rw [if_neg c, decide_eq_false (by omega)]
theorem sample_eq (a0 a1 a2 a3 a4 : Int) : wire_sample.f a0 a1 a2 a3 a4 = some (sampMay a1 a2 a3 a4, a0, a1, a2, a3, a4) := by
  unfold wire_sample.f sampMay
  rw [source_eq, Option.bind_some]
  unfold srcMay
  by_cases c : 0 ≤ a1 ∧ a1 < 8
  · rw [if_pos (decide_eq_true c)]
    by_cases c1 : a2 ≥ 0
    · rw [if_pos c1]
      by_cases c2 : a2 ≤ 1048575
      · rw [if_pos c2]
        by_cases c3 : a3 ≥ (-1099511627776)
        · rw [if_pos c3]
          by_cases c4 : a3 ≤ 1099511627776
          · rw [if_pos c4]
            by_cases c5 : a4 ≥ (-1099511627776)
            · rw [if_pos c5, show decide (a4 ≤ 1099511627776) = decide (0 ≤ a1 ∧ a1 < 8 ∧ 0 ≤ a2 ∧ a2 ≤ 1048575 ∧ -1099511627776 ≤ a3 ∧ a3 ≤ 1099511627776 ∧ -1099511627776 ≤ a4 ∧ a4 ≤ 1099511627776) from decide_eq_decide.2 (by omega)]
            · rw [if_neg c5, decide_eq_false (by omega)]
          · rw [if_neg c4, decide_eq_false (by omega)]
        · rw [if_neg c3, decide_eq_false (by omega)]
      · rw [if_neg c2, decide_eq_false (by omega)]
    · rw [if_neg c1, decide_eq_false (by omega)]
  · rw [decide_eq_false c, if_neg (by decide), decide_eq_false (by omega)]
def wire_May.f (a0_0 : Int) (a0_1 : Int) (a0_2 : Int) (a0_3 : Int) (a0_4 : Int) : Option (Bool) := some (oMay a0_0 a0_1 a0_2 a0_3 a0_4)
attribute [irreducible] srcMay markMay sampMay
set_option maxHeartbeats 8000000 in
set_option maxRecDepth 100000 in
theorem wire_May.calls (a0_0 : Int) (a0_1 : Int) (a0_2 : Int) (a0_3 : Int) (a0_4 : Int) (r : Bool) (w : World) (h : wire_May.f a0_0 a0_1 a0_2 a0_3 a0_4 = some r) :
    Calls Try.prog 17 #[.agg #[.int .i64 a0_0, .int .i64 a0_1, .int .i64 a0_2, .int .i64 a0_3, .int .i64 a0_4]] w fun e w' => e = .returned (.bool r) ∧ Below w.heap.size w w' := by
  obtain rfl := Option.some.inj h
  clear h
  have HW : Aside0 (IsS26 w (w.alloc (.cells #[.int .i64 a0_0, .int .i64 a0_1, .int .i64 a0_2, .int .i64 a0_3, .int .i64 a0_4] 26 (0, 0))) w.heap.size a0_0 a0_1 a0_2 a0_3 a0_4) :=
    ⟨⟨by show (w.heap.push _)[w.heap.size]? = _; simp, Nat.le_refl _⟩⟩
  have HB : Aside0 (Below w.heap.size w (w.alloc (.cells #[.int .i64 a0_0, .int .i64 a0_1, .int .i64 a0_2, .int .i64 a0_3, .int .i64 a0_4] 26 (0, 0)))) := ⟨below_alloc (Below.refl _ _) _⟩
  unfold oMay
  by_cases c0 : a0_0 = 0
  · subst c0
    rw [if_pos rfl]
    have A1 := Aside0.mk (sample_eq 0 a0_1 a0_2 a0_3 a0_4)
    generalize sampMay a0_1 a0_2 a0_3 a0_4 = sv at *
    go_enter Try.func17, Try.ntmps17
    go_wp2_with fail
    refine (wire_sample.calls _ _ _ _ _ _ _ _ _ _ _ _ w _ HW.out HB.out A1.out).mono ?_
    rintro e w1 ⟨rfl, HW1, HB1, _⟩
    have HB2 := Aside0.mk HB1
    clear HW1 HB1
    go_wp2_with fail
    go_ret
    exact ⟨rfl, HB2.out⟩
  · rw [if_neg c0]
    have e0 : (a0_0 == 0) = false := beq_eq_false_iff_ne.2 c0
    by_cases c1 : a0_0 = 1
    · subst c1
      rw [if_pos rfl]
      have A1 := Aside0.mk (source_eq a0_1)
      have A2 := Aside0.mk (mark_eq a0_3)
      generalize srcMay a0_1 = sv at *
      generalize markMay a0_3 = mv at *
      generalize hz2 : (a0_2 == 0) = z2
      generalize hz4 : (a0_4 == 0) = z4
      cases sv with
      | false =>
        simp only [Bool.false_and]
        go_enter Try.func17, Try.ntmps17
        go_wp2_with (first | (go_at_call 25; (with_reducible refine (wire_source.calls a0_1 _ _ A1.out).mono ?_); rintro e w1 ⟨rfl, ⟨nd, rfl⟩⟩))
        go_ret
        exact ⟨rfl, pw_below_drewN HB.out _⟩
      | true =>
        cases mv with
        | false =>
          simp only [Bool.false_and, Bool.true_and]
          go_enter Try.func17, Try.ntmps17
          go_wp2_with (first | (go_at_call 25; (with_reducible refine (wire_source.calls a0_1 _ _ A1.out).mono ?_); rintro e w1 ⟨rfl, ⟨nd, rfl⟩⟩) | (go_at_call 26; (with_reducible refine (wire_MarkMay.calls a0_3 _ _ A2.out).mono ?_); rintro e w1 ⟨rfl, ⟨nd2, rfl⟩⟩))
          go_ret
          exact ⟨rfl, by repeat (first | exact HB.out | refine pw_below_drewN ?_ _)⟩
        | true =>
          simp only [Bool.true_and]
          cases z2 with
          | false =>
            simp only [Bool.false_and]
            go_enter Try.func17, Try.ntmps17
            go_wp2_with (first | (go_at_call 25; (with_reducible refine (wire_source.calls a0_1 _ _ A1.out).mono ?_); rintro e w1 ⟨rfl, ⟨nd, rfl⟩⟩) | (go_at_call 26; (with_reducible refine (wire_MarkMay.calls a0_3 _ _ A2.out).mono ?_); rintro e w1 ⟨rfl, ⟨nd2, rfl⟩⟩))
            go_ret
            exact ⟨rfl, by repeat (first | exact HB.out | refine pw_below_drewN ?_ _)⟩
          | true =>
            simp only [Bool.true_and]
            go_enter Try.func17, Try.ntmps17
            go_wp2_with (first | (go_at_call 25; (with_reducible refine (wire_source.calls a0_1 _ _ A1.out).mono ?_); rintro e w1 ⟨rfl, ⟨nd, rfl⟩⟩) | (go_at_call 26; (with_reducible refine (wire_MarkMay.calls a0_3 _ _ A2.out).mono ?_); rintro e w1 ⟨rfl, ⟨nd2, rfl⟩⟩))
            go_ret
            exact ⟨rfl, by repeat (first | exact HB.out | refine pw_below_drewN ?_ _)⟩
    · rw [if_neg c1]
      have e1 : (a0_0 == 1) = false := beq_eq_false_iff_ne.2 c1
      go_enter Try.func17, Try.ntmps17
      go_wp2_with fail
      all_goals
        subst_vars
        go_ret
        exact ⟨by first | rfl | simp [*], HB.out⟩

end Go.Proofs.Ytcbckolcmfbjhaa.QAdmitForms
