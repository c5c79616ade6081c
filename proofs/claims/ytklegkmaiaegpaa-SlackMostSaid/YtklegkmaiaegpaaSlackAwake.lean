/- What every slack program answers that is one, and the lines: their walks. -/
import Derived.Test.YtklegkmaiaegpaaSlackWalk
import Derived.Outline
namespace Go.Proofs.Ytklegkmaiaegpaa.SlackW
open Go.RowKit Go.Proofs.YtklegkmaiaegpaaW.PrintWords Go.Proofs.YtklegkmaiaegpaaW.PrintLast Go.Proofs.YtklegkmaiaegpaaW.PrintMore
attribute [local go_sem] max2_int min2_int max_two min_two max_three min_three max_four min_four
set_option linter.unusedVariables false
/-- What Line answers where all may be. -/
theorem line_yes (a l v : Int) (ha : -4398046511104 ≤ a) (ha2 : a ≤ 4398046511104) (h0 : 0 ≤ l) (h1 : l ≤ 1073741824) (hv : Aside0 (v = max (a - l) (-4398046511104))) (w : World) :
    Calls Try.prog 8 #[.int .i64 a, .int .i64 l] w fun e w' => e = .returned (.int .i64 v) ∧ w = w' := by
  have hc : (a - l < -4398046511104) ∨ (-4398046511104 ≤ a - l) := by omega
  rcases hc with hc | hc
  all_goals
    go_enter Try.func8, Try.ntmps8
    go_wp2_with (go_at_call 15; (with_reducible refine (late_yes l h0 h1 _).mono ?_); rintro e w' ⟨rfl, rfl⟩)
    go_ret
    exact ⟨by rw [hv.out]; first | (rw [Int.max_eq_right (by omega)]; rfl) | (rw [Int.max_eq_left (by omega)]; rfl), rfl⟩
theorem line_no (a l : Int) (h : a < -4398046511104 ∨ 4398046511104 < a ∨ l < 0 ∨ 1073741824 < l) (w : World) :
    Calls Try.prog 8 #[.int .i64 a, .int .i64 l] w fun e w' => e = .returned (.int .i64 (-4398046511104)) ∧ w = w' := by
  by_cases c1 : a < -4398046511104
  · go_enter Try.func8, Try.ntmps8
    go_wp2_with fail
    go_ret
    exact ⟨rfl, rfl⟩
  · by_cases c2 : 4398046511104 < a
    · go_enter Try.func8, Try.ntmps8
      go_wp2_with fail
      go_ret
      exact ⟨rfl, rfl⟩
    · have H := Lib.hid (show l < 0 ∨ 1073741824 < l by omega)
      clear h
      go_enter Try.func8, Try.ntmps8
      go_wp2_with (go_at_call 15; (with_reducible refine (late_no l H.out _).mono ?_); rintro e w' ⟨rfl, rfl⟩)
      go_ret
      exact ⟨rfl, rfl⟩
theorem rline_yes (a l v : Int) (ha : -4398046511104 ≤ a) (ha2 : a ≤ 4398046511104) (h0 : 0 ≤ l) (h1 : l ≤ 1073741824) (hv : Aside0 (v = max (a - l) (-4398046511104))) (w : World) :
    Calls Try.prog 9 #[.int .i64 a, .int .i64 l] w fun e w' => e = .returned (.int .i64 v) ∧ w = w' := by
  have hc : (a - l < -4398046511104) ∨ (-4398046511104 ≤ a - l) := by omega
  rcases hc with hc | hc
  all_goals
    go_enter Try.func9, Try.ntmps9
    go_wp2
    go_ret
    exact ⟨by rw [hv.out]; first | (rw [Int.max_eq_right (by omega)]; rfl) | (rw [Int.max_eq_left (by omega)]; rfl), rfl⟩
theorem rline_no (a l : Int) (h : a < -4398046511104 ∨ 4398046511104 < a ∨ l < 0 ∨ 1073741824 < l) (w : World) :
    Calls Try.prog 9 #[.int .i64 a, .int .i64 l] w fun e w' => e = .returned (.int .i64 (-4398046511104)) ∧ w = w' := by
  by_cases c1 : a < -4398046511104
  · go_enter Try.func9, Try.ntmps9
    go_wp2
    go_ret
    exact ⟨rfl, rfl⟩
  · by_cases c2 : 4398046511104 < a
    · go_enter Try.func9, Try.ntmps9
      go_wp2
      go_ret
      exact ⟨rfl, rfl⟩
    · by_cases c3 : l < 0
      · go_enter Try.func9, Try.ntmps9
        go_wp2
        go_ret
        exact ⟨rfl, rfl⟩
      · have c4 : 1073741824 < l := by omega
        go_enter Try.func9, Try.ntmps9
        go_wp2
        go_ret
        exact ⟨rfl, rfl⟩
set_option maxHeartbeats 1000000 in
theorem awake_calls (w : World) : Calls Try.prog 11 #[] w fun e w' => e = .returned (.bool true) ∧ Below w.heap.size w w' := by
  go_enter Try.func11, Try.ntmps11
  go_wp2_with fail
  refine (new_yes 10 (by omega) (by omega) _).mono ?_
  rintro e w1 ⟨rfl, hw1⟩
  have hg : Aside0 (w1.heap[w.heap.size]? = some (SB 43 10 false 0 0)) := ⟨by rw [← hw1]; show (w.heap.push _)[w.heap.size]? = _; simp⟩
  have HB : Aside0 (Below w.heap.size w w1) := ⟨by rw [← hw1]; exact below_alloc (Below.refl _ _) _⟩
  clear hw1
  go_wp2_with fail
  refine (new_no (-1) (by omega) _).mono ?_
  rintro e w2 ⟨rfl, rfl⟩
  go_wp2_with (go_at_call 10; (with_reducible refine (num_calls _ _).mono ?_); rintro e w' ⟨rfl, rfl⟩)
  refine (see_first w.heap.size 10 0 0 100 (by omega) (by omega) (by omega) (by omega) (by omega) (by omega) _ hg).mono ?_
  rintro e w3 ⟨rfl, HT⟩
  replace hg := Aside0.mk HT.at_
  replace HB := Aside0.mk (HB.out.trans (HT.below (Nat.le_refl _)))
  clear HT
  go_wp2_with (go_at_call 10; (with_reducible refine (num_calls _ _).mono ?_); rintro e w' ⟨rfl, rfl⟩)
  refine (see_stay w.heap.size 10 100 0 97 (by omega) (by omega) (by omega) (by omega) (by omega) (by omega) (by omega) (by omega) 3 ⟨by omega⟩ _ hg).mono ?_
  rintro e w3 ⟨rfl, HT⟩
  replace hg := Aside0.mk HT.at_
  replace HB := Aside0.mk (HB.out.trans (HT.below (Nat.le_refl _)))
  clear HT
  go_wp2_with fail
  refine (k_calls w.heap.size 10 true 100 3 _ hg.out).mono ?_
  rintro e w3 ⟨rfl, rfl⟩
  go_wp2_with (go_at_call 10; (with_reducible refine (num_calls _ _).mono ?_); rintro e w' ⟨rfl, rfl⟩)
  refine (see_up w.heap.size 10 100 3 120 (by omega) (by omega) (by omega) (by omega) (by omega) (by omega) (by omega) _ hg).mono ?_
  rintro e w3 ⟨rfl, HT⟩
  replace hg := Aside0.mk HT.at_
  replace HB := Aside0.mk (HB.out.trans (HT.below (Nat.le_refl _)))
  clear HT
  go_wp2_with (go_at_call 10; (with_reducible refine (num_calls _ _).mono ?_); rintro e w' ⟨rfl, rfl⟩)
  refine (see_stay w.heap.size 10 120 3 3 (by omega) (by omega) (by omega) (by omega) (by omega) (by omega) (by omega) (by omega) 10 ⟨by omega⟩ _ hg).mono ?_
  rintro e w3 ⟨rfl, HT⟩
  replace hg := Aside0.mk HT.at_
  replace HB := Aside0.mk (HB.out.trans (HT.below (Nat.le_refl _)))
  clear HT
  go_wp2_with fail
  refine (see_no w.heap.size _ (by omega) _).mono ?_
  rintro e w3 ⟨rfl, rfl⟩
  go_wp2_with (first | (go_at_call 10; (with_reducible refine (num_calls _ _).mono ?_); rintro e w' ⟨rfl, rfl⟩) | (go_at_call 14; (with_reducible refine (k_calls w.heap.size 10 true 120 10 _ hg.out).mono ?_); rintro e w' ⟨rfl, rfl⟩) | (go_at_call 8; (with_reducible refine (line_yes 7 9 (-2) (by omega) (by omega) (by omega) (by omega) ⟨by omega⟩ _).mono ?_); rintro e w' ⟨rfl, rfl⟩) | (go_at_call 8; (with_reducible refine (line_yes (-4398046511104) 9 (-4398046511104) (by omega) (by omega) (by omega) (by omega) ⟨by omega⟩ _).mono ?_); rintro e w' ⟨rfl, rfl⟩))
  go_ret
  exact ⟨rfl, HB.out⟩
end Go.Proofs.Ytklegkmaiaegpaa.SlackW
