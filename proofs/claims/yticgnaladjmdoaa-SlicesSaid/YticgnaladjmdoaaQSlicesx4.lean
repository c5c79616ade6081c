-- Written by a program of this session (wip/myprint.py), over the words of the print
import Derived.Test.YticgnaladjmdoaaQSlicesx0
import Derived.Test.YticgnaladjmdoaaQSlicesx3
namespace Go.Proofs.Yticgnaladjmdoaa.QSlices
open Go.RowKit Go.Proofs.YticgnaladjmdoaaW.PrintWords Go.Proofs.YticgnaladjmdoaaW.PrintLast Go.Proofs.YticgnaladjmdoaaW.PrintMore
attribute [local go_sem] max2_int min2_int max_two min_two max_three min_three max_four min_four   -- for this text's walks alone
set_option linter.unusedVariables false
set_option linter.unusedSimpArgs false

/-! ### bourneref1_aggMay: function 29, by a walk of its own -/
theorem rwithin_eq (a : Int) : bourneref1_within.f a 1099511627776 = some (decide (-1099511627776 ≤ a ∧ a ≤ 1099511627776)) := by
  unfold bourneref1_within.f
  rw [w64_id (by omega) (by omega)]
  by_cases c : a ≥ -1099511627776
  · rw [if_pos c]; congr 1; exact decide_eq_decide.2 (by omega)
  · rw [if_neg c]; congr 1; symm; exact decide_eq_false (by omega)
theorem rbounds_l0 (bs : List Int) (hn : bs.length ≤ 9223372036854775807) (d : Nat) : ∀ (k i : Nat), i + d = bs.length → d < k → bourneref1_BoundsMay.l0 k bs (i : Int) = some (gFrom bs d i && decide (bs.length ≤ 8)) := by
  induction d with
  | zero =>
    intro k i hi hk
    obtain ⟨k, rfl⟩ : ∃ m, k = m + 1 := ⟨k - 1, by omega⟩
    simp only [bourneref1_BoundsMay.l0]
    rw [if_neg (by omega)]
    rw [gFrom_zero, Bool.true_and]
    congr 1
    exact decide_eq_decide.2 (by omega)
  | succ d ih =>
    intro k i hi hk
    obtain ⟨k, rfl⟩ : ∃ m, k = m + 1 := ⟨k - 1, by omega⟩
    simp only [bourneref1_BoundsMay.l0]
    rw [if_pos (by omega), if_pos (by omega), rwithin_eq, Option.bind_some]
    have e : rd bs (i : Int) = bs.getD i 0 := by unfold rd; rw [Int.toNat_natCast]
    replace ih := ih k (i + 1) (by omega) (by omega)
    have w1 : wrap64 ((i : Int) + 1) = ((i + 1 : Nat) : Int) := by rw [w64_id (by omega) (by omega)]; omega
    generalize decide (bs.length ≤ 8) = t8 at *
    rw [e]
    rw [gFrom_succ, Bool.and_assoc]
    unfold gAt
    by_cases c : -1099511627776 ≤ bs.getD i 0 ∧ bs.getD i 0 ≤ 1099511627776
    · rw [if_pos (decide_eq_true c)]
      by_cases c0 : 0 < i
      · have w2 : wrap64 ((i : Int) - 1) = ((i - 1 : Nat) : Int) := by rw [w64_id (by omega) (by omega)]; omega
        have e2 : rd bs ((i - 1 : Nat) : Int) = bs.getD (i - 1) 0 := by unfold rd; rw [Int.toNat_natCast]
        rw [if_pos (by omega), w2, if_pos (by omega), if_pos (by omega), e2]
        by_cases c1 : bs.getD (i - 1) 0 ≥ bs.getD i 0
        · rw [if_pos c1, decide_eq_false (fun h => by have := h.2.2 c0; omega), Bool.false_and]
        · rw [if_neg c1, w1, ih, decide_eq_true ⟨c.1, c.2, fun _ => by omega⟩, Bool.true_and]
      · rw [if_neg (by omega), w1, ih, decide_eq_true ⟨c.1, c.2, fun h => absurd h c0⟩, Bool.true_and]
    · rw [decide_eq_false c, if_neg (by decide), decide_eq_false (fun h => c ⟨h.1, h.2.1⟩), Bool.false_and]
theorem rbounds_eq (bs : List Int) (hn : bs.length ≤ 9223372036854775807) (k : Nat) (hk : bs.length < k) : bourneref1_BoundsMay.f k bs = some (bMay bs) := by
  unfold bourneref1_BoundsMay.f
  rw [show bMay bs = (gFrom bs bs.length 0 && decide (bs.length ≤ 8)) by unfold bMay; rw [Bool.and_comm]]
  exact rbounds_l0 bs hn bs.length k 0 (by omega) hk
def bourneref1_aggMay.f (a0_0 : Int) (a0_1 : Int) (a0_2 : Int) (a0_3 : Int) (l0_4 : List Int) (a0_5 : Int) : Option (Bool) := some (aMay a0_1 l0_4 a0_5)
set_option maxHeartbeats 8000000 in
set_option maxRecDepth 100000 in
theorem bourneref1_aggMay.calls (a0_0 : Int) (a0_1 : Int) (a0_2 : Int) (a0_3 : Int) (A0_4 : Option Addr) (c0_4 : Nat) (l0_4 : List Int) (a0_5 : Int) (r : Bool) (w : World) (hr0_4 : Kd.C (Kd.int .i64) w A0_4 l0_4.length l0_4) (hc0_4 : l0_4.length ≤ c0_4) (h : bourneref1_aggMay.f a0_0 a0_1 a0_2 a0_3 l0_4 a0_5 = some r) :
    Calls Try.prog 29 #[.agg #[.int .i64 a0_0, .int .i64 a0_1, .int .i64 a0_2, .int .i64 a0_3, .slice A0_4 l0_4.length c0_4, .int .i64 a0_5]] w fun e w' => e = .returned (.bool r) ∧ Below w.heap.size w w' := by
  obtain rfl := Option.some.inj h
  clear h
  have hn : l0_4.length ≤ 9223372036854775807 := (Kd.reads_of_C (d := (0 : Int)) (h1 := fun _ => rfl) hr0_4).2.1
  have A1 := Aside0.mk (rbounds_eq l0_4 hn (l0_4.length + 1) (by omega))
  clear hn
  have HR : Aside0 (Kd.C (Kd.int .i64) (w.alloc (.cells #[.int .i64 a0_0, .int .i64 a0_1, .int .i64 a0_2, .int .i64 a0_3, .slice A0_4 l0_4.length c0_4, .int .i64 a0_5] 24 (0, 0))) A0_4 l0_4.length l0_4) := ⟨Kd.C_below hr0_4 (below_alloc (Below.refl _ _) _)⟩
  have HC := Aside0.mk hc0_4
  have HB : Aside0 (Below w.heap.size w (w.alloc (.cells #[.int .i64 a0_0, .int .i64 a0_1, .int .i64 a0_2, .int .i64 a0_3, .slice A0_4 l0_4.length c0_4, .int .i64 a0_5] 24 (0, 0)))) := ⟨below_alloc (Below.refl _ _) _⟩
  clear hr0_4 hc0_4
  have hav : aMay a0_1 l0_4 a0_5 = (decide (0 ≤ a0_1 ∧ a0_1 ≤ 7 ∧ (a0_1 = 7 ∨ a0_5 = 0) ∧ 0 ≤ a0_5 ∧ a0_5 ≤ 1000 ∧ (6 ≤ a0_1 ↔ 0 < l0_4.length)) && bMay l0_4) := by unfold aMay; rfl
  rw [hav]
  clear hav
  generalize bMay l0_4 = bv at *
  generalize l0_4.length + 1 = K at *
  by_cases a1 : a0_1 < 0
  · have e1 := decide_eq_true a1
    rw [decide_eq_false (by omega), Bool.false_and]
    have e3 : (a0_1 == 6) = false := beq_eq_false_iff_ne.2 (by omega)
    have e4 : (a0_1 == 7) = false := beq_eq_false_iff_ne.2 (by omega)
    go_enter Try.func29, Try.ntmps29
    go_wp2
    repeat (go_quiet (fail); try go_wp2)
    go_ret
    exact ⟨by first | rfl | (simp; done), by repeat (first | (with_reducible first | exact HB.out | apply below_alloc | apply pw_below_drewN | apply below_drew1) | exact HB.out)⟩
  · have e1 := decide_eq_false a1
    by_cases a2 : 7 < a0_1
    · have e2 := decide_eq_true a2
      rw [decide_eq_false (by omega), Bool.false_and]
      have e3 : (a0_1 == 6) = false := beq_eq_false_iff_ne.2 (by omega)
      have e4 : (a0_1 == 7) = false := beq_eq_false_iff_ne.2 (by omega)
      go_enter Try.func29, Try.ntmps29
      go_wp2
      repeat (go_quiet (fail); try go_wp2)
      go_ret
      exact ⟨by first | rfl | (simp; done), by repeat (first | (with_reducible first | exact HB.out | apply below_alloc | apply pw_below_drewN | apply below_drew1) | exact HB.out)⟩
    · have e2 := decide_eq_false a2
      by_cases a6 : a0_1 = 6
      · subst a6
        clear a1 a2 e1 e2
        cases bv with
        | false =>
          rw [Bool.and_false]
          go_enter Try.func29, Try.ntmps29
          go_wp2_with (go_at_call 32; (with_reducible refine (bourneref1_BoundsMay.calls K A0_4 c0_4 l0_4 false _ HR.out HC.out A1.out).mono ?_); rintro e w1 ⟨rfl, ⟨nd, rfl⟩⟩)
          repeat (go_quiet ((go_at_call 32; with_reducible exact Calls.quiet_of ((bourneref1_BoundsMay.calls K A0_4 c0_4 l0_4 false _ HR.out HC.out A1.out).mono fun _ _ h => ⟨h.1, h.2.out⟩))); try go_wp2)
          go_ret
          exact ⟨by first | rfl | (simp; done), by repeat (first | (with_reducible first | exact HB.out | apply below_alloc | apply pw_below_drewN | apply below_drew1) | exact HB.out)⟩
        | true =>
          rw [Bool.and_true]
          by_cases hz : 0 < l0_4.length
          · have z := decide_eq_true hz
            by_cases r0 : a0_5 = 0
            · subst r0
              rw [decide_eq_true (by omega)]
              clear hz
              go_enter Try.func29, Try.ntmps29
              go_wp2_with (go_at_call 32; (with_reducible refine (bourneref1_BoundsMay.calls K A0_4 c0_4 l0_4 true _ HR.out HC.out A1.out).mono ?_); rintro e w1 ⟨rfl, ⟨nd, rfl⟩⟩)
              repeat (go_quiet ((go_at_call 32; with_reducible exact Calls.quiet_of ((bourneref1_BoundsMay.calls K A0_4 c0_4 l0_4 true _ HR.out HC.out A1.out).mono fun _ _ h => ⟨h.1, h.2.out⟩))); try go_wp2)
              go_ret
              exact ⟨by first | rfl | (simp; done), by repeat (first | (with_reducible first | exact HB.out | apply below_alloc | apply pw_below_drewN | apply below_drew1) | exact HB.out)⟩
            · have e0 : (a0_5 == 0) = false := beq_eq_false_iff_ne.2 r0
              rw [decide_eq_false (by omega)]
              clear hz
              go_enter Try.func29, Try.ntmps29
              go_wp2_with (go_at_call 32; (with_reducible refine (bourneref1_BoundsMay.calls K A0_4 c0_4 l0_4 true _ HR.out HC.out A1.out).mono ?_); rintro e w1 ⟨rfl, ⟨nd, rfl⟩⟩)
              repeat (go_quiet ((go_at_call 32; with_reducible exact Calls.quiet_of ((bourneref1_BoundsMay.calls K A0_4 c0_4 l0_4 true _ HR.out HC.out A1.out).mono fun _ _ h => ⟨h.1, h.2.out⟩))); try go_wp2)
              go_ret
              exact ⟨by first | rfl | (simp; done), by repeat (first | (with_reducible first | exact HB.out | apply below_alloc | apply pw_below_drewN | apply below_drew1) | exact HB.out)⟩
          · have z := decide_eq_false hz
            rw [decide_eq_false (by omega)]
            clear hz
            go_enter Try.func29, Try.ntmps29
            go_wp2_with (go_at_call 32; (with_reducible refine (bourneref1_BoundsMay.calls K A0_4 c0_4 l0_4 true _ HR.out HC.out A1.out).mono ?_); rintro e w1 ⟨rfl, ⟨nd, rfl⟩⟩)
            repeat (go_quiet ((go_at_call 32; with_reducible exact Calls.quiet_of ((bourneref1_BoundsMay.calls K A0_4 c0_4 l0_4 true _ HR.out HC.out A1.out).mono fun _ _ h => ⟨h.1, h.2.out⟩))); try go_wp2)
            go_ret
            exact ⟨by first | rfl | (simp; done), by repeat (first | (with_reducible first | exact HB.out | apply below_alloc | apply pw_below_drewN | apply below_drew1) | exact HB.out)⟩
      · by_cases a7 : a0_1 = 7
        · subst a7
          clear a1 a2 e1 e2 a6
          cases bv with
          | false =>
            rw [Bool.and_false]
            go_enter Try.func29, Try.ntmps29
            go_wp2_with (go_at_call 32; (with_reducible refine (bourneref1_BoundsMay.calls K A0_4 c0_4 l0_4 false _ HR.out HC.out A1.out).mono ?_); rintro e w1 ⟨rfl, ⟨nd, rfl⟩⟩)
            repeat (go_quiet ((go_at_call 32; with_reducible exact Calls.quiet_of ((bourneref1_BoundsMay.calls K A0_4 c0_4 l0_4 false _ HR.out HC.out A1.out).mono fun _ _ h => ⟨h.1, h.2.out⟩))); try go_wp2)
            go_ret
            exact ⟨by first | rfl | (simp; done), by repeat (first | (with_reducible first | exact HB.out | apply below_alloc | apply pw_below_drewN | apply below_drew1) | exact HB.out)⟩
          | true =>
            rw [Bool.and_true]
            by_cases hz : 0 < l0_4.length
            · have z := decide_eq_true hz
              by_cases r0 : a0_5 = 0
              · subst r0
                rw [decide_eq_true (by omega)]
                clear hz
                go_enter Try.func29, Try.ntmps29
                go_wp2_with (go_at_call 32; (with_reducible refine (bourneref1_BoundsMay.calls K A0_4 c0_4 l0_4 true _ HR.out HC.out A1.out).mono ?_); rintro e w1 ⟨rfl, ⟨nd, rfl⟩⟩)
                repeat (go_quiet ((go_at_call 32; with_reducible exact Calls.quiet_of ((bourneref1_BoundsMay.calls K A0_4 c0_4 l0_4 true _ HR.out HC.out A1.out).mono fun _ _ h => ⟨h.1, h.2.out⟩))); try go_wp2)
                go_ret
                exact ⟨by first | rfl | (simp; done), by repeat (first | (with_reducible first | exact HB.out | apply below_alloc | apply pw_below_drewN | apply below_drew1) | exact HB.out)⟩
              · have e0 : (a0_5 == 0) = false := beq_eq_false_iff_ne.2 r0
                by_cases r1 : 0 < a0_5
                · have e1 := decide_eq_true r1
                  by_cases r2 : a0_5 ≤ 1000
                  · have e2 := decide_eq_true r2
                    rw [decide_eq_true (by omega)]
                    clear hz r0
                    go_enter Try.func29, Try.ntmps29
                    go_wp2_with (go_at_call 32; (with_reducible refine (bourneref1_BoundsMay.calls K A0_4 c0_4 l0_4 true _ HR.out HC.out A1.out).mono ?_); rintro e w1 ⟨rfl, ⟨nd, rfl⟩⟩)
                    repeat (go_quiet ((go_at_call 32; with_reducible exact Calls.quiet_of ((bourneref1_BoundsMay.calls K A0_4 c0_4 l0_4 true _ HR.out HC.out A1.out).mono fun _ _ h => ⟨h.1, h.2.out⟩))); try go_wp2)
                    go_ret
                    exact ⟨by first | rfl | (simp; done), by repeat (first | (with_reducible first | exact HB.out | apply below_alloc | apply pw_below_drewN | apply below_drew1) | exact HB.out)⟩
                  · have e2 := decide_eq_false r2
                    rw [decide_eq_false (by omega)]
                    clear hz r0
                    go_enter Try.func29, Try.ntmps29
                    go_wp2_with (go_at_call 32; (with_reducible refine (bourneref1_BoundsMay.calls K A0_4 c0_4 l0_4 true _ HR.out HC.out A1.out).mono ?_); rintro e w1 ⟨rfl, ⟨nd, rfl⟩⟩)
                    repeat (go_quiet ((go_at_call 32; with_reducible exact Calls.quiet_of ((bourneref1_BoundsMay.calls K A0_4 c0_4 l0_4 true _ HR.out HC.out A1.out).mono fun _ _ h => ⟨h.1, h.2.out⟩))); try go_wp2)
                    go_ret
                    exact ⟨by first | rfl | (simp; done), by repeat (first | (with_reducible first | exact HB.out | apply below_alloc | apply pw_below_drewN | apply below_drew1) | exact HB.out)⟩
                · have e1 := decide_eq_false r1
                  rw [decide_eq_false (by omega)]
                  clear hz r0
                  go_enter Try.func29, Try.ntmps29
                  go_wp2_with (go_at_call 32; (with_reducible refine (bourneref1_BoundsMay.calls K A0_4 c0_4 l0_4 true _ HR.out HC.out A1.out).mono ?_); rintro e w1 ⟨rfl, ⟨nd, rfl⟩⟩)
                  repeat (go_quiet ((go_at_call 32; with_reducible exact Calls.quiet_of ((bourneref1_BoundsMay.calls K A0_4 c0_4 l0_4 true _ HR.out HC.out A1.out).mono fun _ _ h => ⟨h.1, h.2.out⟩))); try go_wp2)
                  go_ret
                  exact ⟨by first | rfl | (simp; done), by repeat (first | (with_reducible first | exact HB.out | apply below_alloc | apply pw_below_drewN | apply below_drew1) | exact HB.out)⟩
            · have z := decide_eq_false hz
              rw [decide_eq_false (by omega)]
              clear hz
              go_enter Try.func29, Try.ntmps29
              go_wp2_with (go_at_call 32; (with_reducible refine (bourneref1_BoundsMay.calls K A0_4 c0_4 l0_4 true _ HR.out HC.out A1.out).mono ?_); rintro e w1 ⟨rfl, ⟨nd, rfl⟩⟩)
              repeat (go_quiet ((go_at_call 32; with_reducible exact Calls.quiet_of ((bourneref1_BoundsMay.calls K A0_4 c0_4 l0_4 true _ HR.out HC.out A1.out).mono fun _ _ h => ⟨h.1, h.2.out⟩))); try go_wp2)
              go_ret
              exact ⟨by first | rfl | (simp; done), by repeat (first | (with_reducible first | exact HB.out | apply below_alloc | apply pw_below_drewN | apply below_drew1) | exact HB.out)⟩
        · have e3 : (a0_1 == 6) = false := beq_eq_false_iff_ne.2 a6
          have e4 : (a0_1 == 7) = false := beq_eq_false_iff_ne.2 a7
          cases bv with
          | false =>
            rw [Bool.and_false]
            go_enter Try.func29, Try.ntmps29
            go_wp2_with (go_at_call 32; (with_reducible refine (bourneref1_BoundsMay.calls K A0_4 c0_4 l0_4 false _ HR.out HC.out A1.out).mono ?_); rintro e w1 ⟨rfl, ⟨nd, rfl⟩⟩)
            repeat (go_quiet ((go_at_call 32; with_reducible exact Calls.quiet_of ((bourneref1_BoundsMay.calls K A0_4 c0_4 l0_4 false _ HR.out HC.out A1.out).mono fun _ _ h => ⟨h.1, h.2.out⟩))); try go_wp2)
            go_ret
            exact ⟨by first | rfl | (simp; done), by repeat (first | (with_reducible first | exact HB.out | apply below_alloc | apply pw_below_drewN | apply below_drew1) | exact HB.out)⟩
          | true =>
            rw [Bool.and_true]
            by_cases hz : 0 < l0_4.length
            · have z := decide_eq_true hz
              rw [decide_eq_false (by omega)]
              clear hz
              go_enter Try.func29, Try.ntmps29
              go_wp2_with (go_at_call 32; (with_reducible refine (bourneref1_BoundsMay.calls K A0_4 c0_4 l0_4 true _ HR.out HC.out A1.out).mono ?_); rintro e w1 ⟨rfl, ⟨nd, rfl⟩⟩)
              repeat (go_quiet ((go_at_call 32; with_reducible exact Calls.quiet_of ((bourneref1_BoundsMay.calls K A0_4 c0_4 l0_4 true _ HR.out HC.out A1.out).mono fun _ _ h => ⟨h.1, h.2.out⟩))); try go_wp2)
              go_ret
              exact ⟨by first | rfl | (simp; done), by repeat (first | (with_reducible first | exact HB.out | apply below_alloc | apply pw_below_drewN | apply below_drew1) | exact HB.out)⟩
            · have z := decide_eq_false hz
              by_cases r0 : a0_5 = 0
              · subst r0
                rw [decide_eq_true (by omega)]
                clear hz
                go_enter Try.func29, Try.ntmps29
                go_wp2_with (go_at_call 32; (with_reducible refine (bourneref1_BoundsMay.calls K A0_4 c0_4 l0_4 true _ HR.out HC.out A1.out).mono ?_); rintro e w1 ⟨rfl, ⟨nd, rfl⟩⟩)
                repeat (go_quiet ((go_at_call 32; with_reducible exact Calls.quiet_of ((bourneref1_BoundsMay.calls K A0_4 c0_4 l0_4 true _ HR.out HC.out A1.out).mono fun _ _ h => ⟨h.1, h.2.out⟩))); try go_wp2)
                go_ret
                exact ⟨by first | rfl | (simp; done), by repeat (first | (with_reducible first | exact HB.out | apply below_alloc | apply pw_below_drewN | apply below_drew1) | exact HB.out)⟩
              · have e0 : (a0_5 == 0) = false := beq_eq_false_iff_ne.2 r0
                rw [decide_eq_false (by omega)]
                clear hz
                go_enter Try.func29, Try.ntmps29
                go_wp2_with (go_at_call 32; (with_reducible refine (bourneref1_BoundsMay.calls K A0_4 c0_4 l0_4 true _ HR.out HC.out A1.out).mono ?_); rintro e w1 ⟨rfl, ⟨nd, rfl⟩⟩)
                repeat (go_quiet ((go_at_call 32; with_reducible exact Calls.quiet_of ((bourneref1_BoundsMay.calls K A0_4 c0_4 l0_4 true _ HR.out HC.out A1.out).mono fun _ _ h => ⟨h.1, h.2.out⟩))); try go_wp2)
                go_ret
                exact ⟨by first | rfl | (simp; done), by repeat (first | (with_reducible first | exact HB.out | apply below_alloc | apply pw_below_drewN | apply below_drew1) | exact HB.out)⟩

/-! ### bourneref1_QueryMay: function 19 -/
mutual
def bourneref1_QueryMay.j0 : Nat → Bool → Int → Int → Int → Int → List Int → Int → Option (Bool)
  | 0, _, _, _, _, _, _, _ => none
  | k + 1, x17, x115000, x115001, x115002, x115003, x115004, x115005 => if x17 = true then (some false) else (if x115000 = 0 then (bourneref1_QueryMay.j1 k x115000 (x115000 == 0) x115000 x115001 x115002 x115003 x115004 x115005) else (bourneref1_QueryMay.j1 k x115000 (x115000 == 2) x115000 x115001 x115002 x115003 x115004 x115005))
def bourneref1_QueryMay.j1 : Nat → Int → Bool → Int → Int → Int → Int → List Int → Int → Option (Bool)
  | 0, _, _, _, _, _, _, _, _ => none
  | k + 1, x19, x20, x115000, x115001, x115002, x115003, x115004, x115005 => if x20 = true then (some (x115003 == 0)) else (if x19 = 1 then (if x115003 < 1 then (some false) else (if x115003 > x115002 then (some false) else ((bourneref1_Gcd.f k x115002 x115003).bind fun bt116 => (if x115003 = 0 then (none) else (if (wrap64 (Int.tdiv (wrap64 ((wrap64 (x115002 + x115003)) - 1)) x115003)) ≤ 64 then (if bt116.1 = 0 then (none) else (some (decide ((wrap64 (Int.tdiv x115002 bt116.1)) ≤ 256)))) else (some false)))))) else (some false))
end
def bourneref1_QueryMay.f (k : Nat) (a0_0 : Int) (a0_1 : Int) (a0_2 : Int) (a0_3 : Int) (l0_4 : List Int) (a0_5 : Int) : Option (Bool) := (bourneref1_aggMay.f a0_0 a0_1 a0_2 a0_3 l0_4 a0_5).bind fun t115 => (if t115 = true then (if a0_2 < 1 then (bourneref1_QueryMay.j0 k true a0_0 a0_1 a0_2 a0_3 l0_4 a0_5) else (bourneref1_QueryMay.j0 k (decide (a0_2 > 1073741824)) a0_0 a0_1 a0_2 a0_3 l0_4 a0_5)) else (bourneref1_QueryMay.j0 k true a0_0 a0_1 a0_2 a0_3 l0_4 a0_5))
theorem bourneref1_QueryMay.mono_l : ∀ k, (∀ y0 y1 y2 y3 y4 y5 y6, LeO (bourneref1_QueryMay.j0 k y0 y1 y2 y3 y4 y5 y6) (bourneref1_QueryMay.j0 (k + 1) y0 y1 y2 y3 y4 y5 y6)) ∧ (∀ y0 y1 y2 y3 y4 y5 y6 y7, LeO (bourneref1_QueryMay.j1 k y0 y1 y2 y3 y4 y5 y6 y7) (bourneref1_QueryMay.j1 (k + 1) y0 y1 y2 y3 y4 y5 y6 y7))
  | 0 => ⟨fun _ _ _ _ _ _ _ r h => by simp [bourneref1_QueryMay.j0] at h, fun _ _ _ _ _ _ _ _ r h => by simp [bourneref1_QueryMay.j1] at h⟩
  | k + 1 => by
    obtain ⟨ih0, ih1⟩ := bourneref1_QueryMay.mono_l k
    refine ⟨?_, ?_⟩
    · intro y0 y1 y2 y3 y4 y5 y6
      unfold bourneref1_QueryMay.j0
      repeat' first
      | (with_reducible exact ih0 _ _ _ _ _ _ _)
      | (with_reducible exact ih1 _ _ _ _ _ _ _ _)
      | (with_reducible exact bourneref1_Gcd.mono _ _ _)
      | (with_reducible exact LeO.refl _)
      | (with_reducible exact LeO.none _)
      | (with_reducible refine LeO.ite ?_ ?_)
      | (with_reducible refine LeO.bind ?_ (fun _ => ?_))
      | exact ih0 _ _ _ _ _ _ _
      | exact ih1 _ _ _ _ _ _ _ _
      | exact bourneref1_Gcd.mono _ _ _
      | exact LeO.none _
      | refine LeO.ite ?_ ?_
      | refine LeO.bind ?_ (fun _ => ?_)
    · intro y0 y1 y2 y3 y4 y5 y6 y7
      unfold bourneref1_QueryMay.j1
      repeat' first
      | (with_reducible exact ih0 _ _ _ _ _ _ _)
      | (with_reducible exact ih1 _ _ _ _ _ _ _ _)
      | (with_reducible exact bourneref1_Gcd.mono _ _ _)
      | (with_reducible exact LeO.refl _)
      | (with_reducible exact LeO.none _)
      | (with_reducible refine LeO.ite ?_ ?_)
      | (with_reducible refine LeO.bind ?_ (fun _ => ?_))
      | exact ih0 _ _ _ _ _ _ _
      | exact ih1 _ _ _ _ _ _ _ _
      | exact bourneref1_Gcd.mono _ _ _
      | exact LeO.none _
      | refine LeO.ite ?_ ?_
      | refine LeO.bind ?_ (fun _ => ?_)
theorem bourneref1_QueryMay.mono : ∀ a0 a1 a2 a3 a4 a5 k, LeO (bourneref1_QueryMay.f k a0 a1 a2 a3 a4 a5) (bourneref1_QueryMay.f (k + 1) a0 a1 a2 a3 a4 a5) := by
  intro a0 a1 a2 a3 a4 a5 k
  obtain ⟨ih0, ih1⟩ := bourneref1_QueryMay.mono_l k
  unfold bourneref1_QueryMay.f
  repeat' first
      | (with_reducible exact ih0 _ _ _ _ _ _ _)
      | (with_reducible exact ih1 _ _ _ _ _ _ _ _)
      | (with_reducible exact bourneref1_Gcd.mono _ _ _)
      | (with_reducible exact LeO.refl _)
      | (with_reducible exact LeO.none _)
      | (with_reducible refine LeO.ite ?_ ?_)
      | (with_reducible refine LeO.bind ?_ (fun _ => ?_))
      | exact ih0 _ _ _ _ _ _ _
      | exact ih1 _ _ _ _ _ _ _ _
      | exact bourneref1_Gcd.mono _ _ _
      | exact LeO.none _
      | refine LeO.ite ?_ ?_
      | refine LeO.bind ?_ (fun _ => ?_)
set_option maxHeartbeats 8000000 in
set_option maxRecDepth 100000 in
theorem bourneref1_QueryMay.calls (k : Nat) (a0_0 : Int) (a0_1 : Int) (a0_2 : Int) (a0_3 : Int) (A0_4 : Option Addr) (c0_4 : Nat) (l0_4 : List Int) (a0_5 : Int) (r : Bool) (w : World) (hr0_4 : Kd.C (Kd.int .i64) w A0_4 l0_4.length l0_4) (hc0_4 : l0_4.length ≤ c0_4) (h : bourneref1_QueryMay.f k a0_0 a0_1 a0_2 a0_3 l0_4 a0_5 = some r) :
    Calls Try.prog 19 #[.agg #[.int .i64 a0_0, .int .i64 a0_1, .int .i64 a0_2, .int .i64 a0_3, .slice A0_4 l0_4.length c0_4, .int .i64 a0_5]] w fun e w' => e = .returned (.bool r) ∧ Below w.heap.size w w' := by
  have hu24 := Try.underlying24
  have HR0_4 := Aside0.mk hr0_4
  have HC0_4 := Aside0.mk hc0_4
  clear hr0_4 hc0_4
  have HB := Aside0.mk (Below.refl w.heap.size w)
  have H : ((bourneref1_aggMay.f a0_0 a0_1 a0_2 a0_3 l0_4 a0_5).bind fun t115 => (if t115 = true then (if a0_2 < 1 then (bourneref1_QueryMay.j0 k true a0_0 a0_1 a0_2 a0_3 l0_4 a0_5) else (bourneref1_QueryMay.j0 k (decide (a0_2 > 1073741824)) a0_0 a0_1 a0_2 a0_3 l0_4 a0_5)) else (bourneref1_QueryMay.j0 k true a0_0 a0_1 a0_2 a0_3 l0_4 a0_5))) = some r := h
  clear h
  have HC2 := Aside0.mk H
  clear H
  go_enter Try.func19, Try.ntmps19
  go_upto_region 1 with (first | ((with_reducible refine gate_dst (N := 1) rfl ?_); refine box_event ?hg (N := 1) ?hd (cs := #[.int .i64 a0_0, .int .i64 a0_1, .int .i64 a0_2, .int .i64 a0_3, .slice A0_4 l0_4.length c0_4, .int .i64 a0_5]) (t := 24) ?hr ?_; (case hd => rfl); (case hg => rfl); (case hr => first | (go_simp; done) | (go_simp; rfl)); intro gb114 hg w3 hbox hb; have n0_ := Aside0.mk (below_step (by repeat (first | (with_reducible first | exact HB.out | apply below_alloc | apply pw_below_drewN | apply below_drew1) | exact HB.out)) hb); have n1_ := Aside0.mk (hbox); have n2_ := Aside0.mk ((by rw [hg]; exact (below_size (by repeat (first | (with_reducible first | exact HB.out | apply below_alloc | apply pw_below_drewN | apply below_drew1) | exact HB.out))) : w.heap.size ≤ gb114)); have n3_ := Aside0.mk ((by rw [hg]; exact (below_size (by repeat (first | (with_reducible first | exact HB.out | apply below_alloc | apply pw_below_drewN | apply below_drew1) | exact HB.out))) : w.heap.size ≤ gb114)); clear HB; have HB := n0_; have BK114 := n1_; have GW114 := n2_; have GE114 := n3_; clear n0_ n1_ n2_ n3_; clear hb hbox hg))
  (try simp only [Act.put, List.setIfInBounds_toArray, List.set_cons_zero, List.set_cons_succ])
  go_cut [17] (fun v17 wc => ∃ (kq : Nat) (x17_1 : Bool), v17 = .bool x17_1 ∧ Aside0 (bourneref1_QueryMay.j0 kq x17_1 a0_0 a0_1 a0_2 a0_3 l0_4 a0_5 = some r) ∧ Aside0 (kq ≤ k) ∧ Aside0 (wc.heap[gb114]? = some (.cells #[.int .i64 a0_0, .int .i64 a0_1, .int .i64 a0_2, .int .i64 a0_3, (.slice A0_4 l0_4.length c0_4), .int .i64 a0_5] 24 (0, 0))) ∧ Aside0 (Below w.heap.size w wc))
  case first =>
    have H := HC2.out
    clear HC2
    replace H := Option.bind_eq_some_iff.mp H
    obtain ⟨t115, A40, H⟩ := H
    replace H : (if t115 = true then (if a0_2 < 1 then (bourneref1_QueryMay.j0 k true a0_0 a0_1 a0_2 a0_3 l0_4 a0_5) else (bourneref1_QueryMay.j0 k (decide (a0_2 > 1073741824)) a0_0 a0_1 a0_2 a0_3 l0_4 a0_5)) else (bourneref1_QueryMay.j0 k true a0_0 a0_1 a0_2 a0_3 l0_4 a0_5)) = some r := H
    have A4 := Aside0.mk A40
    clear A40
    by_cases c5 : t115 = true
    · subst c5
      have H1 : (if a0_2 < 1 then (bourneref1_QueryMay.j0 k true a0_0 a0_1 a0_2 a0_3 l0_4 a0_5) else (bourneref1_QueryMay.j0 k (decide (a0_2 > 1073741824)) a0_0 a0_1 a0_2 a0_3 l0_4 a0_5)) = some r := by rw [if_pos rfl] at H; exact H
      clear H
      have H := H1
      clear H1
      by_cases c6 : a0_2 < 1
      · rw [if_pos c6] at H
        have c6b0 : decide (a0_2 < 1) = true := decide_eq_true c6
        clear c6
        (first | rw [c6b0] | (simp only [i64_w, i32_w]; rw [c6b0]) | skip)
        have H' := Aside0.mk H
        clear H
        have hcz7_0 : w3.cell? ⟨gb114, 0, none⟩ = some (.int .i64 a0_0) := (blk_cell BK114.out 0).trans rfl
        have hcz7_1 : w3.cell? ⟨gb114, 1, none⟩ = some (.int .i64 a0_1) := (blk_cell BK114.out 1).trans rfl
        have hcz7_2 : w3.cell? ⟨gb114, 2, none⟩ = some (.int .i64 a0_2) := (blk_cell BK114.out 2).trans rfl
        have hcz7_3 : w3.cell? ⟨gb114, 3, none⟩ = some (.int .i64 a0_3) := (blk_cell BK114.out 3).trans rfl
        have hcz7_4 : w3.cell? ⟨gb114, 4, none⟩ = some (.slice A0_4 l0_4.length c0_4) := (blk_cell BK114.out 4).trans rfl
        have hcz7_5 : w3.cell? ⟨gb114, 5, none⟩ = some (.int .i64 a0_5) := (blk_cell BK114.out 5).trans rfl
        have hfz7_0 := blk_frozen BK114.out 0
        have hfz7_1 := blk_frozen BK114.out 1
        have hfz7_2 := blk_frozen BK114.out 2
        have hfz7_3 := blk_frozen BK114.out 3
        have hfz7_4 := blk_frozen BK114.out 4
        have hfz7_5 := blk_frozen BK114.out 5
        go_wp2_with (first | ((with_reducible refine gate_callee (f := 29) rfl ?_); refine goesL_ (some 6) rfl rfl Try.func29 (by kernel_rfl) rfl #[.agg #[.int .i64 a0_0, .int .i64 a0_1, .int .i64 a0_2, .int .i64 a0_3, .slice A0_4 l0_4.length c0_4, .int .i64 a0_5]] rfl (by (try simp only [List.map_toArray, List.map_cons, List.map_nil]); first | done | rfl | (simp only [List.length_drop, List.length_take]; rfl)) ?_; (with_reducible refine (bourneref1_aggMay.calls a0_0 a0_1 a0_2 a0_3 _ _ l0_4 a0_5 true _ ?side1 ?side2 A4.out).mono ?_); (case side1 => repeat (first | exact (Kd.C_below HR0_4.out HB.out) | (with_reducible refine Kd.C_alloc ?_ _) | (with_reducible refine Kd.C_drewN ?_ _) | (with_reducible refine Kd.C_drew ?_))); (case side2 => exact HC0_4.out); rintro e w8 ⟨rfl, hb⟩; refine ⟨_, rfl, ?_⟩; have n0_ := Aside0.mk (blk_below (g := gb114) (o := .cells #[.int .i64 a0_0, .int .i64 a0_1, .int .i64 a0_2, .int .i64 a0_3, .slice A0_4 l0_4.length c0_4, .int .i64 a0_5] 24 (0, 0)) (by (with_reducible repeat (first | refine blk_drewN ?_ _ | refine blk_drew ?_ | refine blk_alloc ?_ _)); exact BK114.out) hb); have n1_ := Aside0.mk (below_step (by repeat (first | (with_reducible first | exact HB.out | apply below_alloc | apply pw_below_drewN | apply below_drew1 | refine below_set ?_ GE114.out) | exact HB.out)) hb); clear BK114; clear HB; have BK114 := n0_; have HB := n1_; clear n0_ n1_; (try clear hb); (try clear hb2); (try clear hk); (try clear hi); have hcz9_0 : w8.cell? ⟨gb114, 0, none⟩ = some (.int .i64 a0_0) := (blk_cell BK114.out 0).trans rfl; have hcz9_1 : w8.cell? ⟨gb114, 1, none⟩ = some (.int .i64 a0_1) := (blk_cell BK114.out 1).trans rfl; have hcz9_2 : w8.cell? ⟨gb114, 2, none⟩ = some (.int .i64 a0_2) := (blk_cell BK114.out 2).trans rfl; have hcz9_3 : w8.cell? ⟨gb114, 3, none⟩ = some (.int .i64 a0_3) := (blk_cell BK114.out 3).trans rfl; have hcz9_4 : w8.cell? ⟨gb114, 4, none⟩ = some (.slice A0_4 l0_4.length c0_4) := (blk_cell BK114.out 4).trans rfl; have hcz9_5 : w8.cell? ⟨gb114, 5, none⟩ = some (.int .i64 a0_5) := (blk_cell BK114.out 5).trans rfl; have hfz9_0 := blk_frozen BK114.out 0; have hfz9_1 := blk_frozen BK114.out 1; have hfz9_2 := blk_frozen BK114.out 2; have hfz9_3 := blk_frozen BK114.out 3; have hfz9_4 := blk_frozen BK114.out 4; have hfz9_5 := blk_frozen BK114.out 5))
        go_meet
        case rel => exact ⟨_, (true), (by first | rfl | (simp; done) | (simp [*]; done)), H', ⟨by first | omega | exact Nat.le_refl _⟩, ⟨by (with_reducible repeat (first | refine blk_drewN ?_ _ | refine blk_drew ?_ | refine blk_alloc ?_ _)); exact BK114.out⟩, ⟨by repeat (first | (with_reducible first | exact HB.out | apply below_alloc | apply pw_below_drewN | apply below_drew1 | refine below_set ?_ GE114.out) | exact HB.out)⟩⟩
      · rw [if_neg c6] at H
        have c6b0 : decide (a0_2 < 1) = false := decide_eq_false c6
        clear c6
        (first | rw [c6b0] | (simp only [i64_w, i32_w]; rw [c6b0]) | skip)
        have H' := Aside0.mk H
        clear H
        have hcz10_0 : w3.cell? ⟨gb114, 0, none⟩ = some (.int .i64 a0_0) := (blk_cell BK114.out 0).trans rfl
        have hcz10_1 : w3.cell? ⟨gb114, 1, none⟩ = some (.int .i64 a0_1) := (blk_cell BK114.out 1).trans rfl
        have hcz10_2 : w3.cell? ⟨gb114, 2, none⟩ = some (.int .i64 a0_2) := (blk_cell BK114.out 2).trans rfl
        have hcz10_3 : w3.cell? ⟨gb114, 3, none⟩ = some (.int .i64 a0_3) := (blk_cell BK114.out 3).trans rfl
        have hcz10_4 : w3.cell? ⟨gb114, 4, none⟩ = some (.slice A0_4 l0_4.length c0_4) := (blk_cell BK114.out 4).trans rfl
        have hcz10_5 : w3.cell? ⟨gb114, 5, none⟩ = some (.int .i64 a0_5) := (blk_cell BK114.out 5).trans rfl
        have hfz10_0 := blk_frozen BK114.out 0
        have hfz10_1 := blk_frozen BK114.out 1
        have hfz10_2 := blk_frozen BK114.out 2
        have hfz10_3 := blk_frozen BK114.out 3
        have hfz10_4 := blk_frozen BK114.out 4
        have hfz10_5 := blk_frozen BK114.out 5
        go_wp2_with (first | ((with_reducible refine gate_callee (f := 29) rfl ?_); refine goesL_ (some 6) rfl rfl Try.func29 (by kernel_rfl) rfl #[.agg #[.int .i64 a0_0, .int .i64 a0_1, .int .i64 a0_2, .int .i64 a0_3, .slice A0_4 l0_4.length c0_4, .int .i64 a0_5]] rfl (by (try simp only [List.map_toArray, List.map_cons, List.map_nil]); first | done | rfl | (simp only [List.length_drop, List.length_take]; rfl)) ?_; (with_reducible refine (bourneref1_aggMay.calls a0_0 a0_1 a0_2 a0_3 _ _ l0_4 a0_5 true _ ?side1 ?side2 A4.out).mono ?_); (case side1 => repeat (first | exact (Kd.C_below HR0_4.out HB.out) | (with_reducible refine Kd.C_alloc ?_ _) | (with_reducible refine Kd.C_drewN ?_ _) | (with_reducible refine Kd.C_drew ?_))); (case side2 => exact HC0_4.out); rintro e w11 ⟨rfl, hb⟩; refine ⟨_, rfl, ?_⟩; have n0_ := Aside0.mk (blk_below (g := gb114) (o := .cells #[.int .i64 a0_0, .int .i64 a0_1, .int .i64 a0_2, .int .i64 a0_3, .slice A0_4 l0_4.length c0_4, .int .i64 a0_5] 24 (0, 0)) (by (with_reducible repeat (first | refine blk_drewN ?_ _ | refine blk_drew ?_ | refine blk_alloc ?_ _)); exact BK114.out) hb); have n1_ := Aside0.mk (below_step (by repeat (first | (with_reducible first | exact HB.out | apply below_alloc | apply pw_below_drewN | apply below_drew1 | refine below_set ?_ GE114.out) | exact HB.out)) hb); clear BK114; clear HB; have BK114 := n0_; have HB := n1_; clear n0_ n1_; (try clear hb); (try clear hb2); (try clear hk); (try clear hi); have hcz12_0 : w11.cell? ⟨gb114, 0, none⟩ = some (.int .i64 a0_0) := (blk_cell BK114.out 0).trans rfl; have hcz12_1 : w11.cell? ⟨gb114, 1, none⟩ = some (.int .i64 a0_1) := (blk_cell BK114.out 1).trans rfl; have hcz12_2 : w11.cell? ⟨gb114, 2, none⟩ = some (.int .i64 a0_2) := (blk_cell BK114.out 2).trans rfl; have hcz12_3 : w11.cell? ⟨gb114, 3, none⟩ = some (.int .i64 a0_3) := (blk_cell BK114.out 3).trans rfl; have hcz12_4 : w11.cell? ⟨gb114, 4, none⟩ = some (.slice A0_4 l0_4.length c0_4) := (blk_cell BK114.out 4).trans rfl; have hcz12_5 : w11.cell? ⟨gb114, 5, none⟩ = some (.int .i64 a0_5) := (blk_cell BK114.out 5).trans rfl; have hfz12_0 := blk_frozen BK114.out 0; have hfz12_1 := blk_frozen BK114.out 1; have hfz12_2 := blk_frozen BK114.out 2; have hfz12_3 := blk_frozen BK114.out 3; have hfz12_4 := blk_frozen BK114.out 4; have hfz12_5 := blk_frozen BK114.out 5))
        go_meet
        case rel => exact ⟨_, (decide (a0_2 > 1073741824)), (by first | rfl | (simp; done) | (simp [*]; done)), H', ⟨by first | omega | exact Nat.le_refl _⟩, ⟨by (with_reducible repeat (first | refine blk_drewN ?_ _ | refine blk_drew ?_ | refine blk_alloc ?_ _)); exact BK114.out⟩, ⟨by repeat (first | (with_reducible first | exact HB.out | apply below_alloc | apply pw_below_drewN | apply below_drew1 | refine below_set ?_ GE114.out) | exact HB.out)⟩⟩
    · replace c5 := Bool.eq_false_iff.mpr c5
      subst c5
      have H1 : (bourneref1_QueryMay.j0 k true a0_0 a0_1 a0_2 a0_3 l0_4 a0_5) = some r := by rw [if_neg (show ¬ (false = true) by decide)] at H; exact H
      clear H
      have H := H1
      clear H1
      have H' := Aside0.mk H
      clear H
      have hcz13_0 : w3.cell? ⟨gb114, 0, none⟩ = some (.int .i64 a0_0) := (blk_cell BK114.out 0).trans rfl
      have hcz13_1 : w3.cell? ⟨gb114, 1, none⟩ = some (.int .i64 a0_1) := (blk_cell BK114.out 1).trans rfl
      have hcz13_2 : w3.cell? ⟨gb114, 2, none⟩ = some (.int .i64 a0_2) := (blk_cell BK114.out 2).trans rfl
      have hcz13_3 : w3.cell? ⟨gb114, 3, none⟩ = some (.int .i64 a0_3) := (blk_cell BK114.out 3).trans rfl
      have hcz13_4 : w3.cell? ⟨gb114, 4, none⟩ = some (.slice A0_4 l0_4.length c0_4) := (blk_cell BK114.out 4).trans rfl
      have hcz13_5 : w3.cell? ⟨gb114, 5, none⟩ = some (.int .i64 a0_5) := (blk_cell BK114.out 5).trans rfl
      have hfz13_0 := blk_frozen BK114.out 0
      have hfz13_1 := blk_frozen BK114.out 1
      have hfz13_2 := blk_frozen BK114.out 2
      have hfz13_3 := blk_frozen BK114.out 3
      have hfz13_4 := blk_frozen BK114.out 4
      have hfz13_5 := blk_frozen BK114.out 5
      go_wp2_with (first | ((with_reducible refine gate_callee (f := 29) rfl ?_); refine goesL_ (some 6) rfl rfl Try.func29 (by kernel_rfl) rfl #[.agg #[.int .i64 a0_0, .int .i64 a0_1, .int .i64 a0_2, .int .i64 a0_3, .slice A0_4 l0_4.length c0_4, .int .i64 a0_5]] rfl (by (try simp only [List.map_toArray, List.map_cons, List.map_nil]); first | done | rfl | (simp only [List.length_drop, List.length_take]; rfl)) ?_; (with_reducible refine (bourneref1_aggMay.calls a0_0 a0_1 a0_2 a0_3 _ _ l0_4 a0_5 false _ ?side1 ?side2 A4.out).mono ?_); (case side1 => repeat (first | exact (Kd.C_below HR0_4.out HB.out) | (with_reducible refine Kd.C_alloc ?_ _) | (with_reducible refine Kd.C_drewN ?_ _) | (with_reducible refine Kd.C_drew ?_))); (case side2 => exact HC0_4.out); rintro e w14 ⟨rfl, hb⟩; refine ⟨_, rfl, ?_⟩; have n0_ := Aside0.mk (blk_below (g := gb114) (o := .cells #[.int .i64 a0_0, .int .i64 a0_1, .int .i64 a0_2, .int .i64 a0_3, .slice A0_4 l0_4.length c0_4, .int .i64 a0_5] 24 (0, 0)) (by (with_reducible repeat (first | refine blk_drewN ?_ _ | refine blk_drew ?_ | refine blk_alloc ?_ _)); exact BK114.out) hb); have n1_ := Aside0.mk (below_step (by repeat (first | (with_reducible first | exact HB.out | apply below_alloc | apply pw_below_drewN | apply below_drew1 | refine below_set ?_ GE114.out) | exact HB.out)) hb); clear BK114; clear HB; have BK114 := n0_; have HB := n1_; clear n0_ n1_; (try clear hb); (try clear hb2); (try clear hk); (try clear hi)))
      go_meet
      case rel => exact ⟨_, (true), (by first | rfl | (simp; done) | (simp [*]; done)), H', ⟨by first | omega | exact Nat.le_refl _⟩, ⟨by (with_reducible repeat (first | refine blk_drewN ?_ _ | refine blk_drew ?_ | refine blk_alloc ?_ _)); exact BK114.out⟩, ⟨by repeat (first | (with_reducible first | exact HB.out | apply below_alloc | apply pw_below_drewN | apply below_drew1 | refine below_set ?_ GE114.out) | exact HB.out)⟩⟩
  case rest =>
    clear HC2
    try clear c1
    try clear c2
    try clear p2
    try clear c5
    try clear c6
    try clear c6b0
    try clear hcz10_0
    try clear hcz10_1
    try clear hcz10_2
    try clear hcz10_3
    try clear hcz10_4
    try clear hcz10_5
    try clear hcz12_0
    try clear hcz12_1
    try clear hcz12_2
    try clear hcz12_3
    try clear hcz12_4
    try clear hcz12_5
    try clear hcz13_0
    try clear hcz13_1
    try clear hcz13_2
    try clear hcz13_3
    try clear hcz13_4
    try clear hcz13_5
    try clear hcz7_0
    try clear hcz7_1
    try clear hcz7_2
    try clear hcz7_3
    try clear hcz7_4
    try clear hcz7_5
    try clear hcz9_0
    try clear hcz9_1
    try clear hcz9_2
    try clear hcz9_3
    try clear hcz9_4
    try clear hcz9_5
    try clear hfz10_0
    try clear hfz10_1
    try clear hfz10_2
    try clear hfz10_3
    try clear hfz10_4
    try clear hfz10_5
    try clear hfz12_0
    try clear hfz12_1
    try clear hfz12_2
    try clear hfz12_3
    try clear hfz12_4
    try clear hfz12_5
    try clear hfz13_0
    try clear hfz13_1
    try clear hfz13_2
    try clear hfz13_3
    try clear hfz13_4
    try clear hfz13_5
    try clear hfz7_0
    try clear hfz7_1
    try clear hfz7_2
    try clear hfz7_3
    try clear hfz7_4
    try clear hfz7_5
    try clear hfz9_0
    try clear hfz9_1
    try clear hfz9_2
    try clear hfz9_3
    try clear hfz9_4
    try clear hfz9_5
    obtain ⟨kq, x17_1, rfl, HA, HJ1, BK114, HB⟩ := hcut
    cases kq with
    | zero => exact absurd HA.out (by simp [bourneref1_QueryMay.j0])
    | succ kj1 =>
      have H := HA.out
      clear HA
      simp only [bourneref1_QueryMay.j0] at H
      by_cases c15 : x17_1 = true
      · subst c15
        have H1 : (some false) = some r := by rw [if_pos rfl] at H; exact H
        clear H
        have H := H1
        clear H1
        obtain rfl := Option.some.inj H
        go_wp2
        go_ret
        exact ⟨by first | rfl | (simp [errW_none, errW_some] <;> rfl) | (simp [*, errW_none, errW_some] <;> rfl), by repeat (first | (with_reducible first | exact HB.out | apply below_alloc | apply pw_below_drewN | apply below_drew1 | refine below_set ?_ GE114.out) | exact HB.out)⟩
      · replace c15 := Bool.eq_false_iff.mpr c15
        subst c15
        have H1 : (if a0_0 = 0 then (bourneref1_QueryMay.j1 kj1 a0_0 (a0_0 == 0) a0_0 a0_1 a0_2 a0_3 l0_4 a0_5) else (bourneref1_QueryMay.j1 kj1 a0_0 (a0_0 == 2) a0_0 a0_1 a0_2 a0_3 l0_4 a0_5)) = some r := by rw [if_neg (show ¬ (false = true) by decide)] at H; exact H
        clear H
        have H := H1
        clear H1
        have HC16 := Aside0.mk H
        clear H
        have hcz17_0 : wc.cell? ⟨gb114, 0, none⟩ = some (.int .i64 a0_0) := (blk_cell BK114.out 0).trans rfl
        have hcz17_1 : wc.cell? ⟨gb114, 1, none⟩ = some (.int .i64 a0_1) := (blk_cell BK114.out 1).trans rfl
        have hcz17_2 : wc.cell? ⟨gb114, 2, none⟩ = some (.int .i64 a0_2) := (blk_cell BK114.out 2).trans rfl
        have hcz17_3 : wc.cell? ⟨gb114, 3, none⟩ = some (.int .i64 a0_3) := (blk_cell BK114.out 3).trans rfl
        have hcz17_4 : wc.cell? ⟨gb114, 4, none⟩ = some (.slice A0_4 l0_4.length c0_4) := (blk_cell BK114.out 4).trans rfl
        have hcz17_5 : wc.cell? ⟨gb114, 5, none⟩ = some (.int .i64 a0_5) := (blk_cell BK114.out 5).trans rfl
        have hfz17_0 := blk_frozen BK114.out 0
        have hfz17_1 := blk_frozen BK114.out 1
        have hfz17_2 := blk_frozen BK114.out 2
        have hfz17_3 := blk_frozen BK114.out 3
        have hfz17_4 := blk_frozen BK114.out 4
        have hfz17_5 := blk_frozen BK114.out 5
        go_upto_if 20 with (fail)
        go_cut [20] (fun v20 wc => ∃ (kq : Nat) (x20_15 : Bool), v20 = .bool x20_15 ∧ Aside0 (bourneref1_QueryMay.j1 kq a0_0 x20_15 a0_0 a0_1 a0_2 a0_3 l0_4 a0_5 = some r) ∧ Aside0 (kq ≤ kj1) ∧ Aside0 (wc.heap[gb114]? = some (.cells #[.int .i64 a0_0, .int .i64 a0_1, .int .i64 a0_2, .int .i64 a0_3, (.slice A0_4 l0_4.length c0_4), .int .i64 a0_5] 24 (0, 0))) ∧ Aside0 (Below w.heap.size w wc))
        case first =>
          have H := HC16.out
          clear HC16
          by_cases c18 : a0_0 = 0
          · rw [if_pos c18] at H
            have c18b0 : (a0_0 == 0) = true := beq_iff_eq.mpr c18
            have c18b1 : (a0_0 != 0) = false := bne_eq_false_iff_eq.mpr c18
            clear c18
            (first | rw [c18b0] | (simp only [i64_w, i32_w]; rw [c18b0]) | skip)
            have H' := Aside0.mk H
            clear H
            go_wp2
            go_meet
            case rel => exact ⟨_, ((a0_0 == 0)), (by first | rfl | (simp; done) | (simp [*]; done)), H', ⟨by have := HJ1.out; first | omega | exact Nat.le_refl _⟩, ⟨by (with_reducible repeat (first | refine blk_drewN ?_ _ | refine blk_drew ?_ | refine blk_alloc ?_ _)); exact BK114.out⟩, ⟨by repeat (first | (with_reducible first | exact HB.out | apply below_alloc | apply pw_below_drewN | apply below_drew1 | refine below_set ?_ GE114.out) | exact HB.out)⟩⟩
          · rw [if_neg c18] at H
            have c18b0 : (a0_0 == 0) = false := beq_eq_false_iff_ne.mpr c18
            have c18b1 : (a0_0 != 0) = true := bne_iff_ne.mpr c18
            (first | rw [c18b0] | (simp only [i64_w, i32_w]; rw [c18b0]) | skip)
            have H' := Aside0.mk H
            clear H
            go_wp2
            go_meet
            case rel => exact ⟨_, ((a0_0 == 2)), (by first | rfl | (simp; done) | (simp [*]; done)), H', ⟨by have := HJ1.out; first | omega | exact Nat.le_refl _⟩, ⟨by (with_reducible repeat (first | refine blk_drewN ?_ _ | refine blk_drew ?_ | refine blk_alloc ?_ _)); exact BK114.out⟩, ⟨by repeat (first | (with_reducible first | exact HB.out | apply below_alloc | apply pw_below_drewN | apply below_drew1 | refine below_set ?_ GE114.out) | exact HB.out)⟩⟩
        case rest =>
          clear HC16
          try clear c1
          try clear c2
          try clear p2
          try clear c5
          try clear c6
          try clear c6b0
          try clear c15
          try clear c18
          try clear c18b0
          try clear c18b1
          try clear hcz10_0
          try clear hcz10_1
          try clear hcz10_2
          try clear hcz10_3
          try clear hcz10_4
          try clear hcz10_5
          try clear hcz12_0
          try clear hcz12_1
          try clear hcz12_2
          try clear hcz12_3
          try clear hcz12_4
          try clear hcz12_5
          try clear hcz13_0
          try clear hcz13_1
          try clear hcz13_2
          try clear hcz13_3
          try clear hcz13_4
          try clear hcz13_5
          try clear hcz17_0
          try clear hcz17_1
          try clear hcz17_2
          try clear hcz17_3
          try clear hcz17_4
          try clear hcz17_5
          try clear hcz7_0
          try clear hcz7_1
          try clear hcz7_2
          try clear hcz7_3
          try clear hcz7_4
          try clear hcz7_5
          try clear hcz9_0
          try clear hcz9_1
          try clear hcz9_2
          try clear hcz9_3
          try clear hcz9_4
          try clear hcz9_5
          try clear hfz10_0
          try clear hfz10_1
          try clear hfz10_2
          try clear hfz10_3
          try clear hfz10_4
          try clear hfz10_5
          try clear hfz12_0
          try clear hfz12_1
          try clear hfz12_2
          try clear hfz12_3
          try clear hfz12_4
          try clear hfz12_5
          try clear hfz13_0
          try clear hfz13_1
          try clear hfz13_2
          try clear hfz13_3
          try clear hfz13_4
          try clear hfz13_5
          try clear hfz17_0
          try clear hfz17_1
          try clear hfz17_2
          try clear hfz17_3
          try clear hfz17_4
          try clear hfz17_5
          try clear hfz7_0
          try clear hfz7_1
          try clear hfz7_2
          try clear hfz7_3
          try clear hfz7_4
          try clear hfz7_5
          try clear hfz9_0
          try clear hfz9_1
          try clear hfz9_2
          try clear hfz9_3
          try clear hfz9_4
          try clear hfz9_5
          try clear p2
          obtain ⟨kq, x20_15, rfl, HA, HJ15, BK114, HB⟩ := hcut
          cases kq with
          | zero => exact absurd HA.out (by simp [bourneref1_QueryMay.j1])
          | succ kj15 =>
            have H := HA.out
            clear HA
            simp only [bourneref1_QueryMay.j1] at H
            by_cases c19 : x20_15 = true
            · subst c19
              have H1 : (some (a0_3 == 0)) = some r := by rw [if_pos rfl] at H; exact H
              clear H
              have H := H1
              clear H1
              obtain rfl := Option.some.inj H
              have hcz20_0 : wc.cell? ⟨gb114, 0, none⟩ = some (.int .i64 a0_0) := (blk_cell BK114.out 0).trans rfl
              have hcz20_1 : wc.cell? ⟨gb114, 1, none⟩ = some (.int .i64 a0_1) := (blk_cell BK114.out 1).trans rfl
              have hcz20_2 : wc.cell? ⟨gb114, 2, none⟩ = some (.int .i64 a0_2) := (blk_cell BK114.out 2).trans rfl
              have hcz20_3 : wc.cell? ⟨gb114, 3, none⟩ = some (.int .i64 a0_3) := (blk_cell BK114.out 3).trans rfl
              have hcz20_4 : wc.cell? ⟨gb114, 4, none⟩ = some (.slice A0_4 l0_4.length c0_4) := (blk_cell BK114.out 4).trans rfl
              have hcz20_5 : wc.cell? ⟨gb114, 5, none⟩ = some (.int .i64 a0_5) := (blk_cell BK114.out 5).trans rfl
              have hfz20_0 := blk_frozen BK114.out 0
              have hfz20_1 := blk_frozen BK114.out 1
              have hfz20_2 := blk_frozen BK114.out 2
              have hfz20_3 := blk_frozen BK114.out 3
              have hfz20_4 := blk_frozen BK114.out 4
              have hfz20_5 := blk_frozen BK114.out 5
              go_wp2
              go_ret
              exact ⟨by first | rfl | (simp [errW_none, errW_some] <;> rfl) | (simp [*, errW_none, errW_some] <;> rfl), by repeat (first | (with_reducible first | exact HB.out | apply below_alloc | apply pw_below_drewN | apply below_drew1 | refine below_set ?_ GE114.out) | exact HB.out)⟩
            · replace c19 := Bool.eq_false_iff.mpr c19
              subst c19
              have H1 : (if a0_0 = 1 then (if a0_3 < 1 then (some false) else (if a0_3 > a0_2 then (some false) else ((bourneref1_Gcd.f kj15 a0_2 a0_3).bind fun bt116 => (if a0_3 = 0 then (none) else (if (wrap64 (Int.tdiv (wrap64 ((wrap64 (a0_2 + a0_3)) - 1)) a0_3)) ≤ 64 then (if bt116.1 = 0 then (none) else (some (decide ((wrap64 (Int.tdiv a0_2 bt116.1)) ≤ 256)))) else (some false)))))) else (some false)) = some r := by rw [if_neg (show ¬ (false = true) by decide)] at H; exact H
              clear H
              have H := H1
              clear H1
              by_cases c21 : a0_0 = 1
              · rw [if_pos c21] at H
                have c21b0 : (a0_0 == 1) = true := beq_iff_eq.mpr c21
                have c21b1 : (a0_0 != 1) = false := bne_eq_false_iff_eq.mpr c21
                clear c21
                by_cases c22 : a0_3 < 1
                · rw [if_pos c22] at H
                  have c22b0 : decide (a0_3 < 1) = true := decide_eq_true c22
                  clear c22
                  obtain rfl := Option.some.inj H
                  have hcz23_0 : wc.cell? ⟨gb114, 0, none⟩ = some (.int .i64 a0_0) := (blk_cell BK114.out 0).trans rfl
                  have hcz23_1 : wc.cell? ⟨gb114, 1, none⟩ = some (.int .i64 a0_1) := (blk_cell BK114.out 1).trans rfl
                  have hcz23_2 : wc.cell? ⟨gb114, 2, none⟩ = some (.int .i64 a0_2) := (blk_cell BK114.out 2).trans rfl
                  have hcz23_3 : wc.cell? ⟨gb114, 3, none⟩ = some (.int .i64 a0_3) := (blk_cell BK114.out 3).trans rfl
                  have hcz23_4 : wc.cell? ⟨gb114, 4, none⟩ = some (.slice A0_4 l0_4.length c0_4) := (blk_cell BK114.out 4).trans rfl
                  have hcz23_5 : wc.cell? ⟨gb114, 5, none⟩ = some (.int .i64 a0_5) := (blk_cell BK114.out 5).trans rfl
                  have hfz23_0 := blk_frozen BK114.out 0
                  have hfz23_1 := blk_frozen BK114.out 1
                  have hfz23_2 := blk_frozen BK114.out 2
                  have hfz23_3 := blk_frozen BK114.out 3
                  have hfz23_4 := blk_frozen BK114.out 4
                  have hfz23_5 := blk_frozen BK114.out 5
                  go_wp2
                  go_ret
                  exact ⟨by first | rfl | (simp [errW_none, errW_some] <;> rfl) | (simp [*, errW_none, errW_some] <;> rfl), by repeat (first | (with_reducible first | exact HB.out | apply below_alloc | apply pw_below_drewN | apply below_drew1 | refine below_set ?_ GE114.out) | exact HB.out)⟩
                · rw [if_neg c22] at H
                  have c22b0 : decide (a0_3 < 1) = false := decide_eq_false c22
                  clear c22
                  by_cases c24 : a0_3 > a0_2
                  · rw [if_pos c24] at H
                    have c24b0 : decide (a0_2 < a0_3) = true := decide_eq_true c24
                    clear c24
                    obtain rfl := Option.some.inj H
                    have hcz25_0 : wc.cell? ⟨gb114, 0, none⟩ = some (.int .i64 a0_0) := (blk_cell BK114.out 0).trans rfl
                    have hcz25_1 : wc.cell? ⟨gb114, 1, none⟩ = some (.int .i64 a0_1) := (blk_cell BK114.out 1).trans rfl
                    have hcz25_2 : wc.cell? ⟨gb114, 2, none⟩ = some (.int .i64 a0_2) := (blk_cell BK114.out 2).trans rfl
                    have hcz25_3 : wc.cell? ⟨gb114, 3, none⟩ = some (.int .i64 a0_3) := (blk_cell BK114.out 3).trans rfl
                    have hcz25_4 : wc.cell? ⟨gb114, 4, none⟩ = some (.slice A0_4 l0_4.length c0_4) := (blk_cell BK114.out 4).trans rfl
                    have hcz25_5 : wc.cell? ⟨gb114, 5, none⟩ = some (.int .i64 a0_5) := (blk_cell BK114.out 5).trans rfl
                    have hfz25_0 := blk_frozen BK114.out 0
                    have hfz25_1 := blk_frozen BK114.out 1
                    have hfz25_2 := blk_frozen BK114.out 2
                    have hfz25_3 := blk_frozen BK114.out 3
                    have hfz25_4 := blk_frozen BK114.out 4
                    have hfz25_5 := blk_frozen BK114.out 5
                    go_wp2
                    go_ret
                    exact ⟨by first | rfl | (simp [errW_none, errW_some] <;> rfl) | (simp [*, errW_none, errW_some] <;> rfl), by repeat (first | (with_reducible first | exact HB.out | apply below_alloc | apply pw_below_drewN | apply below_drew1 | refine below_set ?_ GE114.out) | exact HB.out)⟩
                  · rw [if_neg c24] at H
                    have c24b0 : decide (a0_2 < a0_3) = false := decide_eq_false c24
                    clear c24
                    replace H := Option.bind_eq_some_iff.mp H
                    obtain ⟨⟨t116, t117⟩, A260, H⟩ := H
                    replace H : (if a0_3 = 0 then (none) else (if (wrap64 (Int.tdiv (wrap64 ((wrap64 (a0_2 + a0_3)) - 1)) a0_3)) ≤ 64 then (if t116 = 0 then (none) else (some (decide ((wrap64 (Int.tdiv a0_2 t116)) ≤ 256)))) else (some false))) = some r := H
                    have A26 := Aside0.mk A260
                    clear A260
                    by_cases c27 : a0_3 = 0
                    · rw [if_pos c27] at H
                      exact absurd H (by simp)
                    · rw [if_neg c27] at H
                      have c27b0 : (a0_3 == 0) = false := beq_eq_false_iff_ne.mpr c27
                      have c27b1 : (a0_3 != 0) = true := bne_iff_ne.mpr c27
                      by_cases c28 : (wrap64 (Int.tdiv (wrap64 ((wrap64 (a0_2 + a0_3)) - 1)) a0_3)) ≤ 64
                      · rw [if_pos c28] at H
                        have c28b0 : decide ((wrap64 (Int.tdiv (wrap64 ((wrap64 (a0_2 + a0_3)) - 1)) a0_3)) ≤ 64) = true := decide_eq_true c28
                        clear c28
                        by_cases c29 : t116 = 0
                        · rw [if_pos c29] at H
                          exact absurd H (by simp)
                        · rw [if_neg c29] at H
                          have c29b0 : (t116 == 0) = false := beq_eq_false_iff_ne.mpr c29
                          have c29b1 : (t116 != 0) = true := bne_iff_ne.mpr c29
                          obtain rfl := Option.some.inj H
                          have hcz30_0 : wc.cell? ⟨gb114, 0, none⟩ = some (.int .i64 a0_0) := (blk_cell BK114.out 0).trans rfl
                          have hcz30_1 : wc.cell? ⟨gb114, 1, none⟩ = some (.int .i64 a0_1) := (blk_cell BK114.out 1).trans rfl
                          have hcz30_2 : wc.cell? ⟨gb114, 2, none⟩ = some (.int .i64 a0_2) := (blk_cell BK114.out 2).trans rfl
                          have hcz30_3 : wc.cell? ⟨gb114, 3, none⟩ = some (.int .i64 a0_3) := (blk_cell BK114.out 3).trans rfl
                          have hcz30_4 : wc.cell? ⟨gb114, 4, none⟩ = some (.slice A0_4 l0_4.length c0_4) := (blk_cell BK114.out 4).trans rfl
                          have hcz30_5 : wc.cell? ⟨gb114, 5, none⟩ = some (.int .i64 a0_5) := (blk_cell BK114.out 5).trans rfl
                          have hfz30_0 := blk_frozen BK114.out 0
                          have hfz30_1 := blk_frozen BK114.out 1
                          have hfz30_2 := blk_frozen BK114.out 2
                          have hfz30_3 := blk_frozen BK114.out 3
                          have hfz30_4 := blk_frozen BK114.out 4
                          have hfz30_5 := blk_frozen BK114.out 5
                          go_wp2_with (first | ((with_reducible refine gate_callee (f := 20) rfl ?_); refine goesL_ (some 43) rfl rfl Try.func20 (by kernel_rfl) rfl #[.int .i64 a0_2, .int .i64 a0_3] rfl (by (try simp only [List.map_toArray, List.map_cons, List.map_nil]); first | done | rfl | (simp only [List.length_drop, List.length_take]; rfl)) ?_; (with_reducible refine (bourneref1_Gcd.calls kj15 a0_2 a0_3 t116 t117 _ A26.out).mono ?_); rintro e w' ⟨rfl, ⟨nd, rfl⟩⟩; refine ⟨_, rfl, ?_⟩))
                          go_ret
                          exact ⟨by first | rfl | (simp [errW_none, errW_some] <;> rfl) | (simp [*, errW_none, errW_some] <;> rfl), by repeat (first | (with_reducible first | exact HB.out | apply below_alloc | apply pw_below_drewN | apply below_drew1 | refine below_set ?_ GE114.out) | exact HB.out)⟩
                      · rw [if_neg c28] at H
                        have c28b0 : decide ((wrap64 (Int.tdiv (wrap64 ((wrap64 (a0_2 + a0_3)) - 1)) a0_3)) ≤ 64) = false := decide_eq_false c28
                        clear c28
                        obtain rfl := Option.some.inj H
                        have hcz31_0 : wc.cell? ⟨gb114, 0, none⟩ = some (.int .i64 a0_0) := (blk_cell BK114.out 0).trans rfl
                        have hcz31_1 : wc.cell? ⟨gb114, 1, none⟩ = some (.int .i64 a0_1) := (blk_cell BK114.out 1).trans rfl
                        have hcz31_2 : wc.cell? ⟨gb114, 2, none⟩ = some (.int .i64 a0_2) := (blk_cell BK114.out 2).trans rfl
                        have hcz31_3 : wc.cell? ⟨gb114, 3, none⟩ = some (.int .i64 a0_3) := (blk_cell BK114.out 3).trans rfl
                        have hcz31_4 : wc.cell? ⟨gb114, 4, none⟩ = some (.slice A0_4 l0_4.length c0_4) := (blk_cell BK114.out 4).trans rfl
                        have hcz31_5 : wc.cell? ⟨gb114, 5, none⟩ = some (.int .i64 a0_5) := (blk_cell BK114.out 5).trans rfl
                        have hfz31_0 := blk_frozen BK114.out 0
                        have hfz31_1 := blk_frozen BK114.out 1
                        have hfz31_2 := blk_frozen BK114.out 2
                        have hfz31_3 := blk_frozen BK114.out 3
                        have hfz31_4 := blk_frozen BK114.out 4
                        have hfz31_5 := blk_frozen BK114.out 5
                        go_wp2_with (first | ((with_reducible refine gate_callee (f := 20) rfl ?_); refine goesL_ (some 43) rfl rfl Try.func20 (by kernel_rfl) rfl #[.int .i64 a0_2, .int .i64 a0_3] rfl (by (try simp only [List.map_toArray, List.map_cons, List.map_nil]); first | done | rfl | (simp only [List.length_drop, List.length_take]; rfl)) ?_; (with_reducible refine (bourneref1_Gcd.calls kj15 a0_2 a0_3 t116 t117 _ A26.out).mono ?_); rintro e w' ⟨rfl, ⟨nd, rfl⟩⟩; refine ⟨_, rfl, ?_⟩))
                        go_ret
                        exact ⟨by first | rfl | (simp [errW_none, errW_some] <;> rfl) | (simp [*, errW_none, errW_some] <;> rfl), by repeat (first | (with_reducible first | exact HB.out | apply below_alloc | apply pw_below_drewN | apply below_drew1 | refine below_set ?_ GE114.out) | exact HB.out)⟩
              · rw [if_neg c21] at H
                have c21b0 : (a0_0 == 1) = false := beq_eq_false_iff_ne.mpr c21
                have c21b1 : (a0_0 != 1) = true := bne_iff_ne.mpr c21
                obtain rfl := Option.some.inj H
                go_wp2
                go_ret
                exact ⟨by first | rfl | (simp [errW_none, errW_some] <;> rfl) | (simp [*, errW_none, errW_some] <;> rfl), by repeat (first | (with_reducible first | exact HB.out | apply below_alloc | apply pw_below_drewN | apply below_drew1 | refine below_set ?_ GE114.out) | exact HB.out)⟩

end Go.Proofs.Yticgnaladjmdoaa.QSlices
