-- Written by a program of this session (wip/myprint.py), over the words of the print
import Derived.Test.YtcbckolcmfbjhaaQAdmitsx0
import Derived.Test.YtcbckolcmfbjhaaQAdmitsx3
import Derived.Test.YtcbckolcmfbjhaaQAdmitsx5
namespace Go.Proofs.Ytcbckolcmfbjhaa.QAdmits
open Go.RowKit Go.Proofs.YtcbckolcmfbjhaaW.PrintWords Go.Proofs.YtcbckolcmfbjhaaW.PrintLast Go.Proofs.YtcbckolcmfbjhaaW.PrintMore
attribute [local go_sem] max2_int min2_int max_two min_two max_three min_three max_four min_four   -- for this text's walks alone
set_option linter.unusedVariables false
set_option linter.unusedSimpArgs false

/-! ### bourneref1_BoundsMay: function 36 -/
def bourneref1_BoundsMay.l0 : Nat → List Int → Int → Option (Bool)
  | 0, _, _ => none
  | k + 1, x0, x3 => if x3 < (x0.length : Int) then (if 0 ≤ x3 then ((bourneref1_within.f (rd x0 x3) 1099511627776).bind fun t126 => (if t126 = true then (if x3 > 0 then (if 0 ≤ (wrap64 (x3 - 1)) then (if (wrap64 (x3 - 1)) < (x0.length : Int) then (if (rd x0 (wrap64 (x3 - 1))) ≥ (rd x0 x3) then (some false) else (bourneref1_BoundsMay.l0 k x0 (wrap64 (x3 + 1)))) else (none)) else (none)) else (bourneref1_BoundsMay.l0 k x0 (wrap64 (x3 + 1)))) else (some false))) else (none)) else (some (decide ((x0.length : Int) ≤ 8)))
def bourneref1_BoundsMay.f (k : Nat) (l0 : List Int) : Option (Bool) := bourneref1_BoundsMay.l0 k l0 0
theorem bourneref1_BoundsMay.mono_l : ∀ k, (∀ y0 y1, LeO (bourneref1_BoundsMay.l0 k y0 y1) (bourneref1_BoundsMay.l0 (k + 1) y0 y1))
 | 0 => fun _ _ r h => by simp [bourneref1_BoundsMay.l0] at h
 | k + 1 => by
  have ih0 := bourneref1_BoundsMay.mono_l k
  ·intro y0 y1
   unfold bourneref1_BoundsMay.l0
   repeat' first
    | (with_reducible exact ih0 _ _)
    | (with_reducible exact LeO.refl _)
    | (with_reducible exact LeO.none _)
    | (with_reducible refine LeO.ite ?_ ?_)
    | (with_reducible refine LeO.bind ?_ (fun _ => ?_))
    | exact ih0 _ _
    | exact LeO.none _
    | refine LeO.ite ?_ ?_
    | refine LeO.bind ?_ (fun _ => ?_)
theorem bourneref1_BoundsMay.mono : ∀ a0 k, LeO (bourneref1_BoundsMay.f k a0) (bourneref1_BoundsMay.f (k + 1) a0) := by
 intro a0 k
 have ih0 := bourneref1_BoundsMay.mono_l k
 unfold bourneref1_BoundsMay.f
 repeat' first
    | (with_reducible exact ih0 _ _)
    | (with_reducible exact LeO.refl _)
    | (with_reducible exact LeO.none _)
    | (with_reducible refine LeO.ite ?_ ?_)
    | (with_reducible refine LeO.bind ?_ (fun _ => ?_))
    | exact ih0 _ _
    | exact LeO.none _
    | refine LeO.ite ?_ ?_
    | refine LeO.bind ?_ (fun _ => ?_)
set_option maxHeartbeats 8000000 in
set_option maxRecDepth 100000 in
theorem bourneref1_BoundsMay.calls (k : Nat) (A0 : Option Addr) (c0 : Nat) (l0 : List Int) (r : Bool) (w : World) (hr0 : Kd.C (Kd.int .i64) w A0 l0.length l0) (hc0 : l0.length ≤ c0) (h : bourneref1_BoundsMay.f k l0 = some r) :
  Calls Try.prog 36 #[.slice A0 l0.length c0] w fun e w' => e = .returned (.bool r) ∧ Drawn0 w w' := by
 have HR0 := Aside0.mk hr0
 have HC0 := Aside0.mk hc0
 clear hr0 hc0
 have H : (bourneref1_BoundsMay.l0 k l0 0) = some r := h
 clear h
 have H' := Aside0.mk H
 clear H
 go_enter Try.func36, Try.ntmps36
 go_wp2
 repeat (go_quiet (fail); try go_wp2)
 go_loopg [3] k (fun kq v3 w' => ∃ (x3_1 : Int), v3 = .int .i64 x3_1 ∧ Aside0 (bourneref1_BoundsMay.l0 kq l0 x3_1 = some r) ∧ Aside0 (kq ≤ k) ∧ Drawn0 w w')
 case atStart => exact ⟨(0), (by first | rfl | (simp; done) | (simp [*]; done)), H', ⟨Nat.le_refl _⟩, by repeat (first | exact Drawn0.refl _ | apply Drawn0.step)⟩
 case round =>
  clear H'
  obtain ⟨x3_1, rfl, HA, HK1, ⟨m1, rfl⟩⟩ := hrel
  cases gk with
  | zero => exact absurd HA.out (by simp [bourneref1_BoundsMay.l0])
   | succ k1 =>
   have H := HA.out
   clear HA
   simp only [bourneref1_BoundsMay.l0] at H
   by_cases c2 : x3_1 < (l0.length : Int)
   ·rw [if_pos c2] at H
    have c2b0 : decide (x3_1 < (l0.length : Int)) = true := decide_eq_true c2
    clear c2
    by_cases c3 : 0 ≤ x3_1
    ·rw [if_pos c3] at H
     have c3b0 : decide (0 ≤ x3_1) = true := decide_eq_true c3
     clear c3
     replace H := Option.bind_eq_some_iff.mp H
     obtain ⟨t126, A40, H⟩ := H
     try dsimp only at H
     have A4 := Aside0.mk A40
     clear A40
     by_cases c5 : t126 = true
     ·subst c5
      have H1 := H
      rw [if_pos rfl] at H1
      clear H
      have H := H1
      clear H1
      by_cases c6 : x3_1 > 0
      ·rw [if_pos c6] at H
       have c6b0 : decide (0 < x3_1) = true := decide_eq_true c6
       clear c6
       obtain ⟨ji7, hji7⟩ : ∃ j_ : Int, (wrap64 (x3_1 - 1)) = j_ := ⟨_, rfl⟩
       replace H : (if 0 ≤ (ji7) then (if (ji7) < (l0.length : Int) then (if (rd l0 (ji7)) ≥ (rd l0 x3_1) then (some false) else (bourneref1_BoundsMay.l0 k1 l0 (wrap64 (x3_1 + 1)))) else (none)) else (none)) = some r := by first | (rw [hji7] at H; exact H) | (simp only [hji7] at H ⊢; exact H)
       (try rw [hji7] at A4)
       have hji7w : (IntKind.i64.wrap (x3_1 - 1)) = ji7 := (i64_w _).trans hji7
       by_cases c8 : 0 ≤ (ji7)
       ·rw [if_pos c8] at H
        have c8b0 : decide (0 ≤ (ji7)) = true := decide_eq_true c8
        clear c8
        by_cases c9 : (ji7) < (l0.length : Int)
        ·rw [if_pos c9] at H
         have c9b0 : decide ((ji7) < (l0.length : Int)) = true := decide_eq_true c9
         clear c9
         by_cases c10 : (rd l0 (ji7)) ≥ (rd l0 x3_1)
         ·rw [if_pos c10] at H
          have c10b0 : decide ((rd l0 x3_1) ≤ (rd l0 (ji7))) = true := decide_eq_true c10
          clear c10
          obtain rfl := Option.some.inj H
          have p125 : 0 ≤ (x3_1 : Int) := of_decide_eq_true (by first | (with_reducible assumption) | assumption)
          have q125 : x3_1 < (l0.length : Int) := of_decide_eq_true (by first | (with_reducible assumption) | assumption)
          obtain ⟨ad125, e125, hx125_0⟩ := Kd.at_int HR0.out x3_1 p125 q125
          cases e125
          replace p125 := eq_true p125
          replace q125 := eq_true q125
          go_wp2_with (first | (go_at_call 27; (with_reducible refine (bourneref1_within.calls (rd l0 x3_1) 1099511627776 true _ A4.out).mono ?_); rintro e w' ⟨rfl, ⟨nd, rfl⟩⟩; (try first | exact ⟨rfl, _, World.drewN_drewN _ _ _⟩ | exact ⟨rfl, _, Eq.trans (World.drewN_drewN _ _ _) (congrArg (World.drewN _) (Nat.add_assoc _ _ _))⟩); have p127 : 0 ≤ ((ji7) : Int) := of_decide_eq_true (by first | (with_reducible assumption) | assumption); have q127 : (ji7) < (l0.length : Int) := of_decide_eq_true (by first | (with_reducible assumption) | assumption); obtain ⟨ad127, e127, hx127_0⟩ := Kd.at_int HR0.out (ji7) p127 q127; obtain rfl : ad125 = ad127 := (by injection e127); replace p127 := eq_true p127; replace q127 := eq_true q127; have p128 : 0 ≤ (x3_1 : Int) := of_decide_eq_true (by first | (with_reducible assumption) | assumption); have q128 : x3_1 < (l0.length : Int) := of_decide_eq_true (by first | (with_reducible assumption) | assumption); obtain ⟨ad128, e128, hx128_0⟩ := Kd.at_int HR0.out x3_1 p128 q128; obtain rfl : ad125 = ad128 := (by injection e128); replace p128 := eq_true p128; replace q128 := eq_true q128))
          repeat (go_quiet (first | (go_at_call 27; (with_reducible refine (bourneref1_within.calls (rd l0 x3_1) 1099511627776 true _ A4.out).mono ?_); rintro e w' ⟨rfl, ⟨nd, rfl⟩⟩; (try first | exact ⟨rfl, _, World.drewN_drewN _ _ _⟩ | exact ⟨rfl, _, Eq.trans (World.drewN_drewN _ _ _) (congrArg (World.drewN _) (Nat.add_assoc _ _ _))⟩); have p127 : 0 ≤ ((ji7) : Int) := of_decide_eq_true (by first | (with_reducible assumption) | assumption); have q127 : (ji7) < (l0.length : Int) := of_decide_eq_true (by first | (with_reducible assumption) | assumption); obtain ⟨ad127, e127, hx127_0⟩ := Kd.at_int HR0.out (ji7) p127 q127; obtain rfl : ad125 = ad127 := (by injection e127); replace p127 := eq_true p127; replace q127 := eq_true q127; have p128 : 0 ≤ (x3_1 : Int) := of_decide_eq_true (by first | (with_reducible assumption) | assumption); have q128 : x3_1 < (l0.length : Int) := of_decide_eq_true (by first | (with_reducible assumption) | assumption); obtain ⟨ad128, e128, hx128_0⟩ := Kd.at_int HR0.out x3_1 p128 q128; obtain rfl : ad125 = ad128 := (by injection e128); replace p128 := eq_true p128; replace q128 := eq_true q128)); try go_wp2_with (first | (go_at_call 27; (with_reducible refine (bourneref1_within.calls (rd l0 x3_1) 1099511627776 true _ A4.out).mono ?_); rintro e w' ⟨rfl, ⟨nd, rfl⟩⟩; (try first | exact ⟨rfl, _, World.drewN_drewN _ _ _⟩ | exact ⟨rfl, _, Eq.trans (World.drewN_drewN _ _ _) (congrArg (World.drewN _) (Nat.add_assoc _ _ _))⟩); have p127 : 0 ≤ ((ji7) : Int) := of_decide_eq_true (by first | (with_reducible assumption) | assumption); have q127 : (ji7) < (l0.length : Int) := of_decide_eq_true (by first | (with_reducible assumption) | assumption); obtain ⟨ad127, e127, hx127_0⟩ := Kd.at_int HR0.out (ji7) p127 q127; obtain rfl : ad125 = ad127 := (by injection e127); replace p127 := eq_true p127; replace q127 := eq_true q127; have p128 : 0 ≤ (x3_1 : Int) := of_decide_eq_true (by first | (with_reducible assumption) | assumption); have q128 : x3_1 < (l0.length : Int) := of_decide_eq_true (by first | (with_reducible assumption) | assumption); obtain ⟨ad128, e128, hx128_0⟩ := Kd.at_int HR0.out x3_1 p128 q128; obtain rfl : ad125 = ad128 := (by injection e128); replace p128 := eq_true p128; replace q128 := eq_true q128)))
          go_ret
          exact ⟨by first | rfl | (simp; done) | (simp only [← hji7] <;> (first | rfl | simp)) | (simp [*]; done), by repeat (first | exact Drawn0.refl _ | apply Drawn0.step)⟩
         ·rw [if_neg c10] at H
          have c10b0 : decide ((rd l0 x3_1) ≤ (rd l0 (ji7))) = false := decide_eq_false c10
          clear c10
          have H' := Aside0.mk H
          clear H
          have p125 : 0 ≤ (x3_1 : Int) := of_decide_eq_true (by first | (with_reducible assumption) | assumption)
          have q125 : x3_1 < (l0.length : Int) := of_decide_eq_true (by first | (with_reducible assumption) | assumption)
          obtain ⟨ad125, e125, hx125_0⟩ := Kd.at_int HR0.out x3_1 p125 q125
          cases e125
          replace p125 := eq_true p125
          replace q125 := eq_true q125
          go_wp2_with (first | (go_at_call 27; (with_reducible refine (bourneref1_within.calls (rd l0 x3_1) 1099511627776 true _ A4.out).mono ?_); rintro e w' ⟨rfl, ⟨nd, rfl⟩⟩; (try first | exact ⟨rfl, _, World.drewN_drewN _ _ _⟩ | exact ⟨rfl, _, Eq.trans (World.drewN_drewN _ _ _) (congrArg (World.drewN _) (Nat.add_assoc _ _ _))⟩); have p127 : 0 ≤ ((ji7) : Int) := of_decide_eq_true (by first | (with_reducible assumption) | assumption); have q127 : (ji7) < (l0.length : Int) := of_decide_eq_true (by first | (with_reducible assumption) | assumption); obtain ⟨ad127, e127, hx127_0⟩ := Kd.at_int HR0.out (ji7) p127 q127; obtain rfl : ad125 = ad127 := (by injection e127); replace p127 := eq_true p127; replace q127 := eq_true q127; have p128 : 0 ≤ (x3_1 : Int) := of_decide_eq_true (by first | (with_reducible assumption) | assumption); have q128 : x3_1 < (l0.length : Int) := of_decide_eq_true (by first | (with_reducible assumption) | assumption); obtain ⟨ad128, e128, hx128_0⟩ := Kd.at_int HR0.out x3_1 p128 q128; obtain rfl : ad125 = ad128 := (by injection e128); replace p128 := eq_true p128; replace q128 := eq_true q128))
          repeat (go_quiet (first | (go_at_call 27; (with_reducible refine (bourneref1_within.calls (rd l0 x3_1) 1099511627776 true _ A4.out).mono ?_); rintro e w' ⟨rfl, ⟨nd, rfl⟩⟩; (try first | exact ⟨rfl, _, World.drewN_drewN _ _ _⟩ | exact ⟨rfl, _, Eq.trans (World.drewN_drewN _ _ _) (congrArg (World.drewN _) (Nat.add_assoc _ _ _))⟩); have p127 : 0 ≤ ((ji7) : Int) := of_decide_eq_true (by first | (with_reducible assumption) | assumption); have q127 : (ji7) < (l0.length : Int) := of_decide_eq_true (by first | (with_reducible assumption) | assumption); obtain ⟨ad127, e127, hx127_0⟩ := Kd.at_int HR0.out (ji7) p127 q127; obtain rfl : ad125 = ad127 := (by injection e127); replace p127 := eq_true p127; replace q127 := eq_true q127; have p128 : 0 ≤ (x3_1 : Int) := of_decide_eq_true (by first | (with_reducible assumption) | assumption); have q128 : x3_1 < (l0.length : Int) := of_decide_eq_true (by first | (with_reducible assumption) | assumption); obtain ⟨ad128, e128, hx128_0⟩ := Kd.at_int HR0.out x3_1 p128 q128; obtain rfl : ad125 = ad128 := (by injection e128); replace p128 := eq_true p128; replace q128 := eq_true q128)); try go_wp2_with (first | (go_at_call 27; (with_reducible refine (bourneref1_within.calls (rd l0 x3_1) 1099511627776 true _ A4.out).mono ?_); rintro e w' ⟨rfl, ⟨nd, rfl⟩⟩; (try first | exact ⟨rfl, _, World.drewN_drewN _ _ _⟩ | exact ⟨rfl, _, Eq.trans (World.drewN_drewN _ _ _) (congrArg (World.drewN _) (Nat.add_assoc _ _ _))⟩); have p127 : 0 ≤ ((ji7) : Int) := of_decide_eq_true (by first | (with_reducible assumption) | assumption); have q127 : (ji7) < (l0.length : Int) := of_decide_eq_true (by first | (with_reducible assumption) | assumption); obtain ⟨ad127, e127, hx127_0⟩ := Kd.at_int HR0.out (ji7) p127 q127; obtain rfl : ad125 = ad127 := (by injection e127); replace p127 := eq_true p127; replace q127 := eq_true q127; have p128 : 0 ≤ (x3_1 : Int) := of_decide_eq_true (by first | (with_reducible assumption) | assumption); have q128 : x3_1 < (l0.length : Int) := of_decide_eq_true (by first | (with_reducible assumption) | assumption); obtain ⟨ad128, e128, hx128_0⟩ := Kd.at_int HR0.out x3_1 p128 q128; obtain rfl : ad125 = ad128 := (by injection e128); replace p128 := eq_true p128; replace q128 := eq_true q128)))
          go_roundg k1
          case measure => have := HK1.out; omega
          case rel => exact ⟨(wrap64 (x3_1 + 1)), (by first | rfl | (simp; done) | (simp [*]; done)), H', ⟨by have := HK1.out; omega⟩, by repeat (first | exact Drawn0.refl _ | apply Drawn0.step)⟩
        ·rw [if_neg c9] at H
         exact absurd H (by simp)
       ·rw [if_neg c8] at H
        exact absurd H (by simp)
      ·rw [if_neg c6] at H
       have c6b0 : decide (0 < x3_1) = false := decide_eq_false c6
       clear c6
       have H' := Aside0.mk H
       clear H
       have p125 : 0 ≤ (x3_1 : Int) := of_decide_eq_true (by first | (with_reducible assumption) | assumption)
       have q125 : x3_1 < (l0.length : Int) := of_decide_eq_true (by first | (with_reducible assumption) | assumption)
       obtain ⟨ad125, e125, hx125_0⟩ := Kd.at_int HR0.out x3_1 p125 q125
       cases e125
       replace p125 := eq_true p125
       replace q125 := eq_true q125
       go_wp2_with (first | (go_at_call 27; (with_reducible refine (bourneref1_within.calls (rd l0 x3_1) 1099511627776 true _ A4.out).mono ?_); rintro e w' ⟨rfl, ⟨nd, rfl⟩⟩; (try first | exact ⟨rfl, _, World.drewN_drewN _ _ _⟩ | exact ⟨rfl, _, Eq.trans (World.drewN_drewN _ _ _) (congrArg (World.drewN _) (Nat.add_assoc _ _ _))⟩)))
       repeat (go_quiet (first | (go_at_call 27; (with_reducible refine (bourneref1_within.calls (rd l0 x3_1) 1099511627776 true _ A4.out).mono ?_); rintro e w' ⟨rfl, ⟨nd, rfl⟩⟩; (try first | exact ⟨rfl, _, World.drewN_drewN _ _ _⟩ | exact ⟨rfl, _, Eq.trans (World.drewN_drewN _ _ _) (congrArg (World.drewN _) (Nat.add_assoc _ _ _))⟩))); try go_wp2_with (first | (go_at_call 27; (with_reducible refine (bourneref1_within.calls (rd l0 x3_1) 1099511627776 true _ A4.out).mono ?_); rintro e w' ⟨rfl, ⟨nd, rfl⟩⟩; (try first | exact ⟨rfl, _, World.drewN_drewN _ _ _⟩ | exact ⟨rfl, _, Eq.trans (World.drewN_drewN _ _ _) (congrArg (World.drewN _) (Nat.add_assoc _ _ _))⟩))))
       go_roundg k1
       case measure => have := HK1.out; omega
       case rel => exact ⟨(wrap64 (x3_1 + 1)), (by first | rfl | (simp; done) | (simp [*]; done)), H', ⟨by have := HK1.out; omega⟩, by repeat (first | exact Drawn0.refl _ | apply Drawn0.step)⟩
     ·replace c5 := Bool.eq_false_iff.mpr c5
      subst c5
      have H1 : (some false) = some r := by rw [if_neg (show ¬ (false = true) by decide)] at H; exact H
      clear H
      have H := H1
      clear H1
      obtain rfl := Option.some.inj H
      have p125 : 0 ≤ (x3_1 : Int) := of_decide_eq_true (by first | (with_reducible assumption) | assumption)
      have q125 : x3_1 < (l0.length : Int) := of_decide_eq_true (by first | (with_reducible assumption) | assumption)
      obtain ⟨ad125, e125, hx125_0⟩ := Kd.at_int HR0.out x3_1 p125 q125
      cases e125
      replace p125 := eq_true p125
      replace q125 := eq_true q125
      go_wp2_with (first | (go_at_call 27; (with_reducible refine (bourneref1_within.calls (rd l0 x3_1) 1099511627776 false _ A4.out).mono ?_); rintro e w' ⟨rfl, ⟨nd, rfl⟩⟩; (try first | exact ⟨rfl, _, World.drewN_drewN _ _ _⟩ | exact ⟨rfl, _, Eq.trans (World.drewN_drewN _ _ _) (congrArg (World.drewN _) (Nat.add_assoc _ _ _))⟩)))
      repeat (go_quiet (first | (go_at_call 27; (with_reducible refine (bourneref1_within.calls (rd l0 x3_1) 1099511627776 false _ A4.out).mono ?_); rintro e w' ⟨rfl, ⟨nd, rfl⟩⟩; (try first | exact ⟨rfl, _, World.drewN_drewN _ _ _⟩ | exact ⟨rfl, _, Eq.trans (World.drewN_drewN _ _ _) (congrArg (World.drewN _) (Nat.add_assoc _ _ _))⟩))); try go_wp2_with (first | (go_at_call 27; (with_reducible refine (bourneref1_within.calls (rd l0 x3_1) 1099511627776 false _ A4.out).mono ?_); rintro e w' ⟨rfl, ⟨nd, rfl⟩⟩; (try first | exact ⟨rfl, _, World.drewN_drewN _ _ _⟩ | exact ⟨rfl, _, Eq.trans (World.drewN_drewN _ _ _) (congrArg (World.drewN _) (Nat.add_assoc _ _ _))⟩))))
      go_ret
      exact ⟨by first | rfl | (simp; done) | (simp [*]; done), by repeat (first | exact Drawn0.refl _ | apply Drawn0.step)⟩
    ·rw [if_neg c3] at H
     exact absurd H (by simp)
   ·rw [if_neg c2] at H
    have c2b0 : decide (x3_1 < (l0.length : Int)) = false := decide_eq_false c2
    clear c2
    obtain rfl := Option.some.inj H
    go_wp2
    repeat (go_quiet (fail); try go_wp2)
    go_ret
    exact ⟨by first | rfl | (simp; done) | (simp [*]; done), by repeat (first | exact Drawn0.refl _ | apply Drawn0.step)⟩

/-! ### bourneref1_aggMay: function 31, by a walk of its own -/
theorem rwithin_eq (a : Int) : bourneref1_within.f a 1099511627776 = some (decide (-1099511627776 ≤ a ∧ a ≤ 1099511627776)) := by
 unfold bourneref1_within.f
 rw [w64_id (by omega) (by omega)]
 by_cases c : a ≥ -1099511627776
 ·rw [if_pos c]; congr 1; exact decide_eq_decide.2 (by omega)
 ·rw [if_neg c]; congr 1; symm; exact decide_eq_false (by omega)
theorem rbounds_l0 (bs : List Int) (hn : bs.length ≤ 9223372036854775807) (d : Nat) : ∀ (k i : Nat), i + d = bs.length → d < k → bourneref1_BoundsMay.l0 k bs (i : Int) = some (gFrom bs d i && decide (bs.length ≤ 8)) := by
 induction d with
  | zero =>
  intro k i hi hk
  obtain ⟨k, rfl⟩ : ∃ m, k = m + 1 := ⟨k - 1, by omega⟩
  simp only [bourneref1_BoundsMay.l0]
  rw [if_neg (by omega)]
  rw [gFrom_zero, Bool.true_and]
  congr 1
  exact decide_eq_decide.2 (by omega)
  | succ d ih =>
  intro k i hi hk
  obtain ⟨k, rfl⟩ : ∃ m, k = m + 1 := ⟨k - 1, by omega⟩
  simp only [bourneref1_BoundsMay.l0]
  rw [if_pos (by omega), if_pos (by omega), rwithin_eq, Option.bind_some]
  have e : rd bs (i : Int) = bs.getD i 0 := by unfold rd; rw [Int.toNat_natCast]
  replace ih := ih k (i + 1) (by omega) (by omega)
  have w1 : wrap64 ((i : Int) + 1) = ((i + 1 : Nat) : Int) := by rw [w64_id (by omega) (by omega)]; omega
  generalize decide (bs.length ≤ 8) = t8 at *
  rw [e]
  rw [gFrom_succ, Bool.and_assoc]
  unfold gAt
  by_cases c : -1099511627776 ≤ bs.getD i 0 ∧ bs.getD i 0 ≤ 1099511627776
  ·rw [if_pos (decide_eq_true c)]
   by_cases c0 : 0 < i
   ·have w2 : wrap64 ((i : Int) - 1) = ((i - 1 : Nat) : Int) := by rw [w64_id (by omega) (by omega)]; omega
    have e2 : rd bs ((i - 1 : Nat) : Int) = bs.getD (i - 1) 0 := by unfold rd; rw [Int.toNat_natCast]
    rw [if_pos (by omega), w2, if_pos (by omega), if_pos (by omega), e2]
    by_cases c1 : bs.getD (i - 1) 0 ≥ bs.getD i 0
    ·rw [if_pos c1, decide_eq_false (fun h => by have := h.2.2 c0; omega), Bool.false_and]
    ·rw [if_neg c1, w1, ih, decide_eq_true ⟨c.1, c.2, fun _ => by omega⟩, Bool.true_and]
   ·rw [if_neg (by omega), w1, ih, decide_eq_true ⟨c.1, c.2, fun h => absurd h c0⟩, Bool.true_and]
  ·rw [decide_eq_false c, if_neg (by decide), decide_eq_false (fun h => c ⟨h.1, h.2.1⟩), Bool.false_and]
theorem rbounds_eq (bs : List Int) (hn : bs.length ≤ 9223372036854775807) (k : Nat) (hk : bs.length < k) : bourneref1_BoundsMay.f k bs = some (bMay bs) := by
 unfold bourneref1_BoundsMay.f
 rw [show bMay bs = (gFrom bs bs.length 0 && decide (bs.length ≤ 8)) by unfold bMay; rw [Bool.and_comm]]
 exact rbounds_l0 bs hn bs.length k 0 (by omega) hk
def bourneref1_aggMay.f (a0_0 : Int) (a0_1 : Int) (a0_2 : Int) (a0_3 : Int) (l0_4 : List Int) (a0_5 : Int) : Option (Bool) := some (aMay a0_1 l0_4 a0_5)
set_option maxHeartbeats 8000000 in
set_option maxRecDepth 100000 in
theorem bourneref1_aggMay.calls (a0_0 : Int) (a0_1 : Int) (a0_2 : Int) (a0_3 : Int) (A0_4 : Option Addr) (c0_4 : Nat) (l0_4 : List Int) (a0_5 : Int) (r : Bool) (w : World) (hr0_4 : Kd.C (Kd.int .i64) w A0_4 l0_4.length l0_4) (hc0_4 : l0_4.length ≤ c0_4) (h : bourneref1_aggMay.f a0_0 a0_1 a0_2 a0_3 l0_4 a0_5 = some r) :
  Calls Try.prog 31 #[.agg #[.int .i64 a0_0, .int .i64 a0_1, .int .i64 a0_2, .int .i64 a0_3, .slice A0_4 l0_4.length c0_4, .int .i64 a0_5]] w fun e w' => e = .returned (.bool r) ∧ Below w.heap.size w w' := by
 obtain rfl := Option.some.inj h
 clear h
 have hn : l0_4.length ≤ 9223372036854775807 := (Kd.reads_of_C (d := (0 : Int)) (h1 := fun _ => rfl) hr0_4).2.1
 have A1 := Aside0.mk (rbounds_eq l0_4 hn (l0_4.length + 1) (by omega))
 clear hn
 have HR : Aside0 (Kd.C (Kd.int .i64) (w.alloc (.cells #[.int .i64 a0_0, .int .i64 a0_1, .int .i64 a0_2, .int .i64 a0_3, .slice A0_4 l0_4.length c0_4, .int .i64 a0_5] 42 (0, 0))) A0_4 l0_4.length l0_4) := ⟨Kd.C_below hr0_4 (below_alloc (Below.refl _ _) _)⟩
 have HC := Aside0.mk hc0_4
 have HB : Aside0 (Below w.heap.size w (w.alloc (.cells #[.int .i64 a0_0, .int .i64 a0_1, .int .i64 a0_2, .int .i64 a0_3, .slice A0_4 l0_4.length c0_4, .int .i64 a0_5] 42 (0, 0)))) := ⟨below_alloc (Below.refl _ _) _⟩
 clear hr0_4 hc0_4
 have hav : aMay a0_1 l0_4 a0_5 = (decide (0 ≤ a0_1 ∧ a0_1 ≤ 7 ∧ (a0_1 = 7 ∨ a0_5 = 0) ∧ 0 ≤ a0_5 ∧ a0_5 ≤ 1000 ∧ (6 ≤ a0_1 ↔ 0 < l0_4.length)) && bMay l0_4) := by unfold aMay; rfl
 rw [hav]
 clear hav
 generalize bMay l0_4 = bv at *
 generalize l0_4.length + 1 = K at *
 by_cases a1 : a0_1 < 0
 ·have e1 := decide_eq_true a1
  rw [decide_eq_false (by omega), Bool.false_and]
  have e3 : (a0_1 == 6) = false := beq_eq_false_iff_ne.2 (by omega)
  have e4 : (a0_1 == 7) = false := beq_eq_false_iff_ne.2 (by omega)
  go_enter Try.func31, Try.ntmps31
  go_wp2
  repeat (go_quiet (fail); try go_wp2)
  go_ret
  exact ⟨by first | rfl | (simp; done), by repeat (first | (with_reducible first | exact HB.out | apply below_alloc | apply pw_below_drewN | apply below_drew1) | exact HB.out)⟩
 ·have e1 := decide_eq_false a1
  by_cases a2 : 7 < a0_1
  ·have e2 := decide_eq_true a2
   rw [decide_eq_false (by omega), Bool.false_and]
   have e3 : (a0_1 == 6) = false := beq_eq_false_iff_ne.2 (by omega)
   have e4 : (a0_1 == 7) = false := beq_eq_false_iff_ne.2 (by omega)
   go_enter Try.func31, Try.ntmps31
   go_wp2
   repeat (go_quiet (fail); try go_wp2)
   go_ret
   exact ⟨by first | rfl | (simp; done), by repeat (first | (with_reducible first | exact HB.out | apply below_alloc | apply pw_below_drewN | apply below_drew1) | exact HB.out)⟩
  ·have e2 := decide_eq_false a2
   by_cases a6 : a0_1 = 6
   ·subst a6
    clear a1 a2 e1 e2
    cases bv with
     | false =>
     rw [Bool.and_false]
     go_enter Try.func31, Try.ntmps31
     go_wp2_with (go_at_call 36; (with_reducible refine (bourneref1_BoundsMay.calls K A0_4 c0_4 l0_4 false _ HR.out HC.out A1.out).mono ?_); rintro e w1 ⟨rfl, ⟨nd, rfl⟩⟩)
     repeat (go_quiet ((go_at_call 36; with_reducible exact Calls.quiet_of ((bourneref1_BoundsMay.calls K A0_4 c0_4 l0_4 false _ HR.out HC.out A1.out).mono fun _ _ h => ⟨h.1, h.2.out⟩))); try go_wp2)
     go_ret
     exact ⟨by first | rfl | (simp; done), by repeat (first | (with_reducible first | exact HB.out | apply below_alloc | apply pw_below_drewN | apply below_drew1) | exact HB.out)⟩
     | true =>
     rw [Bool.and_true]
     by_cases hz : 0 < l0_4.length
     ·have z := decide_eq_true hz
      by_cases r0 : a0_5 = 0
      ·subst r0
       rw [decide_eq_true (by omega)]
       clear hz
       go_enter Try.func31, Try.ntmps31
       go_wp2_with (go_at_call 36; (with_reducible refine (bourneref1_BoundsMay.calls K A0_4 c0_4 l0_4 true _ HR.out HC.out A1.out).mono ?_); rintro e w1 ⟨rfl, ⟨nd, rfl⟩⟩)
       repeat (go_quiet ((go_at_call 36; with_reducible exact Calls.quiet_of ((bourneref1_BoundsMay.calls K A0_4 c0_4 l0_4 true _ HR.out HC.out A1.out).mono fun _ _ h => ⟨h.1, h.2.out⟩))); try go_wp2)
       go_ret
       exact ⟨by first | rfl | (simp; done), by repeat (first | (with_reducible first | exact HB.out | apply below_alloc | apply pw_below_drewN | apply below_drew1) | exact HB.out)⟩
      ·have e0 : (a0_5 == 0) = false := beq_eq_false_iff_ne.2 r0
       rw [decide_eq_false (by omega)]
       clear hz
       go_enter Try.func31, Try.ntmps31
       go_wp2_with (go_at_call 36; (with_reducible refine (bourneref1_BoundsMay.calls K A0_4 c0_4 l0_4 true _ HR.out HC.out A1.out).mono ?_); rintro e w1 ⟨rfl, ⟨nd, rfl⟩⟩)
       repeat (go_quiet ((go_at_call 36; with_reducible exact Calls.quiet_of ((bourneref1_BoundsMay.calls K A0_4 c0_4 l0_4 true _ HR.out HC.out A1.out).mono fun _ _ h => ⟨h.1, h.2.out⟩))); try go_wp2)
       go_ret
       exact ⟨by first | rfl | (simp; done), by repeat (first | (with_reducible first | exact HB.out | apply below_alloc | apply pw_below_drewN | apply below_drew1) | exact HB.out)⟩
     ·have z := decide_eq_false hz
      rw [decide_eq_false (by omega)]
      clear hz
      go_enter Try.func31, Try.ntmps31
      go_wp2_with (go_at_call 36; (with_reducible refine (bourneref1_BoundsMay.calls K A0_4 c0_4 l0_4 true _ HR.out HC.out A1.out).mono ?_); rintro e w1 ⟨rfl, ⟨nd, rfl⟩⟩)
      repeat (go_quiet ((go_at_call 36; with_reducible exact Calls.quiet_of ((bourneref1_BoundsMay.calls K A0_4 c0_4 l0_4 true _ HR.out HC.out A1.out).mono fun _ _ h => ⟨h.1, h.2.out⟩))); try go_wp2)
      go_ret
      exact ⟨by first | rfl | (simp; done), by repeat (first | (with_reducible first | exact HB.out | apply below_alloc | apply pw_below_drewN | apply below_drew1) | exact HB.out)⟩
   ·by_cases a7 : a0_1 = 7
    ·subst a7
     clear a1 a2 e1 e2 a6
     cases bv with
      | false =>
      rw [Bool.and_false]
      go_enter Try.func31, Try.ntmps31
      go_wp2_with (go_at_call 36; (with_reducible refine (bourneref1_BoundsMay.calls K A0_4 c0_4 l0_4 false _ HR.out HC.out A1.out).mono ?_); rintro e w1 ⟨rfl, ⟨nd, rfl⟩⟩)
      repeat (go_quiet ((go_at_call 36; with_reducible exact Calls.quiet_of ((bourneref1_BoundsMay.calls K A0_4 c0_4 l0_4 false _ HR.out HC.out A1.out).mono fun _ _ h => ⟨h.1, h.2.out⟩))); try go_wp2)
      go_ret
      exact ⟨by first | rfl | (simp; done), by repeat (first | (with_reducible first | exact HB.out | apply below_alloc | apply pw_below_drewN | apply below_drew1) | exact HB.out)⟩
      | true =>
      rw [Bool.and_true]
      by_cases hz : 0 < l0_4.length
      ·have z := decide_eq_true hz
       by_cases r0 : a0_5 = 0
       ·subst r0
        rw [decide_eq_true (by omega)]
        clear hz
        go_enter Try.func31, Try.ntmps31
        go_wp2_with (go_at_call 36; (with_reducible refine (bourneref1_BoundsMay.calls K A0_4 c0_4 l0_4 true _ HR.out HC.out A1.out).mono ?_); rintro e w1 ⟨rfl, ⟨nd, rfl⟩⟩)
        repeat (go_quiet ((go_at_call 36; with_reducible exact Calls.quiet_of ((bourneref1_BoundsMay.calls K A0_4 c0_4 l0_4 true _ HR.out HC.out A1.out).mono fun _ _ h => ⟨h.1, h.2.out⟩))); try go_wp2)
        go_ret
        exact ⟨by first | rfl | (simp; done), by repeat (first | (with_reducible first | exact HB.out | apply below_alloc | apply pw_below_drewN | apply below_drew1) | exact HB.out)⟩
       ·have e0 : (a0_5 == 0) = false := beq_eq_false_iff_ne.2 r0
        by_cases r1 : 0 < a0_5
        ·have e1 := decide_eq_true r1
         by_cases r2 : a0_5 ≤ 1000
         ·have e2 := decide_eq_true r2
          rw [decide_eq_true (by omega)]
          clear hz r0
          go_enter Try.func31, Try.ntmps31
          go_wp2_with (go_at_call 36; (with_reducible refine (bourneref1_BoundsMay.calls K A0_4 c0_4 l0_4 true _ HR.out HC.out A1.out).mono ?_); rintro e w1 ⟨rfl, ⟨nd, rfl⟩⟩)
          repeat (go_quiet ((go_at_call 36; with_reducible exact Calls.quiet_of ((bourneref1_BoundsMay.calls K A0_4 c0_4 l0_4 true _ HR.out HC.out A1.out).mono fun _ _ h => ⟨h.1, h.2.out⟩))); try go_wp2)
          go_ret
          exact ⟨by first | rfl | (simp; done), by repeat (first | (with_reducible first | exact HB.out | apply below_alloc | apply pw_below_drewN | apply below_drew1) | exact HB.out)⟩
         ·have e2 := decide_eq_false r2
          rw [decide_eq_false (by omega)]
          clear hz r0
          go_enter Try.func31, Try.ntmps31
          go_wp2_with (go_at_call 36; (with_reducible refine (bourneref1_BoundsMay.calls K A0_4 c0_4 l0_4 true _ HR.out HC.out A1.out).mono ?_); rintro e w1 ⟨rfl, ⟨nd, rfl⟩⟩)
          repeat (go_quiet ((go_at_call 36; with_reducible exact Calls.quiet_of ((bourneref1_BoundsMay.calls K A0_4 c0_4 l0_4 true _ HR.out HC.out A1.out).mono fun _ _ h => ⟨h.1, h.2.out⟩))); try go_wp2)
          go_ret
          exact ⟨by first | rfl | (simp; done), by repeat (first | (with_reducible first | exact HB.out | apply below_alloc | apply pw_below_drewN | apply below_drew1) | exact HB.out)⟩
        ·have e1 := decide_eq_false r1
         rw [decide_eq_false (by omega)]
         clear hz r0
         go_enter Try.func31, Try.ntmps31
         go_wp2_with (go_at_call 36; (with_reducible refine (bourneref1_BoundsMay.calls K A0_4 c0_4 l0_4 true _ HR.out HC.out A1.out).mono ?_); rintro e w1 ⟨rfl, ⟨nd, rfl⟩⟩)
         repeat (go_quiet ((go_at_call 36; with_reducible exact Calls.quiet_of ((bourneref1_BoundsMay.calls K A0_4 c0_4 l0_4 true _ HR.out HC.out A1.out).mono fun _ _ h => ⟨h.1, h.2.out⟩))); try go_wp2)
         go_ret
         exact ⟨by first | rfl | (simp; done), by repeat (first | (with_reducible first | exact HB.out | apply below_alloc | apply pw_below_drewN | apply below_drew1) | exact HB.out)⟩
      ·have z := decide_eq_false hz
       rw [decide_eq_false (by omega)]
       clear hz
       go_enter Try.func31, Try.ntmps31
       go_wp2_with (go_at_call 36; (with_reducible refine (bourneref1_BoundsMay.calls K A0_4 c0_4 l0_4 true _ HR.out HC.out A1.out).mono ?_); rintro e w1 ⟨rfl, ⟨nd, rfl⟩⟩)
       repeat (go_quiet ((go_at_call 36; with_reducible exact Calls.quiet_of ((bourneref1_BoundsMay.calls K A0_4 c0_4 l0_4 true _ HR.out HC.out A1.out).mono fun _ _ h => ⟨h.1, h.2.out⟩))); try go_wp2)
       go_ret
       exact ⟨by first | rfl | (simp; done), by repeat (first | (with_reducible first | exact HB.out | apply below_alloc | apply pw_below_drewN | apply below_drew1) | exact HB.out)⟩
    ·have e3 : (a0_1 == 6) = false := beq_eq_false_iff_ne.2 a6
     have e4 : (a0_1 == 7) = false := beq_eq_false_iff_ne.2 a7
     cases bv with
      | false =>
      rw [Bool.and_false]
      go_enter Try.func31, Try.ntmps31
      go_wp2_with (go_at_call 36; (with_reducible refine (bourneref1_BoundsMay.calls K A0_4 c0_4 l0_4 false _ HR.out HC.out A1.out).mono ?_); rintro e w1 ⟨rfl, ⟨nd, rfl⟩⟩)
      repeat (go_quiet ((go_at_call 36; with_reducible exact Calls.quiet_of ((bourneref1_BoundsMay.calls K A0_4 c0_4 l0_4 false _ HR.out HC.out A1.out).mono fun _ _ h => ⟨h.1, h.2.out⟩))); try go_wp2)
      go_ret
      exact ⟨by first | rfl | (simp; done), by repeat (first | (with_reducible first | exact HB.out | apply below_alloc | apply pw_below_drewN | apply below_drew1) | exact HB.out)⟩
      | true =>
      rw [Bool.and_true]
      by_cases hz : 0 < l0_4.length
      ·have z := decide_eq_true hz
       rw [decide_eq_false (by omega)]
       clear hz
       go_enter Try.func31, Try.ntmps31
       go_wp2_with (go_at_call 36; (with_reducible refine (bourneref1_BoundsMay.calls K A0_4 c0_4 l0_4 true _ HR.out HC.out A1.out).mono ?_); rintro e w1 ⟨rfl, ⟨nd, rfl⟩⟩)
       repeat (go_quiet ((go_at_call 36; with_reducible exact Calls.quiet_of ((bourneref1_BoundsMay.calls K A0_4 c0_4 l0_4 true _ HR.out HC.out A1.out).mono fun _ _ h => ⟨h.1, h.2.out⟩))); try go_wp2)
       go_ret
       exact ⟨by first | rfl | (simp; done), by repeat (first | (with_reducible first | exact HB.out | apply below_alloc | apply pw_below_drewN | apply below_drew1) | exact HB.out)⟩
      ·have z := decide_eq_false hz
       by_cases r0 : a0_5 = 0
       ·subst r0
        rw [decide_eq_true (by omega)]
        clear hz
        go_enter Try.func31, Try.ntmps31
        go_wp2_with (go_at_call 36; (with_reducible refine (bourneref1_BoundsMay.calls K A0_4 c0_4 l0_4 true _ HR.out HC.out A1.out).mono ?_); rintro e w1 ⟨rfl, ⟨nd, rfl⟩⟩)
        repeat (go_quiet ((go_at_call 36; with_reducible exact Calls.quiet_of ((bourneref1_BoundsMay.calls K A0_4 c0_4 l0_4 true _ HR.out HC.out A1.out).mono fun _ _ h => ⟨h.1, h.2.out⟩))); try go_wp2)
        go_ret
        exact ⟨by first | rfl | (simp; done), by repeat (first | (with_reducible first | exact HB.out | apply below_alloc | apply pw_below_drewN | apply below_drew1) | exact HB.out)⟩
       ·have e0 : (a0_5 == 0) = false := beq_eq_false_iff_ne.2 r0
        rw [decide_eq_false (by omega)]
        clear hz
        go_enter Try.func31, Try.ntmps31
        go_wp2_with (go_at_call 36; (with_reducible refine (bourneref1_BoundsMay.calls K A0_4 c0_4 l0_4 true _ HR.out HC.out A1.out).mono ?_); rintro e w1 ⟨rfl, ⟨nd, rfl⟩⟩)
        repeat (go_quiet ((go_at_call 36; with_reducible exact Calls.quiet_of ((bourneref1_BoundsMay.calls K A0_4 c0_4 l0_4 true _ HR.out HC.out A1.out).mono fun _ _ h => ⟨h.1, h.2.out⟩))); try go_wp2)
        go_ret
        exact ⟨by first | rfl | (simp; done), by repeat (first | (with_reducible first | exact HB.out | apply below_alloc | apply pw_below_drewN | apply below_drew1) | exact HB.out)⟩

/-! ### bourneref1_Gcd: function 32 -/
mutual
def bourneref1_Gcd.j0 : Nat → Int → Int → Bool → Option (Int × Int)
  | 0, _, _, _ => none
  | k + 1, x0, x1, x12 => if x12 = true then (some (0, 300)) else (bourneref1_Gcd.l0 k x0 x1)
def bourneref1_Gcd.l0 : Nat → Int → Int → Option (Int × Int)
  | 0, _, _ => none
  | k + 1, x0, x1 => if x1 > 0 then (if x1 = 0 then (none) else (bourneref1_Gcd.l0 k x1 (Int.tmod x0 x1))) else (some (x0, 0))
end
def bourneref1_Gcd.f (k : Nat) (a0 : Int) (a1 : Int) : Option (Int × Int) := if a0 < 1 then (bourneref1_Gcd.j0 k a0 a1 true) else (bourneref1_Gcd.j0 k a0 a1 (decide (a1 < 1)))
theorem bourneref1_Gcd.mono_l : ∀ k, (∀ y0 y1 y2, LeO (bourneref1_Gcd.j0 k y0 y1 y2) (bourneref1_Gcd.j0 (k + 1) y0 y1 y2)) ∧ (∀ y0 y1, LeO (bourneref1_Gcd.l0 k y0 y1) (bourneref1_Gcd.l0 (k + 1) y0 y1))
 | 0 => ⟨fun _ _ _ r h => by simp [bourneref1_Gcd.j0] at h, fun _ _ r h => by simp [bourneref1_Gcd.l0] at h⟩
 | k + 1 => by
  obtain ⟨ih0, ih1⟩ := bourneref1_Gcd.mono_l k
  refine ⟨?_, ?_⟩
  ·intro y0 y1 y2
   unfold bourneref1_Gcd.j0
   repeat' first
    | (with_reducible exact ih0 _ _ _)
    | (with_reducible exact ih1 _ _)
    | (with_reducible exact LeO.refl _)
    | (with_reducible exact LeO.none _)
    | (with_reducible refine LeO.ite ?_ ?_)
    | (with_reducible refine LeO.bind ?_ (fun _ => ?_))
    | exact ih0 _ _ _
    | exact ih1 _ _
    | exact LeO.none _
    | refine LeO.ite ?_ ?_
    | refine LeO.bind ?_ (fun _ => ?_)
  ·intro y0 y1
   unfold bourneref1_Gcd.l0
   repeat' first
    | (with_reducible exact ih0 _ _ _)
    | (with_reducible exact ih1 _ _)
    | (with_reducible exact LeO.refl _)
    | (with_reducible exact LeO.none _)
    | (with_reducible refine LeO.ite ?_ ?_)
    | (with_reducible refine LeO.bind ?_ (fun _ => ?_))
    | exact ih0 _ _ _
    | exact ih1 _ _
    | exact LeO.none _
    | refine LeO.ite ?_ ?_
    | refine LeO.bind ?_ (fun _ => ?_)
theorem bourneref1_Gcd.mono : ∀ a0 a1 k, LeO (bourneref1_Gcd.f k a0 a1) (bourneref1_Gcd.f (k + 1) a0 a1) := by
 intro a0 a1 k
 obtain ⟨ih0, ih1⟩ := bourneref1_Gcd.mono_l k
 unfold bourneref1_Gcd.f
 repeat' first
    | (with_reducible exact ih0 _ _ _)
    | (with_reducible exact ih1 _ _)
    | (with_reducible exact LeO.refl _)
    | (with_reducible exact LeO.none _)
    | (with_reducible refine LeO.ite ?_ ?_)
    | (with_reducible refine LeO.bind ?_ (fun _ => ?_))
    | exact ih0 _ _ _
    | exact ih1 _ _
    | exact LeO.none _
    | refine LeO.ite ?_ ?_
    | refine LeO.bind ?_ (fun _ => ?_)
set_option maxHeartbeats 8000000 in
set_option maxRecDepth 100000 in
theorem bourneref1_Gcd.calls (k : Nat) (a0 : Int) (a1 : Int) (r1 : Int) (r2 : Int) (w : World) (h : bourneref1_Gcd.f k a0 a1 = some (r1, r2)) :
  Calls Try.prog 32 #[.int .i64 a0, .int .i64 a1] w fun e w' => e = .returned (.tuple #[.int .i64 r1, .int .i64 r2]) ∧ Drawn0 w w' := by
 have H : (if a0 < 1 then (bourneref1_Gcd.j0 k a0 a1 true) else (bourneref1_Gcd.j0 k a0 a1 (decide (a1 < 1)))) = some (r1, r2) := h
 clear h
 have HC3 := Aside0.mk H
 clear H
 go_enter Try.func32, Try.ntmps32
 go_upto_region 1 with (fail)
 go_cut [12] (fun v12 wc => ∃ (kq : Nat) (x12_2 : Bool), v12 = .bool x12_2 ∧ Aside0 (bourneref1_Gcd.j0 kq a0 a1 x12_2 = some (r1, r2)) ∧ Aside0 (kq ≤ k) ∧ Drawn0 w wc)
 case first =>
  have H := HC3.out
  clear HC3
  by_cases c4 : a0 < 1
  ·rw [if_pos c4] at H
   have c4b0 : decide (a0 < 1) = true := decide_eq_true c4
   clear c4
   (first | rw [c4b0] | (simp only [i64_w, i32_w]; rw [c4b0]) | skip)
   have H' := Aside0.mk H
   clear H
   go_wp2
   go_meet
   case rel => exact ⟨_, (true), (by first | rfl | (simp; done) | (simp [*]; done)), H', ⟨by first | omega | exact Nat.le_refl _⟩, by repeat (first | exact Drawn0.refl _ | apply Drawn0.step)⟩
  ·rw [if_neg c4] at H
   have c4b0 : decide (a0 < 1) = false := decide_eq_false c4
   clear c4
   (first | rw [c4b0] | (simp only [i64_w, i32_w]; rw [c4b0]) | skip)
   have H' := Aside0.mk H
   clear H
   go_wp2
   go_meet
   case rel => exact ⟨_, (decide (a1 < 1)), (by first | rfl | (simp; done) | (simp [*]; done)), H', ⟨by first | omega | exact Nat.le_refl _⟩, by repeat (first | exact Drawn0.refl _ | apply Drawn0.step)⟩
 case rest =>
  clear HC3
  try clear p2
  try clear c3
  try clear c4
  try clear c4b0
  obtain ⟨kq, x12_2, rfl, HA, HJ2, ⟨mc2, rfl⟩⟩ := hcut
  cases kq with
  | zero => exact absurd HA.out (by simp [bourneref1_Gcd.j0])
   | succ kj2 =>
   have H := HA.out
   clear HA
   simp only [bourneref1_Gcd.j0] at H
   by_cases c5 : x12_2 = true
   ·subst c5
    have H1 : (some (0, 300)) = some (r1, r2) := by rw [if_pos rfl] at H; exact H
    clear H
    have H := H1
    clear H1
    simp only [Option.some.injEq, Prod.mk.injEq] at H
    obtain ⟨rfl, rfl⟩ := H
    go_wp2
    go_ret2
    exact ⟨by first | rfl | (simp; done) | (simp [*]; done), by repeat (first | exact Drawn0.refl _ | apply Drawn0.step)⟩
   ·replace c5 := Bool.eq_false_iff.mpr c5
    subst c5
    have H1 : (bourneref1_Gcd.l0 kj2 a0 a1) = some (r1, r2) := by rw [if_neg (show ¬ (false = true) by decide)] at H; exact H
    clear H
    have H := H1
    clear H1
    have H' := Aside0.mk H
    clear H
    go_wp2
    go_loopg [0, 1] kj2 (fun kq v0 v1 w' => ∃ (x0_2 : Int) (x1_2 : Int), v0 = .int .i64 x0_2 ∧ v1 = .int .i64 x1_2 ∧ Aside0 (bourneref1_Gcd.l0 kq x0_2 x1_2 = some (r1, r2)) ∧ Aside0 (kq ≤ kj2) ∧ Drawn0 w w')
    case atStart => exact ⟨(a0), (a1), (by first | rfl | (simp; done) | (simp [*]; done)), (by first | rfl | (simp; done) | (simp [*]; done)), H', ⟨Nat.le_refl _⟩, by repeat (first | exact Drawn0.refl _ | apply Drawn0.step)⟩
    case round =>
     clear H'
     try clear c2
     try clear p2
     try clear c3
     try clear c4
     try clear c4b0
     try clear c5
     try clear p2
     obtain ⟨x0_2, x1_2, rfl, rfl, HA, HK2, ⟨m2, rfl⟩⟩ := hrel
     cases gk with
     | zero => exact absurd HA.out (by simp [bourneref1_Gcd.l0])
      | succ k2 =>
      have H := HA.out
      clear HA
      simp only [bourneref1_Gcd.l0] at H
      by_cases c6 : x1_2 > 0
      ·rw [if_pos c6] at H
       have c6b0 : decide (0 < x1_2) = true := decide_eq_true c6
       clear c6
       by_cases c7 : x1_2 = 0
       ·rw [if_pos c7] at H
        exact absurd H (by simp)
       ·rw [if_neg c7] at H
        have c7b0 : (x1_2 == 0) = false := beq_eq_false_iff_ne.mpr c7
        have c7b1 : (x1_2 != 0) = true := bne_iff_ne.mpr c7
        have H' := Aside0.mk H
        clear H
        go_wp2
        go_roundg k2
        case measure => have := HJ2.out; have := HK2.out; omega
        case rel => exact ⟨(x1_2), (Int.tmod x0_2 x1_2), (by first | rfl | (simp; done) | (simp [*]; done)), (by first | rfl | (simp; done) | (simp [*]; done)), H', ⟨by have := HJ2.out; have := HK2.out; omega⟩, by repeat (first | exact Drawn0.refl _ | apply Drawn0.step)⟩
      ·rw [if_neg c6] at H
       have c6b0 : decide (0 < x1_2) = false := decide_eq_false c6
       clear c6
       simp only [Option.some.injEq, Prod.mk.injEq] at H
       obtain ⟨rfl, rfl⟩ := H
       go_wp2
       go_ret2
       exact ⟨by first | rfl | (simp; done) | (simp [*]; done), by repeat (first | exact Drawn0.refl _ | apply Drawn0.step)⟩

end Go.Proofs.Ytcbckolcmfbjhaa.QAdmits
