-- Written by a program of this session (wip/myprint.py), over the words of the print
import Derived.Test.YtmccgkbbgicglaaQScanRefx0
namespace Go.Proofs.Ytmccgkbbgicglaa.QScanRef
open Go.RowKit Go.Proofs.YtmccgkbbgicglaaW.PrintWords Go.Proofs.YtmccgkbbgicglaaW.PrintLast Go.Proofs.YtmccgkbbgicglaaW.PrintMore
attribute [local go_sem] max2_int min2_int max_two min_two max_three min_three max_four min_four   -- for this text's walks alone
set_option linter.unusedVariables false
set_option linter.unusedSimpArgs false

-- NOT PRINTED: function 10 (scan_Load)

/-! ### bourneref1_Sum: function 34 -/
mutual
def bourneref1_Sum.l0 : Nat → ByteArray → Int → Int → Option (Int)
  | 0, _, _, _ => none
  | k + 1, x0, x3, x4 => if x4 < (x0.size : Int) then (if 0 ≤ x4 then (bourneref1_Sum.l1 k x0 (Go.bits .xor .i64 x3 (wrap64 ((wrap64 (bt x0 x4)) * 256))) x4 0) else (none)) else (some x3)
def bourneref1_Sum.l1 : Nat → ByteArray → Int → Int → Int → Option (Int)
  | 0, _, _, _, _ => none
  | k + 1, x0, x3, x4, x5 => if x5 < 8 then (if x3 ≥ 32768 then (bourneref1_Sum.l1 k x0 (Go.bits .xor .i64 (Go.bits .and .i64 (wrap64 (x3 * 2)) 65535) 4129) x4 (wrap64 (x5 + 1))) else (bourneref1_Sum.l1 k x0 (Go.bits .and .i64 (wrap64 (x3 * 2)) 65535) x4 (wrap64 (x5 + 1)))) else (bourneref1_Sum.l0 k x0 x3 (wrap64 (x4 + 1)))
end
def bourneref1_Sum.f (k : Nat) (a0 : ByteArray) : Option (Int) := bourneref1_Sum.l0 k a0 65535 0
theorem bourneref1_Sum.mono_l : ∀ k, (∀ y0 y1 y2, LeO (bourneref1_Sum.l0 k y0 y1 y2) (bourneref1_Sum.l0 (k + 1) y0 y1 y2)) ∧ (∀ y0 y1 y2 y3, LeO (bourneref1_Sum.l1 k y0 y1 y2 y3) (bourneref1_Sum.l1 (k + 1) y0 y1 y2 y3))
 | 0 => ⟨fun _ _ _ r h => by simp [bourneref1_Sum.l0] at h, fun _ _ _ _ r h => by simp [bourneref1_Sum.l1] at h⟩
 | k + 1 => by
  obtain ⟨ih0, ih1⟩ := bourneref1_Sum.mono_l k
  refine ⟨?_, ?_⟩
  ·intro y0 y1 y2
   unfold bourneref1_Sum.l0
   repeat' first
    | (with_reducible exact ih0 _ _ _)
    | (with_reducible exact ih1 _ _ _ _)
    | (with_reducible exact LeO.refl _)
    | (with_reducible exact LeO.none _)
    | (with_reducible refine LeO.ite ?_ ?_)
    | (with_reducible refine LeO.bind ?_ (fun _ => ?_))
    | exact ih0 _ _ _
    | exact ih1 _ _ _ _
    | exact LeO.none _
    | refine LeO.ite ?_ ?_
    | refine LeO.bind ?_ (fun _ => ?_)
  ·intro y0 y1 y2 y3
   unfold bourneref1_Sum.l1
   repeat' first
    | (with_reducible exact ih0 _ _ _)
    | (with_reducible exact ih1 _ _ _ _)
    | (with_reducible exact LeO.refl _)
    | (with_reducible exact LeO.none _)
    | (with_reducible refine LeO.ite ?_ ?_)
    | (with_reducible refine LeO.bind ?_ (fun _ => ?_))
    | exact ih0 _ _ _
    | exact ih1 _ _ _ _
    | exact LeO.none _
    | refine LeO.ite ?_ ?_
    | refine LeO.bind ?_ (fun _ => ?_)
theorem bourneref1_Sum.mono : ∀ a0 k, LeO (bourneref1_Sum.f k a0) (bourneref1_Sum.f (k + 1) a0) := by
 intro a0 k
 obtain ⟨ih0, ih1⟩ := bourneref1_Sum.mono_l k
 unfold bourneref1_Sum.f
 repeat' first
    | (with_reducible exact ih0 _ _ _)
    | (with_reducible exact ih1 _ _ _ _)
    | (with_reducible exact LeO.refl _)
    | (with_reducible exact LeO.none _)
    | (with_reducible refine LeO.ite ?_ ?_)
    | (with_reducible refine LeO.bind ?_ (fun _ => ?_))
    | exact ih0 _ _ _
    | exact ih1 _ _ _ _
    | exact LeO.none _
    | refine LeO.ite ?_ ?_
    | refine LeO.bind ?_ (fun _ => ?_)
set_option maxHeartbeats 8000000 in
set_option maxRecDepth 100000 in
theorem bourneref1_Sum.calls (k : Nat) (a0 : ByteArray) (r : Int) (w : World) (h : bourneref1_Sum.f k a0 = some r) :
  Calls Try.prog 34 #[.string a0] w fun e w' => e = .returned (.int .i64 r) ∧ Drawn0 w w' := by
 have H : (bourneref1_Sum.l0 k a0 65535 0) = some r := h
 clear h
 have H' := Aside0.mk H
 clear H
 go_enter Try.func34, Try.ntmps34
 go_wp2
 go_loopg [3, 4] k (fun kq v3 v4 w' => ∃ (x3_1 : Int) (x4_1 : Int), v3 = .int .i64 x3_1 ∧ v4 = .int .i64 x4_1 ∧ Aside0 (bourneref1_Sum.l0 kq a0 x3_1 x4_1 = some r) ∧ Aside0 (kq ≤ k) ∧ Drawn0 w w')
 case atStart => exact ⟨(65535), (0), (by first | rfl | (simp; done) | (simp [*]; done)), (by first | rfl | (simp; done) | (simp [*]; done)), H', ⟨Nat.le_refl _⟩, by repeat (first | exact Drawn0.refl _ | apply Drawn0.step)⟩
 case round =>
  clear H'
  obtain ⟨x3_1, x4_1, rfl, rfl, HA, HK1, ⟨m1, rfl⟩⟩ := hrel
  cases gk with
  | zero => exact absurd HA.out (by simp [bourneref1_Sum.l0])
   | succ k1 =>
   have H := HA.out
   clear HA
   simp only [bourneref1_Sum.l0] at H
   by_cases c2 : x4_1 < (a0.size : Int)
   ·rw [if_pos c2] at H
    have c2b0 : decide (x4_1 < (a0.size : Int)) = true := decide_eq_true c2
    clear c2
    by_cases c3 : 0 ≤ x4_1
    ·rw [if_pos c3] at H
     have c3b0 : decide (0 ≤ x4_1) = true := decide_eq_true c3
     clear c3
     have H' := Aside0.mk H
     clear H
     have p4 : 0 ≤ (x4_1 : Int) := of_decide_eq_true (by first | (with_reducible assumption) | assumption)
     have q4 : x4_1 < (a0.size : Int) := of_decide_eq_true (by first | (with_reducible assumption) | assumption)
     have hx4 := bt_at a0 x4_1
     replace p4 := eq_true p4
     replace q4 := eq_true q4
     go_wp2
     go_loopg [3, 5] k1 (fun kq v3 v5 w' => ∃ (x3_2 : Int) (x5_2 : Int), v3 = .int .i64 x3_2 ∧ v5 = .int .i64 x5_2 ∧ Aside0 (bourneref1_Sum.l1 kq a0 x3_2 x4_1 x5_2 = some r) ∧ Aside0 (kq ≤ k1) ∧ Drawn0 w w')
     case atStart => exact ⟨(Go.bits .xor .i64 x3_1 (wrap64 ((wrap64 (bt a0 x4_1)) * 256))), (0), (by first | rfl | (simp; done) | (simp [*]; done)), (by first | rfl | (simp; done) | (simp [*]; done)), H', ⟨Nat.le_refl _⟩, by repeat (first | exact Drawn0.refl _ | apply Drawn0.step)⟩
     case round =>
      clear H'
      try clear c2
      try clear c2b0
      try clear p2
      try clear c3
      try clear c3b0
      try clear p4
      try clear q4
      try clear hx4
      try clear p4
      try clear q4
      obtain ⟨x3_2, x5_2, rfl, rfl, HA, HK2, ⟨m2, rfl⟩⟩ := hrel
      cases gk with
      | zero => exact absurd HA.out (by simp [bourneref1_Sum.l1])
       | succ k2 =>
       have H := HA.out
       clear HA
       simp only [bourneref1_Sum.l1] at H
       by_cases c5 : x5_2 < 8
       ·rw [if_pos c5] at H
        have c5b0 : decide (x5_2 < 8) = true := decide_eq_true c5
        clear c5
        by_cases c6 : x3_2 ≥ 32768
        ·rw [if_pos c6] at H
         have c6b0 : decide (32768 ≤ x3_2) = true := decide_eq_true c6
         clear c6
         have H' := Aside0.mk H
         clear H
         go_wp2
         go_roundg k2
         case measure => have := HK1.out; have := HK2.out; omega
         case rel => exact ⟨(Go.bits .xor .i64 (Go.bits .and .i64 (wrap64 (x3_2 * 2)) 65535) 4129), (wrap64 (x5_2 + 1)), (by first | rfl | (simp; done) | (simp [*]; done)), (by first | rfl | (simp; done) | (simp [*]; done)), H', ⟨by have := HK1.out; have := HK2.out; omega⟩, by repeat (first | exact Drawn0.refl _ | apply Drawn0.step)⟩
        ·rw [if_neg c6] at H
         have c6b0 : decide (32768 ≤ x3_2) = false := decide_eq_false c6
         clear c6
         have H' := Aside0.mk H
         clear H
         go_wp2
         go_roundg k2
         case measure => have := HK1.out; have := HK2.out; omega
         case rel => exact ⟨(Go.bits .and .i64 (wrap64 (x3_2 * 2)) 65535), (wrap64 (x5_2 + 1)), (by first | rfl | (simp; done) | (simp [*]; done)), (by first | rfl | (simp; done) | (simp [*]; done)), H', ⟨by have := HK1.out; have := HK2.out; omega⟩, by repeat (first | exact Drawn0.refl _ | apply Drawn0.step)⟩
       ·rw [if_neg c5] at H
        have c5b0 : decide (x5_2 < 8) = false := decide_eq_false c5
        clear c5
        have H' := Aside0.mk H
        clear H
        go_wp2
        go_roundg k2
        case measure => have := HK1.out; have := HK2.out; omega
        case rel => exact ⟨(x3_2), (wrap64 (x4_1 + 1)), (by first | rfl | (simp; done) | (simp [*]; done)), (by first | rfl | (simp; done) | (simp [*]; done)), H', ⟨by have := HK1.out; have := HK2.out; omega⟩, by repeat (first | exact Drawn0.refl _ | apply Drawn0.step)⟩
    ·rw [if_neg c3] at H
     exact absurd H (by simp)
   ·rw [if_neg c2] at H
    have c2b0 : decide (x4_1 < (a0.size : Int)) = false := decide_eq_false c2
    clear c2
    obtain rfl := Option.some.inj H
    go_wp2
    go_ret
    exact ⟨by first | rfl | (simp; done) | (simp [*]; done), by repeat (first | exact Drawn0.refl _ | apply Drawn0.step)⟩

/-! ### bourneref1_GetFrame: function 27 -/
mutual
def bourneref1_GetFrame.j0 : Nat → ByteArray → Int → Bool → Option (ByteArray × Int × Int)
  | 0, _, _, _ => none
  | k + 1, x0, x1, x16 => if x16 = true then (some ((⟨#[]⟩ : ByteArray), 0, 800)) else (if x1 = (x0.size : Int) then (some ((⟨#[]⟩ : ByteArray), 0, 801)) else (if 0 ≤ x1 then (if x1 < (x0.size : Int) then (if (bt x0 x1) = 181 then (if (wrap64 (x1 + 1)) = (x0.size : Int) then (some ((⟨#[]⟩ : ByteArray), 0, 801)) else (if 0 ≤ (wrap64 (x1 + 1)) then (if (wrap64 (x1 + 1)) < (x0.size : Int) then (if (wrap64 (bt x0 (wrap64 (x1 + 1)))) < 1 then (bourneref1_GetFrame.j1 k x0 x1 (wrap64 (bt x0 (wrap64 (x1 + 1)))) true) else (bourneref1_GetFrame.j1 k x0 x1 (wrap64 (bt x0 (wrap64 (x1 + 1)))) (decide ((wrap64 (bt x0 (wrap64 (x1 + 1)))) > 60)))) else (none)) else (none))) else (some ((⟨#[]⟩ : ByteArray), 0, 800))) else (none)) else (none)))
def bourneref1_GetFrame.j1 : Nat → ByteArray → Int → Int → Bool → Option (ByteArray × Int × Int)
  | 0, _, _, _, _ => none
  | k + 1, x0, x1, x7, x40 => if x40 = true then (some ((⟨#[]⟩ : ByteArray), 0, 800)) else (if (wrap64 ((x0.size : Int) - x1)) < (wrap64 (x7 + 4)) then (some ((⟨#[]⟩ : ByteArray), 0, 801)) else (if 0 ≤ (wrap64 (x1 + 1)) then (if (wrap64 (x1 + 1)) ≤ (wrap64 ((wrap64 (x1 + 2)) + x7)) then (if (wrap64 ((wrap64 (x1 + 2)) + x7)) ≤ (x0.size : Int) then ((bourneref1_Sum.f k (x0.extract ((wrap64 (x1 + 1)) : Int).toNat ((wrap64 ((wrap64 (x1 + 2)) + x7)) : Int).toNat)).bind fun t107 => (if 0 ≤ (wrap64 ((wrap64 (x1 + 2)) + x7)) then (if (wrap64 ((wrap64 (x1 + 2)) + x7)) < (x0.size : Int) then (if (wrap64 (bt x0 (wrap64 ((wrap64 (x1 + 2)) + x7)))) = (t107 / 256) then (if 0 ≤ (wrap64 ((wrap64 (x1 + 3)) + x7)) then (if (wrap64 ((wrap64 (x1 + 3)) + x7)) < (x0.size : Int) then (if (wrap64 (bt x0 (wrap64 ((wrap64 (x1 + 3)) + x7)))) = (Go.bits .and .i64 t107 255) then (if 0 ≤ (wrap64 (x1 + 2)) then (if (wrap64 (x1 + 2)) ≤ (wrap64 ((wrap64 (x1 + 2)) + x7)) then (some (x0.extract ((wrap64 (x1 + 2)) : Int).toNat ((wrap64 ((wrap64 (x1 + 2)) + x7)) : Int).toNat, wrap64 ((wrap64 (x1 + 4)) + x7), 0)) else (none)) else (none)) else (some ((⟨#[]⟩ : ByteArray), 0, 800))) else (none)) else (none)) else (some ((⟨#[]⟩ : ByteArray), 0, 800))) else (none)) else (none))) else (none)) else (none)) else (none)))
end
def bourneref1_GetFrame.f (k : Nat) (a0 : ByteArray) (a1 : Int) : Option (ByteArray × Int × Int) := if a1 < 0 then (bourneref1_GetFrame.j0 k a0 a1 true) else (bourneref1_GetFrame.j0 k a0 a1 (decide (a1 > (a0.size : Int))))
theorem bourneref1_GetFrame.mono_l : ∀ k, (∀ y0 y1 y2, LeO (bourneref1_GetFrame.j0 k y0 y1 y2) (bourneref1_GetFrame.j0 (k + 1) y0 y1 y2)) ∧ (∀ y0 y1 y2 y3, LeO (bourneref1_GetFrame.j1 k y0 y1 y2 y3) (bourneref1_GetFrame.j1 (k + 1) y0 y1 y2 y3))
 | 0 => ⟨fun _ _ _ r h => by simp [bourneref1_GetFrame.j0] at h, fun _ _ _ _ r h => by simp [bourneref1_GetFrame.j1] at h⟩
 | k + 1 => by
  obtain ⟨ih0, ih1⟩ := bourneref1_GetFrame.mono_l k
  refine ⟨?_, ?_⟩
  ·intro y0 y1 y2
   unfold bourneref1_GetFrame.j0
   repeat' first
    | (with_reducible exact ih0 _ _ _)
    | (with_reducible exact ih1 _ _ _ _)
    | (with_reducible exact bourneref1_Sum.mono _ _)
    | (with_reducible exact LeO.refl _)
    | (with_reducible exact LeO.none _)
    | (with_reducible refine LeO.ite ?_ ?_)
    | (with_reducible refine LeO.bind ?_ (fun _ => ?_))
    | exact ih0 _ _ _
    | exact ih1 _ _ _ _
    | exact bourneref1_Sum.mono _ _
    | exact LeO.none _
    | refine LeO.ite ?_ ?_
    | refine LeO.bind ?_ (fun _ => ?_)
  ·intro y0 y1 y2 y3
   unfold bourneref1_GetFrame.j1
   repeat' first
    | (with_reducible exact ih0 _ _ _)
    | (with_reducible exact ih1 _ _ _ _)
    | (with_reducible exact bourneref1_Sum.mono _ _)
    | (with_reducible exact LeO.refl _)
    | (with_reducible exact LeO.none _)
    | (with_reducible refine LeO.ite ?_ ?_)
    | (with_reducible refine LeO.bind ?_ (fun _ => ?_))
    | exact ih0 _ _ _
    | exact ih1 _ _ _ _
    | exact bourneref1_Sum.mono _ _
    | exact LeO.none _
    | refine LeO.ite ?_ ?_
    | refine LeO.bind ?_ (fun _ => ?_)
theorem bourneref1_GetFrame.mono : ∀ a0 a1 k, LeO (bourneref1_GetFrame.f k a0 a1) (bourneref1_GetFrame.f (k + 1) a0 a1) := by
 intro a0 a1 k
 obtain ⟨ih0, ih1⟩ := bourneref1_GetFrame.mono_l k
 unfold bourneref1_GetFrame.f
 repeat' first
    | (with_reducible exact ih0 _ _ _)
    | (with_reducible exact ih1 _ _ _ _)
    | (with_reducible exact bourneref1_Sum.mono _ _)
    | (with_reducible exact LeO.refl _)
    | (with_reducible exact LeO.none _)
    | (with_reducible refine LeO.ite ?_ ?_)
    | (with_reducible refine LeO.bind ?_ (fun _ => ?_))
    | exact ih0 _ _ _
    | exact ih1 _ _ _ _
    | exact bourneref1_Sum.mono _ _
    | exact LeO.none _
    | refine LeO.ite ?_ ?_
    | refine LeO.bind ?_ (fun _ => ?_)
set_option maxHeartbeats 8000000 in
set_option maxRecDepth 100000 in
theorem bourneref1_GetFrame.calls (k : Nat) (a0 : ByteArray) (a1 : Int) (r1 : ByteArray) (r2 : Int) (r3 : Int) (w : World) (h : bourneref1_GetFrame.f k a0 a1 = some (r1, r2, r3)) :
  Calls Try.prog 27 #[.string a0, .int .i64 a1] w fun e w' => e = .returned (.tuple #[.string r1, .int .i64 r2, .int .i64 r3]) ∧ Drawn0 w w' := by
 have H : (if a1 < 0 then (bourneref1_GetFrame.j0 k a0 a1 true) else (bourneref1_GetFrame.j0 k a0 a1 (decide (a1 > (a0.size : Int))))) = some (r1, r2, r3) := h
 clear h
 have HC3 := Aside0.mk H
 clear H
 go_enter Try.func27, Try.ntmps27
 go_upto_region 1 with (fail)
 go_cut [16] (fun v16 wc => ∃ (kq : Nat) (x16_2 : Bool), v16 = .bool x16_2 ∧ Aside0 (bourneref1_GetFrame.j0 kq a0 a1 x16_2 = some (r1, r2, r3)) ∧ Aside0 (kq ≤ k) ∧ Drawn0 w wc)
 case first =>
  have H := HC3.out
  clear HC3
  by_cases c4 : a1 < 0
  ·rw [if_pos c4] at H
   have c4b0 : decide (a1 < 0) = true := decide_eq_true c4
   clear c4
   (first | rw [c4b0] | (simp only [i64_w, i32_w]; rw [c4b0]) | skip)
   have H' := Aside0.mk H
   clear H
   go_wp2
   go_meet
   case rel => exact ⟨_, (true), (by first | rfl | (simp; done) | (simp [*]; done)), H', ⟨by first | omega | exact Nat.le_refl _⟩, by repeat (first | exact Drawn0.refl _ | apply Drawn0.step)⟩
  ·rw [if_neg c4] at H
   have c4b0 : decide (a1 < 0) = false := decide_eq_false c4
   clear c4
   (first | rw [c4b0] | (simp only [i64_w, i32_w]; rw [c4b0]) | skip)
   have H' := Aside0.mk H
   clear H
   go_wp2
   go_meet
   case rel => exact ⟨_, (decide (a1 > (a0.size : Int))), (by first | rfl | (simp; done) | (simp [*]; done)), H', ⟨by first | omega | exact Nat.le_refl _⟩, by repeat (first | exact Drawn0.refl _ | apply Drawn0.step)⟩
 case rest =>
  clear HC3
  try clear c2
  try clear p2
  try clear c4
  try clear c4b0
  obtain ⟨kq, x16_2, rfl, HA, HJ2, ⟨mc2, rfl⟩⟩ := hcut
  cases kq with
  | zero => exact absurd HA.out (by simp [bourneref1_GetFrame.j0])
   | succ kj2 =>
   have H := HA.out
   clear HA
   simp only [bourneref1_GetFrame.j0] at H
   by_cases c5 : x16_2 = true
   ·subst c5
    have H1 : (some ((⟨#[]⟩ : ByteArray), 0, 800)) = some (r1, r2, r3) := by rw [if_pos rfl] at H; exact H
    clear H
    have H := H1
    clear H1
    simp only [Option.some.injEq, Prod.mk.injEq] at H
    obtain ⟨rfl, rfl, rfl⟩ := H
    go_wp2
    go_ret3
    exact ⟨by first | rfl | (simp; done) | (simp [*]; done), by repeat (first | exact Drawn0.refl _ | apply Drawn0.step)⟩
   ·replace c5 := Bool.eq_false_iff.mpr c5
    subst c5
    have H1 : (if a1 = (a0.size : Int) then (some ((⟨#[]⟩ : ByteArray), 0, 801)) else (if 0 ≤ a1 then (if a1 < (a0.size : Int) then (if (bt a0 a1) = 181 then (if (wrap64 (a1 + 1)) = (a0.size : Int) then (some ((⟨#[]⟩ : ByteArray), 0, 801)) else (if 0 ≤ (wrap64 (a1 + 1)) then (if (wrap64 (a1 + 1)) < (a0.size : Int) then (if (wrap64 (bt a0 (wrap64 (a1 + 1)))) < 1 then (bourneref1_GetFrame.j1 kj2 a0 a1 (wrap64 (bt a0 (wrap64 (a1 + 1)))) true) else (bourneref1_GetFrame.j1 kj2 a0 a1 (wrap64 (bt a0 (wrap64 (a1 + 1)))) (decide ((wrap64 (bt a0 (wrap64 (a1 + 1)))) > 60)))) else (none)) else (none))) else (some ((⟨#[]⟩ : ByteArray), 0, 800))) else (none)) else (none))) = some (r1, r2, r3) := by rw [if_neg (show ¬ (false = true) by decide)] at H; exact H
    clear H
    have H := H1
    clear H1
    by_cases c6 : a1 = (a0.size : Int)
    ·rw [if_pos c6] at H
     have c6b0 : (a1 == (a0.size : Int)) = true := beq_iff_eq.mpr c6
     have c6b1 : (a1 != (a0.size : Int)) = false := bne_eq_false_iff_eq.mpr c6
     clear c6
     simp only [Option.some.injEq, Prod.mk.injEq] at H
     obtain ⟨rfl, rfl, rfl⟩ := H
     go_wp2
     go_ret3
     exact ⟨by first | rfl | (simp; done) | (simp [*]; done), by repeat (first | exact Drawn0.refl _ | apply Drawn0.step)⟩
    ·rw [if_neg c6] at H
     have c6b0 : (a1 == (a0.size : Int)) = false := beq_eq_false_iff_ne.mpr c6
     have c6b1 : (a1 != (a0.size : Int)) = true := bne_iff_ne.mpr c6
     by_cases c7 : 0 ≤ a1
     ·rw [if_pos c7] at H
      have c7b0 : decide (0 ≤ a1) = true := decide_eq_true c7
      clear c7
      by_cases c8 : a1 < (a0.size : Int)
      ·rw [if_pos c8] at H
       have c8b0 : decide (a1 < (a0.size : Int)) = true := decide_eq_true c8
       clear c8
       by_cases c10 : (bt a0 a1) = 181
       ·rw [if_pos c10] at H
        have c10b0 : ((bt a0 a1) == 181) = true := beq_iff_eq.mpr c10
        have c10b1 : ((bt a0 a1) != 181) = false := bne_eq_false_iff_eq.mpr c10
        clear c10
        by_cases c11 : (wrap64 (a1 + 1)) = (a0.size : Int)
        ·rw [if_pos c11] at H
         have c11b0 : ((wrap64 (a1 + 1)) == (a0.size : Int)) = true := beq_iff_eq.mpr c11
         have c11b1 : ((wrap64 (a1 + 1)) != (a0.size : Int)) = false := bne_eq_false_iff_eq.mpr c11
         clear c11
         simp only [Option.some.injEq, Prod.mk.injEq] at H
         obtain ⟨rfl, rfl, rfl⟩ := H
         have p9 : 0 ≤ (a1 : Int) := of_decide_eq_true (by first | (with_reducible assumption) | assumption)
         have q9 : a1 < (a0.size : Int) := of_decide_eq_true (by first | (with_reducible assumption) | assumption)
         have hx9 := bt_at a0 a1
         replace p9 := eq_true p9
         replace q9 := eq_true q9
         go_wp2
         go_ret3
         exact ⟨by first | rfl | (simp; done) | (simp [*]; done), by repeat (first | exact Drawn0.refl _ | apply Drawn0.step)⟩
        ·rw [if_neg c11] at H
         have c11b0 : ((wrap64 (a1 + 1)) == (a0.size : Int)) = false := beq_eq_false_iff_ne.mpr c11
         have c11b1 : ((wrap64 (a1 + 1)) != (a0.size : Int)) = true := bne_iff_ne.mpr c11
         obtain ⟨ji12, hji12⟩ : ∃ j_ : Int, (wrap64 (a1 + 1)) = j_ := ⟨_, rfl⟩
         replace H : (if 0 ≤ (ji12) then (if (ji12) < (a0.size : Int) then (if (wrap64 (bt a0 (ji12))) < 1 then (bourneref1_GetFrame.j1 kj2 a0 a1 (wrap64 (bt a0 (ji12))) true) else (bourneref1_GetFrame.j1 kj2 a0 a1 (wrap64 (bt a0 (ji12))) (decide ((wrap64 (bt a0 (ji12))) > 60)))) else (none)) else (none)) = some (r1, r2, r3) := by first | (rw [hji12] at H; exact H) | (simp only [hji12] at H ⊢; exact H)
         (try rw [hji12] at c11b0)
         (try rw [hji12] at c11b1)
         have hji12w : (IntKind.i64.wrap (a1 + 1)) = ji12 := (i64_w _).trans hji12
         by_cases c13 : 0 ≤ (ji12)
         ·rw [if_pos c13] at H
          have c13b0 : decide (0 ≤ (ji12)) = true := decide_eq_true c13
          clear c13
          by_cases c14 : (ji12) < (a0.size : Int)
          ·rw [if_pos c14] at H
           have c14b0 : decide ((ji12) < (a0.size : Int)) = true := decide_eq_true c14
           clear c14
           have HC16 := Aside0.mk H
           clear H
           have p9 : 0 ≤ (a1 : Int) := of_decide_eq_true (by first | (with_reducible assumption) | assumption)
           have q9 : a1 < (a0.size : Int) := of_decide_eq_true (by first | (with_reducible assumption) | assumption)
           have hx9 := bt_at a0 a1
           replace p9 := eq_true p9
           replace q9 := eq_true q9
           have p15 : 0 ≤ ((ji12) : Int) := of_decide_eq_true (by first | (with_reducible assumption) | assumption)
           have q15 : (ji12) < (a0.size : Int) := of_decide_eq_true (by first | (with_reducible assumption) | assumption)
           have hx15 := bt_at a0 (ji12)
           replace p15 := eq_true p15
           replace q15 := eq_true q15
           go_upto_region 10 with (fail)
           go_cut [40] (fun v40 wc => ∃ (kq : Nat) (x40_15 : Bool), v40 = .bool x40_15 ∧ Aside0 (bourneref1_GetFrame.j1 kq a0 a1 (wrap64 (bt a0 (ji12))) x40_15 = some (r1, r2, r3)) ∧ Aside0 (kq ≤ kj2) ∧ Drawn0 w wc)
           case first =>
            have H := HC16.out
            clear HC16
            by_cases c17 : (wrap64 (bt a0 (ji12))) < 1
            ·rw [if_pos c17] at H
             have c17b0 : decide ((wrap64 (bt a0 (ji12))) < 1) = true := decide_eq_true c17
             clear c17
             (first | rw [c17b0] | (simp only [i64_w, i32_w]; rw [c17b0]) | skip)
             have H' := Aside0.mk H
             clear H
             go_wp2
             go_meet
             case rel => exact ⟨_, (true), (by first | rfl | (simp; done) | (simp [*]; done)), H', ⟨by have := HJ2.out; first | omega | exact Nat.le_refl _⟩, by repeat (first | exact Drawn0.refl _ | apply Drawn0.step)⟩
            ·rw [if_neg c17] at H
             have c17b0 : decide ((wrap64 (bt a0 (ji12))) < 1) = false := decide_eq_false c17
             clear c17
             (first | rw [c17b0] | (simp only [i64_w, i32_w]; rw [c17b0]) | skip)
             have H' := Aside0.mk H
             clear H
             go_wp2
             go_meet
             case rel => exact ⟨_, (decide ((wrap64 (bt a0 (ji12))) > 60)), (by first | rfl | (simp; done) | (simp only [← hji12] <;> (first | rfl | simp)) | (simp [*]; done)), H', ⟨by have := HJ2.out; first | omega | exact Nat.le_refl _⟩, by repeat (first | exact Drawn0.refl _ | apply Drawn0.step)⟩
           case rest =>
            clear HC16
            try clear c1
            try clear p1
            try clear q1
            try clear hx1
            try clear c2
            try clear p2
            try clear c4
            try clear c4b0
            try clear c5
            try clear c6
            try clear c6b0
            try clear c6b1
            try clear p6
            try clear c7
            try clear c7b0
            try clear c8
            try clear c8b0
            try clear p9
            try clear q9
            try clear hx9
            try clear c10
            try clear c10b0
            try clear c10b1
            try clear c11
            try clear c11b0
            try clear c11b1
            try clear c13
            try clear c13b0
            try clear c14
            try clear c14b0
            try clear p15
            try clear q15
            try clear hx15
            try clear c17
            try clear c17b0
            try clear p15
            try clear p2
            try clear p9
            try clear q15
            try clear q9
            obtain ⟨kq, x40_15, rfl, HA, HJ15, ⟨mc15, rfl⟩⟩ := hcut
            cases kq with
            | zero => exact absurd HA.out (by simp [bourneref1_GetFrame.j1])
             | succ kj15 =>
             have H := HA.out
             clear HA
             simp only [bourneref1_GetFrame.j1] at H
             by_cases c18 : x40_15 = true
             ·subst c18
              have H1 : (some ((⟨#[]⟩ : ByteArray), 0, 800)) = some (r1, r2, r3) := by rw [if_pos rfl] at H; exact H
              clear H
              have H := H1
              clear H1
              simp only [Option.some.injEq, Prod.mk.injEq] at H
              obtain ⟨rfl, rfl, rfl⟩ := H
              go_wp2
              go_ret3
              exact ⟨by first | rfl | (simp; done) | (simp only [← hji12] <;> (first | rfl | simp)) | (simp [*]; done), by repeat (first | exact Drawn0.refl _ | apply Drawn0.step)⟩
             ·replace c18 := Bool.eq_false_iff.mpr c18
              subst c18
              have H1 : (if (wrap64 ((a0.size : Int) - a1)) < (wrap64 ((wrap64 (bt a0 (ji12))) + 4)) then (some ((⟨#[]⟩ : ByteArray), 0, 801)) else (if 0 ≤ (wrap64 (a1 + 1)) then (if (wrap64 (a1 + 1)) ≤ (wrap64 ((wrap64 (a1 + 2)) + (wrap64 (bt a0 (ji12))))) then (if (wrap64 ((wrap64 (a1 + 2)) + (wrap64 (bt a0 (ji12))))) ≤ (a0.size : Int) then ((bourneref1_Sum.f kj15 (a0.extract ((wrap64 (a1 + 1)) : Int).toNat ((wrap64 ((wrap64 (a1 + 2)) + (wrap64 (bt a0 (ji12))))) : Int).toNat)).bind fun t107 => (if 0 ≤ (wrap64 ((wrap64 (a1 + 2)) + (wrap64 (bt a0 (ji12))))) then (if (wrap64 ((wrap64 (a1 + 2)) + (wrap64 (bt a0 (ji12))))) < (a0.size : Int) then (if (wrap64 (bt a0 (wrap64 ((wrap64 (a1 + 2)) + (wrap64 (bt a0 (ji12))))))) = (t107 / 256) then (if 0 ≤ (wrap64 ((wrap64 (a1 + 3)) + (wrap64 (bt a0 (ji12))))) then (if (wrap64 ((wrap64 (a1 + 3)) + (wrap64 (bt a0 (ji12))))) < (a0.size : Int) then (if (wrap64 (bt a0 (wrap64 ((wrap64 (a1 + 3)) + (wrap64 (bt a0 (ji12))))))) = (Go.bits .and .i64 t107 255) then (if 0 ≤ (wrap64 (a1 + 2)) then (if (wrap64 (a1 + 2)) ≤ (wrap64 ((wrap64 (a1 + 2)) + (wrap64 (bt a0 (ji12))))) then (some (a0.extract ((wrap64 (a1 + 2)) : Int).toNat ((wrap64 ((wrap64 (a1 + 2)) + (wrap64 (bt a0 (ji12))))) : Int).toNat, wrap64 ((wrap64 (a1 + 4)) + (wrap64 (bt a0 (ji12)))), 0)) else (none)) else (none)) else (some ((⟨#[]⟩ : ByteArray), 0, 800))) else (none)) else (none)) else (some ((⟨#[]⟩ : ByteArray), 0, 800))) else (none)) else (none))) else (none)) else (none)) else (none))) = some (r1, r2, r3) := by rw [if_neg (show ¬ (false = true) by decide)] at H; exact H
              clear H
              have H := H1
              clear H1
              by_cases c19 : (wrap64 ((a0.size : Int) - a1)) < (wrap64 ((wrap64 (bt a0 (ji12))) + 4))
              ·rw [if_pos c19] at H
               have c19b0 : decide ((wrap64 ((a0.size : Int) - a1)) < (wrap64 ((wrap64 (bt a0 (ji12))) + 4))) = true := decide_eq_true c19
               clear c19
               simp only [Option.some.injEq, Prod.mk.injEq] at H
               obtain ⟨rfl, rfl, rfl⟩ := H
               go_wp2
               go_ret3
               exact ⟨by first | rfl | (simp; done) | (simp only [← hji12] <;> (first | rfl | simp)) | (simp [*]; done), by repeat (first | exact Drawn0.refl _ | apply Drawn0.step)⟩
              ·rw [if_neg c19] at H
               have c19b0 : decide ((wrap64 ((a0.size : Int) - a1)) < (wrap64 ((wrap64 (bt a0 (ji12))) + 4))) = false := decide_eq_false c19
               clear c19
               have hji20 : (wrap64 (a1 + 1)) = ji12 := hji12
               replace H : (if 0 ≤ (ji12) then (if (ji12) ≤ (wrap64 ((wrap64 (a1 + 2)) + (wrap64 (bt a0 (ji12))))) then (if (wrap64 ((wrap64 (a1 + 2)) + (wrap64 (bt a0 (ji12))))) ≤ (a0.size : Int) then ((bourneref1_Sum.f kj15 (a0.extract ((ji12) : Int).toNat ((wrap64 ((wrap64 (a1 + 2)) + (wrap64 (bt a0 (ji12))))) : Int).toNat)).bind fun t107 => (if 0 ≤ (wrap64 ((wrap64 (a1 + 2)) + (wrap64 (bt a0 (ji12))))) then (if (wrap64 ((wrap64 (a1 + 2)) + (wrap64 (bt a0 (ji12))))) < (a0.size : Int) then (if (wrap64 (bt a0 (wrap64 ((wrap64 (a1 + 2)) + (wrap64 (bt a0 (ji12))))))) = (t107 / 256) then (if 0 ≤ (wrap64 ((wrap64 (a1 + 3)) + (wrap64 (bt a0 (ji12))))) then (if (wrap64 ((wrap64 (a1 + 3)) + (wrap64 (bt a0 (ji12))))) < (a0.size : Int) then (if (wrap64 (bt a0 (wrap64 ((wrap64 (a1 + 3)) + (wrap64 (bt a0 (ji12))))))) = (Go.bits .and .i64 t107 255) then (if 0 ≤ (wrap64 (a1 + 2)) then (if (wrap64 (a1 + 2)) ≤ (wrap64 ((wrap64 (a1 + 2)) + (wrap64 (bt a0 (ji12))))) then (some (a0.extract ((wrap64 (a1 + 2)) : Int).toNat ((wrap64 ((wrap64 (a1 + 2)) + (wrap64 (bt a0 (ji12))))) : Int).toNat, wrap64 ((wrap64 (a1 + 4)) + (wrap64 (bt a0 (ji12)))), 0)) else (none)) else (none)) else (some ((⟨#[]⟩ : ByteArray), 0, 800))) else (none)) else (none)) else (some ((⟨#[]⟩ : ByteArray), 0, 800))) else (none)) else (none))) else (none)) else (none)) else (none)) = some (r1, r2, r3) := by first | (rw [hji20] at H; exact H) | (simp only [hji20] at H ⊢; exact H)
               (try rw [hji20] at c11b0)
               (try rw [hji20] at c11b1)
               have hji20w : (IntKind.i64.wrap (a1 + 1)) = ji12 := (i64_w _).trans hji20
               by_cases c21 : 0 ≤ (ji12)
               ·rw [if_pos c21] at H
                have c21b0 := eq_true c21
                have c21b1 : decide (0 ≤ (ji12)) = true := decide_eq_true c21
                clear c21
                by_cases c22 : (ji12) ≤ (wrap64 ((wrap64 (a1 + 2)) + (wrap64 (bt a0 (ji12)))))
                ·rw [if_pos c22] at H
                 have c22b0 := eq_true c22
                 have c22b1 : decide ((ji12) ≤ (wrap64 ((wrap64 (a1 + 2)) + (wrap64 (bt a0 (ji12)))))) = true := decide_eq_true c22
                 by_cases c23 : (wrap64 ((wrap64 (a1 + 2)) + (wrap64 (bt a0 (ji12))))) ≤ (a0.size : Int)
                 ·rw [if_pos c23] at H
                  have c23b0 := eq_true c23
                  have c23b1 : decide ((wrap64 ((wrap64 (a1 + 2)) + (wrap64 (bt a0 (ji12))))) ≤ (a0.size : Int)) = true := decide_eq_true c23
                  replace H := Option.bind_eq_some_iff.mp H
                  obtain ⟨t107, A240, H⟩ := H
                  replace H : (if 0 ≤ (wrap64 ((wrap64 (a1 + 2)) + (wrap64 (bt a0 (ji12))))) then (if (wrap64 ((wrap64 (a1 + 2)) + (wrap64 (bt a0 (ji12))))) < (a0.size : Int) then (if (wrap64 (bt a0 (wrap64 ((wrap64 (a1 + 2)) + (wrap64 (bt a0 (ji12))))))) = (t107 / 256) then (if 0 ≤ (wrap64 ((wrap64 (a1 + 3)) + (wrap64 (bt a0 (ji12))))) then (if (wrap64 ((wrap64 (a1 + 3)) + (wrap64 (bt a0 (ji12))))) < (a0.size : Int) then (if (wrap64 (bt a0 (wrap64 ((wrap64 (a1 + 3)) + (wrap64 (bt a0 (ji12))))))) = (Go.bits .and .i64 t107 255) then (if 0 ≤ (wrap64 (a1 + 2)) then (if (wrap64 (a1 + 2)) ≤ (wrap64 ((wrap64 (a1 + 2)) + (wrap64 (bt a0 (ji12))))) then (some (a0.extract ((wrap64 (a1 + 2)) : Int).toNat ((wrap64 ((wrap64 (a1 + 2)) + (wrap64 (bt a0 (ji12))))) : Int).toNat, wrap64 ((wrap64 (a1 + 4)) + (wrap64 (bt a0 (ji12)))), 0)) else (none)) else (none)) else (some ((⟨#[]⟩ : ByteArray), 0, 800))) else (none)) else (none)) else (some ((⟨#[]⟩ : ByteArray), 0, 800))) else (none)) else (none)) = some (r1, r2, r3) := H
                  have A24 := Aside0.mk A240
                  clear A240
                  obtain ⟨ji25, hji25⟩ : ∃ j_ : Int, (wrap64 ((wrap64 (a1 + 2)) + (wrap64 (bt a0 (ji12))))) = j_ := ⟨_, rfl⟩
                  replace H : (if 0 ≤ (ji25) then (if (ji25) < (a0.size : Int) then (if (wrap64 (bt a0 (ji25))) = (t107 / 256) then (if 0 ≤ (wrap64 ((wrap64 (a1 + 3)) + (wrap64 (bt a0 (ji12))))) then (if (wrap64 ((wrap64 (a1 + 3)) + (wrap64 (bt a0 (ji12))))) < (a0.size : Int) then (if (wrap64 (bt a0 (wrap64 ((wrap64 (a1 + 3)) + (wrap64 (bt a0 (ji12))))))) = (Go.bits .and .i64 t107 255) then (if 0 ≤ (wrap64 (a1 + 2)) then (if (wrap64 (a1 + 2)) ≤ (ji25) then (some (a0.extract ((wrap64 (a1 + 2)) : Int).toNat ((ji25) : Int).toNat, wrap64 ((wrap64 (a1 + 4)) + (wrap64 (bt a0 (ji12)))), 0)) else (none)) else (none)) else (some ((⟨#[]⟩ : ByteArray), 0, 800))) else (none)) else (none)) else (some ((⟨#[]⟩ : ByteArray), 0, 800))) else (none)) else (none)) = some (r1, r2, r3) := by first | (rw [hji25] at H; exact H) | (simp only [hji25] at H ⊢; exact H)
                  (try rw [hji25] at c22b0)
                  (try rw [hji25] at c22b1)
                  (try rw [hji25] at c22)
                  (try rw [hji25] at c23b0)
                  (try rw [hji25] at c23b1)
                  (try rw [hji25] at c23)
                  (try rw [hji25] at A24)
                  have hji25w : (IntKind.i64.wrap ((wrap64 (a1 + 2)) + (wrap64 (bt a0 (ji12))))) = ji25 := (i64_w _).trans hji25
                  by_cases c26 : 0 ≤ (ji25)
                  ·rw [if_pos c26] at H
                   have c26b0 : decide (0 ≤ (ji25)) = true := decide_eq_true c26
                   clear c26
                   by_cases c27 : (ji25) < (a0.size : Int)
                   ·rw [if_pos c27] at H
                    have c27b0 : decide ((ji25) < (a0.size : Int)) = true := decide_eq_true c27
                    clear c27
                    by_cases c29 : (wrap64 (bt a0 (ji25))) = (t107 / 256)
                    ·rw [if_pos c29] at H
                     have c29b0 : ((wrap64 (bt a0 (ji25))) == (t107 / 256)) = true := beq_iff_eq.mpr c29
                     have c29b1 : ((wrap64 (bt a0 (ji25))) != (t107 / 256)) = false := bne_eq_false_iff_eq.mpr c29
                     clear c29
                     obtain ⟨ji30, hji30⟩ : ∃ j_ : Int, (wrap64 ((wrap64 (a1 + 3)) + (wrap64 (bt a0 (ji12))))) = j_ := ⟨_, rfl⟩
                     replace H : (if 0 ≤ (ji30) then (if (ji30) < (a0.size : Int) then (if (wrap64 (bt a0 (ji30))) = (Go.bits .and .i64 t107 255) then (if 0 ≤ (wrap64 (a1 + 2)) then (if (wrap64 (a1 + 2)) ≤ (ji25) then (some (a0.extract ((wrap64 (a1 + 2)) : Int).toNat ((ji25) : Int).toNat, wrap64 ((wrap64 (a1 + 4)) + (wrap64 (bt a0 (ji12)))), 0)) else (none)) else (none)) else (some ((⟨#[]⟩ : ByteArray), 0, 800))) else (none)) else (none)) = some (r1, r2, r3) := by first | (rw [hji30] at H; exact H) | (simp only [hji30] at H ⊢; exact H)
                     (try rw [hji30] at A24)
                     have hji30w : (IntKind.i64.wrap ((wrap64 (a1 + 3)) + (wrap64 (bt a0 (ji12))))) = ji30 := (i64_w _).trans hji30
                     by_cases c31 : 0 ≤ (ji30)
                     ·rw [if_pos c31] at H
                      have c31b0 : decide (0 ≤ (ji30)) = true := decide_eq_true c31
                      clear c31
                      by_cases c32 : (ji30) < (a0.size : Int)
                      ·rw [if_pos c32] at H
                       have c32b0 : decide ((ji30) < (a0.size : Int)) = true := decide_eq_true c32
                       clear c32
                       by_cases c34 : (wrap64 (bt a0 (ji30))) = (Go.bits .and .i64 t107 255)
                       ·rw [if_pos c34] at H
                        have c34b0 : ((wrap64 (bt a0 (ji30))) == (Go.bits .and .i64 t107 255)) = true := beq_iff_eq.mpr c34
                        have c34b1 : ((wrap64 (bt a0 (ji30))) != (Go.bits .and .i64 t107 255)) = false := bne_eq_false_iff_eq.mpr c34
                        clear c34
                        obtain ⟨ji35, hji35⟩ : ∃ j_ : Int, (wrap64 (a1 + 2)) = j_ := ⟨_, rfl⟩
                        (try (have hji25_ji35 := hji25; rw [hji35] at hji25_ji35))
                        replace H : (if 0 ≤ (ji35) then (if (ji35) ≤ (ji25) then (some (a0.extract ((ji35) : Int).toNat ((ji25) : Int).toNat, wrap64 ((wrap64 (a1 + 4)) + (wrap64 (bt a0 (ji12)))), 0)) else (none)) else (none)) = some (r1, r2, r3) := by first | (rw [hji35] at H; exact H) | (simp only [hji35] at H ⊢; exact H)
                        (try rw [hji35] at c22b0)
                        (try rw [hji35] at c22b1)
                        (try rw [hji35] at c22)
                        (try rw [hji35] at c23b0)
                        (try rw [hji35] at c23b1)
                        (try rw [hji35] at c23)
                        (try rw [hji35] at A24)
                        have hji35w : (IntKind.i64.wrap (a1 + 2)) = ji35 := (i64_w _).trans hji35
                        by_cases c36 : 0 ≤ (ji35)
                        ·rw [if_pos c36] at H
                         have c36b0 := eq_true c36
                         have c36b1 : decide (0 ≤ (ji35)) = true := decide_eq_true c36
                         clear c36
                         by_cases c37 : (ji35) ≤ (ji25)
                         ·rw [if_pos c37] at H
                          have c37b0 := eq_true c37
                          have c37b1 : decide ((ji35) ≤ (ji25)) = true := decide_eq_true c37
                          clear c37
                          have c38b0 := eq_true (of_decide_eq_true (by first | (with_reducible assumption) | assumption) : (ji25) ≤ (a0.size : Int))
                          simp only [Option.some.injEq, Prod.mk.injEq] at H
                          obtain ⟨rfl, rfl, rfl⟩ := H
                          go_wp2_with (first | ((with_reducible refine gate_callee (f := 34) rfl ?_); refine goesL_ (some 56) rfl rfl Try.func34 (by kernel_rfl) rfl #[.string (a0.extract ((ji12) : Int).toNat ((ji25) : Int).toNat)] rfl (by (try simp only [List.map_toArray, List.map_cons, List.map_nil]); first | done | (simp only [hji20, hji25]; rfl) | rfl | (simp only [List.length_drop, List.length_take]; rfl)) ?_; (with_reducible refine (bourneref1_Sum.calls kj15 (a0.extract ((ji12) : Int).toNat ((ji25) : Int).toNat) t107 _ A24.out).mono ?_); rintro e w' ⟨rfl, ⟨nd, rfl⟩⟩; refine ⟨_, rfl, ?_⟩; have p28 : 0 ≤ ((ji25) : Int) := of_decide_eq_true (by first | (with_reducible assumption) | assumption); have q28 : (ji25) < (a0.size : Int) := of_decide_eq_true (by first | (with_reducible assumption) | assumption); have hx28 := bt_at a0 (ji25); replace p28 := eq_true p28; replace q28 := eq_true q28; have p33 : 0 ≤ ((ji30) : Int) := of_decide_eq_true (by first | (with_reducible assumption) | assumption); have q33 : (ji30) < (a0.size : Int) := of_decide_eq_true (by first | (with_reducible assumption) | assumption); have hx33 := bt_at a0 (ji30); replace p33 := eq_true p33; replace q33 := eq_true q33))
                          go_ret3
                          exact ⟨by first | rfl | (simp; done) | (simp only [← hji12, ← hji20, ← hji25, ← hji30, ← hji35] <;> (first | rfl | simp)) | (simp [*]; done), by repeat (first | exact Drawn0.refl _ | apply Drawn0.step)⟩
                         ·rw [if_neg c37] at H
                          exact absurd H (by simp)
                        ·rw [if_neg c36] at H
                         exact absurd H (by simp)
                       ·rw [if_neg c34] at H
                        have c34b0 : ((wrap64 (bt a0 (ji30))) == (Go.bits .and .i64 t107 255)) = false := beq_eq_false_iff_ne.mpr c34
                        have c34b1 : ((wrap64 (bt a0 (ji30))) != (Go.bits .and .i64 t107 255)) = true := bne_iff_ne.mpr c34
                        simp only [Option.some.injEq, Prod.mk.injEq] at H
                        obtain ⟨rfl, rfl, rfl⟩ := H
                        go_wp2_with (first | ((with_reducible refine gate_callee (f := 34) rfl ?_); refine goesL_ (some 56) rfl rfl Try.func34 (by kernel_rfl) rfl #[.string (a0.extract ((ji12) : Int).toNat ((ji25) : Int).toNat)] rfl (by (try simp only [List.map_toArray, List.map_cons, List.map_nil]); first | done | (simp only [hji20, hji25]; rfl) | rfl | (simp only [List.length_drop, List.length_take]; rfl)) ?_; (with_reducible refine (bourneref1_Sum.calls kj15 (a0.extract ((ji12) : Int).toNat ((ji25) : Int).toNat) t107 _ A24.out).mono ?_); rintro e w' ⟨rfl, ⟨nd, rfl⟩⟩; refine ⟨_, rfl, ?_⟩; have p28 : 0 ≤ ((ji25) : Int) := of_decide_eq_true (by first | (with_reducible assumption) | assumption); have q28 : (ji25) < (a0.size : Int) := of_decide_eq_true (by first | (with_reducible assumption) | assumption); have hx28 := bt_at a0 (ji25); replace p28 := eq_true p28; replace q28 := eq_true q28; have p33 : 0 ≤ ((ji30) : Int) := of_decide_eq_true (by first | (with_reducible assumption) | assumption); have q33 : (ji30) < (a0.size : Int) := of_decide_eq_true (by first | (with_reducible assumption) | assumption); have hx33 := bt_at a0 (ji30); replace p33 := eq_true p33; replace q33 := eq_true q33))
                        go_ret3
                        exact ⟨by first | rfl | (simp; done) | (simp only [← hji12, ← hji20, ← hji25, ← hji30] <;> (first | rfl | simp)) | (simp [*]; done), by repeat (first | exact Drawn0.refl _ | apply Drawn0.step)⟩
                      ·rw [if_neg c32] at H
                       exact absurd H (by simp)
                     ·rw [if_neg c31] at H
                      exact absurd H (by simp)
                    ·rw [if_neg c29] at H
                     have c29b0 : ((wrap64 (bt a0 (ji25))) == (t107 / 256)) = false := beq_eq_false_iff_ne.mpr c29
                     have c29b1 : ((wrap64 (bt a0 (ji25))) != (t107 / 256)) = true := bne_iff_ne.mpr c29
                     simp only [Option.some.injEq, Prod.mk.injEq] at H
                     obtain ⟨rfl, rfl, rfl⟩ := H
                     go_wp2_with (first | ((with_reducible refine gate_callee (f := 34) rfl ?_); refine goesL_ (some 56) rfl rfl Try.func34 (by kernel_rfl) rfl #[.string (a0.extract ((ji12) : Int).toNat ((ji25) : Int).toNat)] rfl (by (try simp only [List.map_toArray, List.map_cons, List.map_nil]); first | done | (simp only [hji20, hji25]; rfl) | rfl | (simp only [List.length_drop, List.length_take]; rfl)) ?_; (with_reducible refine (bourneref1_Sum.calls kj15 (a0.extract ((ji12) : Int).toNat ((ji25) : Int).toNat) t107 _ A24.out).mono ?_); rintro e w' ⟨rfl, ⟨nd, rfl⟩⟩; refine ⟨_, rfl, ?_⟩; have p28 : 0 ≤ ((ji25) : Int) := of_decide_eq_true (by first | (with_reducible assumption) | assumption); have q28 : (ji25) < (a0.size : Int) := of_decide_eq_true (by first | (with_reducible assumption) | assumption); have hx28 := bt_at a0 (ji25); replace p28 := eq_true p28; replace q28 := eq_true q28))
                     go_ret3
                     exact ⟨by first | rfl | (simp; done) | (simp only [← hji12, ← hji20, ← hji25] <;> (first | rfl | simp)) | (simp [*]; done), by repeat (first | exact Drawn0.refl _ | apply Drawn0.step)⟩
                   ·rw [if_neg c27] at H
                    exact absurd H (by simp)
                  ·rw [if_neg c26] at H
                   exact absurd H (by simp)
                 ·rw [if_neg c23] at H
                  exact absurd H (by simp)
                ·rw [if_neg c22] at H
                 exact absurd H (by simp)
               ·rw [if_neg c21] at H
                exact absurd H (by simp)
          ·rw [if_neg c14] at H
           exact absurd H (by simp)
         ·rw [if_neg c13] at H
          exact absurd H (by simp)
       ·rw [if_neg c10] at H
        have c10b0 : ((bt a0 a1) == 181) = false := beq_eq_false_iff_ne.mpr c10
        have c10b1 : ((bt a0 a1) != 181) = true := bne_iff_ne.mpr c10
        simp only [Option.some.injEq, Prod.mk.injEq] at H
        obtain ⟨rfl, rfl, rfl⟩ := H
        have p9 : 0 ≤ (a1 : Int) := of_decide_eq_true (by first | (with_reducible assumption) | assumption)
        have q9 : a1 < (a0.size : Int) := of_decide_eq_true (by first | (with_reducible assumption) | assumption)
        have hx9 := bt_at a0 a1
        replace p9 := eq_true p9
        replace q9 := eq_true q9
        go_wp2
        go_ret3
        exact ⟨by first | rfl | (simp; done) | (simp [*]; done), by repeat (first | exact Drawn0.refl _ | apply Drawn0.step)⟩
      ·rw [if_neg c8] at H
       exact absurd H (by simp)
     ·rw [if_neg c7] at H
      exact absurd H (by simp)

-- NOT PRINTED: function 11 (bourneref1_LoadScanner)

/-! ### bournelaw0_Num: function 12 -/
def bournelaw0_Num.f (a0 : Int) : Option (Int) := some a0
set_option maxHeartbeats 8000000 in
set_option maxRecDepth 100000 in
theorem bournelaw0_Num.calls (a0 : Int) (r : Int) (w : World) (h : bournelaw0_Num.f a0 = some r) :
  Calls Try.prog 12 #[.int .i64 a0] w fun e w' => e = .returned (.int .i64 r) ∧ Drawn0 w w' := by
 have H : (some a0) = some r := h
 clear h
 obtain rfl := Option.some.inj H
 go_enter Try.func12, Try.ntmps12
 go_wp2
 go_ret
 exact ⟨by first | rfl | (simp; done) | (simp [*]; done), by repeat (first | exact Drawn0.refl _ | apply Drawn0.step)⟩

/-! ### wire_source: function 48 -/
def wire_source.f (a0 : Int) : Option (Bool) := if a0 ≥ 0 then (some (decide (a0 < 8))) else (some false)
set_option maxHeartbeats 8000000 in
set_option maxRecDepth 100000 in
theorem wire_source.calls (a0 : Int) (r : Bool) (w : World) (h : wire_source.f a0 = some r) :
  Calls Try.prog 48 #[.int .i64 a0] w fun e w' => e = .returned (.bool r) ∧ Drawn0 w w' := by
 have H : (if a0 ≥ 0 then (some (decide (a0 < 8))) else (some false)) = some r := h
 clear h
 by_cases c2 : a0 ≥ 0
 ·rw [if_pos c2] at H
  have c2b0 : decide (0 ≤ a0) = true := decide_eq_true c2
  clear c2
  obtain rfl := Option.some.inj H
  go_enter Try.func48, Try.ntmps48
  go_wp2
  go_ret
  exact ⟨by first | rfl | (simp; done) | (simp [*]; done), by repeat (first | exact Drawn0.refl _ | apply Drawn0.step)⟩
 ·rw [if_neg c2] at H
  have c2b0 : decide (0 ≤ a0) = false := decide_eq_false c2
  clear c2
  obtain rfl := Option.some.inj H
  go_enter Try.func48, Try.ntmps48
  go_wp2
  go_ret
  exact ⟨by first | rfl | (simp; done) | (simp [*]; done), by repeat (first | exact Drawn0.refl _ | apply Drawn0.step)⟩

end Go.Proofs.Ytmccgkbbgicglaa.QScanRef
