-- Written by a program of this session (wip/myprint.py), over the words of the print
import Derived.Test.YtmccgkbbgicglaaQScanRefx0
import Derived.Test.YtmccgkbbgicglaaQScanRefx2
namespace Go.Proofs.Ytmccgkbbgicglaa.QScanRef
open Go.RowKit Go.Proofs.YtmccgkbbgicglaaW.PrintWords Go.Proofs.YtmccgkbbgicglaaW.PrintLast Go.Proofs.YtmccgkbbgicglaaW.PrintMore
attribute [local go_sem] max2_int min2_int max_two min_two max_three min_three max_four min_four   -- for this text's walks alone
set_option linter.unusedVariables false
set_option linter.unusedSimpArgs false


/-! ### frame_Get: function 26 -/
mutual
def frame_Get.j0 : Nat → ByteArray → Int → Bool → Option (ByteArray × Int × Int)
  | 0, _, _, _ => none
  | k + 1, x0, x1, x16 => if x16 = true then (some ((⟨#[]⟩ : ByteArray), 0, 800)) else (if 0 ≤ x1 then (if x1 ≤ (x0.size : Int) then (if ((x0.extract (x1 : Int).toNat x0.size).size : Int) > 0 then (if 0 < ((x0.extract (x1 : Int).toNat x0.size).size : Int) then (if (bt (x0.extract (x1 : Int).toNat x0.size) 0) = 181 then (if ((x0.extract (x1 : Int).toNat x0.size).size : Int) > 1 then (if 1 < ((x0.extract (x1 : Int).toNat x0.size).size : Int) then (if (bt (x0.extract (x1 : Int).toNat x0.size) 1) < 1 then (frame_Get.j1 k x1 (x0.extract (x1 : Int).toNat x0.size) true) else (frame_Get.j1 k x1 (x0.extract (x1 : Int).toNat x0.size) (decide ((bt (x0.extract (x1 : Int).toNat x0.size) 1) > 60)))) else (none)) else (frame_Get.j1 k x1 (x0.extract (x1 : Int).toNat x0.size) false)) else (frame_Get.j1 k x1 (x0.extract (x1 : Int).toNat x0.size) true)) else (none)) else (if ((x0.extract (x1 : Int).toNat x0.size).size : Int) > 1 then (if 1 < ((x0.extract (x1 : Int).toNat x0.size).size : Int) then (if (bt (x0.extract (x1 : Int).toNat x0.size) 1) < 1 then (frame_Get.j1 k x1 (x0.extract (x1 : Int).toNat x0.size) true) else (frame_Get.j1 k x1 (x0.extract (x1 : Int).toNat x0.size) (decide ((bt (x0.extract (x1 : Int).toNat x0.size) 1) > 60)))) else (none)) else (frame_Get.j1 k x1 (x0.extract (x1 : Int).toNat x0.size) false))) else (none)) else (none))
def frame_Get.j1 : Nat → Int → ByteArray → Bool → Option (ByteArray × Int × Int)
  | 0, _, _, _ => none
  | k + 1, x1, x7, x42 => if x42 = true then (some ((⟨#[]⟩ : ByteArray), 0, 800)) else (if (x7.size : Int) < 2 then (frame_Get.j2 k x1 x7 true) else (if 1 < (x7.size : Int) then (frame_Get.j2 k x1 x7 (decide ((x7.size : Int) < (wrap64 ((wrap64 (2 + (wrap64 (bt x7 1)))) + 2))))) else (none)))
def frame_Get.j2 : Nat → Int → ByteArray → Bool → Option (ByteArray × Int × Int)
  | 0, _, _, _ => none
  | k + 1, x1, x7, x55 => if x55 = true then (some ((⟨#[]⟩ : ByteArray), 0, 801)) else (if 1 < (x7.size : Int) then (if 1 ≤ (wrap64 (2 + (wrap64 (bt x7 1)))) then (if (wrap64 (2 + (wrap64 (bt x7 1)))) ≤ (x7.size : Int) then ((frame_Sum.f k (x7.extract 1 ((wrap64 (2 + (wrap64 (bt x7 1)))) : Int).toNat)).bind fun t105 => ((frame_Two.f t105).bind fun t106 => (if 0 ≤ (wrap64 (2 + (wrap64 (bt x7 1)))) then (if (wrap64 (2 + (wrap64 (bt x7 1)))) ≤ (wrap64 ((wrap64 (2 + (wrap64 (bt x7 1)))) + 2)) then (if (wrap64 ((wrap64 (2 + (wrap64 (bt x7 1)))) + 2)) ≤ (x7.size : Int) then (if t106.toList = (x7.extract ((wrap64 (2 + (wrap64 (bt x7 1)))) : Int).toNat ((wrap64 ((wrap64 (2 + (wrap64 (bt x7 1)))) + 2)) : Int).toNat).toList then (if 2 ≤ (wrap64 (2 + (wrap64 (bt x7 1)))) then (some (x7.extract 2 ((wrap64 (2 + (wrap64 (bt x7 1)))) : Int).toNat, wrap64 ((wrap64 (x1 + (wrap64 (2 + (wrap64 (bt x7 1)))))) + 2), 0)) else (none)) else (some ((⟨#[]⟩ : ByteArray), 0, 800))) else (none)) else (none)) else (none)))) else (none)) else (none)) else (none))
end
def frame_Get.f (k : Nat) (a0 : ByteArray) (a1 : Int) : Option (ByteArray × Int × Int) := if a1 < 0 then (frame_Get.j0 k a0 a1 true) else (frame_Get.j0 k a0 a1 (decide (a1 > (a0.size : Int))))
theorem frame_Get.mono_l : ∀ k, (∀ y0 y1 y2, LeO (frame_Get.j0 k y0 y1 y2) (frame_Get.j0 (k + 1) y0 y1 y2)) ∧ (∀ y0 y1 y2, LeO (frame_Get.j1 k y0 y1 y2) (frame_Get.j1 (k + 1) y0 y1 y2)) ∧ (∀ y0 y1 y2, LeO (frame_Get.j2 k y0 y1 y2) (frame_Get.j2 (k + 1) y0 y1 y2))
 | 0 => ⟨fun _ _ _ r h => by simp [frame_Get.j0] at h, fun _ _ _ r h => by simp [frame_Get.j1] at h, fun _ _ _ r h => by simp [frame_Get.j2] at h⟩
 | k + 1 => by
  obtain ⟨ih0, ih1, ih2⟩ := frame_Get.mono_l k
  refine ⟨?_, ?_, ?_⟩
  ·intro y0 y1 y2
   unfold frame_Get.j0
   repeat' first
    | (with_reducible exact ih0 _ _ _)
    | (with_reducible exact ih1 _ _ _)
    | (with_reducible exact ih2 _ _ _)
    | (with_reducible exact frame_Sum.mono _ _)
    | (with_reducible exact LeO.refl _)
    | (with_reducible exact LeO.none _)
    | (with_reducible refine LeO.ite ?_ ?_)
    | (with_reducible refine LeO.bind ?_ (fun _ => ?_))
    | exact ih0 _ _ _
    | exact ih1 _ _ _
    | exact ih2 _ _ _
    | exact frame_Sum.mono _ _
    | exact LeO.none _
    | refine LeO.ite ?_ ?_
    | refine LeO.bind ?_ (fun _ => ?_)
  ·intro y0 y1 y2
   unfold frame_Get.j1
   repeat' first
    | (with_reducible exact ih0 _ _ _)
    | (with_reducible exact ih1 _ _ _)
    | (with_reducible exact ih2 _ _ _)
    | (with_reducible exact frame_Sum.mono _ _)
    | (with_reducible exact LeO.refl _)
    | (with_reducible exact LeO.none _)
    | (with_reducible refine LeO.ite ?_ ?_)
    | (with_reducible refine LeO.bind ?_ (fun _ => ?_))
    | exact ih0 _ _ _
    | exact ih1 _ _ _
    | exact ih2 _ _ _
    | exact frame_Sum.mono _ _
    | exact LeO.none _
    | refine LeO.ite ?_ ?_
    | refine LeO.bind ?_ (fun _ => ?_)
  ·intro y0 y1 y2
   unfold frame_Get.j2
   repeat' first
    | (with_reducible exact ih0 _ _ _)
    | (with_reducible exact ih1 _ _ _)
    | (with_reducible exact ih2 _ _ _)
    | (with_reducible exact frame_Sum.mono _ _)
    | (with_reducible exact LeO.refl _)
    | (with_reducible exact LeO.none _)
    | (with_reducible refine LeO.ite ?_ ?_)
    | (with_reducible refine LeO.bind ?_ (fun _ => ?_))
    | exact ih0 _ _ _
    | exact ih1 _ _ _
    | exact ih2 _ _ _
    | exact frame_Sum.mono _ _
    | exact LeO.none _
    | refine LeO.ite ?_ ?_
    | refine LeO.bind ?_ (fun _ => ?_)
theorem frame_Get.mono : ∀ a0 a1 k, LeO (frame_Get.f k a0 a1) (frame_Get.f (k + 1) a0 a1) := by
 intro a0 a1 k
 obtain ⟨ih0, ih1, ih2⟩ := frame_Get.mono_l k
 unfold frame_Get.f
 repeat' first
    | (with_reducible exact ih0 _ _ _)
    | (with_reducible exact ih1 _ _ _)
    | (with_reducible exact ih2 _ _ _)
    | (with_reducible exact frame_Sum.mono _ _)
    | (with_reducible exact LeO.refl _)
    | (with_reducible exact LeO.none _)
    | (with_reducible refine LeO.ite ?_ ?_)
    | (with_reducible refine LeO.bind ?_ (fun _ => ?_))
    | exact ih0 _ _ _
    | exact ih1 _ _ _
    | exact ih2 _ _ _
    | exact frame_Sum.mono _ _
    | exact LeO.none _
    | refine LeO.ite ?_ ?_
    | refine LeO.bind ?_ (fun _ => ?_)
def frame_Get.T9 : Bool × List (List Nat × List Nat) := (true, [([], []), ([], []), ([0, 1], [0, 1]), ([2], [2]), ([3, 3], [3]), ([], []), ([], []), ([], []), ([7], [7]), ([5, 6, 8], [5, 6, 8]), ([4, 9], [4, 9])])
def frame_Get.B9 : List Nat := [0, 0, 3, 7, 15, 0, 0, 0, 128, 480, 1023]
theorem frame_Get.tab9 : rtab .any (opsOf Try.f26 9) = frame_Get.T9 := by kernel_rfl
theorem frame_Get.bits9 : waitsOk frame_Get.T9.2 frame_Get.B9 = true := by kernel_rfl
set_option maxHeartbeats 8000000 in
set_option maxRecDepth 100000 in
theorem frame_Get.calls (k : Nat) (a0 : ByteArray) (a1 : Int) (r1 : ByteArray) (r2 : Int) (r3 : Int) (w : World) (h : frame_Get.f k a0 a1 = some (r1, r2, r3)) :
  Calls Try.prog 26 #[.string a0, .int .i64 a1] w fun e w' => e = .returned (.tuple #[.string r1, .int .i64 r2, .int .i64 r3]) ∧ Below w.heap.size w w' := by
 have HB := Aside0.mk (Below.refl w.heap.size w)
 have H : (if a1 < 0 then (frame_Get.j0 k a0 a1 true) else (frame_Get.j0 k a0 a1 (decide (a1 > (a0.size : Int))))) = some (r1, r2, r3) := h
 clear h
 have HC3 := Aside0.mk H
 clear H
 go_enter Try.func26, Try.ntmps26
 go_upto_region 1 with (fail)
 go_cut [16] (fun v16 wc => ∃ (kq : Nat) (x16_2 : Bool), v16 = .bool x16_2 ∧ Aside0 (frame_Get.j0 kq a0 a1 x16_2 = some (r1, r2, r3)) ∧ Aside0 (kq ≤ k) ∧ Aside0 (Below w.heap.size w wc))
 case first =>
  have H := HC3.out
  clear HC3
  by_cases c4 : a1 < 0
  ·rw [if_pos c4] at H
   have c4b0 : decide (a1 < 0) = true := decide_eq_true c4
   clear c4
   (first | rw [c4b0] | (simp only [i64_w, i32_w]; rw [c4b0]) | skip)
   have H' := Aside0.mk H
   clear H
   go_wp2
   go_meet
   case rel => exact ⟨_, (true), (by first | rfl | (simp; done) | (simp [*]; done)), H', ⟨by first | omega | exact Nat.le_refl _⟩, ⟨by repeat (first | (with_reducible first | exact HB.out | apply below_alloc | apply pw_below_drewN | apply below_drew1) | exact HB.out)⟩⟩
  ·rw [if_neg c4] at H
   have c4b0 : decide (a1 < 0) = false := decide_eq_false c4
   clear c4
   (first | rw [c4b0] | (simp only [i64_w, i32_w]; rw [c4b0]) | skip)
   have H' := Aside0.mk H
   clear H
   go_wp2
   go_meet
   case rel => exact ⟨_, (decide (a1 > (a0.size : Int))), (by first | rfl | (simp; done) | (simp [*]; done)), H', ⟨by first | omega | exact Nat.le_refl _⟩, ⟨by repeat (first | (with_reducible first | exact HB.out | apply below_alloc | apply pw_below_drewN | apply below_drew1) | exact HB.out)⟩⟩
 case rest =>
  clear HC3
  try clear c2
  try clear p2
  try clear c4
  try clear c4b0
  obtain ⟨kq, x16_2, rfl, HA, HJ2, HB⟩ := hcut
  cases kq with
  | zero => exact absurd HA.out (by simp [frame_Get.j0])
   | succ kj2 =>
   have H := HA.out
   clear HA
   simp only [frame_Get.j0] at H
   by_cases c5 : x16_2 = true
   ·subst c5
    have H1 : (some ((⟨#[]⟩ : ByteArray), 0, 800)) = some (r1, r2, r3) := by rw [if_pos rfl] at H; exact H
    clear H
    have H := H1
    clear H1
    simp only [Option.some.injEq, Prod.mk.injEq] at H
    obtain ⟨rfl, rfl, rfl⟩ := H
    go_wp2
    go_ret3
    exact ⟨by first | rfl | (simp [errW_none, errW_some] <;> rfl) | (simp [*, errW_none, errW_some] <;> rfl), by repeat (first | (with_reducible first | exact HB.out | apply below_alloc | apply pw_below_drewN | apply below_drew1) | exact HB.out)⟩
   ·replace c5 := Bool.eq_false_iff.mpr c5
    subst c5
    have H1 : (if 0 ≤ a1 then (if a1 ≤ (a0.size : Int) then (if ((a0.extract (a1 : Int).toNat a0.size).size : Int) > 0 then (if 0 < ((a0.extract (a1 : Int).toNat a0.size).size : Int) then (if (bt (a0.extract (a1 : Int).toNat a0.size) 0) = 181 then (if ((a0.extract (a1 : Int).toNat a0.size).size : Int) > 1 then (if 1 < ((a0.extract (a1 : Int).toNat a0.size).size : Int) then (if (bt (a0.extract (a1 : Int).toNat a0.size) 1) < 1 then (frame_Get.j1 kj2 a1 (a0.extract (a1 : Int).toNat a0.size) true) else (frame_Get.j1 kj2 a1 (a0.extract (a1 : Int).toNat a0.size) (decide ((bt (a0.extract (a1 : Int).toNat a0.size) 1) > 60)))) else (none)) else (frame_Get.j1 kj2 a1 (a0.extract (a1 : Int).toNat a0.size) false)) else (frame_Get.j1 kj2 a1 (a0.extract (a1 : Int).toNat a0.size) true)) else (none)) else (if ((a0.extract (a1 : Int).toNat a0.size).size : Int) > 1 then (if 1 < ((a0.extract (a1 : Int).toNat a0.size).size : Int) then (if (bt (a0.extract (a1 : Int).toNat a0.size) 1) < 1 then (frame_Get.j1 kj2 a1 (a0.extract (a1 : Int).toNat a0.size) true) else (frame_Get.j1 kj2 a1 (a0.extract (a1 : Int).toNat a0.size) (decide ((bt (a0.extract (a1 : Int).toNat a0.size) 1) > 60)))) else (none)) else (frame_Get.j1 kj2 a1 (a0.extract (a1 : Int).toNat a0.size) false))) else (none)) else (none)) = some (r1, r2, r3) := by rw [if_neg (show ¬ (false = true) by decide)] at H; exact H
    clear H
    have H := H1
    clear H1
    by_cases c6 : 0 ≤ a1
    ·rw [if_pos c6] at H
     have c6b0 := eq_true c6
     have c6b1 : decide (0 ≤ a1) = true := decide_eq_true c6
     clear c6
     by_cases c7 : a1 ≤ (a0.size : Int)
     ·rw [if_pos c7] at H
      have c7b0 := eq_true c7
      have c7b1 : decide (a1 ≤ (a0.size : Int)) = true := decide_eq_true c7
      clear c7
      obtain ⟨rx_, hrx_⟩ : ∃ r_ : ByteArray, a0.extract (a1 : Int).toNat a0.size = r_ := ⟨_, rfl⟩
      rw [hrx_] at H
      have HC8 := Aside0.mk H
      clear H
      go_upto_region 4 with (fail)
      go_cut [42] (fun v42 wc => ∃ (kq : Nat) (x42_7 : Bool), v42 = .bool x42_7 ∧ Aside0 (frame_Get.j1 kq a1 rx_ x42_7 = some (r1, r2, r3)) ∧ Aside0 (kq ≤ kj2) ∧ Aside0 (Below w.heap.size w wc))
      case first =>
       have H := HC8.out
       clear HC8
       by_cases c9 : (rx_.size : Int) > 0
       ·rw [if_pos c9] at H
        have c9b0 : decide (0 < (rx_.size : Int)) = true := decide_eq_true c9
        have c9b1 : decide (0 < rx_.size) = true := decide_eq_true (by omega)
        clear c9
        (first | rw [c9b0] | (simp only [i64_w, i32_w]; rw [c9b0]) | skip)
        by_cases c10 : 0 < (rx_.size : Int)
        ·rw [if_pos c10] at H
         have c10b0 : decide (0 < (rx_.size : Int)) = true := decide_eq_true c10
         have c10b1 : decide (0 < rx_.size) = true := decide_eq_true (by omega)
         clear c10
         by_cases c12 : (bt rx_ 0) = 181
         ·rw [if_pos c12] at H
          have c12b0 : ((bt rx_ 0) == 181) = true := beq_iff_eq.mpr c12
          have c12b1 : ((bt rx_ 0) != 181) = false := bne_eq_false_iff_eq.mpr c12
          clear c12
          by_cases c13 : (rx_.size : Int) > 1
          ·rw [if_pos c13] at H
           have c13b0 : decide (1 < (rx_.size : Int)) = true := decide_eq_true c13
           have c13b1 : decide (1 < rx_.size) = true := decide_eq_true (by omega)
           clear c13
           by_cases c14 : 1 < (rx_.size : Int)
           ·rw [if_pos c14] at H
            have c14b0 : decide (1 < (rx_.size : Int)) = true := decide_eq_true c14
            have c14b1 : decide (1 < rx_.size) = true := decide_eq_true (by omega)
            clear c14
            by_cases c16 : (bt rx_ 1) < 1
            ·rw [if_pos c16] at H
             have c16b0 : decide ((bt rx_ 1) < 1) = true := decide_eq_true c16
             clear c16
             have H' := Aside0.mk H
             clear H
             have p11 : 0 ≤ (0 : Int) := (by omega)
             have q11 : 0 < rx_.size := (by have : (0 : Int) < (rx_.size : Int) := of_decide_eq_true (by first | (with_reducible assumption) | assumption); omega)
             have hx11 : ∀ h : 0 < rx_.size, ((rx_[0]'h).toNat : Int) = bt rx_ 0 := bt_at rx_ 0
             clear p11
             have qi11 : (0 < (rx_.size : Int)) = True := eq_true (of_decide_eq_true (by first | (with_reducible assumption) | assumption))
             replace q11 := eq_true q11
             have p15 : 0 ≤ (1 : Int) := (by omega)
             have q15 : 1 < rx_.size := (by have : (1 : Int) < (rx_.size : Int) := of_decide_eq_true (by first | (with_reducible assumption) | assumption); omega)
             have hx15 : ∀ h : 1 < rx_.size, ((rx_[1]'h).toNat : Int) = bt rx_ 1 := bt_at rx_ 1
             clear p15
             have qi15 : (1 < (rx_.size : Int)) = True := eq_true (of_decide_eq_true (by first | (with_reducible assumption) | assumption))
             replace q15 := eq_true q15
             go_wp2
             go_meet
             case rel => exact ⟨_, (true), (by first | rfl | (simp; done) | (simp [*]; done)), H', ⟨by have := HJ2.out; first | omega | exact Nat.le_refl _⟩, ⟨by repeat (first | (with_reducible first | exact HB.out | apply below_alloc | apply pw_below_drewN | apply below_drew1) | exact HB.out)⟩⟩
            ·rw [if_neg c16] at H
             have c16b0 : decide ((bt rx_ 1) < 1) = false := decide_eq_false c16
             clear c16
             have H' := Aside0.mk H
             clear H
             have p11 : 0 ≤ (0 : Int) := (by omega)
             have q11 : 0 < rx_.size := (by have : (0 : Int) < (rx_.size : Int) := of_decide_eq_true (by first | (with_reducible assumption) | assumption); omega)
             have hx11 : ∀ h : 0 < rx_.size, ((rx_[0]'h).toNat : Int) = bt rx_ 0 := bt_at rx_ 0
             clear p11
             have qi11 : (0 < (rx_.size : Int)) = True := eq_true (of_decide_eq_true (by first | (with_reducible assumption) | assumption))
             replace q11 := eq_true q11
             have p15 : 0 ≤ (1 : Int) := (by omega)
             have q15 : 1 < rx_.size := (by have : (1 : Int) < (rx_.size : Int) := of_decide_eq_true (by first | (with_reducible assumption) | assumption); omega)
             have hx15 : ∀ h : 1 < rx_.size, ((rx_[1]'h).toNat : Int) = bt rx_ 1 := bt_at rx_ 1
             clear p15
             have qi15 : (1 < (rx_.size : Int)) = True := eq_true (of_decide_eq_true (by first | (with_reducible assumption) | assumption))
             replace q15 := eq_true q15
             have p17 : 0 ≤ (1 : Int) := (by omega)
             have q17 : 1 < rx_.size := (by have : (1 : Int) < (rx_.size : Int) := of_decide_eq_true (by first | (with_reducible assumption) | assumption); omega)
             have hx17 : ∀ h : 1 < rx_.size, ((rx_[1]'h).toNat : Int) = bt rx_ 1 := bt_at rx_ 1
             clear p17
             have qi17 : (1 < (rx_.size : Int)) = True := eq_true (of_decide_eq_true (by first | (with_reducible assumption) | assumption))
             replace q17 := eq_true q17
             go_wp2
             go_meet
             case rel => exact ⟨_, (decide ((bt rx_ 1) > 60)), (by first | rfl | (simp; done) | (simp [*]; done)), H', ⟨by have := HJ2.out; first | omega | exact Nat.le_refl _⟩, ⟨by repeat (first | (with_reducible first | exact HB.out | apply below_alloc | apply pw_below_drewN | apply below_drew1) | exact HB.out)⟩⟩
           ·rw [if_neg c14] at H
            exact absurd H (by simp)
          ·rw [if_neg c13] at H
           have c13b0 : decide (1 < (rx_.size : Int)) = false := decide_eq_false c13
           have c13b1 : decide (1 < rx_.size) = false := decide_eq_false (by omega)
           clear c13
           have H' := Aside0.mk H
           clear H
           have p11 : 0 ≤ (0 : Int) := (by omega)
           have q11 : 0 < rx_.size := (by have : (0 : Int) < (rx_.size : Int) := of_decide_eq_true (by first | (with_reducible assumption) | assumption); omega)
           have hx11 : ∀ h : 0 < rx_.size, ((rx_[0]'h).toNat : Int) = bt rx_ 0 := bt_at rx_ 0
           clear p11
           have qi11 : (0 < (rx_.size : Int)) = True := eq_true (of_decide_eq_true (by first | (with_reducible assumption) | assumption))
           replace q11 := eq_true q11
           go_wp2
           go_meet
           case rel => exact ⟨_, (false), (by first | rfl | (simp; done) | (simp [*]; done)), H', ⟨by have := HJ2.out; first | omega | exact Nat.le_refl _⟩, ⟨by repeat (first | (with_reducible first | exact HB.out | apply below_alloc | apply pw_below_drewN | apply below_drew1) | exact HB.out)⟩⟩
         ·rw [if_neg c12] at H
          have c12b0 : ((bt rx_ 0) == 181) = false := beq_eq_false_iff_ne.mpr c12
          have c12b1 : ((bt rx_ 0) != 181) = true := bne_iff_ne.mpr c12
          have H' := Aside0.mk H
          clear H
          have p11 : 0 ≤ (0 : Int) := (by omega)
          have q11 : 0 < rx_.size := (by have : (0 : Int) < (rx_.size : Int) := of_decide_eq_true (by first | (with_reducible assumption) | assumption); omega)
          have hx11 : ∀ h : 0 < rx_.size, ((rx_[0]'h).toNat : Int) = bt rx_ 0 := bt_at rx_ 0
          clear p11
          have qi11 : (0 < (rx_.size : Int)) = True := eq_true (of_decide_eq_true (by first | (with_reducible assumption) | assumption))
          replace q11 := eq_true q11
          go_wp2
          go_meet
          case rel => exact ⟨_, (true), (by first | rfl | (simp; done) | (simp [*]; done)), H', ⟨by have := HJ2.out; first | omega | exact Nat.le_refl _⟩, ⟨by repeat (first | (with_reducible first | exact HB.out | apply below_alloc | apply pw_below_drewN | apply below_drew1) | exact HB.out)⟩⟩
        ·rw [if_neg c10] at H
         exact absurd H (by simp)
       ·rw [if_neg c9] at H
        have c9b0 : decide (0 < (rx_.size : Int)) = false := decide_eq_false c9
        have c9b1 : decide (0 < rx_.size) = false := decide_eq_false (by omega)
        clear c9
        (first | rw [c9b0] | (simp only [i64_w, i32_w]; rw [c9b0]) | skip)
        by_cases c18 : (rx_.size : Int) > 1
        ·rw [if_pos c18] at H
         have c18b0 : decide (1 < (rx_.size : Int)) = true := decide_eq_true c18
         have c18b1 : decide (1 < rx_.size) = true := decide_eq_true (by omega)
         clear c18
         by_cases c19 : 1 < (rx_.size : Int)
         ·rw [if_pos c19] at H
          have c19b0 : decide (1 < (rx_.size : Int)) = true := decide_eq_true c19
          have c19b1 : decide (1 < rx_.size) = true := decide_eq_true (by omega)
          clear c19
          by_cases c21 : (bt rx_ 1) < 1
          ·rw [if_pos c21] at H
           have c21b0 : decide ((bt rx_ 1) < 1) = true := decide_eq_true c21
           clear c21
           have H' := Aside0.mk H
           clear H
           have p20 : 0 ≤ (1 : Int) := (by omega)
           have q20 : 1 < rx_.size := (by have : (1 : Int) < (rx_.size : Int) := of_decide_eq_true (by first | (with_reducible assumption) | assumption); omega)
           have hx20 : ∀ h : 1 < rx_.size, ((rx_[1]'h).toNat : Int) = bt rx_ 1 := bt_at rx_ 1
           clear p20
           have qi20 : (1 < (rx_.size : Int)) = True := eq_true (of_decide_eq_true (by first | (with_reducible assumption) | assumption))
           replace q20 := eq_true q20
           go_wp2
           go_meet
           case rel => exact ⟨_, (true), (by first | rfl | (simp; done) | (simp [*]; done)), H', ⟨by have := HJ2.out; first | omega | exact Nat.le_refl _⟩, ⟨by repeat (first | (with_reducible first | exact HB.out | apply below_alloc | apply pw_below_drewN | apply below_drew1) | exact HB.out)⟩⟩
          ·rw [if_neg c21] at H
           have c21b0 : decide ((bt rx_ 1) < 1) = false := decide_eq_false c21
           clear c21
           have H' := Aside0.mk H
           clear H
           have p20 : 0 ≤ (1 : Int) := (by omega)
           have q20 : 1 < rx_.size := (by have : (1 : Int) < (rx_.size : Int) := of_decide_eq_true (by first | (with_reducible assumption) | assumption); omega)
           have hx20 : ∀ h : 1 < rx_.size, ((rx_[1]'h).toNat : Int) = bt rx_ 1 := bt_at rx_ 1
           clear p20
           have qi20 : (1 < (rx_.size : Int)) = True := eq_true (of_decide_eq_true (by first | (with_reducible assumption) | assumption))
           replace q20 := eq_true q20
           have p22 : 0 ≤ (1 : Int) := (by omega)
           have q22 : 1 < rx_.size := (by have : (1 : Int) < (rx_.size : Int) := of_decide_eq_true (by first | (with_reducible assumption) | assumption); omega)
           have hx22 : ∀ h : 1 < rx_.size, ((rx_[1]'h).toNat : Int) = bt rx_ 1 := bt_at rx_ 1
           clear p22
           have qi22 : (1 < (rx_.size : Int)) = True := eq_true (of_decide_eq_true (by first | (with_reducible assumption) | assumption))
           replace q22 := eq_true q22
           go_wp2
           go_meet
           case rel => exact ⟨_, (decide ((bt rx_ 1) > 60)), (by first | rfl | (simp; done) | (simp [*]; done)), H', ⟨by have := HJ2.out; first | omega | exact Nat.le_refl _⟩, ⟨by repeat (first | (with_reducible first | exact HB.out | apply below_alloc | apply pw_below_drewN | apply below_drew1) | exact HB.out)⟩⟩
         ·rw [if_neg c19] at H
          exact absurd H (by simp)
        ·rw [if_neg c18] at H
         have c18b0 : decide (1 < (rx_.size : Int)) = false := decide_eq_false c18
         have c18b1 : decide (1 < rx_.size) = false := decide_eq_false (by omega)
         clear c18
         have H' := Aside0.mk H
         clear H
         go_wp2
         go_meet
         case rel => exact ⟨_, (false), (by first | rfl | (simp; done) | (simp [*]; done)), H', ⟨by have := HJ2.out; first | omega | exact Nat.le_refl _⟩, ⟨by repeat (first | (with_reducible first | exact HB.out | apply below_alloc | apply pw_below_drewN | apply below_drew1) | exact HB.out)⟩⟩
      case rest =>
       clear HC8
       try clear c1
       try clear p1
       try clear q1
       try clear hx1
       try clear qi1
       try clear c2
       try clear p2
       try clear q2
       try clear hx2
       try clear qi2
       try clear c4
       try clear c4b0
       try clear c5
       try clear c6
       try clear c6b0
       try clear c6b1
       try clear c7
       try clear c7b0
       try clear c7b1
       try clear c9
       try clear c9b0
       try clear c9b1
       try clear c10
       try clear c10b0
       try clear c10b1
       try clear p11
       try clear q11
       try clear hx11
       try clear qi11
       try clear c12
       try clear c12b0
       try clear c12b1
       try clear c13
       try clear c13b0
       try clear c13b1
       try clear c14
       try clear c14b0
       try clear c14b1
       try clear p15
       try clear q15
       try clear hx15
       try clear qi15
       try clear c16
       try clear c16b0
       try clear p17
       try clear q17
       try clear hx17
       try clear qi17
       try clear c18
       try clear c18b0
       try clear c18b1
       try clear c19
       try clear c19b0
       try clear c19b1
       try clear p20
       try clear q20
       try clear hx20
       try clear qi20
       try clear c21
       try clear c21b0
       try clear p22
       try clear q22
       try clear hx22
       try clear qi22
       try clear p11
       try clear p15
       try clear p17
       try clear p2
       try clear p20
       try clear p22
       try clear q11
       try clear q15
       try clear q17
       try clear q20
       try clear q22
       obtain ⟨kq, x42_7, rfl, HA, HJ7, HB⟩ := hcut
       cases kq with
       | zero => exact absurd HA.out (by simp [frame_Get.j1])
        | succ kj7 =>
        have H := HA.out
        clear HA
        simp only [frame_Get.j1] at H
        by_cases c23 : x42_7 = true
        ·subst c23
         have H1 : (some ((⟨#[]⟩ : ByteArray), 0, 800)) = some (r1, r2, r3) := by rw [if_pos rfl] at H; exact H
         clear H
         have H := H1
         clear H1
         simp only [Option.some.injEq, Prod.mk.injEq] at H
         obtain ⟨rfl, rfl, rfl⟩ := H
         go_wp2
         go_ret3
         exact ⟨by first | rfl | (simp [errW_none, errW_some] <;> rfl) | (simp [*, errW_none, errW_some] <;> rfl), by repeat (first | (with_reducible first | exact HB.out | apply below_alloc | apply pw_below_drewN | apply below_drew1) | exact HB.out)⟩
        ·replace c23 := Bool.eq_false_iff.mpr c23
         subst c23
         have H1 : (if (rx_.size : Int) < 2 then (frame_Get.j2 kj7 a1 rx_ true) else (if 1 < (rx_.size : Int) then (frame_Get.j2 kj7 a1 rx_ (decide ((rx_.size : Int) < (wrap64 ((wrap64 (2 + (wrap64 (bt rx_ 1)))) + 2))))) else (none))) = some (r1, r2, r3) := by rw [if_neg (show ¬ (false = true) by decide)] at H; exact H
         clear H
         have H := H1
         clear H1
         have HC24 := Aside0.mk H
         clear H
         go_upto_region 6 with (fail)
         go_cut [55] (fun v55 wc => ∃ (kq : Nat) (x55_23 : Bool), v55 = .bool x55_23 ∧ Aside0 (frame_Get.j2 kq a1 rx_ x55_23 = some (r1, r2, r3)) ∧ Aside0 (kq ≤ kj7) ∧ Aside0 (Below w.heap.size w wc))
         case first =>
          have H := HC24.out
          clear HC24
          by_cases c25 : (rx_.size : Int) < 2
          ·rw [if_pos c25] at H
           have c25b0 : decide ((rx_.size : Int) < 2) = true := decide_eq_true c25
           have c25b1 : decide (rx_.size < 2) = true := decide_eq_true (by omega)
           clear c25
           (first | rw [c25b0] | (simp only [i64_w, i32_w]; rw [c25b0]) | skip)
           have H' := Aside0.mk H
           clear H
           go_wp2
           go_meet
           case rel => exact ⟨_, (true), (by first | rfl | (simp; done) | (simp [*]; done)), H', ⟨by have := HJ2.out; have := HJ7.out; first | omega | exact Nat.le_refl _⟩, ⟨by repeat (first | (with_reducible first | exact HB.out | apply below_alloc | apply pw_below_drewN | apply below_drew1) | exact HB.out)⟩⟩
          ·rw [if_neg c25] at H
           have c25b0 : decide ((rx_.size : Int) < 2) = false := decide_eq_false c25
           have c25b1 : decide (rx_.size < 2) = false := decide_eq_false (by omega)
           clear c25
           (first | rw [c25b0] | (simp only [i64_w, i32_w]; rw [c25b0]) | skip)
           by_cases c26 : 1 < (rx_.size : Int)
           ·rw [if_pos c26] at H
            have c26b0 : decide (1 < (rx_.size : Int)) = true := decide_eq_true c26
            have c26b1 : decide (1 < rx_.size) = true := decide_eq_true (by omega)
            clear c26
            have H' := Aside0.mk H
            clear H
            have p27 : 0 ≤ (1 : Int) := (by omega)
            have q27 : 1 < rx_.size := (by have : (1 : Int) < (rx_.size : Int) := of_decide_eq_true (by first | (with_reducible assumption) | assumption); omega)
            have hx27 : ∀ h : 1 < rx_.size, ((rx_[1]'h).toNat : Int) = bt rx_ 1 := bt_at rx_ 1
            clear p27
            have qi27 : (1 < (rx_.size : Int)) = True := eq_true (of_decide_eq_true (by first | (with_reducible assumption) | assumption))
            replace q27 := eq_true q27
            go_wp2
            go_meet
            case rel => exact ⟨_, (decide ((rx_.size : Int) < (wrap64 ((wrap64 (2 + (wrap64 (bt rx_ 1)))) + 2)))), (by first | rfl | (simp; done) | (simp [*]; done)), H', ⟨by have := HJ2.out; have := HJ7.out; first | omega | exact Nat.le_refl _⟩, ⟨by repeat (first | (with_reducible first | exact HB.out | apply below_alloc | apply pw_below_drewN | apply below_drew1) | exact HB.out)⟩⟩
           ·rw [if_neg c26] at H
            exact absurd H (by simp)
         case rest =>
          clear HC24
          try clear c1
          try clear p1
          try clear q1
          try clear hx1
          try clear qi1
          try clear c2
          try clear p2
          try clear q2
          try clear hx2
          try clear qi2
          try clear c4
          try clear c4b0
          try clear c5
          try clear c6
          try clear c6b0
          try clear c6b1
          try clear p6
          try clear c7
          try clear c7b0
          try clear c7b1
          try clear c9
          try clear c9b0
          try clear c9b1
          try clear c10
          try clear c10b0
          try clear c10b1
          try clear p11
          try clear q11
          try clear hx11
          try clear qi11
          try clear c12
          try clear c12b0
          try clear c12b1
          try clear c13
          try clear c13b0
          try clear c13b1
          try clear c14
          try clear c14b0
          try clear c14b1
          try clear p15
          try clear q15
          try clear hx15
          try clear qi15
          try clear c16
          try clear c16b0
          try clear p17
          try clear q17
          try clear hx17
          try clear qi17
          try clear c18
          try clear c18b0
          try clear c18b1
          try clear c19
          try clear c19b0
          try clear c19b1
          try clear p20
          try clear q20
          try clear hx20
          try clear qi20
          try clear c21
          try clear c21b0
          try clear p22
          try clear q22
          try clear hx22
          try clear qi22
          try clear c23
          try clear c25
          try clear c25b0
          try clear c25b1
          try clear c26
          try clear c26b0
          try clear c26b1
          try clear p27
          try clear q27
          try clear hx27
          try clear qi27
          try clear p1
          try clear p11
          try clear p15
          try clear p17
          try clear p2
          try clear p20
          try clear p22
          try clear p27
          try clear q1
          try clear q11
          try clear q15
          try clear q17
          try clear q2
          try clear q20
          try clear q22
          try clear q27
          obtain ⟨kq, x55_23, rfl, HA, HJ23, HB⟩ := hcut
          cases kq with
          | zero => exact absurd HA.out (by simp [frame_Get.j2])
           | succ kj23 =>
           have H := HA.out
           clear HA
           simp only [frame_Get.j2] at H
           by_cases c28 : x55_23 = true
           ·subst c28
            have H1 : (some ((⟨#[]⟩ : ByteArray), 0, 801)) = some (r1, r2, r3) := by rw [if_pos rfl] at H; exact H
            clear H
            have H := H1
            clear H1
            simp only [Option.some.injEq, Prod.mk.injEq] at H
            obtain ⟨rfl, rfl, rfl⟩ := H
            go_wp2
            go_ret3
            exact ⟨by first | rfl | (simp [errW_none, errW_some] <;> rfl) | (simp [*, errW_none, errW_some] <;> rfl), by repeat (first | (with_reducible first | exact HB.out | apply below_alloc | apply pw_below_drewN | apply below_drew1) | exact HB.out)⟩
           ·replace c28 := Bool.eq_false_iff.mpr c28
            subst c28
            have H1 : (if 1 < (rx_.size : Int) then (if 1 ≤ (wrap64 (2 + (wrap64 (bt rx_ 1)))) then (if (wrap64 (2 + (wrap64 (bt rx_ 1)))) ≤ (rx_.size : Int) then ((frame_Sum.f kj23 (rx_.extract 1 ((wrap64 (2 + (wrap64 (bt rx_ 1)))) : Int).toNat)).bind fun t105 => ((frame_Two.f t105).bind fun t106 => (if 0 ≤ (wrap64 (2 + (wrap64 (bt rx_ 1)))) then (if (wrap64 (2 + (wrap64 (bt rx_ 1)))) ≤ (wrap64 ((wrap64 (2 + (wrap64 (bt rx_ 1)))) + 2)) then (if (wrap64 ((wrap64 (2 + (wrap64 (bt rx_ 1)))) + 2)) ≤ (rx_.size : Int) then (if t106.toList = (rx_.extract ((wrap64 (2 + (wrap64 (bt rx_ 1)))) : Int).toNat ((wrap64 ((wrap64 (2 + (wrap64 (bt rx_ 1)))) + 2)) : Int).toNat).toList then (if 2 ≤ (wrap64 (2 + (wrap64 (bt rx_ 1)))) then (some (rx_.extract 2 ((wrap64 (2 + (wrap64 (bt rx_ 1)))) : Int).toNat, wrap64 ((wrap64 (a1 + (wrap64 (2 + (wrap64 (bt rx_ 1)))))) + 2), 0)) else (none)) else (some ((⟨#[]⟩ : ByteArray), 0, 800))) else (none)) else (none)) else (none)))) else (none)) else (none)) else (none)) = some (r1, r2, r3) := by rw [if_neg (show ¬ (false = true) by decide)] at H; exact H
            clear H
            have H := H1
            clear H1
            by_cases c29 : 1 < (rx_.size : Int)
            ·rw [if_pos c29] at H
             have c29b0 : decide (1 < (rx_.size : Int)) = true := decide_eq_true c29
             have c29b1 : decide (1 < rx_.size) = true := decide_eq_true (by omega)
             clear c29
             by_cases c31 : 1 ≤ (wrap64 (2 + (wrap64 (bt rx_ 1))))
             ·rw [if_pos c31] at H
              have c31b0 := eq_true c31
              have c31b1 : decide (1 ≤ (wrap64 (2 + (wrap64 (bt rx_ 1))))) = true := decide_eq_true c31
              by_cases c32 : (wrap64 (2 + (wrap64 (bt rx_ 1)))) ≤ (rx_.size : Int)
              ·rw [if_pos c32] at H
               have c32b0 := eq_true c32
               have c32b1 : decide ((wrap64 (2 + (wrap64 (bt rx_ 1)))) ≤ (rx_.size : Int)) = true := decide_eq_true c32
               replace H := Option.bind_eq_some_iff.mp H
               obtain ⟨t105, A330, H⟩ := H
               replace H : ((frame_Two.f t105).bind fun t106 => (if 0 ≤ (wrap64 (2 + (wrap64 (bt rx_ 1)))) then (if (wrap64 (2 + (wrap64 (bt rx_ 1)))) ≤ (wrap64 ((wrap64 (2 + (wrap64 (bt rx_ 1)))) + 2)) then (if (wrap64 ((wrap64 (2 + (wrap64 (bt rx_ 1)))) + 2)) ≤ (rx_.size : Int) then (if t106.toList = (rx_.extract ((wrap64 (2 + (wrap64 (bt rx_ 1)))) : Int).toNat ((wrap64 ((wrap64 (2 + (wrap64 (bt rx_ 1)))) + 2)) : Int).toNat).toList then (if 2 ≤ (wrap64 (2 + (wrap64 (bt rx_ 1)))) then (some (rx_.extract 2 ((wrap64 (2 + (wrap64 (bt rx_ 1)))) : Int).toNat, wrap64 ((wrap64 (a1 + (wrap64 (2 + (wrap64 (bt rx_ 1)))))) + 2), 0)) else (none)) else (some ((⟨#[]⟩ : ByteArray), 0, 800))) else (none)) else (none)) else (none))) = some (r1, r2, r3) := H
               have A33 := Aside0.mk A330
               clear A330
               replace H := Option.bind_eq_some_iff.mp H
               obtain ⟨t106, A340, H⟩ := H
               replace H : (if 0 ≤ (wrap64 (2 + (wrap64 (bt rx_ 1)))) then (if (wrap64 (2 + (wrap64 (bt rx_ 1)))) ≤ (wrap64 ((wrap64 (2 + (wrap64 (bt rx_ 1)))) + 2)) then (if (wrap64 ((wrap64 (2 + (wrap64 (bt rx_ 1)))) + 2)) ≤ (rx_.size : Int) then (if t106.toList = (rx_.extract ((wrap64 (2 + (wrap64 (bt rx_ 1)))) : Int).toNat ((wrap64 ((wrap64 (2 + (wrap64 (bt rx_ 1)))) + 2)) : Int).toNat).toList then (if 2 ≤ (wrap64 (2 + (wrap64 (bt rx_ 1)))) then (some (rx_.extract 2 ((wrap64 (2 + (wrap64 (bt rx_ 1)))) : Int).toNat, wrap64 ((wrap64 (a1 + (wrap64 (2 + (wrap64 (bt rx_ 1)))))) + 2), 0)) else (none)) else (some ((⟨#[]⟩ : ByteArray), 0, 800))) else (none)) else (none)) else (none)) = some (r1, r2, r3) := H
               have A34 := Aside0.mk A340
               clear A340
               obtain ⟨ji35, hji35⟩ : ∃ j_ : Int, (wrap64 (2 + (wrap64 (bt rx_ 1)))) = j_ := ⟨_, rfl⟩
               replace H : (if 0 ≤ (ji35) then (if (ji35) ≤ (wrap64 ((ji35) + 2)) then (if (wrap64 ((ji35) + 2)) ≤ (rx_.size : Int) then (if t106.toList = (rx_.extract ((ji35) : Int).toNat ((wrap64 ((ji35) + 2)) : Int).toNat).toList then (if 2 ≤ (ji35) then (some (rx_.extract 2 ((ji35) : Int).toNat, wrap64 ((wrap64 (a1 + (ji35))) + 2), 0)) else (none)) else (some ((⟨#[]⟩ : ByteArray), 0, 800))) else (none)) else (none)) else (none)) = some (r1, r2, r3) := by first | (rw [hji35] at H; exact H) | (simp only [hji35] at H ⊢; exact H)
               (try rw [hji35] at c31b0)
               (try rw [hji35] at c31b1)
               (try rw [hji35] at c31)
               (try rw [hji35] at c32b0)
               (try rw [hji35] at c32b1)
               (try rw [hji35] at c32)
               (try rw [hji35] at A33)
               (try rw [hji35] at A34)
               have hji35w : (IntKind.i64.wrap (2 + (wrap64 (bt rx_ 1)))) = ji35 := (i64_w _).trans hji35
               by_cases c36 : 0 ≤ (ji35)
               ·rw [if_pos c36] at H
                have c36b0 := eq_true c36
                have c36b1 : decide (0 ≤ (ji35)) = true := decide_eq_true c36
                clear c36
                by_cases c37 : (ji35) ≤ (wrap64 ((ji35) + 2))
                ·rw [if_pos c37] at H
                 have c37b0 := eq_true c37
                 have c37b1 : decide ((ji35) ≤ (wrap64 ((ji35) + 2))) = true := decide_eq_true c37
                 by_cases c38 : (wrap64 ((ji35) + 2)) ≤ (rx_.size : Int)
                 ·rw [if_pos c38] at H
                  have c38b0 := eq_true c38
                  have c38b1 : decide ((wrap64 ((ji35) + 2)) ≤ (rx_.size : Int)) = true := decide_eq_true c38
                  by_cases c39 : t106.toList = (rx_.extract ((ji35) : Int).toNat ((wrap64 ((ji35) + 2)) : Int).toNat).toList
                  ·rw [if_pos c39] at H
                   have c39b0 : (t106.toList == (rx_.extract ((ji35) : Int).toNat ((wrap64 ((ji35) + 2)) : Int).toNat).toList) = true := beq_iff_eq.mpr c39
                   have c39b1 : (t106.toList != (rx_.extract ((ji35) : Int).toNat ((wrap64 ((ji35) + 2)) : Int).toNat).toList) = false := bne_eq_false_iff_eq.mpr c39
                   clear c39
                   by_cases c40 : 2 ≤ (ji35)
                   ·rw [if_pos c40] at H
                    have c40b0 := eq_true c40
                    have c40b1 : decide (2 ≤ (ji35)) = true := decide_eq_true c40
                    clear c40
                    have c41b0 := eq_true (of_decide_eq_true (by first | (with_reducible assumption) | assumption) : (ji35) ≤ (rx_.size : Int))
                    simp only [Option.some.injEq, Prod.mk.injEq] at H
                    obtain ⟨rfl, rfl, rfl⟩ := H
                    have p30 : 0 ≤ (1 : Int) := (by omega)
                    have q30 : 1 < rx_.size := (by have : (1 : Int) < (rx_.size : Int) := of_decide_eq_true (by first | (with_reducible assumption) | assumption); omega)
                    have hx30 : ∀ h : 1 < rx_.size, ((rx_[1]'h).toNat : Int) = bt rx_ 1 := bt_at rx_ 1
                    clear p30
                    have qi30 : (1 < (rx_.size : Int)) = True := eq_true (of_decide_eq_true (by first | (with_reducible assumption) | assumption))
                    replace q30 := eq_true q30
                    try go_wp2
                    have n0_ := Aside0.mk (below_drew1 HB.out)
                    clear HB
                    have HB := n0_
                    clear n0_
                    refine start_ (n := 11) (S := fun w' => True) (ds := []) #[V,V,V,V,V,V,V,V,V,V,V] (by kernel_rfl) rfl rfl trivial (fun hHeld => ?_); refine with_tabW frame_Get.tab9 frame_Get.bits9 (fun HT_ HW_ => ?_)
                    generalize wc.drew = w42 at HB hHeld ⊢
                    refine pure_ (i := 0) (N := some 60) (v := ?_) (a' := ?_) #[U,V,V,V,V,V,V,V,V,V,V] rfl rfl (any_of HT_.out (by kernel_rfl)) (fun _ _ _ h => h) (Or.inl ⟨by rfl, ?_⟩) ?_ ?_; rotate_left; (· intro w'; go_simp; with_reducible rfl); rotate_left; (· simp only [Act.put, sA,sZ,sS, i64_w, i32_w]; rfl); refine pure_ (i := 1) (N := some 61) (v := ?_) (a' := ?_) #[U,U,V,V,V,V,V,V,V,V,V] rfl rfl (any_of HT_.out (by kernel_rfl)) (fun _ _ _ h => h) (Or.inl ⟨by rfl, ?_⟩) ?_ ?_; rotate_left; (· intro w'; go_simp; with_reducible rfl); rotate_left; (· simp only [Act.put, sA,sZ,sS, i64_w, i32_w]; rfl); refine pure_ (i := 2) (N := some 62) (v := ?_) (a' := ?_) #[U,U,U,V,V,V,V,V,V,V,V] rfl rfl (any_of HT_.out (by kernel_rfl)) (fun _ _ _ h => h) (Or.inl ⟨by rfl, ?_⟩) ?_ ?_; rotate_left; (· intro w'; go_simp; with_reducible rfl); rotate_left; (· simp only [Act.put, sA,sZ,sS, i64_w, i32_w]; rfl); refine pure_ (i := 5) (N := some 65) (v := ?_) (a' := ?_) #[U,U,U,V,V,U,V,V,V,V,V] rfl rfl (any_of HT_.out (by kernel_rfl)) (fun _ _ _ h => h) (Or.inl ⟨by rfl, ?_⟩) ?_ ?_; rotate_left; (· intro w'; go_simp; with_reducible rfl); rotate_left; (· simp only [Act.put, sA,sZ,sS, i64_w, i32_w]; rfl); refine pure_ (i := 6) (N := some 66) (v := ?_) (a' := ?_) #[U,U,U,V,V,U,U,V,V,V,V] rfl rfl (any_of HT_.out (by kernel_rfl)) (fun _ _ _ h => h) (Or.inl ⟨by rfl, ?_⟩) ?_ ?_; rotate_left; (· intro w'; go_simp; with_reducible rfl); rotate_left; (· simp only [Act.put, sA,sZ,sS, i64_w, i32_w]; rfl); refine pure_ (i := 7) (N := some 67) (v := ?_) (a' := ?_) #[U,U,U,V,V,U,U,U,V,V,V] rfl rfl (any_of HT_.out (by kernel_rfl)) (fun _ _ _ h => h) (Or.inl ⟨by rfl, ?_⟩) ?_ ?_; rotate_left; (· intro w'; go_simp; with_reducible rfl); rotate_left; (· simp only [Act.put, sA,sZ,sS, i64_w, i32_w]; rfl); refine pure_ (i := 8) (N := some 68) (v := ?_) (a' := ?_) #[U,U,U,V,V,U,U,U,U,V,V] rfl rfl (any_of HT_.out (by kernel_rfl)) (fun _ _ _ h => h) (Or.inl ⟨by rfl, ?_⟩) ?_ ?_; rotate_left; (· intro w'; go_simp; with_reducible rfl); rotate_left; (· simp only [Act.put, sA,sZ,sS, i64_w, i32_w]; rfl); refine pure_ (i := 9) (N := some 69) (v := ?_) (a' := ?_) #[U,U,U,V,V,U,U,U,U,U,V] rfl rfl (any_of HT_.out (by kernel_rfl)) (fun _ _ _ h => h) (Or.inl ⟨by rfl, ?_⟩) ?_ ?_; rotate_left; (· intro w'; go_simp; with_reducible rfl); rotate_left; (· simp only [Act.put, sA,sZ,sS, i64_w, i32_w]; rfl)
                    refine one_ (i := 3) (N := some 63) #[U,U,U,U,V,U,U,U,U,U,V] rfl rfl (one_of HT_.out (by kernel_rfl)) (by decide) (fun K hK => ?_)
                    refine goes_ Try.func36 (by kernel_rfl) rfl #[.string (rx_.extract 1 ((ji35) : Int).toNat)] (by rfl) rfl rfl (by (try simp only [List.map_toArray, List.map_cons, List.map_nil]); first | done | (simp only [hji35]; rfl) | rfl | (simp only [List.length_drop, List.length_take]; rfl)) ?_
                    with_reducible refine (frame_Sum.calls kj23 (rx_.extract 1 ((ji35) : Int).toNat) t105 _ A33.out).mono ?_
                    rintro e w' ⟨rfl, ⟨nd, rfl⟩⟩
                    refine ⟨_, rfl, ?_⟩
                    refine hK.out _ _ trivial (fun hHeld => ?_)
                    clear hK K
                    refine norm_ (a' := ?_) ?_ ?_
                    rotate_left
                    ·show Act.put _ (some 63) _ = _
                     simp only [Act.put, sA,sZ,sS, i64_w, i32_w]
                     rfl
                    refine one_ (i := 4) (N := some 64) #[U,U,U,U,U,U,U,U,U,U,V] rfl rfl (one_of HT_.out (by kernel_rfl)) (by decide) (fun K hK => ?_)
                    refine goes_ Try.func35 (by kernel_rfl) rfl #[.int .i64 t105] (by rfl) rfl rfl (by (try simp only [List.map_toArray, List.map_cons, List.map_nil]); first | done | rfl | (simp only [List.length_drop, List.length_take]; rfl)) ?_
                    with_reducible refine (frame_Two.calls t105 t106 _ A34.out).mono ?_
                    rintro e w43 ⟨rfl, hb⟩
                    refine ⟨_, rfl, ?_⟩
                    have n0_ := Aside0.mk (below_step (by repeat (first | (with_reducible first | exact HB.out | apply below_alloc | apply pw_below_drewN | apply below_drew1) | exact HB.out)) hb)
                    clear HB
                    have HB := n0_
                    clear n0_
                    (try clear hb)
                    (try clear hb2)
                    (try clear hk)
                    (try clear hi)
                    refine hK.out _ _ trivial (fun hHeld => ?_)
                    clear hK K
                    refine norm_ (a' := ?_) ?_ ?_
                    rotate_left
                    ·show Act.put _ (some 64) _ = _
                     simp only [Act.put, sA,sZ,sS, i64_w, i32_w]
                     rfl
                    refine pure_ (i := 10) (N := some 70) (v := ?_) (a' := ?_) #[U,U,U,U,U,U,U,U,U,U,U] rfl rfl (any_of HT_.out (by kernel_rfl)) (fun _ _ _ h => h) (Or.inl ⟨by rfl, ?_⟩) ?_ ?_; rotate_left; (· intro w'; go_simp; with_reducible rfl); rotate_left; (· simp only [Act.put, sA,sZ,sS, i64_w, i32_w]; rfl)
                    refine done_ (done_of HT_.out (by kernel_rfl)) ?_
                    try go_wp2
                    go_ret3
                    exact ⟨by first | rfl | (simp [errW_none, errW_some] <;> rfl) | (simp only [← hji35]; first | rfl | (simp [errW_none, errW_some] <;> rfl)) | (simp [*, errW_none, errW_some] <;> rfl), by repeat (first | (with_reducible first | exact HB.out | apply below_alloc | apply pw_below_drewN | apply below_drew1) | exact HB.out)⟩
                   ·rw [if_neg c40] at H
                    exact absurd H (by simp)
                  ·rw [if_neg c39] at H
                   have c39b0 : (t106.toList == (rx_.extract ((ji35) : Int).toNat ((wrap64 ((ji35) + 2)) : Int).toNat).toList) = false := beq_eq_false_iff_ne.mpr c39
                   have c39b1 : (t106.toList != (rx_.extract ((ji35) : Int).toNat ((wrap64 ((ji35) + 2)) : Int).toNat).toList) = true := bne_iff_ne.mpr c39
                   simp only [Option.some.injEq, Prod.mk.injEq] at H
                   obtain ⟨rfl, rfl, rfl⟩ := H
                   have p30 : 0 ≤ (1 : Int) := (by omega)
                   have q30 : 1 < rx_.size := (by have : (1 : Int) < (rx_.size : Int) := of_decide_eq_true (by first | (with_reducible assumption) | assumption); omega)
                   have hx30 : ∀ h : 1 < rx_.size, ((rx_[1]'h).toNat : Int) = bt rx_ 1 := bt_at rx_ 1
                   clear p30
                   have qi30 : (1 < (rx_.size : Int)) = True := eq_true (of_decide_eq_true (by first | (with_reducible assumption) | assumption))
                   replace q30 := eq_true q30
                   try go_wp2
                   have n0_ := Aside0.mk (below_drew1 HB.out)
                   clear HB
                   have HB := n0_
                   clear n0_
                   refine start_ (n := 11) (S := fun w' => True) (ds := []) #[V,V,V,V,V,V,V,V,V,V,V] (by kernel_rfl) rfl rfl trivial (fun hHeld => ?_); refine with_tabW frame_Get.tab9 frame_Get.bits9 (fun HT_ HW_ => ?_)
                   generalize wc.drew = w44 at HB hHeld ⊢
                   refine pure_ (i := 0) (N := some 60) (v := ?_) (a' := ?_) #[U,V,V,V,V,V,V,V,V,V,V] rfl rfl (any_of HT_.out (by kernel_rfl)) (fun _ _ _ h => h) (Or.inl ⟨by rfl, ?_⟩) ?_ ?_; rotate_left; (· intro w'; go_simp; with_reducible rfl); rotate_left; (· simp only [Act.put, sA,sZ,sS, i64_w, i32_w]; rfl); refine pure_ (i := 1) (N := some 61) (v := ?_) (a' := ?_) #[U,U,V,V,V,V,V,V,V,V,V] rfl rfl (any_of HT_.out (by kernel_rfl)) (fun _ _ _ h => h) (Or.inl ⟨by rfl, ?_⟩) ?_ ?_; rotate_left; (· intro w'; go_simp; with_reducible rfl); rotate_left; (· simp only [Act.put, sA,sZ,sS, i64_w, i32_w]; rfl); refine pure_ (i := 2) (N := some 62) (v := ?_) (a' := ?_) #[U,U,U,V,V,V,V,V,V,V,V] rfl rfl (any_of HT_.out (by kernel_rfl)) (fun _ _ _ h => h) (Or.inl ⟨by rfl, ?_⟩) ?_ ?_; rotate_left; (· intro w'; go_simp; with_reducible rfl); rotate_left; (· simp only [Act.put, sA,sZ,sS, i64_w, i32_w]; rfl); refine pure_ (i := 5) (N := some 65) (v := ?_) (a' := ?_) #[U,U,U,V,V,U,V,V,V,V,V] rfl rfl (any_of HT_.out (by kernel_rfl)) (fun _ _ _ h => h) (Or.inl ⟨by rfl, ?_⟩) ?_ ?_; rotate_left; (· intro w'; go_simp; with_reducible rfl); rotate_left; (· simp only [Act.put, sA,sZ,sS, i64_w, i32_w]; rfl); refine pure_ (i := 6) (N := some 66) (v := ?_) (a' := ?_) #[U,U,U,V,V,U,U,V,V,V,V] rfl rfl (any_of HT_.out (by kernel_rfl)) (fun _ _ _ h => h) (Or.inl ⟨by rfl, ?_⟩) ?_ ?_; rotate_left; (· intro w'; go_simp; with_reducible rfl); rotate_left; (· simp only [Act.put, sA,sZ,sS, i64_w, i32_w]; rfl); refine pure_ (i := 7) (N := some 67) (v := ?_) (a' := ?_) #[U,U,U,V,V,U,U,U,V,V,V] rfl rfl (any_of HT_.out (by kernel_rfl)) (fun _ _ _ h => h) (Or.inl ⟨by rfl, ?_⟩) ?_ ?_; rotate_left; (· intro w'; go_simp; with_reducible rfl); rotate_left; (· simp only [Act.put, sA,sZ,sS, i64_w, i32_w]; rfl); refine pure_ (i := 8) (N := some 68) (v := ?_) (a' := ?_) #[U,U,U,V,V,U,U,U,U,V,V] rfl rfl (any_of HT_.out (by kernel_rfl)) (fun _ _ _ h => h) (Or.inl ⟨by rfl, ?_⟩) ?_ ?_; rotate_left; (· intro w'; go_simp; with_reducible rfl); rotate_left; (· simp only [Act.put, sA,sZ,sS, i64_w, i32_w]; rfl); refine pure_ (i := 9) (N := some 69) (v := ?_) (a' := ?_) #[U,U,U,V,V,U,U,U,U,U,V] rfl rfl (any_of HT_.out (by kernel_rfl)) (fun _ _ _ h => h) (Or.inl ⟨by rfl, ?_⟩) ?_ ?_; rotate_left; (· intro w'; go_simp; with_reducible rfl); rotate_left; (· simp only [Act.put, sA,sZ,sS, i64_w, i32_w]; rfl)
                   refine one_ (i := 3) (N := some 63) #[U,U,U,U,V,U,U,U,U,U,V] rfl rfl (one_of HT_.out (by kernel_rfl)) (by decide) (fun K hK => ?_)
                   refine goes_ Try.func36 (by kernel_rfl) rfl #[.string (rx_.extract 1 ((ji35) : Int).toNat)] (by rfl) rfl rfl (by (try simp only [List.map_toArray, List.map_cons, List.map_nil]); first | done | (simp only [hji35]; rfl) | rfl | (simp only [List.length_drop, List.length_take]; rfl)) ?_
                   with_reducible refine (frame_Sum.calls kj23 (rx_.extract 1 ((ji35) : Int).toNat) t105 _ A33.out).mono ?_
                   rintro e w' ⟨rfl, ⟨nd, rfl⟩⟩
                   refine ⟨_, rfl, ?_⟩
                   refine hK.out _ _ trivial (fun hHeld => ?_)
                   clear hK K
                   refine norm_ (a' := ?_) ?_ ?_
                   rotate_left
                   ·show Act.put _ (some 63) _ = _
                    simp only [Act.put, sA,sZ,sS, i64_w, i32_w]
                    rfl
                   refine one_ (i := 4) (N := some 64) #[U,U,U,U,U,U,U,U,U,U,V] rfl rfl (one_of HT_.out (by kernel_rfl)) (by decide) (fun K hK => ?_)
                   refine goes_ Try.func35 (by kernel_rfl) rfl #[.int .i64 t105] (by rfl) rfl rfl (by (try simp only [List.map_toArray, List.map_cons, List.map_nil]); first | done | rfl | (simp only [List.length_drop, List.length_take]; rfl)) ?_
                   with_reducible refine (frame_Two.calls t105 t106 _ A34.out).mono ?_
                   rintro e w45 ⟨rfl, hb⟩
                   refine ⟨_, rfl, ?_⟩
                   have n0_ := Aside0.mk (below_step (by repeat (first | (with_reducible first | exact HB.out | apply below_alloc | apply pw_below_drewN | apply below_drew1) | exact HB.out)) hb)
                   clear HB
                   have HB := n0_
                   clear n0_
                   (try clear hb)
                   (try clear hb2)
                   (try clear hk)
                   (try clear hi)
                   refine hK.out _ _ trivial (fun hHeld => ?_)
                   clear hK K
                   refine norm_ (a' := ?_) ?_ ?_
                   rotate_left
                   ·show Act.put _ (some 64) _ = _
                    simp only [Act.put, sA,sZ,sS, i64_w, i32_w]
                    rfl
                   refine pure_ (i := 10) (N := some 70) (v := ?_) (a' := ?_) #[U,U,U,U,U,U,U,U,U,U,U] rfl rfl (any_of HT_.out (by kernel_rfl)) (fun _ _ _ h => h) (Or.inl ⟨by rfl, ?_⟩) ?_ ?_; rotate_left; (· intro w'; go_simp; with_reducible rfl); rotate_left; (· simp only [Act.put, sA,sZ,sS, i64_w, i32_w]; rfl)
                   refine done_ (done_of HT_.out (by kernel_rfl)) ?_
                   try go_wp2
                   go_ret3
                   exact ⟨by first | rfl | (simp [errW_none, errW_some] <;> rfl) | (simp only [← hji35]; first | rfl | (simp [errW_none, errW_some] <;> rfl)) | (simp [*, errW_none, errW_some] <;> rfl), by repeat (first | (with_reducible first | exact HB.out | apply below_alloc | apply pw_below_drewN | apply below_drew1) | exact HB.out)⟩
                 ·rw [if_neg c38] at H
                  exact absurd H (by simp)
                ·rw [if_neg c37] at H
                 exact absurd H (by simp)
               ·rw [if_neg c36] at H
                exact absurd H (by simp)
              ·rw [if_neg c32] at H
               exact absurd H (by simp)
             ·rw [if_neg c31] at H
              exact absurd H (by simp)
            ·rw [if_neg c29] at H
             exact absurd H (by simp)
     ·rw [if_neg c7] at H
      exact absurd H (by simp)
    ·rw [if_neg c6] at H
     exact absurd H (by simp)

end Go.Proofs.Ytmccgkbbgicglaa.QScanRef
