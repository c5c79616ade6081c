-- Written by a program of this session (wip/myprint.py), over the words of the print
import Derived.Test.YtikfpihapdabfaaQRecordBackx0
import Derived.Test.YtikfpihapdabfaaQRecordBackx3
import Derived.Test.YtikfpihapdabfaaQRecordBackx4
import Derived.Test.YtikfpihapdabfaaQRecordBackx6
namespace Go.Proofs.Ytikfpihapdabfaa.QRecordBack
open Go.RowKit Go.Proofs.YtikfpihapdabfaaW.PrintWords Go.Proofs.YtikfpihapdabfaaW.PrintLast Go.Proofs.YtikfpihapdabfaaW.PrintMore
attribute [local go_sem] max2_int min2_int max_two min_two max_three min_three max_four min_four   -- for this text's walks alone
set_option linter.unusedVariables false
set_option linter.unusedSimpArgs false

/-! ### bournelaw0_SameInts: function 40 -/
def bournelaw0_SameInts.l0 : Nat → List Int → List Int → Int → Option (Bool)
  | 0, _, _, _ => none
  | k + 1, x0, x1, x5 => if x5 < (x0.length : Int) then (if 0 ≤ x5 then (if x5 < (x1.length : Int) then (if (rd x0 x5) = (rd x1 x5) then (bournelaw0_SameInts.l0 k x0 x1 (wrap64 (x5 + 1))) else (some false)) else (none)) else (none)) else (some true)
def bournelaw0_SameInts.f (k : Nat) (l0 : List Int) (l1 : List Int) : Option (Bool) := if (l0.length : Int) = (l1.length : Int) then (bournelaw0_SameInts.l0 k l0 l1 0) else (some false)
theorem bournelaw0_SameInts.mono_l : ∀ k, (∀ y0 y1 y2, LeO (bournelaw0_SameInts.l0 k y0 y1 y2) (bournelaw0_SameInts.l0 (k + 1) y0 y1 y2))
  | 0 => fun _ _ _ r h => by simp [bournelaw0_SameInts.l0] at h
  | k + 1 => by
    have ih0 := bournelaw0_SameInts.mono_l k
    · intro y0 y1 y2
      unfold bournelaw0_SameInts.l0
      repeat' first
      | (with_reducible exact ih0 _ _ _)
      | (with_reducible exact LeO.refl _)
      | (with_reducible exact LeO.none _)
      | (with_reducible refine LeO.ite ?_ ?_)
      | (with_reducible refine LeO.bind ?_ (fun _ => ?_))
      | exact ih0 _ _ _
      | exact LeO.none _
      | refine LeO.ite ?_ ?_
      | refine LeO.bind ?_ (fun _ => ?_)
theorem bournelaw0_SameInts.mono : ∀ a0 a1 k, LeO (bournelaw0_SameInts.f k a0 a1) (bournelaw0_SameInts.f (k + 1) a0 a1) := by
  intro a0 a1 k
  have ih0 := bournelaw0_SameInts.mono_l k
  unfold bournelaw0_SameInts.f
  repeat' first
      | (with_reducible exact ih0 _ _ _)
      | (with_reducible exact LeO.refl _)
      | (with_reducible exact LeO.none _)
      | (with_reducible refine LeO.ite ?_ ?_)
      | (with_reducible refine LeO.bind ?_ (fun _ => ?_))
      | exact ih0 _ _ _
      | exact LeO.none _
      | refine LeO.ite ?_ ?_
      | refine LeO.bind ?_ (fun _ => ?_)
set_option maxHeartbeats 8000000 in
set_option maxRecDepth 100000 in
theorem bournelaw0_SameInts.calls (k : Nat) (A0 : Option Addr) (c0 : Nat) (l0 : List Int) (A1 : Option Addr) (c1 : Nat) (l1 : List Int) (r : Bool) (w : World) (hr0 : Kd.C (Kd.int .i64) w A0 l0.length l0) (hc0 : l0.length ≤ c0) (hr1 : Kd.C (Kd.int .i64) w A1 l1.length l1) (hc1 : l1.length ≤ c1) (h : bournelaw0_SameInts.f k l0 l1 = some r) :
    Calls Try.prog 40 #[.slice A0 l0.length c0, .slice A1 l1.length c1] w fun e w' => e = .returned (.bool r) ∧ Drawn0 w w' := by
  have HR0 := Aside0.mk hr0
  have HC0 := Aside0.mk hc0
  clear hr0 hc0
  have HR1 := Aside0.mk hr1
  have HC1 := Aside0.mk hc1
  clear hr1 hc1
  have H : (if (l0.length : Int) = (l1.length : Int) then (bournelaw0_SameInts.l0 k l0 l1 0) else (some false)) = some r := h
  clear h
  by_cases c3 : (l0.length : Int) = (l1.length : Int)
  · rw [if_pos c3] at H
    have c3b0 : ((l0.length : Int) == (l1.length : Int)) = true := beq_iff_eq.mpr c3
    have c3b1 : ((l0.length : Int) != (l1.length : Int)) = false := bne_eq_false_iff_eq.mpr c3
    have c3b2 : (l0.length == l1.length) = true := by first | simpa using c3 | (simp at c3 ⊢; omega)
    clear c3
    have H' := Aside0.mk H
    clear H
    go_enter Try.func40, Try.ntmps40
    go_wp2
    repeat (go_quiet (fail); try go_wp2)
    go_loopg [5] k (fun kq v5 w' => ∃ (x5_1 : Int), v5 = .int .i64 x5_1 ∧ Aside0 (bournelaw0_SameInts.l0 kq l0 l1 x5_1 = some r) ∧ Aside0 (kq ≤ k) ∧ Drawn0 w w')
    case atStart => exact ⟨(0), (by first | rfl | (simp; done) | (simp [*]; done)), H', ⟨Nat.le_refl _⟩, by repeat (first | exact Drawn0.refl _ | apply Drawn0.step)⟩
    case round =>
      clear H'
      try clear c1
      try clear p2
      try clear c3
      try clear c3b0
      try clear c3b1
      try clear c3b2
      obtain ⟨x5_1, rfl, HA, HK1, ⟨m1, rfl⟩⟩ := hrel
      cases gk with
      | zero => exact absurd HA.out (by simp [bournelaw0_SameInts.l0])
      | succ k1 =>
        have H := HA.out
        clear HA
        simp only [bournelaw0_SameInts.l0] at H
        by_cases c4 : x5_1 < (l0.length : Int)
        · rw [if_pos c4] at H
          have c4b0 : decide (x5_1 < (l0.length : Int)) = true := decide_eq_true c4
          clear c4
          by_cases c5 : 0 ≤ x5_1
          · rw [if_pos c5] at H
            have c5b0 : decide (0 ≤ x5_1) = true := decide_eq_true c5
            clear c5
            by_cases c6 : x5_1 < (l1.length : Int)
            · rw [if_pos c6] at H
              have c6b0 : decide (x5_1 < (l1.length : Int)) = true := decide_eq_true c6
              clear c6
              by_cases c7 : (rd l0 x5_1) = (rd l1 x5_1)
              · rw [if_pos c7] at H
                have c7b0 : ((rd l0 x5_1) == (rd l1 x5_1)) = true := beq_iff_eq.mpr c7
                have c7b1 : ((rd l0 x5_1) != (rd l1 x5_1)) = false := bne_eq_false_iff_eq.mpr c7
                clear c7
                have H' := Aside0.mk H
                clear H
                have p169 : 0 ≤ (x5_1 : Int) := of_decide_eq_true (by first | (with_reducible assumption) | assumption)
                have q169 : x5_1 < (l0.length : Int) := of_decide_eq_true (by first | (with_reducible assumption) | assumption)
                obtain ⟨ad169, e169, hx169_0⟩ := Kd.at_int HR0.out x5_1 p169 q169
                cases e169
                replace p169 := eq_true p169
                replace q169 := eq_true q169
                have p170 : 0 ≤ (x5_1 : Int) := of_decide_eq_true (by first | (with_reducible assumption) | assumption)
                have q170 : x5_1 < (l1.length : Int) := of_decide_eq_true (by first | (with_reducible assumption) | assumption)
                obtain ⟨ad170, e170, hx170_0⟩ := Kd.at_int HR1.out x5_1 p170 q170
                cases e170
                replace p170 := eq_true p170
                replace q170 := eq_true q170
                go_wp2
                repeat (go_quiet (fail); try go_wp2)
                go_roundg k1
                case measure => have := HK1.out; omega
                case rel => exact ⟨(wrap64 (x5_1 + 1)), (by first | rfl | (simp; done) | (simp [*]; done)), H', ⟨by have := HK1.out; omega⟩, by repeat (first | exact Drawn0.refl _ | apply Drawn0.step)⟩
              · rw [if_neg c7] at H
                have c7b0 : ((rd l0 x5_1) == (rd l1 x5_1)) = false := beq_eq_false_iff_ne.mpr c7
                have c7b1 : ((rd l0 x5_1) != (rd l1 x5_1)) = true := bne_iff_ne.mpr c7
                obtain rfl := Option.some.inj H
                have p169 : 0 ≤ (x5_1 : Int) := of_decide_eq_true (by first | (with_reducible assumption) | assumption)
                have q169 : x5_1 < (l0.length : Int) := of_decide_eq_true (by first | (with_reducible assumption) | assumption)
                obtain ⟨ad169, e169, hx169_0⟩ := Kd.at_int HR0.out x5_1 p169 q169
                cases e169
                replace p169 := eq_true p169
                replace q169 := eq_true q169
                have p170 : 0 ≤ (x5_1 : Int) := of_decide_eq_true (by first | (with_reducible assumption) | assumption)
                have q170 : x5_1 < (l1.length : Int) := of_decide_eq_true (by first | (with_reducible assumption) | assumption)
                obtain ⟨ad170, e170, hx170_0⟩ := Kd.at_int HR1.out x5_1 p170 q170
                cases e170
                replace p170 := eq_true p170
                replace q170 := eq_true q170
                go_wp2
                repeat (go_quiet (fail); try go_wp2)
                go_ret
                exact ⟨by first | rfl | (simp; done) | (simp [*]; done), by repeat (first | exact Drawn0.refl _ | apply Drawn0.step)⟩
            · rw [if_neg c6] at H
              exact absurd H (by simp)
          · rw [if_neg c5] at H
            exact absurd H (by simp)
        · rw [if_neg c4] at H
          have c4b0 : decide (x5_1 < (l0.length : Int)) = false := decide_eq_false c4
          clear c4
          obtain rfl := Option.some.inj H
          go_wp2
          repeat (go_quiet (fail); try go_wp2)
          go_ret
          exact ⟨by first | rfl | (simp; done) | (simp [*]; done), by repeat (first | exact Drawn0.refl _ | apply Drawn0.step)⟩
  · rw [if_neg c3] at H
    have c3b0 : ((l0.length : Int) == (l1.length : Int)) = false := beq_eq_false_iff_ne.mpr c3
    have c3b1 : ((l0.length : Int) != (l1.length : Int)) = true := bne_iff_ne.mpr c3
    have c3b2 : (l0.length == l1.length) = false := by first | simpa using c3 | (simp at c3 ⊢; omega)
    obtain rfl := Option.some.inj H
    go_enter Try.func40, Try.ntmps40
    go_wp2
    repeat (go_quiet (fail); try go_wp2)
    go_ret
    exact ⟨by first | rfl | (simp; done) | (simp [*]; done), by repeat (first | exact Drawn0.refl _ | apply Drawn0.step)⟩

/-! ### bournelaw0_SameOut: function 34 -/
def bournelaw0_SameOut.f (k : Nat) (a0_0 : Int) (a0_1 : Bool) (l0_2 : List Int) (a1_0 : Int) (a1_1 : Bool) (l1_2 : List Int) : Option (Bool) := if a0_0 = a1_0 then (if (a0_1 == a1_1) = true then ((bournelaw0_SameInts.f k l0_2 l1_2).bind fun t173 => (some t173)) else (some false)) else (some false)
theorem bournelaw0_SameOut.mono : ∀ a0 a1 a2 a3 a4 a5 k, LeO (bournelaw0_SameOut.f k a0 a1 a2 a3 a4 a5) (bournelaw0_SameOut.f (k + 1) a0 a1 a2 a3 a4 a5) := by
  intro a0 a1 a2 a3 a4 a5 k
  unfold bournelaw0_SameOut.f
  repeat' first
      | (with_reducible exact bournelaw0_SameInts.mono _ _ _)
      | (with_reducible exact LeO.refl _)
      | (with_reducible exact LeO.none _)
      | (with_reducible refine LeO.ite ?_ ?_)
      | (with_reducible refine LeO.bind ?_ (fun _ => ?_))
      | exact bournelaw0_SameInts.mono _ _ _
      | exact LeO.none _
      | refine LeO.ite ?_ ?_
      | refine LeO.bind ?_ (fun _ => ?_)
set_option maxHeartbeats 8000000 in
set_option maxRecDepth 100000 in
theorem bournelaw0_SameOut.calls (k : Nat) (a0_0 : Int) (a0_1 : Bool) (A0_2 : Option Addr) (c0_2 : Nat) (l0_2 : List Int) (a1_0 : Int) (a1_1 : Bool) (A1_2 : Option Addr) (c1_2 : Nat) (l1_2 : List Int) (r : Bool) (w : World) (hr0_2 : Kd.C (Kd.int .i64) w A0_2 l0_2.length l0_2) (hc0_2 : l0_2.length ≤ c0_2) (hr1_2 : Kd.C (Kd.int .i64) w A1_2 l1_2.length l1_2) (hc1_2 : l1_2.length ≤ c1_2) (h : bournelaw0_SameOut.f k a0_0 a0_1 l0_2 a1_0 a1_1 l1_2 = some r) :
    Calls Try.prog 34 #[.agg #[.int .i64 a0_0, .bool a0_1, .slice A0_2 l0_2.length c0_2], .agg #[.int .i64 a1_0, .bool a1_1, .slice A1_2 l1_2.length c1_2]] w fun e w' => e = .returned (.bool r) ∧ Below w.heap.size w w' := by
  have hu26 := Try.underlying26
  have HR0_2 := Aside0.mk hr0_2
  have HC0_2 := Aside0.mk hc0_2
  clear hr0_2 hc0_2
  have HR1_2 := Aside0.mk hr1_2
  have HC1_2 := Aside0.mk hc1_2
  clear hr1_2 hc1_2
  have HB := Aside0.mk (Below.refl w.heap.size w)
  have H : (if a0_0 = a1_0 then (if (a0_1 == a1_1) = true then ((bournelaw0_SameInts.f k l0_2 l1_2).bind fun t173 => (some t173)) else (some false)) else (some false)) = some r := h
  clear h
  by_cases c3 : a0_0 = a1_0
  · rw [if_pos c3] at H
    have c3b0 : (a0_0 == a1_0) = true := beq_iff_eq.mpr c3
    have c3b1 : (a0_0 != a1_0) = false := bne_eq_false_iff_eq.mpr c3
    clear c3
    by_cases c4 : (a0_1 == a1_1) = true
    · rw [if_pos c4] at H
      have c4b0 : (a0_1 == a1_1) = true := c4
      (try (have c4b1 : decide (a0_1 = a1_1) = true := by simpa using c4))
      (try (have c4b2 : (a0_1 == a1_1) = true := by simpa using c4))
      clear c4
      replace H := Option.bind_eq_some_iff.mp H
      obtain ⟨t173, A50, H⟩ := H
      replace H : (some t173) = some r := H
      have A5 := Aside0.mk A50
      clear A50
      obtain rfl := Option.some.inj H
      go_enter Try.func34, Try.ntmps34
      go_wp2_with (first | ((with_reducible refine gate_dst (N := 2) rfl ?_); refine box_event ?hg (N := 2) ?hd (cs := #[.int .i64 a0_0, .bool a0_1, .slice A0_2 l0_2.length c0_2]) (t := 26) ?hr ?_; (case hd => rfl); (case hg => rfl); (case hr => first | (go_simp; done) | (go_simp; rfl)); intro gb171 hg w6 hbox hb; have n0_ := Aside0.mk (below_step (by repeat (first | (with_reducible first | exact HB.out | apply below_alloc | apply pw_below_drewN | apply below_drew1) | exact HB.out)) hb); have n1_ := Aside0.mk (hbox); have n2_ := Aside0.mk ((by rw [hg]; exact (below_size (by repeat (first | (with_reducible first | exact HB.out | apply below_alloc | apply pw_below_drewN | apply below_drew1) | exact HB.out))) : w.heap.size ≤ gb171)); have n3_ := Aside0.mk ((by rw [hg]; exact (below_size (by repeat (first | (with_reducible first | exact HB.out | apply below_alloc | apply pw_below_drewN | apply below_drew1) | exact HB.out))) : w.heap.size ≤ gb171)); clear HB; have HB := n0_; have BK171 := n1_; have GW171 := n2_; have GE171 := n3_; clear n0_ n1_ n2_ n3_; clear hb hbox hg) | ((with_reducible refine gate_dst (N := 3) rfl ?_); refine box_event ?hg (N := 3) ?hd (cs := #[.int .i64 a1_0, .bool a1_1, .slice A1_2 l1_2.length c1_2]) (t := 26) ?hr ?_; (case hd => rfl); (case hg => rfl); (case hr => first | (go_simp; done) | (go_simp; rfl)); intro gb172 hg w7 hbox hb; have n0_ := Aside0.mk (blk_below (g := gb171) (o := .cells #[.int .i64 a0_0, .bool a0_1, .slice A0_2 l0_2.length c0_2] 26 (0, 0)) (by (with_reducible repeat (first | refine blk_drewN ?_ _ | refine blk_drew ?_ | refine blk_alloc ?_ _)); exact BK171.out) hb); have n1_ := Aside0.mk (below_step (by repeat (first | (with_reducible first | exact HB.out | apply below_alloc | apply pw_below_drewN | apply below_drew1 | refine below_set ?_ GE171.out) | exact HB.out)) hb); have n2_ := Aside0.mk (hbox); have n3_ := Aside0.mk ((by rw [hg]; exact (below_size (by repeat (first | (with_reducible first | exact HB.out | apply below_alloc | apply pw_below_drewN | apply below_drew1 | refine below_set ?_ GE171.out) | exact HB.out))) : w.heap.size ≤ gb172)); have n4_ := Aside0.mk ((by rw [hg]; exact (below_size (by repeat (first | (with_reducible first | exact HB.out | apply below_alloc | apply pw_below_drewN | apply below_drew1 | refine below_set ?_ GE171.out) | exact HB.out))) : w.heap.size ≤ gb172)); have n5_ := Aside0.mk ((by rw [hg]; exact Nat.ne_of_lt (blk_lt (g := gb171) (o := .cells #[.int .i64 a0_0, .bool a0_1, .slice A0_2 l0_2.length c0_2] 26 (0, 0)) (by (with_reducible repeat (first | refine blk_drewN ?_ _ | refine blk_drew ?_ | refine blk_alloc ?_ _)); exact BK171.out)) : gb171 ≠ gb172)); have n6_ := Aside0.mk ((by rw [hg]; exact Nat.ne_of_gt (blk_lt (g := gb171) (o := .cells #[.int .i64 a0_0, .bool a0_1, .slice A0_2 l0_2.length c0_2] 26 (0, 0)) (by (with_reducible repeat (first | refine blk_drewN ?_ _ | refine blk_drew ?_ | refine blk_alloc ?_ _)); exact BK171.out)) : gb172 ≠ gb171)); clear BK171; clear HB; have BK171 := n0_; have HB := n1_; have BK172 := n2_; have GW172 := n3_; have GE172 := n4_; have NB171_172 := n5_; have NB172_171 := n6_; clear n0_ n1_ n2_ n3_ n4_ n5_ n6_; clear hb hbox hg; have hnb8 := NB171_172.out; have hnc8 := NB172_171.out; have hcz9_0 : w7.cell? ⟨gb171, 0, none⟩ = some (.int .i64 a0_0) := (blk_cell BK171.out 0).trans rfl; have hcz9_1 : w7.cell? ⟨gb171, 1, none⟩ = some (.bool a0_1) := (blk_cell BK171.out 1).trans rfl; have hcz9_2 : w7.cell? ⟨gb171, 2, none⟩ = some (.slice A0_2 l0_2.length c0_2) := (blk_cell BK171.out 2).trans rfl; have hfz9_0 := blk_frozen BK171.out 0; have hfz9_1 := blk_frozen BK171.out 1; have hfz9_2 := blk_frozen BK171.out 2; have hcz10_0 : w7.cell? ⟨gb172, 0, none⟩ = some (.int .i64 a1_0) := (blk_cell BK172.out 0).trans rfl; have hcz10_1 : w7.cell? ⟨gb172, 1, none⟩ = some (.bool a1_1) := (blk_cell BK172.out 1).trans rfl; have hcz10_2 : w7.cell? ⟨gb172, 2, none⟩ = some (.slice A1_2 l1_2.length c1_2) := (blk_cell BK172.out 2).trans rfl; have hfz10_0 := blk_frozen BK172.out 0; have hfz10_1 := blk_frozen BK172.out 1; have hfz10_2 := blk_frozen BK172.out 2) | (go_at_call 40; (with_reducible refine (bournelaw0_SameInts.calls k _ _ l0_2 _ _ l1_2 t173 _ ?side1 ?side2 ?side3 ?side4 A5.out).mono ?_); (case side1 => repeat (first | exact (Kd.C_below HR0_2.out HB.out) | (with_reducible refine Kd.C_alloc ?_ _) | (with_reducible refine Kd.C_drewN ?_ _) | (with_reducible refine Kd.C_drew ?_))); (case side2 => exact HC0_2.out); (case side3 => repeat (first | exact (Kd.C_below HR1_2.out HB.out) | (with_reducible refine Kd.C_alloc ?_ _) | (with_reducible refine Kd.C_drewN ?_ _) | (with_reducible refine Kd.C_drew ?_))); (case side4 => exact HC1_2.out); rintro e w' ⟨rfl, ⟨nd, rfl⟩⟩))
      go_ret
      exact ⟨by first | rfl | (simp [errW_none, errW_some] <;> rfl) | (simp [*, errW_none, errW_some] <;> rfl), by repeat (first | (with_reducible first | exact HB.out | apply below_alloc | apply pw_below_drewN | apply below_drew1 | refine below_set ?_ GE171.out | refine below_set ?_ GE172.out) | exact HB.out)⟩
    · rw [if_neg c4] at H
      have c4b0 : (a0_1 == a1_1) = false := by simpa using c4
      (try (have c4b1 : decide (a0_1 = a1_1) = false := by simpa using c4))
      (try (have c4b2 : (a0_1 == a1_1) = false := by simpa using c4))
      (try (have c4b3 : ¬ (a0_1 = a1_1) := by simpa using c4))
      clear c4
      obtain rfl := Option.some.inj H
      go_enter Try.func34, Try.ntmps34
      go_wp2_with (first | ((with_reducible refine gate_dst (N := 2) rfl ?_); refine box_event ?hg (N := 2) ?hd (cs := #[.int .i64 a0_0, .bool a0_1, .slice A0_2 l0_2.length c0_2]) (t := 26) ?hr ?_; (case hd => rfl); (case hg => rfl); (case hr => first | (go_simp; done) | (go_simp; rfl)); intro gb171 hg w11 hbox hb; have n0_ := Aside0.mk (below_step (by repeat (first | (with_reducible first | exact HB.out | apply below_alloc | apply pw_below_drewN | apply below_drew1) | exact HB.out)) hb); have n1_ := Aside0.mk (hbox); have n2_ := Aside0.mk ((by rw [hg]; exact (below_size (by repeat (first | (with_reducible first | exact HB.out | apply below_alloc | apply pw_below_drewN | apply below_drew1) | exact HB.out))) : w.heap.size ≤ gb171)); have n3_ := Aside0.mk ((by rw [hg]; exact (below_size (by repeat (first | (with_reducible first | exact HB.out | apply below_alloc | apply pw_below_drewN | apply below_drew1) | exact HB.out))) : w.heap.size ≤ gb171)); clear HB; have HB := n0_; have BK171 := n1_; have GW171 := n2_; have GE171 := n3_; clear n0_ n1_ n2_ n3_; clear hb hbox hg) | ((with_reducible refine gate_dst (N := 3) rfl ?_); refine box_event ?hg (N := 3) ?hd (cs := #[.int .i64 a1_0, .bool a1_1, .slice A1_2 l1_2.length c1_2]) (t := 26) ?hr ?_; (case hd => rfl); (case hg => rfl); (case hr => first | (go_simp; done) | (go_simp; rfl)); intro gb172 hg w12 hbox hb; have n0_ := Aside0.mk (blk_below (g := gb171) (o := .cells #[.int .i64 a0_0, .bool a0_1, .slice A0_2 l0_2.length c0_2] 26 (0, 0)) (by (with_reducible repeat (first | refine blk_drewN ?_ _ | refine blk_drew ?_ | refine blk_alloc ?_ _)); exact BK171.out) hb); have n1_ := Aside0.mk (below_step (by repeat (first | (with_reducible first | exact HB.out | apply below_alloc | apply pw_below_drewN | apply below_drew1 | refine below_set ?_ GE171.out) | exact HB.out)) hb); have n2_ := Aside0.mk (hbox); have n3_ := Aside0.mk ((by rw [hg]; exact (below_size (by repeat (first | (with_reducible first | exact HB.out | apply below_alloc | apply pw_below_drewN | apply below_drew1 | refine below_set ?_ GE171.out) | exact HB.out))) : w.heap.size ≤ gb172)); have n4_ := Aside0.mk ((by rw [hg]; exact (below_size (by repeat (first | (with_reducible first | exact HB.out | apply below_alloc | apply pw_below_drewN | apply below_drew1 | refine below_set ?_ GE171.out) | exact HB.out))) : w.heap.size ≤ gb172)); have n5_ := Aside0.mk ((by rw [hg]; exact Nat.ne_of_lt (blk_lt (g := gb171) (o := .cells #[.int .i64 a0_0, .bool a0_1, .slice A0_2 l0_2.length c0_2] 26 (0, 0)) (by (with_reducible repeat (first | refine blk_drewN ?_ _ | refine blk_drew ?_ | refine blk_alloc ?_ _)); exact BK171.out)) : gb171 ≠ gb172)); have n6_ := Aside0.mk ((by rw [hg]; exact Nat.ne_of_gt (blk_lt (g := gb171) (o := .cells #[.int .i64 a0_0, .bool a0_1, .slice A0_2 l0_2.length c0_2] 26 (0, 0)) (by (with_reducible repeat (first | refine blk_drewN ?_ _ | refine blk_drew ?_ | refine blk_alloc ?_ _)); exact BK171.out)) : gb172 ≠ gb171)); clear BK171; clear HB; have BK171 := n0_; have HB := n1_; have BK172 := n2_; have GW172 := n3_; have GE172 := n4_; have NB171_172 := n5_; have NB172_171 := n6_; clear n0_ n1_ n2_ n3_ n4_ n5_ n6_; clear hb hbox hg; have hnb13 := NB171_172.out; have hnc13 := NB172_171.out; have hcz14_0 : w12.cell? ⟨gb171, 0, none⟩ = some (.int .i64 a0_0) := (blk_cell BK171.out 0).trans rfl; have hcz14_1 : w12.cell? ⟨gb171, 1, none⟩ = some (.bool a0_1) := (blk_cell BK171.out 1).trans rfl; have hcz14_2 : w12.cell? ⟨gb171, 2, none⟩ = some (.slice A0_2 l0_2.length c0_2) := (blk_cell BK171.out 2).trans rfl; have hfz14_0 := blk_frozen BK171.out 0; have hfz14_1 := blk_frozen BK171.out 1; have hfz14_2 := blk_frozen BK171.out 2; have hcz15_0 : w12.cell? ⟨gb172, 0, none⟩ = some (.int .i64 a1_0) := (blk_cell BK172.out 0).trans rfl; have hcz15_1 : w12.cell? ⟨gb172, 1, none⟩ = some (.bool a1_1) := (blk_cell BK172.out 1).trans rfl; have hcz15_2 : w12.cell? ⟨gb172, 2, none⟩ = some (.slice A1_2 l1_2.length c1_2) := (blk_cell BK172.out 2).trans rfl; have hfz15_0 := blk_frozen BK172.out 0; have hfz15_1 := blk_frozen BK172.out 1; have hfz15_2 := blk_frozen BK172.out 2))
      go_ret
      exact ⟨by first | rfl | (simp [errW_none, errW_some] <;> rfl) | (simp [*, errW_none, errW_some] <;> rfl), by repeat (first | (with_reducible first | exact HB.out | apply below_alloc | apply pw_below_drewN | apply below_drew1 | refine below_set ?_ GE171.out | refine below_set ?_ GE172.out) | exact HB.out)⟩
  · rw [if_neg c3] at H
    have c3b0 : (a0_0 == a1_0) = false := beq_eq_false_iff_ne.mpr c3
    have c3b1 : (a0_0 != a1_0) = true := bne_iff_ne.mpr c3
    obtain rfl := Option.some.inj H
    go_enter Try.func34, Try.ntmps34
    go_wp2_with (first | ((with_reducible refine gate_dst (N := 2) rfl ?_); refine box_event ?hg (N := 2) ?hd (cs := #[.int .i64 a0_0, .bool a0_1, .slice A0_2 l0_2.length c0_2]) (t := 26) ?hr ?_; (case hd => rfl); (case hg => rfl); (case hr => first | (go_simp; done) | (go_simp; rfl)); intro gb171 hg w16 hbox hb; have n0_ := Aside0.mk (below_step (by repeat (first | (with_reducible first | exact HB.out | apply below_alloc | apply pw_below_drewN | apply below_drew1) | exact HB.out)) hb); have n1_ := Aside0.mk (hbox); have n2_ := Aside0.mk ((by rw [hg]; exact (below_size (by repeat (first | (with_reducible first | exact HB.out | apply below_alloc | apply pw_below_drewN | apply below_drew1) | exact HB.out))) : w.heap.size ≤ gb171)); have n3_ := Aside0.mk ((by rw [hg]; exact (below_size (by repeat (first | (with_reducible first | exact HB.out | apply below_alloc | apply pw_below_drewN | apply below_drew1) | exact HB.out))) : w.heap.size ≤ gb171)); clear HB; have HB := n0_; have BK171 := n1_; have GW171 := n2_; have GE171 := n3_; clear n0_ n1_ n2_ n3_; clear hb hbox hg) | ((with_reducible refine gate_dst (N := 3) rfl ?_); refine box_event ?hg (N := 3) ?hd (cs := #[.int .i64 a1_0, .bool a1_1, .slice A1_2 l1_2.length c1_2]) (t := 26) ?hr ?_; (case hd => rfl); (case hg => rfl); (case hr => first | (go_simp; done) | (go_simp; rfl)); intro gb172 hg w17 hbox hb; have n0_ := Aside0.mk (blk_below (g := gb171) (o := .cells #[.int .i64 a0_0, .bool a0_1, .slice A0_2 l0_2.length c0_2] 26 (0, 0)) (by (with_reducible repeat (first | refine blk_drewN ?_ _ | refine blk_drew ?_ | refine blk_alloc ?_ _)); exact BK171.out) hb); have n1_ := Aside0.mk (below_step (by repeat (first | (with_reducible first | exact HB.out | apply below_alloc | apply pw_below_drewN | apply below_drew1 | refine below_set ?_ GE171.out) | exact HB.out)) hb); have n2_ := Aside0.mk (hbox); have n3_ := Aside0.mk ((by rw [hg]; exact (below_size (by repeat (first | (with_reducible first | exact HB.out | apply below_alloc | apply pw_below_drewN | apply below_drew1 | refine below_set ?_ GE171.out) | exact HB.out))) : w.heap.size ≤ gb172)); have n4_ := Aside0.mk ((by rw [hg]; exact (below_size (by repeat (first | (with_reducible first | exact HB.out | apply below_alloc | apply pw_below_drewN | apply below_drew1 | refine below_set ?_ GE171.out) | exact HB.out))) : w.heap.size ≤ gb172)); have n5_ := Aside0.mk ((by rw [hg]; exact Nat.ne_of_lt (blk_lt (g := gb171) (o := .cells #[.int .i64 a0_0, .bool a0_1, .slice A0_2 l0_2.length c0_2] 26 (0, 0)) (by (with_reducible repeat (first | refine blk_drewN ?_ _ | refine blk_drew ?_ | refine blk_alloc ?_ _)); exact BK171.out)) : gb171 ≠ gb172)); have n6_ := Aside0.mk ((by rw [hg]; exact Nat.ne_of_gt (blk_lt (g := gb171) (o := .cells #[.int .i64 a0_0, .bool a0_1, .slice A0_2 l0_2.length c0_2] 26 (0, 0)) (by (with_reducible repeat (first | refine blk_drewN ?_ _ | refine blk_drew ?_ | refine blk_alloc ?_ _)); exact BK171.out)) : gb172 ≠ gb171)); clear BK171; clear HB; have BK171 := n0_; have HB := n1_; have BK172 := n2_; have GW172 := n3_; have GE172 := n4_; have NB171_172 := n5_; have NB172_171 := n6_; clear n0_ n1_ n2_ n3_ n4_ n5_ n6_; clear hb hbox hg; have hnb18 := NB171_172.out; have hnc18 := NB172_171.out; have hcz19_0 : w17.cell? ⟨gb171, 0, none⟩ = some (.int .i64 a0_0) := (blk_cell BK171.out 0).trans rfl; have hcz19_1 : w17.cell? ⟨gb171, 1, none⟩ = some (.bool a0_1) := (blk_cell BK171.out 1).trans rfl; have hcz19_2 : w17.cell? ⟨gb171, 2, none⟩ = some (.slice A0_2 l0_2.length c0_2) := (blk_cell BK171.out 2).trans rfl; have hfz19_0 := blk_frozen BK171.out 0; have hfz19_1 := blk_frozen BK171.out 1; have hfz19_2 := blk_frozen BK171.out 2; have hcz20_0 : w17.cell? ⟨gb172, 0, none⟩ = some (.int .i64 a1_0) := (blk_cell BK172.out 0).trans rfl; have hcz20_1 : w17.cell? ⟨gb172, 1, none⟩ = some (.bool a1_1) := (blk_cell BK172.out 1).trans rfl; have hcz20_2 : w17.cell? ⟨gb172, 2, none⟩ = some (.slice A1_2 l1_2.length c1_2) := (blk_cell BK172.out 2).trans rfl; have hfz20_0 := blk_frozen BK172.out 0; have hfz20_1 := blk_frozen BK172.out 1; have hfz20_2 := blk_frozen BK172.out 2))
    go_ret
    exact ⟨by first | rfl | (simp [errW_none, errW_some] <;> rfl) | (simp [*, errW_none, errW_some] <;> rfl), by repeat (first | (with_reducible first | exact HB.out | apply below_alloc | apply pw_below_drewN | apply below_drew1 | refine below_set ?_ GE171.out | refine below_set ?_ GE172.out) | exact HB.out)⟩

/-! ### bournelaw0_SameResults: function 24, by a walk of its own -/
theorem same_l0 (l : List Int) : ∀ (k : Nat) (i : Int), 0 ≤ i → i ≤ (l.length : Int) → l.length < 9000000000000000000 → l.length < k + i.toNat → bournelaw0_SameInts.l0 k l l i = some true
  | 0, i, h0, hi, hb, hk => by
    exfalso
    omega
  | k + 1, i, h0, hi, hb, hk => by
    unfold bournelaw0_SameInts.l0
    by_cases h : i < (l.length : Int)
    · have e : wrap64 (i + 1) = i + 1 := by
        unfold wrap64; omega
      rw [if_pos h, if_pos h0, if_pos h, if_pos rfl, e]
      exact same_l0 l k (i + 1) (by omega) (by omega) hb (by omega)
    · rw [if_neg h]
theorem same_out (v : Int) (ov : Bool) (l : List Int) (hb : l.length < 9000000000000000000) : bournelaw0_SameOut.f (l.length + 1) v ov l v ov l = some true := by
  unfold bournelaw0_SameOut.f bournelaw0_SameInts.f
  rw [if_pos rfl, if_pos (by cases ov <;> rfl), if_pos rfl, same_l0 l _ 0 (by omega) (by omega) hb (by omega)]
  rfl
/-- A result's box. -/
def SC (W : World) (g : Nat) (q s st en v : Int) (ov : Bool) (A : Option Addr) (c : Nat) (l : List Int) : Prop := W.heap[g]? = some (.cells #[.int .i64 q, .int .i64 s, .int .i64 st, .int .i64 en, .int .i64 v, .bool ov, .slice A l.length c] 28 (0, 0))
/-- Two results' boxes, and their rows. -/
structure S2 (W0 W : World) (ga gb : Nat) (q s st en v : Int) (ov : Bool) (A A' : Option Addr) (c c' : Nat) (l : List Int) : Prop where
  a : SC W ga q s st en v ov A c l
  b : SC W gb q s st en v ov A' c' l
  ra : Kd.C (Kd.int .i64) W A l.length l
  rb : Kd.C (Kd.int .i64) W A' l.length l
  lo : Below W0.heap.size W0 W
theorem S2.step {W0 W W' : World} {ga gb : Nat} {q s st en v : Int} {ov : Bool} {A A' : Option Addr} {c c' : Nat} {l : List Int} (h : S2 W0 W ga gb q s st en v ov A A' c c' l) (hb : Below W.heap.size W W') : S2 W0 W' ga gb q s st en v ov A A' c c' l :=
  ⟨by unfold SC; exact blk_below h.a hb, by unfold SC; exact blk_below h.b hb, Kd.C_below h.ra hb, Kd.C_below h.rb hb, below_step h.lo hb⟩
set_option maxHeartbeats 8000000 in
set_option maxRecDepth 100000 in
/-- Two results of one value are the same. -/
theorem same_results (ga gb : Nat) (q s st en v : Int) (ov : Bool) (A A' : Option Addr) (c c' : Nat) (l : List Int) (W0 w : World) (hl : l.length < 9000000000000000000) (hc : l.length ≤ c) (hc' : l.length ≤ c') (h : S2 W0 w ga gb q s st en v ov A A' c c' l) :
    Calls Try.prog 24 #[.slice (some ⟨ga, 0, none⟩) 1 1, .slice (some ⟨gb, 0, none⟩) 1 1] w fun e w' => e = .returned (.bool true) ∧ Below W0.heap.size W0 w' := by
  have hu := Try.underlying23
  have hu2 := Try.underlying28
  have P0 := Aside0.mk h
  have CO : Aside0 (∀ W : World, Aside0 (S2 W0 W ga gb q s st en v ov A A' c c' l) → Calls Try.prog 34 #[.agg #[.int .i64 v, .bool ov, .slice A l.length c], .agg #[.int .i64 v, .bool ov, .slice A' l.length c']] W fun e w' => e = .returned (.bool true) ∧ Aside0 (S2 W0 w' ga gb q s st en v ov A A' c c' l)) :=
    ⟨fun W hp => (bournelaw0_SameOut.calls (l.length + 1) v ov A c l v ov A' c' l true W hp.out.ra hc hp.out.rb hc' (same_out v ov l hl)).mono fun e w' hh => ⟨hh.1, ⟨hp.out.step hh.2⟩⟩⟩
  have MS : Aside0 (∀ W : World, Aside0 (S2 W0 W ga gb q s st en v ov A A' c c' l) → W.cell? ⟨ga, 0, none⟩ = some (.int .i64 q) ∧ W.cell? ⟨ga, 1, none⟩ = some (.int .i64 s) ∧ W.cell? ⟨ga, 2, none⟩ = some (.int .i64 st) ∧ W.cell? ⟨ga, 3, none⟩ = some (.int .i64 en) ∧ W.cell? ⟨ga, 4, none⟩ = some (.int .i64 v) ∧ W.cell? ⟨ga, 5, none⟩ = some (.bool ov) ∧ W.cell? ⟨ga, 6, none⟩ = some (.slice A l.length c) ∧ W.cell? ⟨gb, 0, none⟩ = some (.int .i64 q) ∧ W.cell? ⟨gb, 1, none⟩ = some (.int .i64 s) ∧ W.cell? ⟨gb, 2, none⟩ = some (.int .i64 st) ∧ W.cell? ⟨gb, 3, none⟩ = some (.int .i64 en) ∧ W.cell? ⟨gb, 4, none⟩ = some (.int .i64 v) ∧ W.cell? ⟨gb, 5, none⟩ = some (.bool ov) ∧ W.cell? ⟨gb, 6, none⟩ = some (.slice A' l.length c') ∧ Aside0 (S2 W0 W ga gb q s st en v ov A A' c c' l)) := ⟨fun W hp => ⟨by have := blk_cell (show W.heap[ga]? = _ from hp.out.a) 0; simpa using this, by have := blk_cell (show W.heap[ga]? = _ from hp.out.a) 1; simpa using this, by have := blk_cell (show W.heap[ga]? = _ from hp.out.a) 2; simpa using this, by have := blk_cell (show W.heap[ga]? = _ from hp.out.a) 3; simpa using this, by have := blk_cell (show W.heap[ga]? = _ from hp.out.a) 4; simpa using this, by have := blk_cell (show W.heap[ga]? = _ from hp.out.a) 5; simpa using this, by have := blk_cell (show W.heap[ga]? = _ from hp.out.a) 6; simpa using this, by have := blk_cell (show W.heap[gb]? = _ from hp.out.b) 0; simpa using this, by have := blk_cell (show W.heap[gb]? = _ from hp.out.b) 1; simpa using this, by have := blk_cell (show W.heap[gb]? = _ from hp.out.b) 2; simpa using this, by have := blk_cell (show W.heap[gb]? = _ from hp.out.b) 3; simpa using this, by have := blk_cell (show W.heap[gb]? = _ from hp.out.b) 4; simpa using this, by have := blk_cell (show W.heap[gb]? = _ from hp.out.b) 5; simpa using this, by have := blk_cell (show W.heap[gb]? = _ from hp.out.b) 6; simpa using this, hp⟩⟩
  clear h hl hc hc'
  go_enter Try.func24, Try.ntmps24
  go_wp2_with fail
  go_loopg [5] 1 (fun kq v5 w' => ((v5 = .int .i64 0 ∧ kq = 1) ∨ (v5 = .int .i64 1 ∧ kq = 0)) ∧ Aside0 (S2 W0 w' ga gb q s st en v ov A A' c c' l))
  case atStart => exact ⟨Or.inl ⟨rfl, rfl⟩, P0⟩
  case round =>
    obtain ⟨(⟨rfl, rfl⟩ | ⟨rfl, rfl⟩), HP⟩ := hrel
    · clear P0
      go_upto_region 6 with (fail)
      go_cut [67] (fun v67 wc => v67 = .bool false ∧ Aside0 (S2 W0 wc ga gb q s st en v ov A A' c c' l))
      case first =>
        go_region_held3 (fun w' => w'.cell? ⟨ga, 0, none⟩ = some (.int .i64 q) ∧ w'.cell? ⟨ga, 1, none⟩ = some (.int .i64 s) ∧ w'.cell? ⟨ga, 2, none⟩ = some (.int .i64 st) ∧ w'.cell? ⟨ga, 3, none⟩ = some (.int .i64 en) ∧ w'.cell? ⟨ga, 4, none⟩ = some (.int .i64 v) ∧ w'.cell? ⟨ga, 5, none⟩ = some (.bool ov) ∧ w'.cell? ⟨ga, 6, none⟩ = some (.slice A l.length c) ∧ w'.cell? ⟨gb, 0, none⟩ = some (.int .i64 q) ∧ w'.cell? ⟨gb, 1, none⟩ = some (.int .i64 s) ∧ w'.cell? ⟨gb, 2, none⟩ = some (.int .i64 st) ∧ w'.cell? ⟨gb, 3, none⟩ = some (.int .i64 en) ∧ w'.cell? ⟨gb, 4, none⟩ = some (.int .i64 v) ∧ w'.cell? ⟨gb, 5, none⟩ = some (.bool ov) ∧ w'.cell? ⟨gb, 6, none⟩ = some (.slice A' l.length c') ∧ Aside0 (S2 W0 w' ga gb q s st en v ov A A' c c' l))
          (first | exact MS.out _ HP | exact MS.out _ ⟨HP.out.step (below_drew1 (Below.refl _ _))⟩)
          (first | (go_at_call 34; refine (CO.out _ (by go_split_ands; assumption)).mono ?_; rintro e w3 ⟨rfl, HP⟩))
        all_goals
          go_wp2_with fail
          go_meet
          exact ⟨rfl, HP⟩
      case rest =>
        obtain ⟨rfl, HP⟩ := hcut
        go_wp2_with fail
        go_roundg 0
        case measure => omega
        case rel => exact ⟨Or.inr ⟨rfl, rfl⟩, HP⟩
    · go_wp2_with fail
      go_ret
      exact ⟨rfl, HP.out.lo⟩

/-! ### bournelaw0_SameRec: function 11, by a walk of its own -/
set_option maxHeartbeats 8000000 in
set_option maxRecDepth 100000 in
/-- Two records of one value are the same. -/
theorem same_rec (k q s st en v : Int) (ov : Bool) (l : List Int) (se ti sq by_ : Int) (A A' : Option Addr) (c c' : Nat) (w : World) (hl : l.length < 9000000000000000000) (hc : l.length ≤ c) (hc' : l.length ≤ c') (ha : Kd.C (Kd.int .i64) w A l.length l) (hb : Kd.C (Kd.int .i64) w A' l.length l) :
    Calls Try.prog 11 #[.agg #[.int .i64 k, .int .i64 q, .int .i64 s, .int .i64 st, .int .i64 en, .int .i64 v, .bool ov, .slice A l.length c, .int .i64 se, .int .i64 ti, .int .i64 sq, .int .i64 by_], .agg #[.int .i64 k, .int .i64 q, .int .i64 s, .int .i64 st, .int .i64 en, .int .i64 v, .bool ov, .slice A' l.length c', .int .i64 se, .int .i64 ti, .int .i64 sq, .int .i64 by_]] w fun e w' => e = .returned (.bool true) ∧ Below w.heap.size w w' := by
  have hu2 := Try.underlying28
  have CS : Aside0 (∀ (W : World) (ga gb : Nat), Aside0 (W.heap[ga]? = some (.cells #[.int .i64 q, .int .i64 s, .int .i64 st, .int .i64 en, .int .i64 v, .bool ov, .slice A l.length c] 28 (0, 0))) → Aside0 (W.heap[gb]? = some (.cells #[.int .i64 q, .int .i64 s, .int .i64 st, .int .i64 en, .int .i64 v, .bool ov, .slice A' l.length c'] 28 (0, 0))) → Aside0 (Below w.heap.size w W) →
      Calls Try.prog 24 #[.slice (some ⟨ga, 0, none⟩) 1 1, .slice (some ⟨gb, 0, none⟩) 1 1] W fun e w' => e = .returned (.bool true) ∧ Aside0 (Below w.heap.size w w')) :=
    ⟨fun W ga gb h1 h2 h3 => (same_results ga gb q s st en v ov A A' c c' l w W hl hc hc' ⟨h1.out, h2.out, Kd.C_below ha h3.out, Kd.C_below hb h3.out, h3.out⟩).mono fun e w' hh => ⟨hh.1, ⟨hh.2⟩⟩⟩
  clear hl hc hc' ha hb
  have ha := blk_alloc (blk_new w (.cells #[.int .i64 k, .int .i64 q, .int .i64 s, .int .i64 st, .int .i64 en, .int .i64 v, .bool ov, .slice A l.length c, .int .i64 se, .int .i64 ti, .int .i64 sq, .int .i64 by_] 30 (0, 0))) (.cells #[.int .i64 k, .int .i64 q, .int .i64 s, .int .i64 st, .int .i64 en, .int .i64 v, .bool ov, .slice A' l.length c', .int .i64 se, .int .i64 ti, .int .i64 sq, .int .i64 by_] 30 (0, 0))
  have hb := blk_new (w.alloc (.cells #[.int .i64 k, .int .i64 q, .int .i64 s, .int .i64 st, .int .i64 en, .int .i64 v, .bool ov, .slice A l.length c, .int .i64 se, .int .i64 ti, .int .i64 sq, .int .i64 by_] 30 (0, 0))) (.cells #[.int .i64 k, .int .i64 q, .int .i64 s, .int .i64 st, .int .i64 en, .int .i64 v, .bool ov, .slice A' l.length c', .int .i64 se, .int .i64 ti, .int .i64 sq, .int .i64 by_] 30 (0, 0))
  have HB := Aside0.mk (below_alloc (below_alloc (Below.refl w.heap.size w) (.cells #[.int .i64 k, .int .i64 q, .int .i64 s, .int .i64 st, .int .i64 en, .int .i64 v, .bool ov, .slice A l.length c, .int .i64 se, .int .i64 ti, .int .i64 sq, .int .i64 by_] 30 (0, 0))) (.cells #[.int .i64 k, .int .i64 q, .int .i64 s, .int .i64 st, .int .i64 en, .int .i64 v, .bool ov, .slice A' l.length c', .int .i64 se, .int .i64 ti, .int .i64 sq, .int .i64 by_] 30 (0, 0)))
  have ez : (w.alloc (.cells #[.int .i64 k, .int .i64 q, .int .i64 s, .int .i64 st, .int .i64 en, .int .i64 v, .bool ov, .slice A l.length c, .int .i64 se, .int .i64 ti, .int .i64 sq, .int .i64 by_] 30 (0, 0))).heap.size = w.heap.size + 1 := Array.size_push ..
  rw [ez] at hb
  have HA := Aside0.mk ha
  have HBB := Aside0.mk hb
  clear ha hb ez
  go_enter Try.func11, Try.ntmps11
  go_upto_region 1 with (fail)
  generalize (w.alloc (.cells #[.int .i64 k, .int .i64 q, .int .i64 s, .int .i64 st, .int .i64 en, .int .i64 v, .bool ov, .slice A l.length c, .int .i64 se, .int .i64 ti, .int .i64 sq, .int .i64 by_] 30 (0, 0))).alloc (.cells #[.int .i64 k, .int .i64 q, .int .i64 s, .int .i64 st, .int .i64 en, .int .i64 v, .bool ov, .slice A' l.length c', .int .i64 se, .int .i64 ti, .int .i64 sq, .int .i64 by_] 30 (0, 0)) = W1 at *
  have x0 := blk_cell HA.out 0; simp at x0
  have x1 := blk_cell HA.out 1; simp at x1
  have x2 := blk_cell HA.out 2; simp at x2
  have x3 := blk_cell HA.out 3; simp at x3
  have x4 := blk_cell HA.out 4; simp at x4
  have x5 := blk_cell HA.out 5; simp at x5
  have x6 := blk_cell HA.out 6; simp at x6
  have x7 := blk_cell HA.out 7; simp at x7
  have x8 := blk_cell HA.out 8; simp at x8
  have x9 := blk_cell HA.out 9; simp at x9
  have x10 := blk_cell HA.out 10; simp at x10
  have x11 := blk_cell HA.out 11; simp at x11
  have y0 := blk_cell HBB.out 0; simp at y0
  have y1 := blk_cell HBB.out 1; simp at y1
  have y2 := blk_cell HBB.out 2; simp at y2
  have y3 := blk_cell HBB.out 3; simp at y3
  have y4 := blk_cell HBB.out 4; simp at y4
  have y5 := blk_cell HBB.out 5; simp at y5
  have y6 := blk_cell HBB.out 6; simp at y6
  have y7 := blk_cell HBB.out 7; simp at y7
  have y8 := blk_cell HBB.out 8; simp at y8
  have y9 := blk_cell HBB.out 9; simp at y9
  have y10 := blk_cell HBB.out 10; simp at y10
  have y11 := blk_cell HBB.out 11; simp at y11
  have z1 : (W1.alloc (.cells #[.int .i64 q, .int .i64 s, .int .i64 st, .int .i64 en, .int .i64 v, .bool ov, .slice A l.length c] 28 (0, 0))).cell? ⟨w.heap.size + 1, 1, none⟩ = some (.int .i64 q) := (blk_cell (blk_alloc HBB.out _) 1).trans rfl
  have z2 : (W1.alloc (.cells #[.int .i64 q, .int .i64 s, .int .i64 st, .int .i64 en, .int .i64 v, .bool ov, .slice A l.length c] 28 (0, 0))).cell? ⟨w.heap.size + 1, 2, none⟩ = some (.int .i64 s) := (blk_cell (blk_alloc HBB.out _) 2).trans rfl
  have z3 : (W1.alloc (.cells #[.int .i64 q, .int .i64 s, .int .i64 st, .int .i64 en, .int .i64 v, .bool ov, .slice A l.length c] 28 (0, 0))).cell? ⟨w.heap.size + 1, 3, none⟩ = some (.int .i64 st) := (blk_cell (blk_alloc HBB.out _) 3).trans rfl
  have z4 : (W1.alloc (.cells #[.int .i64 q, .int .i64 s, .int .i64 st, .int .i64 en, .int .i64 v, .bool ov, .slice A l.length c] 28 (0, 0))).cell? ⟨w.heap.size + 1, 4, none⟩ = some (.int .i64 en) := (blk_cell (blk_alloc HBB.out _) 4).trans rfl
  have z5 : (W1.alloc (.cells #[.int .i64 q, .int .i64 s, .int .i64 st, .int .i64 en, .int .i64 v, .bool ov, .slice A l.length c] 28 (0, 0))).cell? ⟨w.heap.size + 1, 5, none⟩ = some (.int .i64 v) := (blk_cell (blk_alloc HBB.out _) 5).trans rfl
  have z6 : (W1.alloc (.cells #[.int .i64 q, .int .i64 s, .int .i64 st, .int .i64 en, .int .i64 v, .bool ov, .slice A l.length c] 28 (0, 0))).cell? ⟨w.heap.size + 1, 6, none⟩ = some (.bool ov) := (blk_cell (blk_alloc HBB.out _) 6).trans rfl
  have z7 : (W1.alloc (.cells #[.int .i64 q, .int .i64 s, .int .i64 st, .int .i64 en, .int .i64 v, .bool ov, .slice A l.length c] 28 (0, 0))).cell? ⟨w.heap.size + 1, 7, none⟩ = some (.slice A' l.length c') := (blk_cell (blk_alloc HBB.out _) 7).trans rfl
  clear HA HBB
  have C3 := CS.out ((W1.alloc (.cells #[.int .i64 q, .int .i64 s, .int .i64 st, .int .i64 en, .int .i64 v, .bool ov, .slice A l.length c] 28 (0, 0))).alloc (.cells #[.int .i64 q, .int .i64 s, .int .i64 st, .int .i64 en, .int .i64 v, .bool ov, .slice A' l.length c'] 28 (0, 0))) W1.heap.size (W1.heap.size + 1) ⟨blk_alloc (blk_new _ _) _⟩
    ⟨by have e : (W1.alloc (.cells #[.int .i64 q, .int .i64 s, .int .i64 st, .int .i64 en, .int .i64 v, .bool ov, .slice A l.length c] 28 (0, 0))).heap.size = W1.heap.size + 1 := Array.size_push ..
        rw [← e]; exact blk_new _ _⟩ ⟨below_alloc (below_alloc HB.out _) _⟩
  have C4 := Aside0.mk C3
  clear C3 CS HB
  go_wp2_with (go_at_call 24; refine C4.out.mono ?_; rintro e w3 ⟨rfl, HB3⟩)
  go_ret
  exact ⟨by first | rfl | (simp; done), HB3.out⟩

end Go.Proofs.Ytikfpihapdabfaa.QRecordBack
