-- Written by a program of this session (wip/myprint.py), over the words of the print
import Derived.Test.YtikfpihapdabfaaQRecordsx0
import Derived.Test.YtikfpihapdabfaaQRecordsx3
import Derived.Test.YtikfpihapdabfaaQRecordsx4
import Derived.Test.YtikfpihapdabfaaQRecordsx11
import Derived.Test.YtikfpihapdabfaaQRecordsx12
namespace Go.Proofs.Ytikfpihapdabfaa.QRecords
open Go.RowKit Go.Proofs.YtikfpihapdabfaaW.PrintWords Go.Proofs.YtikfpihapdabfaaW.PrintLast Go.Proofs.YtikfpihapdabfaaW.PrintMore
attribute [local go_sem] max2_int min2_int max_two min_two max_three min_three max_four min_four   -- for this text's walks alone
set_option linter.unusedVariables false
set_option linter.unusedSimpArgs false

/-! ### bournelaw0_SameRec: function 11, by a walk of its own -/
set_option maxHeartbeats 8000000 in
set_option maxRecDepth 100000 in
/-- Two records of one value are the same. -/
theorem same_rec (k q s st en v : Int) (ov : Bool) (l : List Int) (se ti sq by_ : Int) (A A' : Option Addr) (c c' : Nat) (w : World) (hl : l.length < 9000000000000000000) (hc : l.length ≤ c) (hc' : l.length ≤ c') (ha : Kd.C (Kd.int .i64) w A l.length l) (hb : Kd.C (Kd.int .i64) w A' l.length l) :
    Calls Try.prog 11 #[.agg #[.int .i64 k, .int .i64 q, .int .i64 s, .int .i64 st, .int .i64 en, .int .i64 v, .bool ov, .slice A l.length c, .int .i64 se, .int .i64 ti, .int .i64 sq, .int .i64 by_], .agg #[.int .i64 k, .int .i64 q, .int .i64 s, .int .i64 st, .int .i64 en, .int .i64 v, .bool ov, .slice A' l.length c', .int .i64 se, .int .i64 ti, .int .i64 sq, .int .i64 by_]] w fun e w' => e = .returned (.bool true) ∧ Below w.heap.size w w' := by
  have hu2 := Try.underlying28
  have CS : Aside0 (∀ (W : World) (ga gb : Nat), Aside0 (W.heap[ga]? = some (.cells #[.int .i64 q, .int .i64 s, .int .i64 st, .int .i64 en, .int .i64 v, .bool ov, .slice A l.length c] 28 (0, 0))) → Aside0 (W.heap[gb]? = some (.cells #[.int .i64 q, .int .i64 s, .int .i64 st, .int .i64 en, .int .i64 v, .bool ov, .slice A' l.length c'] 28 (0, 0))) → Aside0 (Below w.heap.size w W) →
      Calls Try.prog 24 #[.slice (some ⟨ga, 0, none⟩) 1 1, .slice (some ⟨gb, 0, none⟩) 1 1] W fun e w' => e = .returned (.bool true) ∧ Aside0 (Below w.heap.size w w')) :=
    ⟨fun W ga gb h1 h2 h3 => (same_results ga gb q s st en v ov A A' c c' l w W hl hc hc' ⟨h1.out, h2.out, Kd.C_below ha h3.out, Kd.C_below hb h3.out, h3.out⟩).mono fun e w' hh => ⟨hh.1, ⟨hh.2⟩⟩⟩
  clear hl hc hc' ha hb
  have ha := blk_alloc (blk_new w (.cells #[.int .i64 k, .int .i64 q, .int .i64 s, .int .i64 st, .int .i64 en, .int .i64 v, .bool ov, .slice A l.length c, .int .i64 se, .int .i64 ti, .int .i64 sq, .int .i64 by_] 30 (0, 0))) (.cells #[.int .i64 k, .int .i64 q, .int .i64 s, .int .i64 st, .int .i64 en, .int .i64 v, .bool ov, .slice A' l.length c', .int .i64 se, .int .i64 ti, .int .i64 sq, .int .i64 by_] 30 (0, 0))
  have hb := blk_new (w.alloc (.cells #[.int .i64 k, .int .i64 q, .int .i64 s, .int .i64 st, .int .i64 en, .int .i64 v, .bool ov, .slice A l.length c, .int .i64 se, .int .i64 ti, .int .i64 sq, .int .i64 by_] 30 (0, 0))) (.cells #[.int .i64 k, .int .i64 q, .int .i64 s, .int .i64 st, .int .i64 en, .int .i64 v, .bool ov, .slice A' l.length c', .int .i64 se, .int .i64 ti, .int .i64 sq, .int .i64 by_] 30 (0, 0))
  have HB := Aside0.mk (below_alloc (below_alloc (Below.refl w.heap.size w) (.cells #[.int .i64 k, .int .i64 q, .int .i64 s, .int .i64 st, .int .i64 en, .int .i64 v, .bool ov, .slice A l.length c, .int .i64 se, .int .i64 ti, .int .i64 sq, .int .i64 by_] 30 (0, 0))) (.cells #[.int .i64 k, .int .i64 q, .int .i64 s, .int .i64 st, .int .i64 en, .int .i64 v, .bool ov, .slice A' l.length c', .int .i64 se, .int .i64 ti, .int .i64 sq, .int .i64 by_] 30 (0, 0)))
  have ez : (w.alloc (.cells #[.int .i64 k, .int .i64 q, .int .i64 s, .int .i64 st, .int .i64 en, .int .i64 v, .bool ov, .slice A l.length c, .int .i64 se, .int .i64 ti, .int .i64 sq, .int .i64 by_] 30 (0, 0))).heap.size = w.heap.size + 1 := Array.size_push ..
  rw [ez] at hb
  have HA := Aside0.mk ha
  have HBB := Aside0.mk hb
  clear ha hb ez
  go_enter Try.func11, Try.ntmps11
  go_upto_region 1 with (fail)
  generalize (w.alloc (.cells #[.int .i64 k, .int .i64 q, .int .i64 s, .int .i64 st, .int .i64 en, .int .i64 v, .bool ov, .slice A l.length c, .int .i64 se, .int .i64 ti, .int .i64 sq, .int .i64 by_] 30 (0, 0))).alloc (.cells #[.int .i64 k, .int .i64 q, .int .i64 s, .int .i64 st, .int .i64 en, .int .i64 v, .bool ov, .slice A' l.length c', .int .i64 se, .int .i64 ti, .int .i64 sq, .int .i64 by_] 30 (0, 0)) = W1 at *
  have x0 := blk_cell HA.out 0; simp at x0
  have x1 := blk_cell HA.out 1; simp at x1
  have x2 := blk_cell HA.out 2; simp at x2
  have x3 := blk_cell HA.out 3; simp at x3
  have x4 := blk_cell HA.out 4; simp at x4
  have x5 := blk_cell HA.out 5; simp at x5
  have x6 := blk_cell HA.out 6; simp at x6
  have x7 := blk_cell HA.out 7; simp at x7
  have x8 := blk_cell HA.out 8; simp at x8
  have x9 := blk_cell HA.out 9; simp at x9
  have x10 := blk_cell HA.out 10; simp at x10
  have x11 := blk_cell HA.out 11; simp at x11
  have y0 := blk_cell HBB.out 0; simp at y0
  have y1 := blk_cell HBB.out 1; simp at y1
  have y2 := blk_cell HBB.out 2; simp at y2
  have y3 := blk_cell HBB.out 3; simp at y3
  have y4 := blk_cell HBB.out 4; simp at y4
  have y5 := blk_cell HBB.out 5; simp at y5
  have y6 := blk_cell HBB.out 6; simp at y6
  have y7 := blk_cell HBB.out 7; simp at y7
  have y8 := blk_cell HBB.out 8; simp at y8
  have y9 := blk_cell HBB.out 9; simp at y9
  have y10 := blk_cell HBB.out 10; simp at y10
  have y11 := blk_cell HBB.out 11; simp at y11
  have z1 : (W1.alloc (.cells #[.int .i64 q, .int .i64 s, .int .i64 st, .int .i64 en, .int .i64 v, .bool ov, .slice A l.length c] 28 (0, 0))).cell? ⟨w.heap.size + 1, 1, none⟩ = some (.int .i64 q) := (blk_cell (blk_alloc HBB.out _) 1).trans rfl
  have z2 : (W1.alloc (.cells #[.int .i64 q, .int .i64 s, .int .i64 st, .int .i64 en, .int .i64 v, .bool ov, .slice A l.length c] 28 (0, 0))).cell? ⟨w.heap.size + 1, 2, none⟩ = some (.int .i64 s) := (blk_cell (blk_alloc HBB.out _) 2).trans rfl
  have z3 : (W1.alloc (.cells #[.int .i64 q, .int .i64 s, .int .i64 st, .int .i64 en, .int .i64 v, .bool ov, .slice A l.length c] 28 (0, 0))).cell? ⟨w.heap.size + 1, 3, none⟩ = some (.int .i64 st) := (blk_cell (blk_alloc HBB.out _) 3).trans rfl
  have z4 : (W1.alloc (.cells #[.int .i64 q, .int .i64 s, .int .i64 st, .int .i64 en, .int .i64 v, .bool ov, .slice A l.length c] 28 (0, 0))).cell? ⟨w.heap.size + 1, 4, none⟩ = some (.int .i64 en) := (blk_cell (blk_alloc HBB.out _) 4).trans rfl
  have z5 : (W1.alloc (.cells #[.int .i64 q, .int .i64 s, .int .i64 st, .int .i64 en, .int .i64 v, .bool ov, .slice A l.length c] 28 (0, 0))).cell? ⟨w.heap.size + 1, 5, none⟩ = some (.int .i64 v) := (blk_cell (blk_alloc HBB.out _) 5).trans rfl
  have z6 : (W1.alloc (.cells #[.int .i64 q, .int .i64 s, .int .i64 st, .int .i64 en, .int .i64 v, .bool ov, .slice A l.length c] 28 (0, 0))).cell? ⟨w.heap.size + 1, 6, none⟩ = some (.bool ov) := (blk_cell (blk_alloc HBB.out _) 6).trans rfl
  have z7 : (W1.alloc (.cells #[.int .i64 q, .int .i64 s, .int .i64 st, .int .i64 en, .int .i64 v, .bool ov, .slice A l.length c] 28 (0, 0))).cell? ⟨w.heap.size + 1, 7, none⟩ = some (.slice A' l.length c') := (blk_cell (blk_alloc HBB.out _) 7).trans rfl
  clear HA HBB
  have C3 := CS.out ((W1.alloc (.cells #[.int .i64 q, .int .i64 s, .int .i64 st, .int .i64 en, .int .i64 v, .bool ov, .slice A l.length c] 28 (0, 0))).alloc (.cells #[.int .i64 q, .int .i64 s, .int .i64 st, .int .i64 en, .int .i64 v, .bool ov, .slice A' l.length c'] 28 (0, 0))) W1.heap.size (W1.heap.size + 1) ⟨blk_alloc (blk_new _ _) _⟩
    ⟨by have e : (W1.alloc (.cells #[.int .i64 q, .int .i64 s, .int .i64 st, .int .i64 en, .int .i64 v, .bool ov, .slice A l.length c] 28 (0, 0))).heap.size = W1.heap.size + 1 := Array.size_push ..
        rw [← e]; exact blk_new _ _⟩ ⟨below_alloc (below_alloc HB.out _) _⟩
  have C4 := Aside0.mk C3
  clear C3 CS HB
  go_wp2_with (go_at_call 24; refine C4.out.mono ?_; rintro e w3 ⟨rfl, HB3⟩)
  go_ret
  exact ⟨by first | rfl | (simp; done), HB3.out⟩

/-! ### bournelaw0_SpoilInts: function 12 -/
def bournelaw0_SpoilInts.l0 : Nat → List Int → Int → Option (List Int)
  | 0, _, _ => none
  | k + 1, x0, x2 => if x2 < (x0.length : Int) then (if 0 ≤ x2 then (bournelaw0_SpoilInts.l0 k (x0.set (x2 : Int).toNat (wrap64 ((-9) - (rd x0 x2)))) (wrap64 (x2 + 1))) else (none)) else (some x0)
def bournelaw0_SpoilInts.f (k : Nat) (l0 : List Int) : Option (List Int) := bournelaw0_SpoilInts.l0 k l0 0
theorem bournelaw0_SpoilInts.mono_l : ∀ k, (∀ y0 y1, LeO (bournelaw0_SpoilInts.l0 k y0 y1) (bournelaw0_SpoilInts.l0 (k + 1) y0 y1))
  | 0 => fun _ _ r h => by simp [bournelaw0_SpoilInts.l0] at h
  | k + 1 => by
    have ih0 := bournelaw0_SpoilInts.mono_l k
    · intro y0 y1
      unfold bournelaw0_SpoilInts.l0
      repeat' first
      | (with_reducible exact ih0 _ _)
      | (with_reducible exact LeO.refl _)
      | (with_reducible exact LeO.none _)
      | (with_reducible refine LeO.ite ?_ ?_)
      | (with_reducible refine LeO.bind ?_ (fun _ => ?_))
      | exact ih0 _ _
      | exact LeO.none _
      | refine LeO.ite ?_ ?_
      | refine LeO.bind ?_ (fun _ => ?_)
theorem bournelaw0_SpoilInts.mono : ∀ a0 k, LeO (bournelaw0_SpoilInts.f k a0) (bournelaw0_SpoilInts.f (k + 1) a0) := by
  intro a0 k
  have ih0 := bournelaw0_SpoilInts.mono_l k
  unfold bournelaw0_SpoilInts.f
  repeat' first
      | (with_reducible exact ih0 _ _)
      | (with_reducible exact LeO.refl _)
      | (with_reducible exact LeO.none _)
      | (with_reducible refine LeO.ite ?_ ?_)
      | (with_reducible refine LeO.bind ?_ (fun _ => ?_))
      | exact ih0 _ _
      | exact LeO.none _
      | refine LeO.ite ?_ ?_
      | refine LeO.bind ?_ (fun _ => ?_)
set_option maxHeartbeats 8000000 in
set_option maxRecDepth 100000 in
theorem bournelaw0_SpoilInts.calls (k : Nat) (P0_ : Nat → Prop) (u9000_ : Value) (l0 : List Int) (r : List Int) (w0 w : World) (hB : Below w0.heap.size w0 w) (ho0 : Kd.R (Kd.int .i64) 3 w w0.heap.size P0_ u9000_ l0) (h : bournelaw0_SpoilInts.f k l0 = some r) :
    Calls Try.prog 12 #[u9000_] w fun e w' => e = .returned (.tuple #[]) ∧ Kd.R (Kd.int .i64) 3 w' w0.heap.size (fun k_ => (P0_ k_ ∨ w.heap.size ≤ k_)) u9000_ r ∧ Below w0.heap.size w0 w' ∧ Kept w w' (fun k_ => P0_ k_) := by
  have HO0 := Aside0.mk (show Kd.R (Kd.int .i64) 3 w w0.heap.size (fun k_ => (P0_ k_ ∨ w.heap.size ≤ k_)) u9000_ l0 from Kd.R_mono ho0 (fun k_ hk => (.inl hk)))
  have HK := Aside0.mk (Kept.refl w (fun k_ => P0_ k_))
  have HW0 := Aside0.mk hB.size
  have HB := Aside0.mk hB
  clear hB
  have H : (bournelaw0_SpoilInts.l0 k l0 0) = some r := h
  clear h
  have H' := Aside0.mk H
  clear H
  go_enter Try.func12, Try.ntmps12
  go_wp2
  go_loopg [2] k (fun kq v2 w' => ∃ (x0_1 : List Int) (x2_1 : Int), v2 = .int .i64 x2_1 ∧ Aside0 (bournelaw0_SpoilInts.l0 kq x0_1 x2_1 = some r) ∧ Aside0 (kq ≤ k) ∧ Aside0 (Kd.R (Kd.int .i64) 3 w' w0.heap.size (fun k_ => (P0_ k_ ∨ w.heap.size ≤ k_)) u9000_ x0_1) ∧ Aside0 (Kept w w' (fun k_ => P0_ k_)) ∧ Aside0 (Below w0.heap.size w0 w'))
  case atStart => exact ⟨(l0), (0), (by first | rfl | (simp; done) | (simp [*]; done)), H', ⟨Nat.le_refl _⟩, ⟨by (with_reducible repeat (first | apply Kd.R_alloc | apply Kd.R_drewN | apply Kd.R_drew)); exact HO0.out⟩, ⟨by repeat (first | (with_reducible first | exact HK.out | apply Kept.alloc | apply Kept.drewN | apply Kept.drew) | exact HK.out)⟩, ⟨by repeat (first | (with_reducible first | exact HB.out | apply below_alloc | apply pw_below_drewN | apply below_drew1) | exact HB.out)⟩⟩
  case round =>
    clear H'
    try clear c1
    obtain ⟨x0_1, x2_1, rfl, HA, HK1, HO_0, HK, HB⟩ := hrel
    cases gk with
    | zero => exact absurd HA.out (by simp [bournelaw0_SpoilInts.l0])
    | succ k1 =>
      have H := HA.out
      clear HA
      simp only [bournelaw0_SpoilInts.l0] at H
      by_cases c2 : x2_1 < (x0_1.length : Int)
      · rw [if_pos c2] at H
        have c2b0 : decide (x2_1 < (x0_1.length : Int)) = true := decide_eq_true c2
        clear c2
        by_cases c3 : 0 ≤ x2_1
        · rw [if_pos c3] at H
          have c3b0 : decide (0 ≤ x2_1) = true := decide_eq_true c3
          clear c3
          obtain ⟨y276, hy276⟩ : ∃ y_ : List Int, y_ = (x0_1.set (x2_1 : Int).toNat (wrap64 ((-9) - (rd x0_1 x2_1)))) := ⟨_, rfl⟩
          replace H : (bournelaw0_SpoilInts.l0 k1 y276 (wrap64 (x2_1 + 1))) = some r := by first | (rw [hy276]; with_reducible exact H) | (have H2_ := (Option.bind_some _ _).symm.trans H; rw [hy276]; with_reducible exact H2_) | (have H2_ := (Option.bind_some _ _).symm.trans H; with_reducible exact H2_) | with_reducible exact H | (rw [hy276]; exact H) | exact H
          have Ny276 := Aside0.mk hy276
          clear hy276
          have H' := Aside0.mk H
          clear H
          obtain ⟨Ao5, co5, eo5⟩ := Kd.R_slice HO_0.out
          subst eo5
          have p275 : 0 ≤ (x2_1 : Int) := of_decide_eq_true (by first | (with_reducible assumption) | assumption)
          have q275 : x2_1 < (x0_1.length : Int) := of_decide_eq_true (by first | (with_reducible assumption) | assumption)
          obtain ⟨ad275, e275, hx275_0⟩ := Kd.at_int (Kd.R_reads' HO_0.out).2.2 x2_1 p275 q275
          cases e275
          replace p275 := eq_true p275
          replace q275 := eq_true q275
          have p4 : 0 ≤ (x2_1 : Int) := of_decide_eq_true (by first | (with_reducible assumption) | assumption)
          have q4 : (x2_1 : Int) < ((x0_1.length : Int) : Int) := of_decide_eq_true (by first | (with_reducible assumption) | assumption)
          obtain ⟨go4, co4, eo4, gb4, gl4, cl4, HG4⟩ := Kd.R_form HO_0.out (by omega)
          (first | cases eo4 | (injection eo4 with ea_ en_ ec_; (first | subst ea_ | (injection ea_ with ea_; subst ea_)); subst ec_; clear en_))
          have GB4 := Aside0.mk gb4
          have GG4 := Aside0.mk HG4
          clear gb4 gl4 HG4
          have HMgo4 := Aside0.mk (show (P0_ go4 ∨ w.heap.size ≤ go4) from (HO_0.out.1 _ rfl))
          (first | simp only [add_plain] at hx275_0 | skip)
          obtain ⟨hx4_0, hf4_0⟩ := Kd.R_celln 0 HO_0.out (x2_1 : Int) p4 q4
          replace p4 := eq_true p4
          replace q4 := eq_true q4
          have HP6 := Kd.R_putg HO_0.out (x2_1 : Int) (wrap64 ((-9) - (rd x0_1 x2_1)))
          go_wp2_with (first | ((with_reducible refine gate_store (t := 3) (p := 16) rfl ?_); refine store_event (t := 3) (p := 16) (v := ?vo_w7) (w1 := (wr.setCell ⟨go4, (x2_1 : Int).toNat, none⟩ (.int .i64 (wrap64 ((-9) - (rd x0_1 x2_1)))))) ?hg ?ho ?hn ?hr ?_; (case ho => rfl); (case hg => rfl); (case hn => rfl); (case hr => first | (go_simp; done) | (go_simp; rfl)); intro w7 hw; have hg : wr.grownBy w7 (some go4) := (by rw [hw]; exact HP6.2); have hp_ : Kd.R (Kd.int .i64) 3 w7 w0.heap.size (fun k_ => (P0_ k_ ∨ w.heap.size ≤ k_)) (.slice (some ⟨go4, 0, none⟩) x0_1.length co5) y276 := (by rw [hw, Ny276.out]; exact HP6.1); clear HP6; have n0_ := Aside0.mk (hp_); have n1_ := Aside0.mk ((by rw [hw]; exact below_set (HB.out) GB4.out : Below w0.heap.size w0 w7)); have n2_ := Aside0.mk (Kept.of_grown (S := (fun k_ => P0_ k_)) hg (by repeat (first | (with_reducible first | exact HK.out | apply Kept.alloc | apply Kept.drewN | apply Kept.drew) | exact HK.out)) (fun k_ e_ => (HO_0.out.1 k_ e_))); clear HO_0; clear HB; clear HK; have HO_0 := n0_; have HB := n1_; have HK := n2_; clear n0_ n1_ n2_; clear hg hw hp_))
          go_roundg k1
          case measure => have := HK1.out; omega
          case rel => exact ⟨(y276), (wrap64 (x2_1 + 1)), (by first | rfl | (simp; done) | (simp [*]; done)), H', ⟨by have := HK1.out; omega⟩, ⟨by (with_reducible repeat (first | apply Kd.R_alloc | apply Kd.R_drewN | apply Kd.R_drew)); exact HO_0.out⟩, ⟨by repeat (first | (with_reducible first | exact HK.out | apply Kept.alloc | apply Kept.drewN | apply Kept.drew) | exact HK.out)⟩, ⟨by repeat (first | (with_reducible first | exact HB.out | apply below_alloc | apply pw_below_drewN | apply below_drew1) | exact HB.out)⟩⟩
        · rw [if_neg c3] at H
          exact absurd H (by simp)
      · rw [if_neg c2] at H
        have c2b0 : decide (x2_1 < (x0_1.length : Int)) = false := decide_eq_false c2
        clear c2
        obtain rfl := Option.some.inj H
        obtain ⟨Ao8, co8, eo8⟩ := Kd.R_slice HO_0.out
        subst eo8
        go_wp2
        first | go_end0 | ((try simp only [Exit.inBlock, Exit.then]); refine bodyPost_ret (results_none rfl _ _ _) rfl ?_)
        exact ⟨by first | rfl | (simp [errW_none, errW_some] <;> rfl) | (simp [*, errW_none, errW_some] <;> rfl), by (with_reducible repeat (first | apply Kd.R_alloc | apply Kd.R_drewN | apply Kd.R_drew)); exact HO_0.out, by repeat (first | (with_reducible first | exact HB.out | apply below_alloc | apply pw_below_drewN | apply below_drew1) | exact HB.out), by repeat (first | (with_reducible first | exact HK.out | apply Kept.alloc | apply Kept.drewN | apply Kept.drew) | exact HK.out)⟩

-- NOT PRINTED: function 3 (bournelaw10_Records)

end Go.Proofs.Ytikfpihapdabfaa.QRecords
