-- Written by a program of this session (wip/myprint.py), over the words of the print
import Derived.Test.YtikfpihapdabfaaQRecordsx0
import Derived.Test.YtikfpihapdabfaaQRecordsx3
namespace Go.Proofs.Ytikfpihapdabfaa.QRecords
open Go.RowKit Go.Proofs.YtikfpihapdabfaaW.PrintWords Go.Proofs.YtikfpihapdabfaaW.PrintLast Go.Proofs.YtikfpihapdabfaaW.PrintMore
attribute [local go_sem] max2_int min2_int max_two min_two max_three min_three max_four min_four   -- for this text's walks alone
set_option linter.unusedVariables false
set_option linter.unusedSimpArgs false

/-! ### record_Put: function 6, by a walk of its own -/
def record_Put.tail (K : Nat) (k q s st en v : Int) (ov : Bool) (l : List Int) (se ti sq by_ : Int) (s0 : ByteArray) : Option (ByteArray × Int) :=
  if k = 0 then (record_over.f ov).bind fun o => (varint_All.f K [q, s, st, en, v, o, (l.length : Int)]).bind fun s1 => (varint_All.f K l).bind fun s2 => if s0.size + (s1.size + s2.size) ≤ 4611686018427387904 then some (s0 ++ (s1 ++ s2), 0) else none
  else if k = 1 ∨ k = 2 ∨ k = 3 then (varint_All.f K [se, ti, sq]).bind fun s1 => if s0.size + s1.size ≤ 4611686018427387904 then some (s0 ++ s1, 0) else none
  else if k = 5 then (varint_Put.f K by_).bind fun s1 => if s0.size + s1.size ≤ 4611686018427387904 then some (s0 ++ s1, 0) else none
  else some (s0, 0)
def record_Put.f (K : Nat) (k q s st en v : Int) (ov : Bool) (l : List Int) (se ti sq by_ : Int) : Option (ByteArray × Int) :=
  if recB k q s st en v ov l se ti sq by_ = true then (varint_Put.f K k).bind fun s0 => record_Put.tail K k q s st en v ov l se ti sq by_ s0 else some ((⟨#[]⟩ : ByteArray), 1000)
theorem record_Put.mono : ∀ k q s st en v ov l se ti sq by_ K, LeO (record_Put.f K k q s st en v ov l se ti sq by_) (record_Put.f (K + 1) k q s st en v ov l se ti sq by_) := by
  intro k q s st en v ov l se ti sq by_ K
  unfold record_Put.f record_Put.tail
  repeat' first
    | exact LeO.refl _
    | exact varint_All.mono _ _
    | exact varint_Put.mono _ _
    | exact LeO.none _
    | refine LeO.ite ?_ ?_
    | refine LeO.bind ?_ (fun _ => ?_)
theorem lit_C {W : World} {g t : Nat} (xs : List Int) (h : W.heap[g]? = some (.cells (nums .i64 xs).toArray t (0, 0))) (hn : xs.length ≤ 100) : Kd.C (Kd.int .i64) W (some ⟨g, 0, none⟩) xs.length xs := by
  refine ⟨rfl, by omega, fun _ => ⟨⟨g, 0, none⟩, rfl, fun j p hj => ⟨[.int .i64 p], rfl, rfl, fun i u hu => ?_⟩⟩⟩
  obtain ⟨hjl, rfl⟩ := List.getElem?_eq_some_iff.1 hj
  match i, hu with
  | 0, hu =>
    have hu : .int .i64 xs[j] = u := by simpa using hu
    subst hu
    have e := blk_cell h j
    have e2 : (nums .i64 xs).toArray[j]? = some (.int .i64 xs[j]) := by simp [nums, hjl]
    rw [e2] at e
    show W.cell? ((⟨g, 0, none⟩ : Addr).add (j * 1 + 0)) = _
    rw [Addr.add_lit]
    simpa using e
  | i + 1, hu => simp at hu
/-- The record's box, and what lies below. -/
structure record_Put.P (w W : World) (g : Nat) (k q s st en v : Int) (ov : Bool) (A : Option Addr) (c : Nat) (l : List Int) (se ti sq by_ : Int) : Prop where
  o : RC W g k q s st en v ov A c l se ti sq by_
  b : Below w.heap.size w W
theorem record_Put.P.step {w W W' : World} {g : Nat} {k q s st en v : Int} {ov : Bool} {A : Option Addr} {c : Nat} {l : List Int} {se ti sq by_ : Int} (h : record_Put.P w W g k q s st en v ov A c l se ti sq by_) (hb : Below W.heap.size W W') : record_Put.P w W' g k q s st en v ov A c l se ti sq by_ := ⟨blk_below h.o hb, below_step h.b hb⟩
set_option maxHeartbeats 8000000 in
set_option maxRecDepth 100000 in
theorem record_Put.calls (K : Nat) (k q s st en v : Int) (ov : Bool) (A : Option Addr) (c : Nat) (l : List Int) (se ti sq by_ : Int) (r1 : ByteArray) (r2 : Int) (w : World) (hr : Kd.C (Kd.int .i64) w A l.length l) (hc : l.length ≤ c) (h : record_Put.f K k q s st en v ov l se ti sq by_ = some (r1, r2)) :
    Calls Try.prog 6 #[.agg #[.int .i64 k, .int .i64 q, .int .i64 s, .int .i64 st, .int .i64 en, .int .i64 v, .bool ov, .slice A l.length c, .int .i64 se, .int .i64 ti, .int .i64 sq, .int .i64 by_]] w fun e w' => e = .returned (.tuple #[.string r1, .int .i64 r2]) ∧ Below w.heap.size w w' := by
  have hb0 : Below w.heap.size w (w.alloc (.cells #[.int .i64 k, .int .i64 q, .int .i64 s, .int .i64 st, .int .i64 en, .int .i64 v, .bool ov, .slice A l.length c, .int .i64 se, .int .i64 ti, .int .i64 sq, .int .i64 by_] 30 (0, 0))) := below_alloc (Below.refl _ _) _
  have P0 := Aside0.mk (⟨by show (w.heap.push _)[w.heap.size]? = _; simp, hb0⟩ : record_Put.P w (w.alloc (.cells #[.int .i64 k, .int .i64 q, .int .i64 s, .int .i64 st, .int .i64 en, .int .i64 v, .bool ov, .slice A l.length c, .int .i64 se, .int .i64 ti, .int .i64 sq, .int .i64 by_] 30 (0, 0))) w.heap.size k q s st en v ov A c l se ti sq by_)
  have HR := Aside0.mk hr
  have HC := Aside0.mk hc
  clear hr hc hb0
  unfold record_Put.f at h
  have HM : Aside0 (record_May.f k q s st en v ov l se ti sq by_ = some (recB k q s st en v ov l se ti sq by_)) := ⟨rfl⟩
  generalize recB k q s st en v ov l se ti sq by_ = m at *
  cases m with
  | false =>
    rw [if_neg (by decide)] at h
    obtain ⟨rfl, rfl⟩ : (⟨#[]⟩ : ByteArray) = r1 ∧ 1000 = r2 := by simpa only [Option.some.injEq, Prod.mk.injEq] using h
    clear h
    go_enter Try.func6, Try.ntmps6
    go_wp2_with fail
    refine (record_May.calls k q s st en v ov A c l se ti sq by_ false _ (Kd.C_below HR.out P0.out.b) HC.out HM.out).mono ?_
    rintro e w1 ⟨rfl, hb⟩
    have HB := Aside0.mk (below_step P0.out.b hb)
    clear hb
    go_wp2_with fail
    go_ret2
    exact ⟨rfl, HB.out⟩
  | true =>
    rw [if_pos rfl] at h
    obtain ⟨s0, hs0, h⟩ := Option.bind_eq_some_iff.mp h
    have S0 := Aside0.mk hs0
    have H := Aside0.mk h
    clear h hs0
    generalize hgg : w.heap.size = g at P0 ⊢
    go_enter Try.func6, Try.ntmps6
    subst hgg
    go_wp2_with fail
    refine (record_May.calls k q s st en v ov A c l se ti sq by_ true _ (Kd.C_below HR.out P0.out.b) HC.out HM.out).mono ?_
    rintro e w1 ⟨rfl, hb⟩
    have P1 := Aside0.mk (P0.out.step hb)
    clear hb P0 HM
    have x0 := blk_cell (show w1.heap[w.heap.size]? = _ from P1.out.o) 0
    simp at x0
    go_wp2_with fail
    refine (varint_Put.calls K k s0 _ S0.out).mono ?_
    rintro e w2 ⟨rfl, hb⟩
    have P2 := Aside0.mk (P1.out.step hb)
    clear hb P1 S0 x0
    have x0 := blk_cell (show w2.heap[w.heap.size]? = _ from P2.out.o) 0
    simp at x0
    by_cases k0 : k = 0
    · subst k0
      have h := H.out
      unfold record_Put.tail at h
      rw [if_pos rfl] at h
      obtain ⟨o, ho, h⟩ := Option.bind_eq_some_iff.mp h
      obtain ⟨s1, h1, h⟩ := Option.bind_eq_some_iff.mp h
      obtain ⟨s2, h2, h⟩ := Option.bind_eq_some_iff.mp h
      by_cases hz : s0.size + (s1.size + s2.size) ≤ 4611686018427387904
      · rw [if_pos hz] at h
        obtain ⟨rfl, rfl⟩ : s0 ++ (s1 ++ s2) = r1 ∧ 0 = r2 := by simpa only [Option.some.injEq, Prod.mk.injEq] using h
        clear h H
        have MS : Aside0 (∀ W : World, Aside0 (record_Put.P w W w.heap.size 0 q s st en v ov A c l se ti sq by_) → W.cell? ⟨w.heap.size, 1, none⟩ = some (.int .i64 q) ∧ W.cell? ⟨w.heap.size, 2, none⟩ = some (.int .i64 s) ∧ W.cell? ⟨w.heap.size, 3, none⟩ = some (.int .i64 st) ∧ W.cell? ⟨w.heap.size, 4, none⟩ = some (.int .i64 en) ∧ W.cell? ⟨w.heap.size, 5, none⟩ = some (.int .i64 v) ∧ W.cell? ⟨w.heap.size, 6, none⟩ = some (.bool ov) ∧ W.cell? ⟨w.heap.size, 7, none⟩ = some (.slice A l.length c) ∧ Aside0 (record_Put.P w W w.heap.size 0 q s st en v ov A c l se ti sq by_)) := ⟨(fun W h => ⟨by have z := blk_cell (show W.heap[w.heap.size]? = _ from h.out.o) 1; simpa using z, by have z := blk_cell (show W.heap[w.heap.size]? = _ from h.out.o) 2; simpa using z, by have z := blk_cell (show W.heap[w.heap.size]? = _ from h.out.o) 3; simpa using z, by have z := blk_cell (show W.heap[w.heap.size]? = _ from h.out.o) 4; simpa using z, by have z := blk_cell (show W.heap[w.heap.size]? = _ from h.out.o) 5; simpa using z, by have z := blk_cell (show W.heap[w.heap.size]? = _ from h.out.o) 6; simpa using z, by have z := blk_cell (show W.heap[w.heap.size]? = _ from h.out.o) 7; simpa using z, h⟩)⟩
        have COV : Aside0 (∀ W : World, Aside0 (record_Put.P w W w.heap.size 0 q s st en v ov A c l se ti sq by_) → Calls Try.prog 18 #[.bool ov] W fun e w' => e = .returned (.int .i64 o) ∧ Aside0 (record_Put.P w w' w.heap.size 0 q s st en v ov A c l se ti sq by_) ∧ Aside0 (Below W.heap.size W w')) :=
          ⟨fun W hp => (record_over.calls ov o W ho).mono fun e w' hh => ⟨hh.1, ⟨hp.out.step hh.2.below⟩, ⟨hh.2.below⟩⟩⟩
        have CH : Aside0 (∀ W : World, Aside0 (record_Put.P w W w.heap.size 0 q s st en v ov A c l se ti sq by_) → Calls Try.prog 17 #[.slice A l.length c] W fun e w' => e = .returned (.string s2) ∧ Aside0 (record_Put.P w w' w.heap.size 0 q s st en v ov A c l se ti sq by_) ∧ Aside0 (Below W.heap.size W w')) :=
          ⟨fun W hp => (varint_All.calls K A c l s2 W (Kd.C_below HR.out hp.out.b) HC.out h2).mono fun e w' hh => ⟨hh.1, ⟨hp.out.step hh.2⟩, ⟨hh.2⟩⟩⟩
        have CL : Aside0 (∀ (W : World) (g' : Nat), Aside0 (record_Put.P w W w.heap.size 0 q s st en v ov A c l se ti sq by_) → Aside0 (W.heap[g']? = some (.cells #[.int .i64 q, .int .i64 s, .int .i64 st, .int .i64 en, .int .i64 v, .int .i64 o, .int .i64 (l.length : Int)] 3 (0, 0))) → Calls Try.prog 17 #[.slice (some ⟨g', 0, none⟩) 7 7] W fun e w' => e = .returned (.string s1) ∧ Aside0 (record_Put.P w w' w.heap.size 0 q s st en v ov A c l se ti sq by_) ∧ Aside0 (Below W.heap.size W w')) :=
          ⟨fun W g' hp hg => (varint_All.calls K (some ⟨g', 0, none⟩) 7 [q, s, st, en, v, o, (l.length : Int)] s1 W (lit_C (t := 3) [q, s, st, en, v, o, (l.length : Int)] hg.out (show 7 ≤ 100 by decide)) (Nat.le_refl _) h1).mono fun e w' hh => ⟨hh.1, ⟨hp.out.step hh.2⟩, ⟨hh.2⟩⟩⟩
        clear ho h1 h2 HR HC
        have hz1 : s1.size + s2.size ≤ 9223372036854775807 := by omega
        have hz2 : s0.size + (s1.size + s2.size) ≤ 9223372036854775807 := by omega
        have hz1b : decide (s1.size + s2.size ≤ 9223372036854775807) = true := decide_eq_true hz1
        have hz2b : decide (s0.size + (s1.size + s2.size) ≤ 9223372036854775807) = true := decide_eq_true hz2
        have hz1c : (9223372036854775807 < s1.size + s2.size) = False := eq_false (Nat.not_lt.2 hz1)
        have hz2c : (9223372036854775807 < s0.size + (s1.size + s2.size)) = False := eq_false (Nat.not_lt.2 hz2)
        clear hz
        go_upto_region 7 with (fail)
        go_region_held3 (fun w' => w'.cell? ⟨w.heap.size, 1, none⟩ = some (.int .i64 q) ∧ w'.cell? ⟨w.heap.size, 2, none⟩ = some (.int .i64 s) ∧ w'.cell? ⟨w.heap.size, 3, none⟩ = some (.int .i64 st) ∧ w'.cell? ⟨w.heap.size, 4, none⟩ = some (.int .i64 en) ∧ w'.cell? ⟨w.heap.size, 5, none⟩ = some (.int .i64 v) ∧ w'.cell? ⟨w.heap.size, 6, none⟩ = some (.bool ov) ∧ w'.cell? ⟨w.heap.size, 7, none⟩ = some (.slice A l.length c) ∧ Aside0 (record_Put.P w w' w.heap.size 0 q s st en v ov A c l se ti sq by_))
          (first | exact MS.out _ HP | exact MS.out _ ⟨P2.out.step (below_drew1 (Below.refl _ _))⟩ | (go_split_ands; exact MS.out _ ⟨(by assumption : Aside0 (record_Put.P w _ w.heap.size 0 q s st en v ov A c l se ti sq by_)).out.step (below_alloc (Below.refl _ _) _)⟩))
          (first
            | (go_at_call 18; refine (COV.out _ (by go_split_ands; assumption)).mono ?_; rintro e w3 ⟨rfl, HP, HBB⟩)
            | (go_at_call 17; (with_reducible refine (CH.out _ (by go_split_ands; assumption)).mono ?_); rintro e w3 ⟨rfl, HP, HBB⟩; (try (have HLIT := Aside0.mk (blk_below (blk_new _ _) HBB.out))))
            | (go_at_call 17; refine (CL.out _ _ (by go_split_ands; assumption) (by first | exact ⟨blk_new _ _⟩ | exact HLIT)).mono ?_; rintro e w3 ⟨rfl, HP, HBB⟩))
        all_goals
          go_wp2_with fail
          go_ret2
          exact ⟨by first | rfl | (simp; done), HP.out.b⟩
      · rw [if_neg hz] at h; cases h
    · have f0 : (k == 0) = false := beq_eq_false_iff_ne.2 k0
      by_cases k1 : k = 1
      · subst k1
        have h := H.out
        unfold record_Put.tail at h
        rw [if_neg (by decide), if_pos (by decide)] at h
        obtain ⟨s1, h1, h⟩ := Option.bind_eq_some_iff.mp h
        by_cases hz : s0.size + s1.size ≤ 4611686018427387904
        · rw [if_pos hz] at h
          obtain ⟨rfl, rfl⟩ : s0 ++ s1 = r1 ∧ 0 = r2 := by simpa only [Option.some.injEq, Prod.mk.injEq] using h
          clear h H
          have hz2 : s0.size + s1.size ≤ 9223372036854775807 := by omega
          have CL : Aside0 (∀ (W : World) (g' : Nat), Aside0 (W.heap[g']? = some (.cells #[.int .i64 se, .int .i64 ti, .int .i64 sq] 3 (0, 0))) → Calls Try.prog 17 #[.slice (some ⟨g', 0, none⟩) 3 3] W fun e w' => e = .returned (.string s1) ∧ Aside0 (Below W.heap.size W w')) :=
            ⟨fun W g' hg => (varint_All.calls K (some ⟨g', 0, none⟩) 3 [se, ti, sq] s1 W (lit_C (t := 3) [se, ti, sq] hg.out (show 3 ≤ 100 by decide)) (Nat.le_refl _) h1).mono fun e w' hh => ⟨hh.1, ⟨hh.2⟩⟩⟩
          clear h1 hz
          have x8 := blk_cell (show w2.heap[w.heap.size]? = _ from P2.out.o) 8
          have x9 := blk_cell (show w2.heap[w.heap.size]? = _ from P2.out.o) 9
          have x10 := blk_cell (show w2.heap[w.heap.size]? = _ from P2.out.o) 10
          simp at x8 x9 x10
          have f1 : (1 == 0) = false := rfl
          go_wp2_with (go_at_call 17; refine (CL.out _ _ ⟨blk_new _ _⟩).mono ?_; rintro e w3 ⟨rfl, HBB⟩)
          go_ret2
          exact ⟨by first | rfl | (simp; done), below_step (below_alloc P2.out.b _) HBB.out⟩
        · rw [if_neg hz] at h; cases h
      · have f1 : (k == 1) = false := beq_eq_false_iff_ne.2 k1
        by_cases k2 : k = 2
        · subst k2
          have h := H.out
          unfold record_Put.tail at h
          rw [if_neg (by decide), if_pos (by decide)] at h
          obtain ⟨s1, h1, h⟩ := Option.bind_eq_some_iff.mp h
          by_cases hz : s0.size + s1.size ≤ 4611686018427387904
          · rw [if_pos hz] at h
            obtain ⟨rfl, rfl⟩ : s0 ++ s1 = r1 ∧ 0 = r2 := by simpa only [Option.some.injEq, Prod.mk.injEq] using h
            clear h H
            have hz2 : s0.size + s1.size ≤ 9223372036854775807 := by omega
            have CL : Aside0 (∀ (W : World) (g' : Nat), Aside0 (W.heap[g']? = some (.cells #[.int .i64 se, .int .i64 ti, .int .i64 sq] 3 (0, 0))) → Calls Try.prog 17 #[.slice (some ⟨g', 0, none⟩) 3 3] W fun e w' => e = .returned (.string s1) ∧ Aside0 (Below W.heap.size W w')) :=
              ⟨fun W g' hg => (varint_All.calls K (some ⟨g', 0, none⟩) 3 [se, ti, sq] s1 W (lit_C (t := 3) [se, ti, sq] hg.out (show 3 ≤ 100 by decide)) (Nat.le_refl _) h1).mono fun e w' hh => ⟨hh.1, ⟨hh.2⟩⟩⟩
            clear h1 hz
            have x8 := blk_cell (show w2.heap[w.heap.size]? = _ from P2.out.o) 8
            have x9 := blk_cell (show w2.heap[w.heap.size]? = _ from P2.out.o) 9
            have x10 := blk_cell (show w2.heap[w.heap.size]? = _ from P2.out.o) 10
            simp at x8 x9 x10
            have f2 : (2 == 0) = false := rfl
            go_wp2_with (go_at_call 17; refine (CL.out _ _ ⟨blk_new _ _⟩).mono ?_; rintro e w3 ⟨rfl, HBB⟩)
            go_ret2
            exact ⟨by first | rfl | (simp; done), below_step (below_alloc P2.out.b _) HBB.out⟩
          · rw [if_neg hz] at h; cases h
        · have f2 : (k == 2) = false := beq_eq_false_iff_ne.2 k2
          by_cases k3 : k = 3
          · subst k3
            have h := H.out
            unfold record_Put.tail at h
            rw [if_neg (by decide), if_pos (by decide)] at h
            obtain ⟨s1, h1, h⟩ := Option.bind_eq_some_iff.mp h
            by_cases hz : s0.size + s1.size ≤ 4611686018427387904
            · rw [if_pos hz] at h
              obtain ⟨rfl, rfl⟩ : s0 ++ s1 = r1 ∧ 0 = r2 := by simpa only [Option.some.injEq, Prod.mk.injEq] using h
              clear h H
              have hz2 : s0.size + s1.size ≤ 9223372036854775807 := by omega
              have CL : Aside0 (∀ (W : World) (g' : Nat), Aside0 (W.heap[g']? = some (.cells #[.int .i64 se, .int .i64 ti, .int .i64 sq] 3 (0, 0))) → Calls Try.prog 17 #[.slice (some ⟨g', 0, none⟩) 3 3] W fun e w' => e = .returned (.string s1) ∧ Aside0 (Below W.heap.size W w')) :=
                ⟨fun W g' hg => (varint_All.calls K (some ⟨g', 0, none⟩) 3 [se, ti, sq] s1 W (lit_C (t := 3) [se, ti, sq] hg.out (show 3 ≤ 100 by decide)) (Nat.le_refl _) h1).mono fun e w' hh => ⟨hh.1, ⟨hh.2⟩⟩⟩
              clear h1 hz
              have x8 := blk_cell (show w2.heap[w.heap.size]? = _ from P2.out.o) 8
              have x9 := blk_cell (show w2.heap[w.heap.size]? = _ from P2.out.o) 9
              have x10 := blk_cell (show w2.heap[w.heap.size]? = _ from P2.out.o) 10
              simp at x8 x9 x10
              have f3 : (3 == 0) = false := rfl
              go_wp2_with (go_at_call 17; refine (CL.out _ _ ⟨blk_new _ _⟩).mono ?_; rintro e w3 ⟨rfl, HBB⟩)
              go_ret2
              exact ⟨by first | rfl | (simp; done), below_step (below_alloc P2.out.b _) HBB.out⟩
            · rw [if_neg hz] at h; cases h
          · have f3 : (k == 3) = false := beq_eq_false_iff_ne.2 k3
            by_cases k5 : k = 5
            · subst k5
              have h := H.out
              unfold record_Put.tail at h
              rw [if_neg (by decide), if_neg (by decide), if_pos rfl] at h
              obtain ⟨s1, h1, h⟩ := Option.bind_eq_some_iff.mp h
              have S1 := Aside0.mk h1
              clear h1
              by_cases hz : s0.size + s1.size ≤ 4611686018427387904
              · rw [if_pos hz] at h
                obtain ⟨rfl, rfl⟩ : s0 ++ s1 = r1 ∧ 0 = r2 := by simpa only [Option.some.injEq, Prod.mk.injEq] using h
                clear h H
                have hz2 : s0.size + s1.size ≤ 9223372036854775807 := by omega
                clear hz
                have x11 := blk_cell (show w2.heap[w.heap.size]? = _ from P2.out.o) 11
                simp at x11
                go_wp2_with (go_at_call 16; refine (varint_Put.calls K by_ s1 _ S1.out).mono ?_; rintro e w3 ⟨rfl, hb⟩; have HBB := Aside0.mk (below_step P2.out.b hb); clear hb)
                go_ret2
                exact ⟨by first | rfl | (simp; done), HBB.out⟩
              · rw [if_neg hz] at h; cases h
            · have f5 : (k == 5) = false := beq_eq_false_iff_ne.2 k5
              have h := H.out
              unfold record_Put.tail at h
              rw [if_neg k0, if_neg (by omega), if_neg k5] at h
              obtain ⟨rfl, rfl⟩ : s0 = r1 ∧ 0 = r2 := by simpa only [Option.some.injEq, Prod.mk.injEq] using h
              clear h H
              go_wp2_with fail
              go_ret2
              exact ⟨rfl, P2.out.b⟩

/-! ### bourneref1_within: function 38 -/
def bourneref1_within.f (a0 : Int) (a1 : Int) : Option (Bool) := if a0 ≥ (wrap64 (-a1)) then (some (decide (a0 ≤ a1))) else (some false)
set_option maxHeartbeats 8000000 in
set_option maxRecDepth 100000 in
theorem bourneref1_within.calls (a0 : Int) (a1 : Int) (r : Bool) (w : World) (h : bourneref1_within.f a0 a1 = some r) :
    Calls Try.prog 38 #[.int .i64 a0, .int .i64 a1] w fun e w' => e = .returned (.bool r) ∧ Drawn0 w w' := by
  have H : (if a0 ≥ (wrap64 (-a1)) then (some (decide (a0 ≤ a1))) else (some false)) = some r := h
  clear h
  by_cases c3 : a0 ≥ (wrap64 (-a1))
  · rw [if_pos c3] at H
    have c3b0 : decide ((wrap64 (-a1)) ≤ a0) = true := decide_eq_true c3
    clear c3
    obtain rfl := Option.some.inj H
    go_enter Try.func38, Try.ntmps38
    go_wp2
    go_ret
    exact ⟨by first | rfl | (simp; done) | (simp [*]; done), by repeat (first | exact Drawn0.refl _ | apply Drawn0.step)⟩
  · rw [if_neg c3] at H
    have c3b0 : decide ((wrap64 (-a1)) ≤ a0) = false := decide_eq_false c3
    clear c3
    obtain rfl := Option.some.inj H
    go_enter Try.func38, Try.ntmps38
    go_wp2
    go_ret
    exact ⟨by first | rfl | (simp; done) | (simp [*]; done), by repeat (first | exact Drawn0.refl _ | apply Drawn0.step)⟩

end Go.Proofs.Ytikfpihapdabfaa.QRecords
