/- The walk of the law RecordBack, from what its callees answer. No condition beyond those. -/
import Derived.Test.YtikfpihapdabfaaRecAwake
namespace Go.Proofs.Ytikfpihapdabfaa.RecordBackW
open Go.RowKit Go.Proofs.Ytikfpihapdabfaa.QRecordBack Go.Proofs.Ytikfpihapdabfaa.RecPure Go.Proofs.Ytikfpihapdabfaa.RecAwake Go.Proofs.YtikfpihapdabfaaW.PrintWords Go.Proofs.YtikfpihapdabfaaW.PrintLast Go.Proofs.YtikfpihapdabfaaW.PrintMore
set_option linter.unusedVariables false
set_option linter.unusedSimpArgs false


def T4 : Bool × List (List Nat × List Nat) := (true, [([], []), ([0], [0]), ([1], [1]), ([], []), ([3, 1], [3]), ([2, 4], [2, 4]), ([5, 4], [5]), ([6], [6]), ([7, 6, 6], [6, 7]), ([8, 6], [6, 8]), ([9, 8, 6], [6, 9]), ([10], [10]), ([11, 10], [10, 11]), ([12, 10, 10], [10, 12]), ([13], [13]), ([14, 13], [13, 14]), ([15, 13], [13, 15]), ([13, 16, 10], [10, 13, 16]), ([10, 17, 6], [6, 10, 17]), ([6, 18], [6, 18])])
def B4 : List Nat := [0, 1, 3, 0, 11, 31, 63, 127, 255, 511, 1023, 2047, 4095, 8191, 16383, 32767, 65535, 131071, 262143, 524287]
theorem tab4 : rtab .any (opsOf Try.f4 4) = T4 := by kernel_rfl
theorem bits4 : waitsOk T4.2 B4 = true := by kernel_rfl
/-- The record's box, its row, and what lies below. -/
structure J (w0 W : World) (g : Nat) (k q s st en v : Int) (ov : Bool) (A : Option Addr) (c : Nat) (l : List Int) (se ti sq by_ : Int) : Prop where
  b : RB W g k q s st en v ov A c l se ti sq by_
  lo : Below w0.heap.size w0 W
theorem J.step {w0 W W' : World} {g : Nat} {k q s st en v : Int} {ov : Bool} {A : Option Addr} {c : Nat} {l : List Int} {se ti sq by_ : Int} (h : J w0 W g k q s st en v ov A c l se ti sq by_) (hb : Below W.heap.size W W') : J w0 W' g k q s st en v ov A c l se ti sq by_ := ⟨h.b.step hb, below_step h.lo hb⟩
set_option maxHeartbeats 8000000 in
set_option maxRecDepth 100000 in
theorem back_ok_rd (K : Nat) (k q s st en v : Int) (ov : Bool) (A : Option Addr) (c : Nat) (l : List Int) (se ti sq by_ : Int) (t : ByteArray) (cut : Int) (w : World) (hr : Kd.C (Kd.int .i64) w A l.length l) (hc : l.length ≤ c) (hl : l.length < 9000000000000000000)
    (AW : Aside0 (∀ w : World, Calls Try.prog 15 #[] w fun e w' => e = .returned (.bool true) ∧ Below w.heap.size w w'))
    (a : ByteArray) (C : Nat)
    (A1 : Aside0 (record_Put.f K k q s st en v ov l se ti sq by_ = some (a, 0)))
    (M1 : Aside0 (record_May.f k q s st en v ov l se ti sq by_ = some true))
    (A2 : Aside0 (record_Get.f K a = some (⟨k, q, s, st, en, v, ov, l, se, ti, sq, by_⟩, 0)))
    (A3 : Aside0 (record_Get.f K (a.extract 0 C) = some (⟨0, 0, 0, 0, 0, 0, false, [], 0, 0, 0, 0⟩, 1000)))
    (hs1 : (a.toList == ([] : List UInt8)) = false) (hs2 : decide (60 < (a.size : Int)) = false) (hfa : 1 ≤ (a.size : Int)) (hfb : (a.size : Int) ≤ 60) (hs4 : ((a.size : Int) == 0) = false) (hs6 : ¬ (a.size : Int) = 0) (hC : wrap64 (Int.tmod (IntKind.u64.wrap cut) (a.size : Int)) = (C : Int)) (hC1 : (C : Int) ≤ (a.size : Int)) (hC0 : 0 ≤ (C : Int))
    (k2 q2 s2 st2 en2 v2 : Int) (ov2 : Bool) (l2 : List Int) (se2 ti2 sq2 by2 : Int)
    (T1 : Aside0 (record_Get.f K t = some (⟨k2, q2, s2, st2, en2, v2, ov2, l2, se2, ti2, sq2, by2⟩, 0)))
    (T2 : Aside0 (record_Put.f K k2 q2 s2 st2 en2 v2 ov2 l2 se2 ti2 sq2 by2 = some (t, 0))) :
    Calls Try.prog 4 #[.agg #[.int .i64 k, .int .i64 q, .int .i64 s, .int .i64 st, .int .i64 en, .int .i64 v, .bool ov, .slice A l.length c, .int .i64 se, .int .i64 ti, .int .i64 sq, .int .i64 by_], .string t, .int .i64 cut] w fun e w' => e = .returned (.bool true) ∧ Below w.heap.size w w' := by
  have HB := Aside0.mk (Below.refl w.heap.size w)
  have HR := Aside0.mk hr
  have HC := Aside0.mk hc
  have HL := Aside0.mk hl
  clear hr hc hl
  go_enter Try.func4, Try.ntmps4
  go_upto_region 1 with (fail)
  have J1 : Aside0 (J w (w.alloc (.cells #[.int .i64 k, .int .i64 q, .int .i64 s, .int .i64 st, .int .i64 en, .int .i64 v, .bool ov, .slice A l.length c, .int .i64 se, .int .i64 ti, .int .i64 sq, .int .i64 by_] 30 (0, 0))) w.heap.size k q s st en v ov A c l se ti sq by_) := ⟨⟨RB.new HR.out, below_alloc HB.out _⟩⟩
  generalize w.alloc _ = W1 at *
  generalize hg : w.heap.size = g at J1 ⊢
  have hgg := Aside0.mk hg
  clear hg HB HR
  go_wp2_with fail
  refine (AW.out _).mono ?_
  rintro e w2 ⟨rfl, hb⟩
  have J2 := Aside0.mk (J1.out.step hb)
  clear hb J1
  have x0 := blk_cell (show w2.heap[g]? = _ from J2.out.b.o) 0; simp at x0; have x1 := blk_cell (show w2.heap[g]? = _ from J2.out.b.o) 1; simp at x1; have x2 := blk_cell (show w2.heap[g]? = _ from J2.out.b.o) 2; simp at x2; have x3 := blk_cell (show w2.heap[g]? = _ from J2.out.b.o) 3; simp at x3; have x4 := blk_cell (show w2.heap[g]? = _ from J2.out.b.o) 4; simp at x4; have x5 := blk_cell (show w2.heap[g]? = _ from J2.out.b.o) 5; simp at x5; have x6 := blk_cell (show w2.heap[g]? = _ from J2.out.b.o) 6; simp at x6; have x7 := blk_cell (show w2.heap[g]? = _ from J2.out.b.o) 7; simp at x7; have x8 := blk_cell (show w2.heap[g]? = _ from J2.out.b.o) 8; simp at x8; have x9 := blk_cell (show w2.heap[g]? = _ from J2.out.b.o) 9; simp at x9; have x10 := blk_cell (show w2.heap[g]? = _ from J2.out.b.o) 10; simp at x10; have x11 := blk_cell (show w2.heap[g]? = _ from J2.out.b.o) 11; simp at x11
  go_wp2_with fail
  refine (record_Put.calls K k q s st en v ov A c l se ti sq by_ a 0 _ J2.out.b.r HC.out A1.out).mono ?_
  rintro e w3 ⟨rfl, hb⟩
  have HP := Aside0.mk (J2.out.step hb)
  clear x0 x1 x2 x3 x4 x5 x6 x7 x8 x9 x10 x11
  clear hb J2
  have MS : Aside0 (∀ W : World, Aside0 (J w W g k q s st en v ov A c l se ti sq by_) → W.cell? ⟨g, 0, none⟩ = some (.int .i64 k) ∧ W.cell? ⟨g, 1, none⟩ = some (.int .i64 q) ∧ W.cell? ⟨g, 2, none⟩ = some (.int .i64 s) ∧ W.cell? ⟨g, 3, none⟩ = some (.int .i64 st) ∧ W.cell? ⟨g, 4, none⟩ = some (.int .i64 en) ∧ W.cell? ⟨g, 5, none⟩ = some (.int .i64 v) ∧ W.cell? ⟨g, 6, none⟩ = some (.bool ov) ∧ W.cell? ⟨g, 7, none⟩ = some (.slice A l.length c) ∧ W.cell? ⟨g, 8, none⟩ = some (.int .i64 se) ∧ W.cell? ⟨g, 9, none⟩ = some (.int .i64 ti) ∧ W.cell? ⟨g, 10, none⟩ = some (.int .i64 sq) ∧ W.cell? ⟨g, 11, none⟩ = some (.int .i64 by_) ∧ Aside0 (J w W g k q s st en v ov A c l se ti sq by_)) := ⟨fun W hp => ⟨by have z := blk_cell (show W.heap[g]? = _ from hp.out.b.o) 0; simpa using z, by have z := blk_cell (show W.heap[g]? = _ from hp.out.b.o) 1; simpa using z, by have z := blk_cell (show W.heap[g]? = _ from hp.out.b.o) 2; simpa using z, by have z := blk_cell (show W.heap[g]? = _ from hp.out.b.o) 3; simpa using z, by have z := blk_cell (show W.heap[g]? = _ from hp.out.b.o) 4; simpa using z, by have z := blk_cell (show W.heap[g]? = _ from hp.out.b.o) 5; simpa using z, by have z := blk_cell (show W.heap[g]? = _ from hp.out.b.o) 6; simpa using z, by have z := blk_cell (show W.heap[g]? = _ from hp.out.b.o) 7; simpa using z, by have z := blk_cell (show W.heap[g]? = _ from hp.out.b.o) 8; simpa using z, by have z := blk_cell (show W.heap[g]? = _ from hp.out.b.o) 9; simpa using z, by have z := blk_cell (show W.heap[g]? = _ from hp.out.b.o) 10; simpa using z, by have z := blk_cell (show W.heap[g]? = _ from hp.out.b.o) 11; simpa using z, hp⟩⟩
  have CM : Aside0 (∀ W : World, Aside0 (J w W g k q s st en v ov A c l se ti sq by_) → Calls Try.prog 13 #[.agg #[.int .i64 k, .int .i64 q, .int .i64 s, .int .i64 st, .int .i64 en, .int .i64 v, .bool ov, .slice A l.length c, .int .i64 se, .int .i64 ti, .int .i64 sq, .int .i64 by_]] W fun e w' => e = .returned (.bool true) ∧ Aside0 (J w w' g k q s st en v ov A c l se ti sq by_)) :=
    ⟨fun W hp => (record_May.calls k q s st en v ov A c l se ti sq by_ true W hp.out.b.r HC.out M1.out).mono fun e w' hh => ⟨hh.1, ⟨hp.out.step hh.2⟩⟩⟩
  have e10 : ((1000 : Int) == 0) = false := rfl
  go_upto_region 4 with (fail)
  go_cut [43] (fun v43 wc => v43 = .bool false ∧ Aside0 (J w wc g k q s st en v ov A c l se ti sq by_))
  case first =>
    go_region_held3 (fun w' => w'.cell? ⟨g, 0, none⟩ = some (.int .i64 k) ∧ w'.cell? ⟨g, 1, none⟩ = some (.int .i64 q) ∧ w'.cell? ⟨g, 2, none⟩ = some (.int .i64 s) ∧ w'.cell? ⟨g, 3, none⟩ = some (.int .i64 st) ∧ w'.cell? ⟨g, 4, none⟩ = some (.int .i64 en) ∧ w'.cell? ⟨g, 5, none⟩ = some (.int .i64 v) ∧ w'.cell? ⟨g, 6, none⟩ = some (.bool ov) ∧ w'.cell? ⟨g, 7, none⟩ = some (.slice A l.length c) ∧ w'.cell? ⟨g, 8, none⟩ = some (.int .i64 se) ∧ w'.cell? ⟨g, 9, none⟩ = some (.int .i64 ti) ∧ w'.cell? ⟨g, 10, none⟩ = some (.int .i64 sq) ∧ w'.cell? ⟨g, 11, none⟩ = some (.int .i64 by_) ∧ Aside0 (J w w' g k q s st en v ov A c l se ti sq by_))
      (first | exact MS.out _ HP | exact MS.out _ ⟨HP.out.step (below_drew1 (Below.refl _ _))⟩)
      (first
        | (go_at_call 10; (with_reducible refine (num_calls 0 _).mono ?_); rintro e w5 ⟨rfl, rfl⟩)
        | (go_at_call 13; refine (CM.out _ (by go_split_ands; assumption)).mono ?_; rintro e w5 ⟨rfl, HP⟩))
    all_goals
      go_wp2_with fail
      go_meet
      exact ⟨by first | rfl | (simp; done), HP⟩
  case rest =>
    obtain ⟨rfl, J4⟩ := hcut
    clear HP CM MS
    go_wp2_with (go_at_call 10; (with_reducible refine (num_calls 0 _).mono ?_); rintro e w5 ⟨rfl, rfl⟩)
    refine (get_ok K _ k q s st en v ov l se ti sq by_ 0 _ A2.out).mono ?_
    rintro e w5 ⟨Ab, cb, rfl, hcb, hC2, hb⟩
    have J5 := Aside0.mk (J4.out.step hb.out)
    have HCB := Aside0.mk hcb
    clear hb J4 hcb
    go_upto_region 8 with (fail)
    have G6 := Aside0.mk (RB.new (c := cb) (k := k) (q := q) (s := s) (st := st) (en := en) (v := v) (ov := ov) (se := se) (ti := ti) (sq := sq) (by_ := by_) hC2.out)
    have J6 := Aside0.mk (J5.out.step (below_alloc (Below.refl _ _) (.cells #[.int .i64 k, .int .i64 q, .int .i64 s, .int .i64 st, .int .i64 en, .int .i64 v, .bool ov, .slice Ab l.length cb, .int .i64 se, .int .i64 ti, .int .i64 sq, .int .i64 by_] 30 (0, 0))))
    generalize w5.heap.size = gb at *
    generalize w5.alloc _ = W6 at *
    clear hC2 J5
    go_wp2_with fail
    refine (get_ok K _ 0 0 0 0 0 0 false [] 0 0 0 0 1000 _ A3.out).mono ?_
    rintro e w7 ⟨Au, cu, rfl, hcu, hC3, hb⟩
    have G7 := Aside0.mk (G6.out.step hb.out)
    have J7 := Aside0.mk (J6.out.step hb.out)
    clear hb G6 J6 A3 hC3 hcu hC hC0 hC1 hs4 hs6
    go_upto_region 9 with (fail)
    have G8 := Aside0.mk (G7.out.step (below_alloc (Below.refl _ _) (.cells #[.int .i64 0, .int .i64 0, .int .i64 0, .int .i64 0, .int .i64 0, .int .i64 0, .bool false, .slice Au 0 cu, .int .i64 0, .int .i64 0, .int .i64 0, .int .i64 0] 30 (0, 0))))
    have J8 := Aside0.mk (J7.out.step (below_alloc (Below.refl _ _) (.cells #[.int .i64 0, .int .i64 0, .int .i64 0, .int .i64 0, .int .i64 0, .int .i64 0, .bool false, .slice Au 0 cu, .int .i64 0, .int .i64 0, .int .i64 0, .int .i64 0] 30 (0, 0))))
    generalize w7.heap.size = gu at *
    generalize w7.alloc _ = W8 at *
    clear G7 J7
    have x0 := blk_cell (show W8.heap[g]? = _ from J8.out.b.o) 0; simp at x0; have x1 := blk_cell (show W8.heap[g]? = _ from J8.out.b.o) 1; simp at x1; have x2 := blk_cell (show W8.heap[g]? = _ from J8.out.b.o) 2; simp at x2; have x3 := blk_cell (show W8.heap[g]? = _ from J8.out.b.o) 3; simp at x3; have x4 := blk_cell (show W8.heap[g]? = _ from J8.out.b.o) 4; simp at x4; have x5 := blk_cell (show W8.heap[g]? = _ from J8.out.b.o) 5; simp at x5; have x6 := blk_cell (show W8.heap[g]? = _ from J8.out.b.o) 6; simp at x6; have x7 := blk_cell (show W8.heap[g]? = _ from J8.out.b.o) 7; simp at x7; have x8 := blk_cell (show W8.heap[g]? = _ from J8.out.b.o) 8; simp at x8; have x9 := blk_cell (show W8.heap[g]? = _ from J8.out.b.o) 9; simp at x9; have x10 := blk_cell (show W8.heap[g]? = _ from J8.out.b.o) 10; simp at x10; have x11 := blk_cell (show W8.heap[g]? = _ from J8.out.b.o) 11; simp at x11
    have y0 := blk_cell (show W8.heap[gb]? = _ from G8.out.o) 0; simp at y0; have y1 := blk_cell (show W8.heap[gb]? = _ from G8.out.o) 1; simp at y1; have y2 := blk_cell (show W8.heap[gb]? = _ from G8.out.o) 2; simp at y2; have y3 := blk_cell (show W8.heap[gb]? = _ from G8.out.o) 3; simp at y3; have y4 := blk_cell (show W8.heap[gb]? = _ from G8.out.o) 4; simp at y4; have y5 := blk_cell (show W8.heap[gb]? = _ from G8.out.o) 5; simp at y5; have y6 := blk_cell (show W8.heap[gb]? = _ from G8.out.o) 6; simp at y6; have y7 := blk_cell (show W8.heap[gb]? = _ from G8.out.o) 7; simp at y7; have y8 := blk_cell (show W8.heap[gb]? = _ from G8.out.o) 8; simp at y8; have y9 := blk_cell (show W8.heap[gb]? = _ from G8.out.o) 9; simp at y9; have y10 := blk_cell (show W8.heap[gb]? = _ from G8.out.o) 10; simp at y10; have y11 := blk_cell (show W8.heap[gb]? = _ from G8.out.o) 11; simp at y11
    have CS := Aside0.mk (same_rec k q s st en v ov l se ti sq by_ Ab A cb c W8 HL.out HCB.out HC.out G8.out.r J8.out.b.r)
    go_wp2_with (go_at_call 10; (with_reducible refine (num_calls 0 _).mono ?_); rintro e w5 ⟨rfl, rfl⟩)
    refine CS.out.mono ?_
    rintro e w9 ⟨rfl, hb⟩
    have J9 := Aside0.mk (J8.out.step hb)
    clear x0 x1 x2 x3 x4 x5 x6 x7 x8 x9 x10 x11
    clear y0 y1 y2 y3 y4 y5 y6 y7 y8 y9 y10 y11
    clear hb J8 G8 CS
    go_wp2_with (go_at_call 10; (with_reducible refine (num_calls 1000 _).mono ?_); rintro e w5 ⟨rfl, rfl⟩)
    refine (get_ok K _ k2 q2 s2 st2 en2 v2 ov2 l2 se2 ti2 sq2 by2 0 _ T1.out).mono ?_
    rintro e w10 ⟨Ac, cc, rfl, hcc, hC4, hb⟩
    have J10 := Aside0.mk (J9.out.step hb.out)
    have HCC := Aside0.mk hcc
    clear hb J9 hcc T1
    go_upto_region 12 with (fail)
    have G11 := Aside0.mk (RB.new (c := cc) (k := k2) (q := q2) (s := s2) (st := st2) (en := en2) (v := v2) (ov := ov2) (se := se2) (ti := ti2) (sq := sq2) (by_ := by2) hC4.out)
    have J11 := Aside0.mk (J10.out.step (below_alloc (Below.refl _ _) (.cells #[.int .i64 k2, .int .i64 q2, .int .i64 s2, .int .i64 st2, .int .i64 en2, .int .i64 v2, .bool ov2, .slice Ac l2.length cc, .int .i64 se2, .int .i64 ti2, .int .i64 sq2, .int .i64 by2] 30 (0, 0))))
    generalize w10.heap.size = gc at *
    generalize w10.alloc _ = W11 at *
    clear hC4 J10
    have z0 := blk_cell (show W11.heap[gc]? = _ from G11.out.o) 0; simp at z0; have z1 := blk_cell (show W11.heap[gc]? = _ from G11.out.o) 1; simp at z1; have z2 := blk_cell (show W11.heap[gc]? = _ from G11.out.o) 2; simp at z2; have z3 := blk_cell (show W11.heap[gc]? = _ from G11.out.o) 3; simp at z3; have z4 := blk_cell (show W11.heap[gc]? = _ from G11.out.o) 4; simp at z4; have z5 := blk_cell (show W11.heap[gc]? = _ from G11.out.o) 5; simp at z5; have z6 := blk_cell (show W11.heap[gc]? = _ from G11.out.o) 6; simp at z6; have z7 := blk_cell (show W11.heap[gc]? = _ from G11.out.o) 7; simp at z7; have z8 := blk_cell (show W11.heap[gc]? = _ from G11.out.o) 8; simp at z8; have z9 := blk_cell (show W11.heap[gc]? = _ from G11.out.o) 9; simp at z9; have z10 := blk_cell (show W11.heap[gc]? = _ from G11.out.o) 10; simp at z10; have z11 := blk_cell (show W11.heap[gc]? = _ from G11.out.o) 11; simp at z11
    go_wp2_with (go_at_call 10; (with_reducible refine (num_calls 0 _).mono ?_); rintro e w5 ⟨rfl, rfl⟩)
    refine (record_Put.calls K k2 q2 s2 st2 en2 v2 ov2 Ac cc l2 se2 ti2 sq2 by2 t 0 _ G11.out.r HCC.out T2.out).mono ?_
    rintro e w12 ⟨rfl, hb⟩
    have J12 := Aside0.mk (J11.out.step hb)
    clear z0 z1 z2 z3 z4 z5 z6 z7 z8 z9 z10 z11
    clear hb J11 G11
    go_wp2_with (go_at_call 10; (with_reducible refine (num_calls 0 _).mono ?_); rintro e w5 ⟨rfl, rfl⟩)
    go_ret
    exact ⟨by first | rfl | (simp; done), J12.out.lo⟩
set_option maxHeartbeats 8000000 in
set_option maxRecDepth 100000 in
theorem back_ok_un (K : Nat) (k q s st en v : Int) (ov : Bool) (A : Option Addr) (c : Nat) (l : List Int) (se ti sq by_ : Int) (t : ByteArray) (cut : Int) (w : World) (hr : Kd.C (Kd.int .i64) w A l.length l) (hc : l.length ≤ c) (hl : l.length < 9000000000000000000)
    (AW : Aside0 (∀ w : World, Calls Try.prog 15 #[] w fun e w' => e = .returned (.bool true) ∧ Below w.heap.size w w'))
    (a : ByteArray) (C : Nat)
    (A1 : Aside0 (record_Put.f K k q s st en v ov l se ti sq by_ = some (a, 0)))
    (M1 : Aside0 (record_May.f k q s st en v ov l se ti sq by_ = some true))
    (A2 : Aside0 (record_Get.f K a = some (⟨k, q, s, st, en, v, ov, l, se, ti, sq, by_⟩, 0)))
    (A3 : Aside0 (record_Get.f K (a.extract 0 C) = some (⟨0, 0, 0, 0, 0, 0, false, [], 0, 0, 0, 0⟩, 1000)))
    (hs1 : (a.toList == ([] : List UInt8)) = false) (hs2 : decide (60 < (a.size : Int)) = false) (hfa : 1 ≤ (a.size : Int)) (hfb : (a.size : Int) ≤ 60) (hs4 : ((a.size : Int) == 0) = false) (hs6 : ¬ (a.size : Int) = 0) (hC : wrap64 (Int.tmod (IntKind.u64.wrap cut) (a.size : Int)) = (C : Int)) (hC1 : (C : Int) ≤ (a.size : Int)) (hC0 : 0 ≤ (C : Int))
    (T1 : Aside0 (record_Get.f K t = some (⟨0, 0, 0, 0, 0, 0, false, [], 0, 0, 0, 0⟩, 1000))) :
    Calls Try.prog 4 #[.agg #[.int .i64 k, .int .i64 q, .int .i64 s, .int .i64 st, .int .i64 en, .int .i64 v, .bool ov, .slice A l.length c, .int .i64 se, .int .i64 ti, .int .i64 sq, .int .i64 by_], .string t, .int .i64 cut] w fun e w' => e = .returned (.bool true) ∧ Below w.heap.size w w' := by
  have HB := Aside0.mk (Below.refl w.heap.size w)
  have HR := Aside0.mk hr
  have HC := Aside0.mk hc
  have HL := Aside0.mk hl
  clear hr hc hl
  go_enter Try.func4, Try.ntmps4
  go_upto_region 1 with (fail)
  have J1 : Aside0 (J w (w.alloc (.cells #[.int .i64 k, .int .i64 q, .int .i64 s, .int .i64 st, .int .i64 en, .int .i64 v, .bool ov, .slice A l.length c, .int .i64 se, .int .i64 ti, .int .i64 sq, .int .i64 by_] 30 (0, 0))) w.heap.size k q s st en v ov A c l se ti sq by_) := ⟨⟨RB.new HR.out, below_alloc HB.out _⟩⟩
  generalize w.alloc _ = W1 at *
  generalize hg : w.heap.size = g at J1 ⊢
  have hgg := Aside0.mk hg
  clear hg HB HR
  go_wp2_with fail
  refine (AW.out _).mono ?_
  rintro e w2 ⟨rfl, hb⟩
  have J2 := Aside0.mk (J1.out.step hb)
  clear hb J1
  have x0 := blk_cell (show w2.heap[g]? = _ from J2.out.b.o) 0; simp at x0; have x1 := blk_cell (show w2.heap[g]? = _ from J2.out.b.o) 1; simp at x1; have x2 := blk_cell (show w2.heap[g]? = _ from J2.out.b.o) 2; simp at x2; have x3 := blk_cell (show w2.heap[g]? = _ from J2.out.b.o) 3; simp at x3; have x4 := blk_cell (show w2.heap[g]? = _ from J2.out.b.o) 4; simp at x4; have x5 := blk_cell (show w2.heap[g]? = _ from J2.out.b.o) 5; simp at x5; have x6 := blk_cell (show w2.heap[g]? = _ from J2.out.b.o) 6; simp at x6; have x7 := blk_cell (show w2.heap[g]? = _ from J2.out.b.o) 7; simp at x7; have x8 := blk_cell (show w2.heap[g]? = _ from J2.out.b.o) 8; simp at x8; have x9 := blk_cell (show w2.heap[g]? = _ from J2.out.b.o) 9; simp at x9; have x10 := blk_cell (show w2.heap[g]? = _ from J2.out.b.o) 10; simp at x10; have x11 := blk_cell (show w2.heap[g]? = _ from J2.out.b.o) 11; simp at x11
  go_wp2_with fail
  refine (record_Put.calls K k q s st en v ov A c l se ti sq by_ a 0 _ J2.out.b.r HC.out A1.out).mono ?_
  rintro e w3 ⟨rfl, hb⟩
  have HP := Aside0.mk (J2.out.step hb)
  clear x0 x1 x2 x3 x4 x5 x6 x7 x8 x9 x10 x11
  clear hb J2
  have MS : Aside0 (∀ W : World, Aside0 (J w W g k q s st en v ov A c l se ti sq by_) → W.cell? ⟨g, 0, none⟩ = some (.int .i64 k) ∧ W.cell? ⟨g, 1, none⟩ = some (.int .i64 q) ∧ W.cell? ⟨g, 2, none⟩ = some (.int .i64 s) ∧ W.cell? ⟨g, 3, none⟩ = some (.int .i64 st) ∧ W.cell? ⟨g, 4, none⟩ = some (.int .i64 en) ∧ W.cell? ⟨g, 5, none⟩ = some (.int .i64 v) ∧ W.cell? ⟨g, 6, none⟩ = some (.bool ov) ∧ W.cell? ⟨g, 7, none⟩ = some (.slice A l.length c) ∧ W.cell? ⟨g, 8, none⟩ = some (.int .i64 se) ∧ W.cell? ⟨g, 9, none⟩ = some (.int .i64 ti) ∧ W.cell? ⟨g, 10, none⟩ = some (.int .i64 sq) ∧ W.cell? ⟨g, 11, none⟩ = some (.int .i64 by_) ∧ Aside0 (J w W g k q s st en v ov A c l se ti sq by_)) := ⟨fun W hp => ⟨by have z := blk_cell (show W.heap[g]? = _ from hp.out.b.o) 0; simpa using z, by have z := blk_cell (show W.heap[g]? = _ from hp.out.b.o) 1; simpa using z, by have z := blk_cell (show W.heap[g]? = _ from hp.out.b.o) 2; simpa using z, by have z := blk_cell (show W.heap[g]? = _ from hp.out.b.o) 3; simpa using z, by have z := blk_cell (show W.heap[g]? = _ from hp.out.b.o) 4; simpa using z, by have z := blk_cell (show W.heap[g]? = _ from hp.out.b.o) 5; simpa using z, by have z := blk_cell (show W.heap[g]? = _ from hp.out.b.o) 6; simpa using z, by have z := blk_cell (show W.heap[g]? = _ from hp.out.b.o) 7; simpa using z, by have z := blk_cell (show W.heap[g]? = _ from hp.out.b.o) 8; simpa using z, by have z := blk_cell (show W.heap[g]? = _ from hp.out.b.o) 9; simpa using z, by have z := blk_cell (show W.heap[g]? = _ from hp.out.b.o) 10; simpa using z, by have z := blk_cell (show W.heap[g]? = _ from hp.out.b.o) 11; simpa using z, hp⟩⟩
  have CM : Aside0 (∀ W : World, Aside0 (J w W g k q s st en v ov A c l se ti sq by_) → Calls Try.prog 13 #[.agg #[.int .i64 k, .int .i64 q, .int .i64 s, .int .i64 st, .int .i64 en, .int .i64 v, .bool ov, .slice A l.length c, .int .i64 se, .int .i64 ti, .int .i64 sq, .int .i64 by_]] W fun e w' => e = .returned (.bool true) ∧ Aside0 (J w w' g k q s st en v ov A c l se ti sq by_)) :=
    ⟨fun W hp => (record_May.calls k q s st en v ov A c l se ti sq by_ true W hp.out.b.r HC.out M1.out).mono fun e w' hh => ⟨hh.1, ⟨hp.out.step hh.2⟩⟩⟩
  have e10 : ((1000 : Int) == 0) = false := rfl
  go_upto_region 4 with (fail)
  go_cut [43] (fun v43 wc => v43 = .bool false ∧ Aside0 (J w wc g k q s st en v ov A c l se ti sq by_))
  case first =>
    go_region_held3 (fun w' => w'.cell? ⟨g, 0, none⟩ = some (.int .i64 k) ∧ w'.cell? ⟨g, 1, none⟩ = some (.int .i64 q) ∧ w'.cell? ⟨g, 2, none⟩ = some (.int .i64 s) ∧ w'.cell? ⟨g, 3, none⟩ = some (.int .i64 st) ∧ w'.cell? ⟨g, 4, none⟩ = some (.int .i64 en) ∧ w'.cell? ⟨g, 5, none⟩ = some (.int .i64 v) ∧ w'.cell? ⟨g, 6, none⟩ = some (.bool ov) ∧ w'.cell? ⟨g, 7, none⟩ = some (.slice A l.length c) ∧ w'.cell? ⟨g, 8, none⟩ = some (.int .i64 se) ∧ w'.cell? ⟨g, 9, none⟩ = some (.int .i64 ti) ∧ w'.cell? ⟨g, 10, none⟩ = some (.int .i64 sq) ∧ w'.cell? ⟨g, 11, none⟩ = some (.int .i64 by_) ∧ Aside0 (J w w' g k q s st en v ov A c l se ti sq by_))
      (first | exact MS.out _ HP | exact MS.out _ ⟨HP.out.step (below_drew1 (Below.refl _ _))⟩)
      (first
        | (go_at_call 10; (with_reducible refine (num_calls 0 _).mono ?_); rintro e w5 ⟨rfl, rfl⟩)
        | (go_at_call 13; refine (CM.out _ (by go_split_ands; assumption)).mono ?_; rintro e w5 ⟨rfl, HP⟩))
    all_goals
      go_wp2_with fail
      go_meet
      exact ⟨by first | rfl | (simp; done), HP⟩
  case rest =>
    obtain ⟨rfl, J4⟩ := hcut
    clear HP CM MS
    go_wp2_with (go_at_call 10; (with_reducible refine (num_calls 0 _).mono ?_); rintro e w5 ⟨rfl, rfl⟩)
    refine (get_ok K _ k q s st en v ov l se ti sq by_ 0 _ A2.out).mono ?_
    rintro e w5 ⟨Ab, cb, rfl, hcb, hC2, hb⟩
    have J5 := Aside0.mk (J4.out.step hb.out)
    have HCB := Aside0.mk hcb
    clear hb J4 hcb
    go_upto_region 8 with (fail)
    have G6 := Aside0.mk (RB.new (c := cb) (k := k) (q := q) (s := s) (st := st) (en := en) (v := v) (ov := ov) (se := se) (ti := ti) (sq := sq) (by_ := by_) hC2.out)
    have J6 := Aside0.mk (J5.out.step (below_alloc (Below.refl _ _) (.cells #[.int .i64 k, .int .i64 q, .int .i64 s, .int .i64 st, .int .i64 en, .int .i64 v, .bool ov, .slice Ab l.length cb, .int .i64 se, .int .i64 ti, .int .i64 sq, .int .i64 by_] 30 (0, 0))))
    generalize w5.heap.size = gb at *
    generalize w5.alloc _ = W6 at *
    clear hC2 J5
    go_wp2_with fail
    refine (get_ok K _ 0 0 0 0 0 0 false [] 0 0 0 0 1000 _ A3.out).mono ?_
    rintro e w7 ⟨Au, cu, rfl, hcu, hC3, hb⟩
    have G7 := Aside0.mk (G6.out.step hb.out)
    have J7 := Aside0.mk (J6.out.step hb.out)
    clear hb G6 J6 A3 hC3 hcu hC hC0 hC1 hs4 hs6
    go_upto_region 9 with (fail)
    have G8 := Aside0.mk (G7.out.step (below_alloc (Below.refl _ _) (.cells #[.int .i64 0, .int .i64 0, .int .i64 0, .int .i64 0, .int .i64 0, .int .i64 0, .bool false, .slice Au 0 cu, .int .i64 0, .int .i64 0, .int .i64 0, .int .i64 0] 30 (0, 0))))
    have J8 := Aside0.mk (J7.out.step (below_alloc (Below.refl _ _) (.cells #[.int .i64 0, .int .i64 0, .int .i64 0, .int .i64 0, .int .i64 0, .int .i64 0, .bool false, .slice Au 0 cu, .int .i64 0, .int .i64 0, .int .i64 0, .int .i64 0] 30 (0, 0))))
    generalize w7.heap.size = gu at *
    generalize w7.alloc _ = W8 at *
    clear G7 J7
    have x0 := blk_cell (show W8.heap[g]? = _ from J8.out.b.o) 0; simp at x0; have x1 := blk_cell (show W8.heap[g]? = _ from J8.out.b.o) 1; simp at x1; have x2 := blk_cell (show W8.heap[g]? = _ from J8.out.b.o) 2; simp at x2; have x3 := blk_cell (show W8.heap[g]? = _ from J8.out.b.o) 3; simp at x3; have x4 := blk_cell (show W8.heap[g]? = _ from J8.out.b.o) 4; simp at x4; have x5 := blk_cell (show W8.heap[g]? = _ from J8.out.b.o) 5; simp at x5; have x6 := blk_cell (show W8.heap[g]? = _ from J8.out.b.o) 6; simp at x6; have x7 := blk_cell (show W8.heap[g]? = _ from J8.out.b.o) 7; simp at x7; have x8 := blk_cell (show W8.heap[g]? = _ from J8.out.b.o) 8; simp at x8; have x9 := blk_cell (show W8.heap[g]? = _ from J8.out.b.o) 9; simp at x9; have x10 := blk_cell (show W8.heap[g]? = _ from J8.out.b.o) 10; simp at x10; have x11 := blk_cell (show W8.heap[g]? = _ from J8.out.b.o) 11; simp at x11
    have y0 := blk_cell (show W8.heap[gb]? = _ from G8.out.o) 0; simp at y0; have y1 := blk_cell (show W8.heap[gb]? = _ from G8.out.o) 1; simp at y1; have y2 := blk_cell (show W8.heap[gb]? = _ from G8.out.o) 2; simp at y2; have y3 := blk_cell (show W8.heap[gb]? = _ from G8.out.o) 3; simp at y3; have y4 := blk_cell (show W8.heap[gb]? = _ from G8.out.o) 4; simp at y4; have y5 := blk_cell (show W8.heap[gb]? = _ from G8.out.o) 5; simp at y5; have y6 := blk_cell (show W8.heap[gb]? = _ from G8.out.o) 6; simp at y6; have y7 := blk_cell (show W8.heap[gb]? = _ from G8.out.o) 7; simp at y7; have y8 := blk_cell (show W8.heap[gb]? = _ from G8.out.o) 8; simp at y8; have y9 := blk_cell (show W8.heap[gb]? = _ from G8.out.o) 9; simp at y9; have y10 := blk_cell (show W8.heap[gb]? = _ from G8.out.o) 10; simp at y10; have y11 := blk_cell (show W8.heap[gb]? = _ from G8.out.o) 11; simp at y11
    have CS := Aside0.mk (same_rec k q s st en v ov l se ti sq by_ Ab A cb c W8 HL.out HCB.out HC.out G8.out.r J8.out.b.r)
    go_wp2_with (go_at_call 10; (with_reducible refine (num_calls 0 _).mono ?_); rintro e w5 ⟨rfl, rfl⟩)
    refine CS.out.mono ?_
    rintro e w9 ⟨rfl, hb⟩
    have J9 := Aside0.mk (J8.out.step hb)
    clear x0 x1 x2 x3 x4 x5 x6 x7 x8 x9 x10 x11
    clear y0 y1 y2 y3 y4 y5 y6 y7 y8 y9 y10 y11
    clear hb J8 G8 CS
    go_wp2_with (go_at_call 10; (with_reducible refine (num_calls 1000 _).mono ?_); rintro e w5 ⟨rfl, rfl⟩)
    refine (get_ok K _ 0 0 0 0 0 0 false [] 0 0 0 0 1000 _ T1.out).mono ?_
    rintro e w10 ⟨Ac, cc, rfl, hcc, hC4, hb⟩
    have J10 := Aside0.mk (J9.out.step hb.out)
    have HCC := Aside0.mk hcc
    clear hb J9 hcc T1
    go_upto_region 12 with (fail)
    have G11 := Aside0.mk (RB.new (c := cc) (k := 0) (q := 0) (s := 0) (st := 0) (en := 0) (v := 0) (ov := false) (se := 0) (ti := 0) (sq := 0) (by_ := 0) hC4.out)
    have J11 := Aside0.mk (J10.out.step (below_alloc (Below.refl _ _) (.cells #[.int .i64 0, .int .i64 0, .int .i64 0, .int .i64 0, .int .i64 0, .int .i64 0, .bool false, .slice Ac 0 cc, .int .i64 0, .int .i64 0, .int .i64 0, .int .i64 0] 30 (0, 0))))
    generalize w10.heap.size = gc at *
    generalize w10.alloc _ = W11 at *
    clear hC4 J10
    have z0 := blk_cell (show W11.heap[gc]? = _ from G11.out.o) 0; simp at z0; have z1 := blk_cell (show W11.heap[gc]? = _ from G11.out.o) 1; simp at z1; have z2 := blk_cell (show W11.heap[gc]? = _ from G11.out.o) 2; simp at z2; have z3 := blk_cell (show W11.heap[gc]? = _ from G11.out.o) 3; simp at z3; have z4 := blk_cell (show W11.heap[gc]? = _ from G11.out.o) 4; simp at z4; have z5 := blk_cell (show W11.heap[gc]? = _ from G11.out.o) 5; simp at z5; have z6 := blk_cell (show W11.heap[gc]? = _ from G11.out.o) 6; simp at z6; have z7 := blk_cell (show W11.heap[gc]? = _ from G11.out.o) 7; simp at z7; have z8 := blk_cell (show W11.heap[gc]? = _ from G11.out.o) 8; simp at z8; have z9 := blk_cell (show W11.heap[gc]? = _ from G11.out.o) 9; simp at z9; have z10 := blk_cell (show W11.heap[gc]? = _ from G11.out.o) 10; simp at z10; have z11 := blk_cell (show W11.heap[gc]? = _ from G11.out.o) 11; simp at z11
    go_wp2_with (go_at_call 10; (with_reducible refine (num_calls 1000 _).mono ?_); rintro e w5 ⟨rfl, rfl⟩)
    refine (same_rec 0 0 0 0 0 0 false [] 0 0 0 0 Ac none cc 0 _ (by decide) (Nat.zero_le _) (Nat.le_refl _) G11.out.r (Kd.C_nil _ _)).mono ?_
    rintro e w12 ⟨rfl, hb⟩
    have J12 := Aside0.mk (J11.out.step hb)
    go_wp2_with fail
    go_ret
    exact ⟨by first | rfl | (simp; done), J12.out.lo⟩
set_option maxHeartbeats 8000000 in
set_option maxRecDepth 100000 in
theorem back_no_rd (K : Nat) (k q s st en v : Int) (ov : Bool) (A : Option Addr) (c : Nat) (l : List Int) (se ti sq by_ : Int) (t : ByteArray) (cut : Int) (w : World) (hr : Kd.C (Kd.int .i64) w A l.length l) (hc : l.length ≤ c) (hl : l.length < 9000000000000000000)
    (AW : Aside0 (∀ w : World, Calls Try.prog 15 #[] w fun e w' => e = .returned (.bool true) ∧ Below w.heap.size w w'))
    (A1 : Aside0 (record_Put.f K k q s st en v ov l se ti sq by_ = some ((⟨#[]⟩ : ByteArray), 1000)))
    (M1 : Aside0 (record_May.f k q s st en v ov l se ti sq by_ = some false))
    (k2 q2 s2 st2 en2 v2 : Int) (ov2 : Bool) (l2 : List Int) (se2 ti2 sq2 by2 : Int)
    (T1 : Aside0 (record_Get.f K t = some (⟨k2, q2, s2, st2, en2, v2, ov2, l2, se2, ti2, sq2, by2⟩, 0)))
    (T2 : Aside0 (record_Put.f K k2 q2 s2 st2 en2 v2 ov2 l2 se2 ti2 sq2 by2 = some (t, 0))) :
    Calls Try.prog 4 #[.agg #[.int .i64 k, .int .i64 q, .int .i64 s, .int .i64 st, .int .i64 en, .int .i64 v, .bool ov, .slice A l.length c, .int .i64 se, .int .i64 ti, .int .i64 sq, .int .i64 by_], .string t, .int .i64 cut] w fun e w' => e = .returned (.bool true) ∧ Below w.heap.size w w' := by
  have HB := Aside0.mk (Below.refl w.heap.size w)
  have HR := Aside0.mk hr
  have HC := Aside0.mk hc
  have HL := Aside0.mk hl
  clear hr hc hl
  go_enter Try.func4, Try.ntmps4
  go_upto_region 1 with (fail)
  have J1 : Aside0 (J w (w.alloc (.cells #[.int .i64 k, .int .i64 q, .int .i64 s, .int .i64 st, .int .i64 en, .int .i64 v, .bool ov, .slice A l.length c, .int .i64 se, .int .i64 ti, .int .i64 sq, .int .i64 by_] 30 (0, 0))) w.heap.size k q s st en v ov A c l se ti sq by_) := ⟨⟨RB.new HR.out, below_alloc HB.out _⟩⟩
  generalize w.alloc _ = W1 at *
  generalize hg : w.heap.size = g at J1 ⊢
  have hgg := Aside0.mk hg
  clear hg HB HR
  go_wp2_with fail
  refine (AW.out _).mono ?_
  rintro e w2 ⟨rfl, hb⟩
  have J2 := Aside0.mk (J1.out.step hb)
  clear hb J1
  have x0 := blk_cell (show w2.heap[g]? = _ from J2.out.b.o) 0; simp at x0; have x1 := blk_cell (show w2.heap[g]? = _ from J2.out.b.o) 1; simp at x1; have x2 := blk_cell (show w2.heap[g]? = _ from J2.out.b.o) 2; simp at x2; have x3 := blk_cell (show w2.heap[g]? = _ from J2.out.b.o) 3; simp at x3; have x4 := blk_cell (show w2.heap[g]? = _ from J2.out.b.o) 4; simp at x4; have x5 := blk_cell (show w2.heap[g]? = _ from J2.out.b.o) 5; simp at x5; have x6 := blk_cell (show w2.heap[g]? = _ from J2.out.b.o) 6; simp at x6; have x7 := blk_cell (show w2.heap[g]? = _ from J2.out.b.o) 7; simp at x7; have x8 := blk_cell (show w2.heap[g]? = _ from J2.out.b.o) 8; simp at x8; have x9 := blk_cell (show w2.heap[g]? = _ from J2.out.b.o) 9; simp at x9; have x10 := blk_cell (show w2.heap[g]? = _ from J2.out.b.o) 10; simp at x10; have x11 := blk_cell (show w2.heap[g]? = _ from J2.out.b.o) 11; simp at x11
  go_wp2_with fail
  refine (record_Put.calls K k q s st en v ov A c l se ti sq by_ (⟨#[]⟩ : ByteArray) 1000 _ J2.out.b.r HC.out A1.out).mono ?_
  rintro e w3 ⟨rfl, hb⟩
  have HP := Aside0.mk (J2.out.step hb)
  clear x0 x1 x2 x3 x4 x5 x6 x7 x8 x9 x10 x11
  clear hb J2
  have MS : Aside0 (∀ W : World, Aside0 (J w W g k q s st en v ov A c l se ti sq by_) → W.cell? ⟨g, 0, none⟩ = some (.int .i64 k) ∧ W.cell? ⟨g, 1, none⟩ = some (.int .i64 q) ∧ W.cell? ⟨g, 2, none⟩ = some (.int .i64 s) ∧ W.cell? ⟨g, 3, none⟩ = some (.int .i64 st) ∧ W.cell? ⟨g, 4, none⟩ = some (.int .i64 en) ∧ W.cell? ⟨g, 5, none⟩ = some (.int .i64 v) ∧ W.cell? ⟨g, 6, none⟩ = some (.bool ov) ∧ W.cell? ⟨g, 7, none⟩ = some (.slice A l.length c) ∧ W.cell? ⟨g, 8, none⟩ = some (.int .i64 se) ∧ W.cell? ⟨g, 9, none⟩ = some (.int .i64 ti) ∧ W.cell? ⟨g, 10, none⟩ = some (.int .i64 sq) ∧ W.cell? ⟨g, 11, none⟩ = some (.int .i64 by_) ∧ Aside0 (J w W g k q s st en v ov A c l se ti sq by_)) := ⟨fun W hp => ⟨by have z := blk_cell (show W.heap[g]? = _ from hp.out.b.o) 0; simpa using z, by have z := blk_cell (show W.heap[g]? = _ from hp.out.b.o) 1; simpa using z, by have z := blk_cell (show W.heap[g]? = _ from hp.out.b.o) 2; simpa using z, by have z := blk_cell (show W.heap[g]? = _ from hp.out.b.o) 3; simpa using z, by have z := blk_cell (show W.heap[g]? = _ from hp.out.b.o) 4; simpa using z, by have z := blk_cell (show W.heap[g]? = _ from hp.out.b.o) 5; simpa using z, by have z := blk_cell (show W.heap[g]? = _ from hp.out.b.o) 6; simpa using z, by have z := blk_cell (show W.heap[g]? = _ from hp.out.b.o) 7; simpa using z, by have z := blk_cell (show W.heap[g]? = _ from hp.out.b.o) 8; simpa using z, by have z := blk_cell (show W.heap[g]? = _ from hp.out.b.o) 9; simpa using z, by have z := blk_cell (show W.heap[g]? = _ from hp.out.b.o) 10; simpa using z, by have z := blk_cell (show W.heap[g]? = _ from hp.out.b.o) 11; simpa using z, hp⟩⟩
  have CM : Aside0 (∀ W : World, Aside0 (J w W g k q s st en v ov A c l se ti sq by_) → Calls Try.prog 13 #[.agg #[.int .i64 k, .int .i64 q, .int .i64 s, .int .i64 st, .int .i64 en, .int .i64 v, .bool ov, .slice A l.length c, .int .i64 se, .int .i64 ti, .int .i64 sq, .int .i64 by_]] W fun e w' => e = .returned (.bool false) ∧ Aside0 (J w w' g k q s st en v ov A c l se ti sq by_)) :=
    ⟨fun W hp => (record_May.calls k q s st en v ov A c l se ti sq by_ false W hp.out.b.r HC.out M1.out).mono fun e w' hh => ⟨hh.1, ⟨hp.out.step hh.2⟩⟩⟩
  have e10 : ((1000 : Int) == 0) = false := rfl
  go_upto_region 4 with (fail)
  go_cut [43] (fun v43 wc => v43 = .bool false ∧ Aside0 (J w wc g k q s st en v ov A c l se ti sq by_))
  case first =>
    have HPn := Aside0.mk (HP.out.step (below_drew1 (Below.refl _ _)))
    clear HP
    have HP := HPn
    clear HPn
    refine start_ (n := 20) (S := fun w' => w'.cell? ⟨g, 0, none⟩ = some (.int .i64 k) ∧ w'.cell? ⟨g, 1, none⟩ = some (.int .i64 q) ∧ w'.cell? ⟨g, 2, none⟩ = some (.int .i64 s) ∧ w'.cell? ⟨g, 3, none⟩ = some (.int .i64 st) ∧ w'.cell? ⟨g, 4, none⟩ = some (.int .i64 en) ∧ w'.cell? ⟨g, 5, none⟩ = some (.int .i64 v) ∧ w'.cell? ⟨g, 6, none⟩ = some (.bool ov) ∧ w'.cell? ⟨g, 7, none⟩ = some (.slice A l.length c) ∧ w'.cell? ⟨g, 8, none⟩ = some (.int .i64 se) ∧ w'.cell? ⟨g, 9, none⟩ = some (.int .i64 ti) ∧ w'.cell? ⟨g, 10, none⟩ = some (.int .i64 sq) ∧ w'.cell? ⟨g, 11, none⟩ = some (.int .i64 by_) ∧ Aside0 (J w w' g k q s st en v ov A c l se ti sq by_)) (ds := []) #[false, false, false, false, false, false, false, false, false, false, false, false, false, false, false, false, false, false, false, false] (by kernel_rfl) rfl rfl (MS.out _ HP) (fun hHeld => ?_)
    refine with_tabW tab4 bits4 (fun HT_ HW_ => ?_)
    generalize w3.drew = wd at HP hHeld ⊢
    refine pure_ (i := 0) (N := some 24) (v := ?_) (a' := ?_) #[true, false, false, false, false, false, false, false, false, false, false, false, false, false, false, false, false, false, false, false] rfl rfl (any_of HT_.out (by kernel_rfl)) (fun _ _ _ h => h) (Or.inl ⟨by rfl, ?_⟩) ?_ ?_
    rotate_left
    · intro w'
      go_simp
      with_reducible rfl
    rotate_left
    · simp only [Act.put, List.setIfInBounds_toArray, List.set_cons_zero, List.set_cons_succ, i64_w, i32_w]
      rfl
    refine take_ (i := 3) (N := some 27) (v := ?_) (a' := ?_) #[true, false, false, true, false, false, false, false, false, false, false, false, false, false, false, false, false, false, false, false] rfl rfl (take_ofW HT_.out HW_.out (by kernel_rfl)) (fun _ _ _ h => h) (Or.inl ⟨by rfl, ?_⟩) hHeld ?_ ?_
    rotate_left
    · rintro w' ⟨s0, s1, s2, s3, s4, s5, s6, s7, s8, s9, s10, s11, s12⟩
      go_simp
      with_reducible rfl
    rotate_left
    · simp only [Act.put, List.setIfInBounds_toArray, List.set_cons_zero, List.set_cons_succ, i64_w, i32_w]
      rfl
    refine one_ (i := 1) (N := some 25) #[true, true, false, true, false, false, false, false, false, false, false, false, false, false, false, false, false, false, false, false] rfl rfl (one_of HT_.out (by kernel_rfl)) (by decide) (fun K hK => ?_)
    refine goes_ Try.func10 (by kernel_rfl) rfl #[.int .i64 1000] (by rfl) rfl rfl (by (try simp only [List.map_toArray, List.map_cons, List.map_nil]); first | done | rfl) ?_
    with_reducible refine (num_calls 1000 _).mono ?_
    rintro e w5 ⟨rfl, rfl⟩
    refine ⟨_, rfl, ?_⟩
    refine hK.out _ _ (MS.out _ HP) (fun hHeld => ?_)
    clear hK K
    refine norm_ (a' := ?_) ?_ ?_
    rotate_left
    · show Act.put _ (some 25) _ = _
      simp only [Act.put, List.setIfInBounds_toArray, List.set_cons_zero, List.set_cons_succ, i64_w, i32_w]
      rfl
    refine pure_ (i := 2) (N := some 26) (v := ?_) (a' := ?_) #[true, true, true, true, false, false, false, false, false, false, false, false, false, false, false, false, false, false, false, false] rfl rfl (any_of HT_.out (by kernel_rfl)) (fun _ _ _ h => h) (Or.inl ⟨by rfl, ?_⟩) ?_ ?_
    rotate_left
    · intro w'
      go_simp
      with_reducible rfl
    rotate_left
    · simp only [Act.put, List.setIfInBounds_toArray, List.set_cons_zero, List.set_cons_succ, i64_w, i32_w]
      rfl
    refine one_ (i := 4) (N := some 28) #[true, true, true, true, true, false, false, false, false, false, false, false, false, false, false, false, false, false, false, false] rfl rfl (one_of HT_.out (by kernel_rfl)) (by decide) (fun K hK => ?_)
    refine goes_ Try.func13 (by kernel_rfl) rfl #[.agg #[.int .i64 k, .int .i64 q, .int .i64 s, .int .i64 st, .int .i64 en, .int .i64 v, .bool ov, .slice A l.length c, .int .i64 se, .int .i64 ti, .int .i64 sq, .int .i64 by_]] (by rfl) rfl rfl (by (try simp only [List.map_toArray, List.map_cons, List.map_nil]); first | done | rfl) ?_
    with_reducible refine (CM.out _ HP).mono ?_
    rintro e w5 ⟨rfl, HQ⟩
    clear HP
    have HP := HQ
    clear HQ
    refine ⟨_, rfl, ?_⟩
    refine hK.out _ _ (MS.out _ HP) (fun hHeld => ?_)
    clear hK K
    refine norm_ (a' := ?_) ?_ ?_
    rotate_left
    · show Act.put _ (some 28) _ = _
      simp only [Act.put, List.setIfInBounds_toArray, List.set_cons_zero, List.set_cons_succ, i64_w, i32_w]
      rfl
    refine pure_ (i := 5) (N := some 29) (v := ?_) (a' := ?_) #[true, true, true, true, true, true, false, false, false, false, false, false, false, false, false, false, false, false, false, false] rfl rfl (any_of HT_.out (by kernel_rfl)) (fun _ _ _ h => h) (Or.inl ⟨by rfl, ?_⟩) ?_ ?_
    rotate_left
    · intro w'
      go_simp
      with_reducible rfl
    rotate_left
    · simp only [Act.put, List.setIfInBounds_toArray, List.set_cons_zero, List.set_cons_succ, i64_w, i32_w]
      rfl
    refine pure_ (i := 6) (N := some 30) (v := ?_) (a' := ?_) #[true, true, true, true, true, true, true, false, false, false, false, false, false, false, false, false, false, false, false, false] rfl rfl (any_of HT_.out (by kernel_rfl)) (fun _ _ _ h => h) (Or.inl ⟨by rfl, ?_⟩) ?_ ?_
    rotate_left
    · intro w'
      go_simp
      with_reducible rfl
    rotate_left
    · simp only [Act.put, List.setIfInBounds_toArray, List.set_cons_zero, List.set_cons_succ, i64_w, i32_w]
      rfl
    refine pure_ (i := 7) (N := some 31) (v := ?_) (a' := ?_) #[true, true, true, true, true, true, true, true, false, false, false, false, false, false, false, false, false, false, false, false] rfl rfl (any_of HT_.out (by kernel_rfl)) (fun _ _ _ h => h) (Or.inl ⟨by rfl, ?_⟩) ?_ ?_
    rotate_left
    · intro w'
      go_simp
      with_reducible rfl
    rotate_left
    · simp only [Act.put, List.setIfInBounds_toArray, List.set_cons_zero, List.set_cons_succ, i64_w, i32_w]
      rfl
    refine one_ (i := 8) (N := some 32) #[true, true, true, true, true, true, true, true, true, false, false, false, false, false, false, false, false, false, false, false] rfl rfl (one_of HT_.out (by kernel_rfl)) (by decide) (fun K hK => ?_)
    refine goes_ Try.func10 (by kernel_rfl) rfl #[.int .i64 1000] (by rfl) rfl rfl (by (try simp only [List.map_toArray, List.map_cons, List.map_nil]); first | done | rfl) ?_
    with_reducible refine (num_calls 1000 _).mono ?_
    rintro e w6 ⟨rfl, rfl⟩
    refine ⟨_, rfl, ?_⟩
    refine hK.out _ _ (MS.out _ HP) (fun hHeld => ?_)
    clear hK K
    refine norm_ (a' := ?_) ?_ ?_
    rotate_left
    · show Act.put _ (some 32) _ = _
      simp only [Act.put, List.setIfInBounds_toArray, List.set_cons_zero, List.set_cons_succ, i64_w, i32_w]
      rfl
    refine pure_ (i := 9) (N := some 33) (v := ?_) (a' := ?_) #[true, true, true, true, true, true, true, true, true, true, false, false, false, false, false, false, false, false, false, false] rfl rfl (any_of HT_.out (by kernel_rfl)) (fun _ _ _ h => h) (Or.inl ⟨by rfl, ?_⟩) ?_ ?_
    rotate_left
    · intro w'
      go_simp
      with_reducible rfl
    rotate_left
    · simp only [Act.put, List.setIfInBounds_toArray, List.set_cons_zero, List.set_cons_succ, i64_w, i32_w]
      rfl
    refine pure_ (i := 10) (N := some 34) (v := ?_) (a' := ?_) #[true, true, true, true, true, true, true, true, true, true, true, false, false, false, false, false, false, false, false, false] rfl rfl (any_of HT_.out (by kernel_rfl)) (fun _ _ _ h => h) (Or.inl ⟨by rfl, ?_⟩) ?_ ?_
    rotate_left
    · intro w'
      go_simp
      with_reducible rfl
    rotate_left
    · simp only [Act.put, List.setIfInBounds_toArray, List.set_cons_zero, List.set_cons_succ, i64_w, i32_w]
      rfl
    refine pure_ (i := 11) (N := some 35) (v := undef) (a' := ?_) #[true, true, true, true, true, true, true, true, true, true, true, true, false, false, false, false, false, false, false, false] rfl rfl (any_of HT_.out (by kernel_rfl)) (fun _ _ _ h => h) (Or.inr ⟨by rfl, rfl⟩) ?_ ?_
    rotate_left
    · simp only [Act.put, List.setIfInBounds_toArray, List.set_cons_zero, List.set_cons_succ, i64_w, i32_w]
      rfl
    refine pure_ (i := 12) (N := some 36) (v := undef) (a' := ?_) #[true, true, true, true, true, true, true, true, true, true, true, true, true, false, false, false, false, false, false, false] rfl rfl (any_of HT_.out (by kernel_rfl)) (fun _ _ _ h => h) (Or.inr ⟨by rfl, rfl⟩) ?_ ?_
    rotate_left
    · simp only [Act.put, List.setIfInBounds_toArray, List.set_cons_zero, List.set_cons_succ, i64_w, i32_w]
      rfl
    refine pure_ (i := 13) (N := some 37) (v := undef) (a' := ?_) #[true, true, true, true, true, true, true, true, true, true, true, true, true, true, false, false, false, false, false, false] rfl rfl (any_of HT_.out (by kernel_rfl)) (fun _ _ _ h => h) (Or.inr ⟨by rfl, rfl⟩) ?_ ?_
    rotate_left
    · simp only [Act.put, List.setIfInBounds_toArray, List.set_cons_zero, List.set_cons_succ, i64_w, i32_w]
      rfl
    refine pure_ (i := 14) (N := some 38) (v := undef) (a' := ?_) #[true, true, true, true, true, true, true, true, true, true, true, true, true, true, true, false, false, false, false, false] rfl rfl (any_of HT_.out (by kernel_rfl)) (fun _ _ _ h => h) (Or.inr ⟨by rfl, rfl⟩) ?_ ?_
    rotate_left
    · simp only [Act.put, List.setIfInBounds_toArray, List.set_cons_zero, List.set_cons_succ, i64_w, i32_w]
      rfl
    refine pure_ (i := 15) (N := some 39) (v := undef) (a' := ?_) #[true, true, true, true, true, true, true, true, true, true, true, true, true, true, true, true, false, false, false, false] rfl rfl (any_of HT_.out (by kernel_rfl)) (fun _ _ _ h => h) (Or.inr ⟨by rfl, rfl⟩) ?_ ?_
    rotate_left
    · simp only [Act.put, List.setIfInBounds_toArray, List.set_cons_zero, List.set_cons_succ, i64_w, i32_w]
      rfl
    refine pure_ (i := 16) (N := some 40) (v := undef) (a' := ?_) #[true, true, true, true, true, true, true, true, true, true, true, true, true, true, true, true, true, false, false, false] rfl rfl (any_of HT_.out (by kernel_rfl)) (fun _ _ _ h => h) (Or.inr ⟨by rfl, rfl⟩) ?_ ?_
    rotate_left
    · simp only [Act.put, List.setIfInBounds_toArray, List.set_cons_zero, List.set_cons_succ, i64_w, i32_w]
      rfl
    refine pure_ (i := 17) (N := some 41) (v := undef) (a' := ?_) #[true, true, true, true, true, true, true, true, true, true, true, true, true, true, true, true, true, true, false, false] rfl rfl (any_of HT_.out (by kernel_rfl)) (fun _ _ _ h => h) (Or.inr ⟨by rfl, rfl⟩) ?_ ?_
    rotate_left
    · simp only [Act.put, List.setIfInBounds_toArray, List.set_cons_zero, List.set_cons_succ, i64_w, i32_w]
      rfl
    refine pure_ (i := 18) (N := some 42) (v := ?_) (a' := ?_) #[true, true, true, true, true, true, true, true, true, true, true, true, true, true, true, true, true, true, true, false] rfl rfl (any_of HT_.out (by kernel_rfl)) (fun _ _ _ h => h) (Or.inl ⟨by rfl, ?_⟩) ?_ ?_
    rotate_left
    · intro w'
      go_simp
      with_reducible rfl
    rotate_left
    · simp only [Act.put, List.setIfInBounds_toArray, List.set_cons_zero, List.set_cons_succ, i64_w, i32_w]
      rfl
    refine pure_ (i := 19) (N := some 43) (v := ?_) (a' := ?_) #[true, true, true, true, true, true, true, true, true, true, true, true, true, true, true, true, true, true, true, true] rfl rfl (any_of HT_.out (by kernel_rfl)) (fun _ _ _ h => h) (Or.inl ⟨by rfl, ?_⟩) ?_ ?_
    rotate_left
    · intro w'
      go_simp
      with_reducible rfl
    rotate_left
    · simp only [Act.put, List.setIfInBounds_toArray, List.set_cons_zero, List.set_cons_succ, i64_w, i32_w]
      rfl
    refine done_ (done_of HT_.out (by kernel_rfl)) ?_
    try go_wp2
    go_meet
    exact ⟨by first | rfl | (simp; done), HP⟩
  case rest =>
    obtain ⟨rfl, J4⟩ := hcut
    clear HP CM MS
    go_wp2_with (go_at_call 10; (with_reducible refine (num_calls 1000 _).mono ?_); rintro e w5 ⟨rfl, rfl⟩)
    have J9 := J4
    clear J4
    refine (get_ok K _ k2 q2 s2 st2 en2 v2 ov2 l2 se2 ti2 sq2 by2 0 _ T1.out).mono ?_
    rintro e w10 ⟨Ac, cc, rfl, hcc, hC4, hb⟩
    have J10 := Aside0.mk (J9.out.step hb.out)
    have HCC := Aside0.mk hcc
    clear hb J9 hcc T1
    go_upto_region 12 with (fail)
    have G11 := Aside0.mk (RB.new (c := cc) (k := k2) (q := q2) (s := s2) (st := st2) (en := en2) (v := v2) (ov := ov2) (se := se2) (ti := ti2) (sq := sq2) (by_ := by2) hC4.out)
    have J11 := Aside0.mk (J10.out.step (below_alloc (Below.refl _ _) (.cells #[.int .i64 k2, .int .i64 q2, .int .i64 s2, .int .i64 st2, .int .i64 en2, .int .i64 v2, .bool ov2, .slice Ac l2.length cc, .int .i64 se2, .int .i64 ti2, .int .i64 sq2, .int .i64 by2] 30 (0, 0))))
    generalize w10.heap.size = gc at *
    generalize w10.alloc _ = W11 at *
    clear hC4 J10
    have z0 := blk_cell (show W11.heap[gc]? = _ from G11.out.o) 0; simp at z0; have z1 := blk_cell (show W11.heap[gc]? = _ from G11.out.o) 1; simp at z1; have z2 := blk_cell (show W11.heap[gc]? = _ from G11.out.o) 2; simp at z2; have z3 := blk_cell (show W11.heap[gc]? = _ from G11.out.o) 3; simp at z3; have z4 := blk_cell (show W11.heap[gc]? = _ from G11.out.o) 4; simp at z4; have z5 := blk_cell (show W11.heap[gc]? = _ from G11.out.o) 5; simp at z5; have z6 := blk_cell (show W11.heap[gc]? = _ from G11.out.o) 6; simp at z6; have z7 := blk_cell (show W11.heap[gc]? = _ from G11.out.o) 7; simp at z7; have z8 := blk_cell (show W11.heap[gc]? = _ from G11.out.o) 8; simp at z8; have z9 := blk_cell (show W11.heap[gc]? = _ from G11.out.o) 9; simp at z9; have z10 := blk_cell (show W11.heap[gc]? = _ from G11.out.o) 10; simp at z10; have z11 := blk_cell (show W11.heap[gc]? = _ from G11.out.o) 11; simp at z11
    go_wp2_with (go_at_call 10; (with_reducible refine (num_calls 0 _).mono ?_); rintro e w5 ⟨rfl, rfl⟩)
    refine (record_Put.calls K k2 q2 s2 st2 en2 v2 ov2 Ac cc l2 se2 ti2 sq2 by2 t 0 _ G11.out.r HCC.out T2.out).mono ?_
    rintro e w12 ⟨rfl, hb⟩
    have J12 := Aside0.mk (J11.out.step hb)
    clear z0 z1 z2 z3 z4 z5 z6 z7 z8 z9 z10 z11
    clear hb J11 G11
    go_wp2_with (go_at_call 10; (with_reducible refine (num_calls 0 _).mono ?_); rintro e w5 ⟨rfl, rfl⟩)
    go_ret
    exact ⟨by first | rfl | (simp; done), J12.out.lo⟩
set_option maxHeartbeats 8000000 in
set_option maxRecDepth 100000 in
theorem back_no_un (K : Nat) (k q s st en v : Int) (ov : Bool) (A : Option Addr) (c : Nat) (l : List Int) (se ti sq by_ : Int) (t : ByteArray) (cut : Int) (w : World) (hr : Kd.C (Kd.int .i64) w A l.length l) (hc : l.length ≤ c) (hl : l.length < 9000000000000000000)
    (AW : Aside0 (∀ w : World, Calls Try.prog 15 #[] w fun e w' => e = .returned (.bool true) ∧ Below w.heap.size w w'))
    (A1 : Aside0 (record_Put.f K k q s st en v ov l se ti sq by_ = some ((⟨#[]⟩ : ByteArray), 1000)))
    (M1 : Aside0 (record_May.f k q s st en v ov l se ti sq by_ = some false))
    (T1 : Aside0 (record_Get.f K t = some (⟨0, 0, 0, 0, 0, 0, false, [], 0, 0, 0, 0⟩, 1000))) :
    Calls Try.prog 4 #[.agg #[.int .i64 k, .int .i64 q, .int .i64 s, .int .i64 st, .int .i64 en, .int .i64 v, .bool ov, .slice A l.length c, .int .i64 se, .int .i64 ti, .int .i64 sq, .int .i64 by_], .string t, .int .i64 cut] w fun e w' => e = .returned (.bool true) ∧ Below w.heap.size w w' := by
  have HB := Aside0.mk (Below.refl w.heap.size w)
  have HR := Aside0.mk hr
  have HC := Aside0.mk hc
  have HL := Aside0.mk hl
  clear hr hc hl
  go_enter Try.func4, Try.ntmps4
  go_upto_region 1 with (fail)
  have J1 : Aside0 (J w (w.alloc (.cells #[.int .i64 k, .int .i64 q, .int .i64 s, .int .i64 st, .int .i64 en, .int .i64 v, .bool ov, .slice A l.length c, .int .i64 se, .int .i64 ti, .int .i64 sq, .int .i64 by_] 30 (0, 0))) w.heap.size k q s st en v ov A c l se ti sq by_) := ⟨⟨RB.new HR.out, below_alloc HB.out _⟩⟩
  generalize w.alloc _ = W1 at *
  generalize hg : w.heap.size = g at J1 ⊢
  have hgg := Aside0.mk hg
  clear hg HB HR
  go_wp2_with fail
  refine (AW.out _).mono ?_
  rintro e w2 ⟨rfl, hb⟩
  have J2 := Aside0.mk (J1.out.step hb)
  clear hb J1
  have x0 := blk_cell (show w2.heap[g]? = _ from J2.out.b.o) 0; simp at x0; have x1 := blk_cell (show w2.heap[g]? = _ from J2.out.b.o) 1; simp at x1; have x2 := blk_cell (show w2.heap[g]? = _ from J2.out.b.o) 2; simp at x2; have x3 := blk_cell (show w2.heap[g]? = _ from J2.out.b.o) 3; simp at x3; have x4 := blk_cell (show w2.heap[g]? = _ from J2.out.b.o) 4; simp at x4; have x5 := blk_cell (show w2.heap[g]? = _ from J2.out.b.o) 5; simp at x5; have x6 := blk_cell (show w2.heap[g]? = _ from J2.out.b.o) 6; simp at x6; have x7 := blk_cell (show w2.heap[g]? = _ from J2.out.b.o) 7; simp at x7; have x8 := blk_cell (show w2.heap[g]? = _ from J2.out.b.o) 8; simp at x8; have x9 := blk_cell (show w2.heap[g]? = _ from J2.out.b.o) 9; simp at x9; have x10 := blk_cell (show w2.heap[g]? = _ from J2.out.b.o) 10; simp at x10; have x11 := blk_cell (show w2.heap[g]? = _ from J2.out.b.o) 11; simp at x11
  go_wp2_with fail
  refine (record_Put.calls K k q s st en v ov A c l se ti sq by_ (⟨#[]⟩ : ByteArray) 1000 _ J2.out.b.r HC.out A1.out).mono ?_
  rintro e w3 ⟨rfl, hb⟩
  have HP := Aside0.mk (J2.out.step hb)
  clear x0 x1 x2 x3 x4 x5 x6 x7 x8 x9 x10 x11
  clear hb J2
  have MS : Aside0 (∀ W : World, Aside0 (J w W g k q s st en v ov A c l se ti sq by_) → W.cell? ⟨g, 0, none⟩ = some (.int .i64 k) ∧ W.cell? ⟨g, 1, none⟩ = some (.int .i64 q) ∧ W.cell? ⟨g, 2, none⟩ = some (.int .i64 s) ∧ W.cell? ⟨g, 3, none⟩ = some (.int .i64 st) ∧ W.cell? ⟨g, 4, none⟩ = some (.int .i64 en) ∧ W.cell? ⟨g, 5, none⟩ = some (.int .i64 v) ∧ W.cell? ⟨g, 6, none⟩ = some (.bool ov) ∧ W.cell? ⟨g, 7, none⟩ = some (.slice A l.length c) ∧ W.cell? ⟨g, 8, none⟩ = some (.int .i64 se) ∧ W.cell? ⟨g, 9, none⟩ = some (.int .i64 ti) ∧ W.cell? ⟨g, 10, none⟩ = some (.int .i64 sq) ∧ W.cell? ⟨g, 11, none⟩ = some (.int .i64 by_) ∧ Aside0 (J w W g k q s st en v ov A c l se ti sq by_)) := ⟨fun W hp => ⟨by have z := blk_cell (show W.heap[g]? = _ from hp.out.b.o) 0; simpa using z, by have z := blk_cell (show W.heap[g]? = _ from hp.out.b.o) 1; simpa using z, by have z := blk_cell (show W.heap[g]? = _ from hp.out.b.o) 2; simpa using z, by have z := blk_cell (show W.heap[g]? = _ from hp.out.b.o) 3; simpa using z, by have z := blk_cell (show W.heap[g]? = _ from hp.out.b.o) 4; simpa using z, by have z := blk_cell (show W.heap[g]? = _ from hp.out.b.o) 5; simpa using z, by have z := blk_cell (show W.heap[g]? = _ from hp.out.b.o) 6; simpa using z, by have z := blk_cell (show W.heap[g]? = _ from hp.out.b.o) 7; simpa using z, by have z := blk_cell (show W.heap[g]? = _ from hp.out.b.o) 8; simpa using z, by have z := blk_cell (show W.heap[g]? = _ from hp.out.b.o) 9; simpa using z, by have z := blk_cell (show W.heap[g]? = _ from hp.out.b.o) 10; simpa using z, by have z := blk_cell (show W.heap[g]? = _ from hp.out.b.o) 11; simpa using z, hp⟩⟩
  have CM : Aside0 (∀ W : World, Aside0 (J w W g k q s st en v ov A c l se ti sq by_) → Calls Try.prog 13 #[.agg #[.int .i64 k, .int .i64 q, .int .i64 s, .int .i64 st, .int .i64 en, .int .i64 v, .bool ov, .slice A l.length c, .int .i64 se, .int .i64 ti, .int .i64 sq, .int .i64 by_]] W fun e w' => e = .returned (.bool false) ∧ Aside0 (J w w' g k q s st en v ov A c l se ti sq by_)) :=
    ⟨fun W hp => (record_May.calls k q s st en v ov A c l se ti sq by_ false W hp.out.b.r HC.out M1.out).mono fun e w' hh => ⟨hh.1, ⟨hp.out.step hh.2⟩⟩⟩
  have e10 : ((1000 : Int) == 0) = false := rfl
  go_upto_region 4 with (fail)
  go_cut [43] (fun v43 wc => v43 = .bool false ∧ Aside0 (J w wc g k q s st en v ov A c l se ti sq by_))
  case first =>
    have HPn := Aside0.mk (HP.out.step (below_drew1 (Below.refl _ _)))
    clear HP
    have HP := HPn
    clear HPn
    refine start_ (n := 20) (S := fun w' => w'.cell? ⟨g, 0, none⟩ = some (.int .i64 k) ∧ w'.cell? ⟨g, 1, none⟩ = some (.int .i64 q) ∧ w'.cell? ⟨g, 2, none⟩ = some (.int .i64 s) ∧ w'.cell? ⟨g, 3, none⟩ = some (.int .i64 st) ∧ w'.cell? ⟨g, 4, none⟩ = some (.int .i64 en) ∧ w'.cell? ⟨g, 5, none⟩ = some (.int .i64 v) ∧ w'.cell? ⟨g, 6, none⟩ = some (.bool ov) ∧ w'.cell? ⟨g, 7, none⟩ = some (.slice A l.length c) ∧ w'.cell? ⟨g, 8, none⟩ = some (.int .i64 se) ∧ w'.cell? ⟨g, 9, none⟩ = some (.int .i64 ti) ∧ w'.cell? ⟨g, 10, none⟩ = some (.int .i64 sq) ∧ w'.cell? ⟨g, 11, none⟩ = some (.int .i64 by_) ∧ Aside0 (J w w' g k q s st en v ov A c l se ti sq by_)) (ds := []) #[false, false, false, false, false, false, false, false, false, false, false, false, false, false, false, false, false, false, false, false] (by kernel_rfl) rfl rfl (MS.out _ HP) (fun hHeld => ?_)
    refine with_tabW tab4 bits4 (fun HT_ HW_ => ?_)
    generalize w3.drew = wd at HP hHeld ⊢
    refine pure_ (i := 0) (N := some 24) (v := ?_) (a' := ?_) #[true, false, false, false, false, false, false, false, false, false, false, false, false, false, false, false, false, false, false, false] rfl rfl (any_of HT_.out (by kernel_rfl)) (fun _ _ _ h => h) (Or.inl ⟨by rfl, ?_⟩) ?_ ?_
    rotate_left
    · intro w'
      go_simp
      with_reducible rfl
    rotate_left
    · simp only [Act.put, List.setIfInBounds_toArray, List.set_cons_zero, List.set_cons_succ, i64_w, i32_w]
      rfl
    refine take_ (i := 3) (N := some 27) (v := ?_) (a' := ?_) #[true, false, false, true, false, false, false, false, false, false, false, false, false, false, false, false, false, false, false, false] rfl rfl (take_ofW HT_.out HW_.out (by kernel_rfl)) (fun _ _ _ h => h) (Or.inl ⟨by rfl, ?_⟩) hHeld ?_ ?_
    rotate_left
    · rintro w' ⟨s0, s1, s2, s3, s4, s5, s6, s7, s8, s9, s10, s11, s12⟩
      go_simp
      with_reducible rfl
    rotate_left
    · simp only [Act.put, List.setIfInBounds_toArray, List.set_cons_zero, List.set_cons_succ, i64_w, i32_w]
      rfl
    refine one_ (i := 1) (N := some 25) #[true, true, false, true, false, false, false, false, false, false, false, false, false, false, false, false, false, false, false, false] rfl rfl (one_of HT_.out (by kernel_rfl)) (by decide) (fun K hK => ?_)
    refine goes_ Try.func10 (by kernel_rfl) rfl #[.int .i64 1000] (by rfl) rfl rfl (by (try simp only [List.map_toArray, List.map_cons, List.map_nil]); first | done | rfl) ?_
    with_reducible refine (num_calls 1000 _).mono ?_
    rintro e w5 ⟨rfl, rfl⟩
    refine ⟨_, rfl, ?_⟩
    refine hK.out _ _ (MS.out _ HP) (fun hHeld => ?_)
    clear hK K
    refine norm_ (a' := ?_) ?_ ?_
    rotate_left
    · show Act.put _ (some 25) _ = _
      simp only [Act.put, List.setIfInBounds_toArray, List.set_cons_zero, List.set_cons_succ, i64_w, i32_w]
      rfl
    refine pure_ (i := 2) (N := some 26) (v := ?_) (a' := ?_) #[true, true, true, true, false, false, false, false, false, false, false, false, false, false, false, false, false, false, false, false] rfl rfl (any_of HT_.out (by kernel_rfl)) (fun _ _ _ h => h) (Or.inl ⟨by rfl, ?_⟩) ?_ ?_
    rotate_left
    · intro w'
      go_simp
      with_reducible rfl
    rotate_left
    · simp only [Act.put, List.setIfInBounds_toArray, List.set_cons_zero, List.set_cons_succ, i64_w, i32_w]
      rfl
    refine one_ (i := 4) (N := some 28) #[true, true, true, true, true, false, false, false, false, false, false, false, false, false, false, false, false, false, false, false] rfl rfl (one_of HT_.out (by kernel_rfl)) (by decide) (fun K hK => ?_)
    refine goes_ Try.func13 (by kernel_rfl) rfl #[.agg #[.int .i64 k, .int .i64 q, .int .i64 s, .int .i64 st, .int .i64 en, .int .i64 v, .bool ov, .slice A l.length c, .int .i64 se, .int .i64 ti, .int .i64 sq, .int .i64 by_]] (by rfl) rfl rfl (by (try simp only [List.map_toArray, List.map_cons, List.map_nil]); first | done | rfl) ?_
    with_reducible refine (CM.out _ HP).mono ?_
    rintro e w5 ⟨rfl, HQ⟩
    clear HP
    have HP := HQ
    clear HQ
    refine ⟨_, rfl, ?_⟩
    refine hK.out _ _ (MS.out _ HP) (fun hHeld => ?_)
    clear hK K
    refine norm_ (a' := ?_) ?_ ?_
    rotate_left
    · show Act.put _ (some 28) _ = _
      simp only [Act.put, List.setIfInBounds_toArray, List.set_cons_zero, List.set_cons_succ, i64_w, i32_w]
      rfl
    refine pure_ (i := 5) (N := some 29) (v := ?_) (a' := ?_) #[true, true, true, true, true, true, false, false, false, false, false, false, false, false, false, false, false, false, false, false] rfl rfl (any_of HT_.out (by kernel_rfl)) (fun _ _ _ h => h) (Or.inl ⟨by rfl, ?_⟩) ?_ ?_
    rotate_left
    · intro w'
      go_simp
      with_reducible rfl
    rotate_left
    · simp only [Act.put, List.setIfInBounds_toArray, List.set_cons_zero, List.set_cons_succ, i64_w, i32_w]
      rfl
    refine pure_ (i := 6) (N := some 30) (v := ?_) (a' := ?_) #[true, true, true, true, true, true, true, false, false, false, false, false, false, false, false, false, false, false, false, false] rfl rfl (any_of HT_.out (by kernel_rfl)) (fun _ _ _ h => h) (Or.inl ⟨by rfl, ?_⟩) ?_ ?_
    rotate_left
    · intro w'
      go_simp
      with_reducible rfl
    rotate_left
    · simp only [Act.put, List.setIfInBounds_toArray, List.set_cons_zero, List.set_cons_succ, i64_w, i32_w]
      rfl
    refine pure_ (i := 7) (N := some 31) (v := ?_) (a' := ?_) #[true, true, true, true, true, true, true, true, false, false, false, false, false, false, false, false, false, false, false, false] rfl rfl (any_of HT_.out (by kernel_rfl)) (fun _ _ _ h => h) (Or.inl ⟨by rfl, ?_⟩) ?_ ?_
    rotate_left
    · intro w'
      go_simp
      with_reducible rfl
    rotate_left
    · simp only [Act.put, List.setIfInBounds_toArray, List.set_cons_zero, List.set_cons_succ, i64_w, i32_w]
      rfl
    refine one_ (i := 8) (N := some 32) #[true, true, true, true, true, true, true, true, true, false, false, false, false, false, false, false, false, false, false, false] rfl rfl (one_of HT_.out (by kernel_rfl)) (by decide) (fun K hK => ?_)
    refine goes_ Try.func10 (by kernel_rfl) rfl #[.int .i64 1000] (by rfl) rfl rfl (by (try simp only [List.map_toArray, List.map_cons, List.map_nil]); first | done | rfl) ?_
    with_reducible refine (num_calls 1000 _).mono ?_
    rintro e w6 ⟨rfl, rfl⟩
    refine ⟨_, rfl, ?_⟩
    refine hK.out _ _ (MS.out _ HP) (fun hHeld => ?_)
    clear hK K
    refine norm_ (a' := ?_) ?_ ?_
    rotate_left
    · show Act.put _ (some 32) _ = _
      simp only [Act.put, List.setIfInBounds_toArray, List.set_cons_zero, List.set_cons_succ, i64_w, i32_w]
      rfl
    refine pure_ (i := 9) (N := some 33) (v := ?_) (a' := ?_) #[true, true, true, true, true, true, true, true, true, true, false, false, false, false, false, false, false, false, false, false] rfl rfl (any_of HT_.out (by kernel_rfl)) (fun _ _ _ h => h) (Or.inl ⟨by rfl, ?_⟩) ?_ ?_
    rotate_left
    · intro w'
      go_simp
      with_reducible rfl
    rotate_left
    · simp only [Act.put, List.setIfInBounds_toArray, List.set_cons_zero, List.set_cons_succ, i64_w, i32_w]
      rfl
    refine pure_ (i := 10) (N := some 34) (v := ?_) (a' := ?_) #[true, true, true, true, true, true, true, true, true, true, true, false, false, false, false, false, false, false, false, false] rfl rfl (any_of HT_.out (by kernel_rfl)) (fun _ _ _ h => h) (Or.inl ⟨by rfl, ?_⟩) ?_ ?_
    rotate_left
    · intro w'
      go_simp
      with_reducible rfl
    rotate_left
    · simp only [Act.put, List.setIfInBounds_toArray, List.set_cons_zero, List.set_cons_succ, i64_w, i32_w]
      rfl
    refine pure_ (i := 11) (N := some 35) (v := undef) (a' := ?_) #[true, true, true, true, true, true, true, true, true, true, true, true, false, false, false, false, false, false, false, false] rfl rfl (any_of HT_.out (by kernel_rfl)) (fun _ _ _ h => h) (Or.inr ⟨by rfl, rfl⟩) ?_ ?_
    rotate_left
    · simp only [Act.put, List.setIfInBounds_toArray, List.set_cons_zero, List.set_cons_succ, i64_w, i32_w]
      rfl
    refine pure_ (i := 12) (N := some 36) (v := undef) (a' := ?_) #[true, true, true, true, true, true, true, true, true, true, true, true, true, false, false, false, false, false, false, false] rfl rfl (any_of HT_.out (by kernel_rfl)) (fun _ _ _ h => h) (Or.inr ⟨by rfl, rfl⟩) ?_ ?_
    rotate_left
    · simp only [Act.put, List.setIfInBounds_toArray, List.set_cons_zero, List.set_cons_succ, i64_w, i32_w]
      rfl
    refine pure_ (i := 13) (N := some 37) (v := undef) (a' := ?_) #[true, true, true, true, true, true, true, true, true, true, true, true, true, true, false, false, false, false, false, false] rfl rfl (any_of HT_.out (by kernel_rfl)) (fun _ _ _ h => h) (Or.inr ⟨by rfl, rfl⟩) ?_ ?_
    rotate_left
    · simp only [Act.put, List.setIfInBounds_toArray, List.set_cons_zero, List.set_cons_succ, i64_w, i32_w]
      rfl
    refine pure_ (i := 14) (N := some 38) (v := undef) (a' := ?_) #[true, true, true, true, true, true, true, true, true, true, true, true, true, true, true, false, false, false, false, false] rfl rfl (any_of HT_.out (by kernel_rfl)) (fun _ _ _ h => h) (Or.inr ⟨by rfl, rfl⟩) ?_ ?_
    rotate_left
    · simp only [Act.put, List.setIfInBounds_toArray, List.set_cons_zero, List.set_cons_succ, i64_w, i32_w]
      rfl
    refine pure_ (i := 15) (N := some 39) (v := undef) (a' := ?_) #[true, true, true, true, true, true, true, true, true, true, true, true, true, true, true, true, false, false, false, false] rfl rfl (any_of HT_.out (by kernel_rfl)) (fun _ _ _ h => h) (Or.inr ⟨by rfl, rfl⟩) ?_ ?_
    rotate_left
    · simp only [Act.put, List.setIfInBounds_toArray, List.set_cons_zero, List.set_cons_succ, i64_w, i32_w]
      rfl
    refine pure_ (i := 16) (N := some 40) (v := undef) (a' := ?_) #[true, true, true, true, true, true, true, true, true, true, true, true, true, true, true, true, true, false, false, false] rfl rfl (any_of HT_.out (by kernel_rfl)) (fun _ _ _ h => h) (Or.inr ⟨by rfl, rfl⟩) ?_ ?_
    rotate_left
    · simp only [Act.put, List.setIfInBounds_toArray, List.set_cons_zero, List.set_cons_succ, i64_w, i32_w]
      rfl
    refine pure_ (i := 17) (N := some 41) (v := undef) (a' := ?_) #[true, true, true, true, true, true, true, true, true, true, true, true, true, true, true, true, true, true, false, false] rfl rfl (any_of HT_.out (by kernel_rfl)) (fun _ _ _ h => h) (Or.inr ⟨by rfl, rfl⟩) ?_ ?_
    rotate_left
    · simp only [Act.put, List.setIfInBounds_toArray, List.set_cons_zero, List.set_cons_succ, i64_w, i32_w]
      rfl
    refine pure_ (i := 18) (N := some 42) (v := ?_) (a' := ?_) #[true, true, true, true, true, true, true, true, true, true, true, true, true, true, true, true, true, true, true, false] rfl rfl (any_of HT_.out (by kernel_rfl)) (fun _ _ _ h => h) (Or.inl ⟨by rfl, ?_⟩) ?_ ?_
    rotate_left
    · intro w'
      go_simp
      with_reducible rfl
    rotate_left
    · simp only [Act.put, List.setIfInBounds_toArray, List.set_cons_zero, List.set_cons_succ, i64_w, i32_w]
      rfl
    refine pure_ (i := 19) (N := some 43) (v := ?_) (a' := ?_) #[true, true, true, true, true, true, true, true, true, true, true, true, true, true, true, true, true, true, true, true] rfl rfl (any_of HT_.out (by kernel_rfl)) (fun _ _ _ h => h) (Or.inl ⟨by rfl, ?_⟩) ?_ ?_
    rotate_left
    · intro w'
      go_simp
      with_reducible rfl
    rotate_left
    · simp only [Act.put, List.setIfInBounds_toArray, List.set_cons_zero, List.set_cons_succ, i64_w, i32_w]
      rfl
    refine done_ (done_of HT_.out (by kernel_rfl)) ?_
    try go_wp2
    go_meet
    exact ⟨by first | rfl | (simp; done), HP⟩
  case rest =>
    obtain ⟨rfl, J4⟩ := hcut
    clear HP CM MS
    go_wp2_with (go_at_call 10; (with_reducible refine (num_calls 1000 _).mono ?_); rintro e w5 ⟨rfl, rfl⟩)
    have J9 := J4
    clear J4
    refine (get_ok K _ 0 0 0 0 0 0 false [] 0 0 0 0 1000 _ T1.out).mono ?_
    rintro e w10 ⟨Ac, cc, rfl, hcc, hC4, hb⟩
    have J10 := Aside0.mk (J9.out.step hb.out)
    have HCC := Aside0.mk hcc
    clear hb J9 hcc T1
    go_upto_region 12 with (fail)
    have G11 := Aside0.mk (RB.new (c := cc) (k := 0) (q := 0) (s := 0) (st := 0) (en := 0) (v := 0) (ov := false) (se := 0) (ti := 0) (sq := 0) (by_ := 0) hC4.out)
    have J11 := Aside0.mk (J10.out.step (below_alloc (Below.refl _ _) (.cells #[.int .i64 0, .int .i64 0, .int .i64 0, .int .i64 0, .int .i64 0, .int .i64 0, .bool false, .slice Ac 0 cc, .int .i64 0, .int .i64 0, .int .i64 0, .int .i64 0] 30 (0, 0))))
    generalize w10.heap.size = gc at *
    generalize w10.alloc _ = W11 at *
    clear hC4 J10
    have z0 := blk_cell (show W11.heap[gc]? = _ from G11.out.o) 0; simp at z0; have z1 := blk_cell (show W11.heap[gc]? = _ from G11.out.o) 1; simp at z1; have z2 := blk_cell (show W11.heap[gc]? = _ from G11.out.o) 2; simp at z2; have z3 := blk_cell (show W11.heap[gc]? = _ from G11.out.o) 3; simp at z3; have z4 := blk_cell (show W11.heap[gc]? = _ from G11.out.o) 4; simp at z4; have z5 := blk_cell (show W11.heap[gc]? = _ from G11.out.o) 5; simp at z5; have z6 := blk_cell (show W11.heap[gc]? = _ from G11.out.o) 6; simp at z6; have z7 := blk_cell (show W11.heap[gc]? = _ from G11.out.o) 7; simp at z7; have z8 := blk_cell (show W11.heap[gc]? = _ from G11.out.o) 8; simp at z8; have z9 := blk_cell (show W11.heap[gc]? = _ from G11.out.o) 9; simp at z9; have z10 := blk_cell (show W11.heap[gc]? = _ from G11.out.o) 10; simp at z10; have z11 := blk_cell (show W11.heap[gc]? = _ from G11.out.o) 11; simp at z11
    go_wp2_with (go_at_call 10; (with_reducible refine (num_calls 1000 _).mono ?_); rintro e w5 ⟨rfl, rfl⟩)
    refine (same_rec 0 0 0 0 0 0 false [] 0 0 0 0 Ac none cc 0 _ (by decide) (Nat.zero_le _) (Nat.le_refl _) G11.out.r (Kd.C_nil _ _)).mono ?_
    rintro e w12 ⟨rfl, hb⟩
    have J12 := Aside0.mk (J11.out.step hb)
    go_wp2_with fail
    go_ret
    exact ⟨by first | rfl | (simp; done), J12.out.lo⟩

end Go.Proofs.Ytikfpihapdabfaa.RecordBackW
