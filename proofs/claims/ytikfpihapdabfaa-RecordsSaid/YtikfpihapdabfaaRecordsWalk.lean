/- The walk of the law Records, from what its callees answer. No condition beyond those. -/
import Derived.Test.YtikfpihapdabfaaRecAwakeR
import Derived.Test.YtikfpihapdabfaaRecRef
namespace Go.Proofs.Ytikfpihapdabfaa.RecordsW
open Go.RowKit Go.Proofs.Ytikfpihapdabfaa.QRecords Go.Proofs.Ytikfpihapdabfaa.RecPureR Go.Proofs.Ytikfpihapdabfaa.RecAwakeR Go.Proofs.Ytikfpihapdabfaa.GetRecW Go.Proofs.Ytikfpihapdabfaa.RecRef Go.Proofs.YtikfpihapdabfaaW.PrintWords Go.Proofs.YtikfpihapdabfaaW.PrintLast Go.Proofs.YtikfpihapdabfaaW.PrintMore
set_option linter.unusedVariables false
set_option linter.unusedSimpArgs false


structure J (w0 W : World) (g : Nat) (k q s st en v : Int) (ov : Bool) (A : Option Addr) (c : Nat) (l : List Int) (se ti sq by_ : Int) : Prop where
  b : RB W g k q s st en v ov A c l se ti sq by_
  lo : Below w0.heap.size w0 W
theorem J.step {w0 W W' : World} {g : Nat} {k q s st en v : Int} {ov : Bool} {A : Option Addr} {c : Nat} {l : List Int} {se ti sq by_ : Int} (h : J w0 W g k q s st en v ov A c l se ti sq by_) (hb : Below W.heap.size W W') : J w0 W' g k q s st en v ov A c l se ti sq by_ := ⟨h.b.step hb, below_step h.lo hb⟩
set_option maxHeartbeats 20000000 in
set_option maxRecDepth 100000 in
theorem records_calls (K : Nat) (k q s st en v : Int) (ov : Bool) (A : Option Addr) (c : Nat) (l : List Int) (se ti sq by_ : Int) (t : ByteArray) (w : World) (hr : Kd.C (Kd.int .i64) w A l.length l) (hc : l.length ≤ c)
    (AW : Aside0 (∀ w : World, Calls Try.prog 15 #[] w fun e w' => e = .returned (.bool true) ∧ Below w.heap.size w w'))
    (a : ByteArray) (e1 : Int) (m : Bool) (k2 q2 s2 st2 en2 v2 : Int) (ov2 : Bool) (l2 : List Int) (se2 ti2 sq2 by2 : Int) (e2 : Int) (hl2 : l2.length < 9000000000000000000) (lx : List Int)
    (A1 : Aside0 (record_Put.f K k q s st en v ov l se ti sq by_ = some (a, e1))) (A2 : Aside0 (bourneref1_PutRec.f K k q s st en v ov l se ti sq by_ = some (a, e1)))
    (T1 : Aside0 (record_Get.f K t = some (⟨k2, q2, s2, st2, en2, v2, ov2, l2, se2, ti2, sq2, by2⟩, e2))) (T2 : Aside0 (gf K t = some (⟨k2, q2, s2, st2, en2, v2, ov2, l2, se2, ti2, sq2, by2⟩, e2)))
    (SP : Aside0 (bournelaw0_SpoilInts.f K l2 = some lx))
    (M1 : Aside0 (record_May.f k q s st en v ov l se ti sq by_ = some m)) (M2 : Aside0 (bourneref1_RecMay.f K k q s st en v ov l se ti sq by_ = some m)) :
    Calls Try.prog 3 #[.agg #[.int .i64 k, .int .i64 q, .int .i64 s, .int .i64 st, .int .i64 en, .int .i64 v, .bool ov, .slice A l.length c, .int .i64 se, .int .i64 ti, .int .i64 sq, .int .i64 by_], .string t] w fun e w' => e = .returned (.bool true) ∧ Below w.heap.size w w' := by
  have HB := Aside0.mk (Below.refl w.heap.size w)
  have HR := Aside0.mk hr
  have HC := Aside0.mk hc
  have HL2 := Aside0.mk hl2
  clear hr hc hl2
  go_enter Try.func3, Try.ntmps3
  go_upto_region 1 with (fail)
  have J1 : Aside0 (J w (w.alloc (.cells #[.int .i64 k, .int .i64 q, .int .i64 s, .int .i64 st, .int .i64 en, .int .i64 v, .bool ov, .slice A l.length c, .int .i64 se, .int .i64 ti, .int .i64 sq, .int .i64 by_] 30 (0, 0))) w.heap.size k q s st en v ov A c l se ti sq by_) := ⟨⟨RB.new HR.out, below_alloc HB.out _⟩⟩
  generalize w.alloc _ = W1 at *
  generalize hg : w.heap.size = g at J1 ⊢
  have hgg := Aside0.mk hg
  clear hg HB
  have x0 := blk_cell (show W1.heap[g]? = _ from J1.out.b.o) 0; simp at x0; have x1 := blk_cell (show W1.heap[g]? = _ from J1.out.b.o) 1; simp at x1; have x2 := blk_cell (show W1.heap[g]? = _ from J1.out.b.o) 2; simp at x2; have x3 := blk_cell (show W1.heap[g]? = _ from J1.out.b.o) 3; simp at x3; have x4 := blk_cell (show W1.heap[g]? = _ from J1.out.b.o) 4; simp at x4; have x5 := blk_cell (show W1.heap[g]? = _ from J1.out.b.o) 5; simp at x5; have x6 := blk_cell (show W1.heap[g]? = _ from J1.out.b.o) 6; simp at x6; have x7 := blk_cell (show W1.heap[g]? = _ from J1.out.b.o) 7; simp at x7; have x8 := blk_cell (show W1.heap[g]? = _ from J1.out.b.o) 8; simp at x8; have x9 := blk_cell (show W1.heap[g]? = _ from J1.out.b.o) 9; simp at x9; have x10 := blk_cell (show W1.heap[g]? = _ from J1.out.b.o) 10; simp at x10; have x11 := blk_cell (show W1.heap[g]? = _ from J1.out.b.o) 11; simp at x11
  go_wp2_with fail
  refine (record_Put.calls K k q s st en v ov A c l se ti sq by_ a e1 _ J1.out.b.r HC.out A1.out).mono ?_
  rintro e w2 ⟨rfl, hb⟩
  have J2 := Aside0.mk (J1.out.step hb)
  clear x0 x1 x2 x3 x4 x5 x6 x7 x8 x9 x10 x11
  clear hb J1
  have x0 := blk_cell (show w2.heap[g]? = _ from J2.out.b.o) 0; simp at x0; have x1 := blk_cell (show w2.heap[g]? = _ from J2.out.b.o) 1; simp at x1; have x2 := blk_cell (show w2.heap[g]? = _ from J2.out.b.o) 2; simp at x2; have x3 := blk_cell (show w2.heap[g]? = _ from J2.out.b.o) 3; simp at x3; have x4 := blk_cell (show w2.heap[g]? = _ from J2.out.b.o) 4; simp at x4; have x5 := blk_cell (show w2.heap[g]? = _ from J2.out.b.o) 5; simp at x5; have x6 := blk_cell (show w2.heap[g]? = _ from J2.out.b.o) 6; simp at x6; have x7 := blk_cell (show w2.heap[g]? = _ from J2.out.b.o) 7; simp at x7; have x8 := blk_cell (show w2.heap[g]? = _ from J2.out.b.o) 8; simp at x8; have x9 := blk_cell (show w2.heap[g]? = _ from J2.out.b.o) 9; simp at x9; have x10 := blk_cell (show w2.heap[g]? = _ from J2.out.b.o) 10; simp at x10; have x11 := blk_cell (show w2.heap[g]? = _ from J2.out.b.o) 11; simp at x11
  go_wp2_with fail
  refine (bourneref1_PutRec.calls K k q s st en v ov A c l se ti sq by_ a e1 _ J2.out.b.r HC.out A2.out).mono ?_
  rintro e w3 ⟨rfl, hb⟩
  have J3 := Aside0.mk (J2.out.step hb)
  clear x0 x1 x2 x3 x4 x5 x6 x7 x8 x9 x10 x11
  clear hb J2
  go_wp2_with fail
  refine (record_Get.calls K t _ _ _ T1.out).mono ?_
  rintro e w4 ⟨A3, c3, rfl, hR, hb⟩
  have J4 := Aside0.mk (J3.out.step hb)
  have R4 := Aside0.mk (Kd.R_lower hR J3.out.lo.size)
  clear hb hR J3
  unfold RV.agg
  dsimp only
  go_upto_region 4 with (fail)
  have G5 : Aside0 (RC (w4.alloc (.cells #[.int .i64 k2, .int .i64 q2, .int .i64 s2, .int .i64 st2, .int .i64 en2, .int .i64 v2, .bool ov2, .slice A3 l2.length c3, .int .i64 se2, .int .i64 ti2, .int .i64 sq2, .int .i64 by2] 30 (0, 0))) w4.heap.size k2 q2 s2 st2 en2 v2 ov2 A3 c3 l2 se2 ti2 sq2 by2) := ⟨blk_new _ _⟩
  have J5 := Aside0.mk (J4.out.step (below_alloc (Below.refl _ _) (.cells #[.int .i64 k2, .int .i64 q2, .int .i64 s2, .int .i64 st2, .int .i64 en2, .int .i64 v2, .bool ov2, .slice A3 l2.length c3, .int .i64 se2, .int .i64 ti2, .int .i64 sq2, .int .i64 by2] 30 (0, 0))))
  have R5 := Aside0.mk (Kd.R_alloc R4.out (.cells #[.int .i64 k2, .int .i64 q2, .int .i64 s2, .int .i64 st2, .int .i64 en2, .int .i64 v2, .bool ov2, .slice A3 l2.length c3, .int .i64 se2, .int .i64 ti2, .int .i64 sq2, .int .i64 by2] 30 (0, 0)))
  dsimp only at R5
  generalize w4.heap.size = gc at *
  generalize w4.alloc _ = W5 at *
  clear J4 R4
  go_wp2_with fail
  refine (getrec_calls K t _ _ _ T2.out).mono ?_
  rintro e w6 ⟨A4, c4, rfl, hR, hb⟩
  have J6 := Aside0.mk (J5.out.step hb)
  have G6 : Aside0 (RC w6 gc k2 q2 s2 st2 en2 v2 ov2 A3 c3 l2 se2 ti2 sq2 by2) := ⟨blk_below G5.out hb⟩
  have R6 := Aside0.mk (Kd.R_below R5.out hb)
  obtain ⟨A4', c4', ev, hcc, hC⟩ := Kd.R_reads hR
  obtain ⟨rfl, rfl⟩ : A4 = A4' ∧ c4 = c4' := by simpa using ev
  have HCC := Aside0.mk hcc
  have C6 := Aside0.mk hC
  clear hb hR J5 G5 R5 ev hcc hC
  unfold RV.agg
  dsimp only
  dsimp only at HCC C6
  go_upto_region 5 with (fail)
  have G7 : Aside0 (RC (w6.alloc (.cells #[.int .i64 k2, .int .i64 q2, .int .i64 s2, .int .i64 st2, .int .i64 en2, .int .i64 v2, .bool ov2, .slice A4 l2.length c4, .int .i64 se2, .int .i64 ti2, .int .i64 sq2, .int .i64 by2] 30 (0, 0))) w6.heap.size k2 q2 s2 st2 en2 v2 ov2 A4 c4 l2 se2 ti2 sq2 by2) := ⟨blk_new _ _⟩
  have hb7 : Below w6.heap.size w6 (w6.alloc (.cells #[.int .i64 k2, .int .i64 q2, .int .i64 s2, .int .i64 st2, .int .i64 en2, .int .i64 v2, .bool ov2, .slice A4 l2.length c4, .int .i64 se2, .int .i64 ti2, .int .i64 sq2, .int .i64 by2] 30 (0, 0))) := below_alloc (Below.refl _ _) _
  have J7 := Aside0.mk (J6.out.step hb7)
  have R7 := Aside0.mk (Kd.R_below R6.out hb7)
  have C7 := Aside0.mk (Kd.C_below C6.out hb7)
  have D7 : Aside0 (RC (w6.alloc (.cells #[.int .i64 k2, .int .i64 q2, .int .i64 s2, .int .i64 st2, .int .i64 en2, .int .i64 v2, .bool ov2, .slice A4 l2.length c4, .int .i64 se2, .int .i64 ti2, .int .i64 sq2, .int .i64 by2] 30 (0, 0))) gc k2 q2 s2 st2 en2 v2 ov2 A3 c3 l2 se2 ti2 sq2 by2) := ⟨blk_below G6.out hb7⟩
  clear hb7
  generalize w6.heap.size = gd at *
  generalize w6.alloc _ = W7 at *
  clear J6 R6 C6 G6
  obtain ⟨A3', c3', ev, hcc3, hC3⟩ := Kd.R_reads R7.out
  obtain ⟨rfl, rfl⟩ : A3 = A3' ∧ c3 = c3' := by simpa using ev
  clear ev
  have CS := Aside0.mk (same_rec k2 q2 s2 st2 en2 v2 ov2 l2 se2 ti2 sq2 by2 A3 A4 c3 c4 W7 HL2.out hcc3 HCC.out hC3 C7.out)
  clear hcc3 hC3 C7 HCC
  have y0 := blk_cell (show W7.heap[gc]? = _ from D7.out) 0; simp at y0; have y1 := blk_cell (show W7.heap[gc]? = _ from D7.out) 1; simp at y1; have y2 := blk_cell (show W7.heap[gc]? = _ from D7.out) 2; simp at y2; have y3 := blk_cell (show W7.heap[gc]? = _ from D7.out) 3; simp at y3; have y4 := blk_cell (show W7.heap[gc]? = _ from D7.out) 4; simp at y4; have y5 := blk_cell (show W7.heap[gc]? = _ from D7.out) 5; simp at y5; have y6 := blk_cell (show W7.heap[gc]? = _ from D7.out) 6; simp at y6; have y7 := blk_cell (show W7.heap[gc]? = _ from D7.out) 7; simp at y7; have y8 := blk_cell (show W7.heap[gc]? = _ from D7.out) 8; simp at y8; have y9 := blk_cell (show W7.heap[gc]? = _ from D7.out) 9; simp at y9; have y10 := blk_cell (show W7.heap[gc]? = _ from D7.out) 10; simp at y10; have y11 := blk_cell (show W7.heap[gc]? = _ from D7.out) 11; simp at y11
  have z0 := blk_cell (show W7.heap[gd]? = _ from G7.out) 0; simp at z0; have z1 := blk_cell (show W7.heap[gd]? = _ from G7.out) 1; simp at z1; have z2 := blk_cell (show W7.heap[gd]? = _ from G7.out) 2; simp at z2; have z3 := blk_cell (show W7.heap[gd]? = _ from G7.out) 3; simp at z3; have z4 := blk_cell (show W7.heap[gd]? = _ from G7.out) 4; simp at z4; have z5 := blk_cell (show W7.heap[gd]? = _ from G7.out) 5; simp at z5; have z6 := blk_cell (show W7.heap[gd]? = _ from G7.out) 6; simp at z6; have z7 := blk_cell (show W7.heap[gd]? = _ from G7.out) 7; simp at z7; have z8 := blk_cell (show W7.heap[gd]? = _ from G7.out) 8; simp at z8; have z9 := blk_cell (show W7.heap[gd]? = _ from G7.out) 9; simp at z9; have z10 := blk_cell (show W7.heap[gd]? = _ from G7.out) 10; simp at z10; have z11 := blk_cell (show W7.heap[gd]? = _ from G7.out) 11; simp at z11
  go_wp2_with (go_at_call 10; (with_reducible refine (num_calls e1 _).mono ?_); rintro e w5 ⟨rfl, rfl⟩)
  refine CS.out.mono ?_
  rintro e w8 ⟨rfl, hb⟩
  have J8 := Aside0.mk (J7.out.step hb)
  have R8 := Aside0.mk (Kd.R_below R7.out hb)
  have D8 : Aside0 (RC w8 gc k2 q2 s2 st2 en2 v2 ov2 A3 c3 l2 se2 ti2 sq2 by2) := ⟨blk_below D7.out hb⟩
  clear y0 y1 y2 y3 y4 y5 y6 y7 y8 y9 y10 y11
  clear z0 z1 z2 z3 z4 z5 z6 z7 z8 z9 z10 z11
  clear hb J7 R7 D7 G7 CS
  have y7 := blk_cell (show w8.heap[gc]? = _ from D8.out) 7
  simp at y7
  go_wp2_with (go_at_call 10; (with_reducible refine (num_calls e2 _).mono ?_); rintro e w5 ⟨rfl, rfl⟩)
  refine (bournelaw0_SpoilInts.calls K (fun k => True ∧ k ≠ g) _ l2 lx w _ J8.out.lo (Kd.R_types R8.out J8.out.b.o (by decide)) SP.out).mono ?_
  rintro e w9 ⟨rfl, _, hb, hk⟩
  have HP : Aside0 (J w w9 g k q s st en v ov A c l se ti sq by_) := ⟨⟨⟨(hk.2 g (blk_lt J8.out.b.o) (fun h => h.2 rfl)).trans J8.out.b.o, Kd.C_below HR.out hb⟩, hb⟩⟩
  clear hb hk J8 R8 D8 y7
  have MS : Aside0 (∀ W : World, Aside0 (J w W g k q s st en v ov A c l se ti sq by_) → W.cell? ⟨g, 0, none⟩ = some (.int .i64 k) ∧ W.cell? ⟨g, 1, none⟩ = some (.int .i64 q) ∧ W.cell? ⟨g, 2, none⟩ = some (.int .i64 s) ∧ W.cell? ⟨g, 3, none⟩ = some (.int .i64 st) ∧ W.cell? ⟨g, 4, none⟩ = some (.int .i64 en) ∧ W.cell? ⟨g, 5, none⟩ = some (.int .i64 v) ∧ W.cell? ⟨g, 6, none⟩ = some (.bool ov) ∧ W.cell? ⟨g, 7, none⟩ = some (.slice A l.length c) ∧ W.cell? ⟨g, 8, none⟩ = some (.int .i64 se) ∧ W.cell? ⟨g, 9, none⟩ = some (.int .i64 ti) ∧ W.cell? ⟨g, 10, none⟩ = some (.int .i64 sq) ∧ W.cell? ⟨g, 11, none⟩ = some (.int .i64 by_) ∧ Aside0 (J w W g k q s st en v ov A c l se ti sq by_)) := ⟨fun W hp => ⟨by have z := blk_cell (show W.heap[g]? = _ from hp.out.b.o) 0; simpa using z, by have z := blk_cell (show W.heap[g]? = _ from hp.out.b.o) 1; simpa using z, by have z := blk_cell (show W.heap[g]? = _ from hp.out.b.o) 2; simpa using z, by have z := blk_cell (show W.heap[g]? = _ from hp.out.b.o) 3; simpa using z, by have z := blk_cell (show W.heap[g]? = _ from hp.out.b.o) 4; simpa using z, by have z := blk_cell (show W.heap[g]? = _ from hp.out.b.o) 5; simpa using z, by have z := blk_cell (show W.heap[g]? = _ from hp.out.b.o) 6; simpa using z, by have z := blk_cell (show W.heap[g]? = _ from hp.out.b.o) 7; simpa using z, by have z := blk_cell (show W.heap[g]? = _ from hp.out.b.o) 8; simpa using z, by have z := blk_cell (show W.heap[g]? = _ from hp.out.b.o) 9; simpa using z, by have z := blk_cell (show W.heap[g]? = _ from hp.out.b.o) 10; simpa using z, by have z := blk_cell (show W.heap[g]? = _ from hp.out.b.o) 11; simpa using z, hp⟩⟩
  have CM : Aside0 (∀ W : World, Aside0 (J w W g k q s st en v ov A c l se ti sq by_) → Calls Try.prog 13 #[.agg #[.int .i64 k, .int .i64 q, .int .i64 s, .int .i64 st, .int .i64 en, .int .i64 v, .bool ov, .slice A l.length c, .int .i64 se, .int .i64 ti, .int .i64 sq, .int .i64 by_]] W fun e w' => e = .returned (.bool m) ∧ Aside0 (J w w' g k q s st en v ov A c l se ti sq by_)) :=
    ⟨fun W hp => (record_May.calls k q s st en v ov A c l se ti sq by_ m W hp.out.b.r HC.out M1.out).mono fun e w' hh => ⟨hh.1, ⟨hp.out.step hh.2⟩⟩⟩
  have CN : Aside0 (∀ W : World, Aside0 (J w W g k q s st en v ov A c l se ti sq by_) → Calls Try.prog 14 #[.agg #[.int .i64 k, .int .i64 q, .int .i64 s, .int .i64 st, .int .i64 en, .int .i64 v, .bool ov, .slice A l.length c, .int .i64 se, .int .i64 ti, .int .i64 sq, .int .i64 by_]] W fun e w' => e = .returned (.bool m) ∧ Aside0 (J w w' g k q s st en v ov A c l se ti sq by_)) :=
    ⟨fun W hp => (bourneref1_RecMay.calls K k q s st en v ov A c l se ti sq by_ m W hp.out.b.r HC.out M2.out).mono fun e w' hh => ⟨hh.1, ⟨hp.out.step hh.2⟩⟩⟩
  have CW : Aside0 (∀ W : World, Aside0 (J w W g k q s st en v ov A c l se ti sq by_) → Calls Try.prog 15 #[] W fun e w' => e = .returned (.bool true) ∧ Aside0 (J w w' g k q s st en v ov A c l se ti sq by_)) :=
    ⟨fun W hp => (AW.out W).mono fun e w' hh => ⟨hh.1, ⟨hp.out.step hh.2⟩⟩⟩
  clear M1 M2 AW HC HR A1 A2 T1 T2 SP HL2
  go_upto_region 8 with (fail)
  cases m
  all_goals
    go_region_held3 (fun w' => w'.cell? ⟨g, 0, none⟩ = some (.int .i64 k) ∧ w'.cell? ⟨g, 1, none⟩ = some (.int .i64 q) ∧ w'.cell? ⟨g, 2, none⟩ = some (.int .i64 s) ∧ w'.cell? ⟨g, 3, none⟩ = some (.int .i64 st) ∧ w'.cell? ⟨g, 4, none⟩ = some (.int .i64 en) ∧ w'.cell? ⟨g, 5, none⟩ = some (.int .i64 v) ∧ w'.cell? ⟨g, 6, none⟩ = some (.bool ov) ∧ w'.cell? ⟨g, 7, none⟩ = some (.slice A l.length c) ∧ w'.cell? ⟨g, 8, none⟩ = some (.int .i64 se) ∧ w'.cell? ⟨g, 9, none⟩ = some (.int .i64 ti) ∧ w'.cell? ⟨g, 10, none⟩ = some (.int .i64 sq) ∧ w'.cell? ⟨g, 11, none⟩ = some (.int .i64 by_) ∧ Aside0 (J w w' g k q s st en v ov A c l se ti sq by_))
      (first | exact MS.out _ HP | exact MS.out _ ⟨HP.out.step (below_drew1 (Below.refl _ _))⟩)
      (first
        | (go_at_call 13; refine (CM.out _ (by go_split_ands; assumption)).mono ?_; rintro e w5 ⟨rfl, HP⟩)
        | (go_at_call 14; refine (CN.out _ (by go_split_ands; assumption)).mono ?_; rintro e w5 ⟨rfl, HP⟩)
        | (go_at_call 15; refine (CW.out _ (by go_split_ands; assumption)).mono ?_; rintro e w5 ⟨rfl, HP⟩))
    all_goals
      go_wp2_with fail
      go_ret
      exact ⟨by first | rfl | (simp; done), HP.out.lo⟩

end Go.Proofs.Ytikfpihapdabfaa.RecordsW
