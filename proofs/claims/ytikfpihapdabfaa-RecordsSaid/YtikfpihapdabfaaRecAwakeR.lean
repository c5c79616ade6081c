/- What every record program answers that is one: the walk of awake with its callees' answers. No condition. -/
import Derived.Test.YtikfpihapdabfaaRecPureR
import Derived.Test.YtikfpihapdabfaaQRecordsx7
import Derived.Test.YtikfpihapdabfaaQRecordsx9
import Derived.Test.YtikfpihapdabfaaQRecordsx12
namespace Go.Proofs.Ytikfpihapdabfaa.RecAwakeR
open Go.RowKit Go.Proofs.Ytikfpihapdabfaa.QRecords Go.Proofs.Ytikfpihapdabfaa.RecPureR Go.Proofs.YtikfpihapdabfaaW.PrintWords Go.Proofs.YtikfpihapdabfaaW.PrintLast Go.Proofs.YtikfpihapdabfaaW.PrintMore
set_option linter.unusedVariables false
set_option linter.unusedSimpArgs false


set_option maxHeartbeats 2000000 in
theorem num_calls (a : Int) (w : World) : Calls Try.prog 10 #[.int .i64 a] w fun e w' => e = .returned (.int .i64 a) ∧ w = w' := by
  go_enter Try.func10, Try.ntmps10
  go_wp2
  go_ret
  exact ⟨rfl, rfl⟩
/-- record.Get, with its record's parts one by one. -/
theorem get_ok (K : Nat) (a0 : ByteArray) (k q s st en v : Int) (ov : Bool) (l : List Int) (se ti sq by_ e_ : Int) (w : World) (h : record_Get.f K a0 = some (⟨k, q, s, st, en, v, ov, l, se, ti, sq, by_⟩, e_)) :
    Calls Try.prog 8 #[.string a0] w fun e w' => ∃ A c, e = .returned (.tuple #[.agg #[.int .i64 k, .int .i64 q, .int .i64 s, .int .i64 st, .int .i64 en, .int .i64 v, .bool ov, .slice A l.length c, .int .i64 se, .int .i64 ti, .int .i64 sq, .int .i64 by_], .int .i64 e_]) ∧ l.length ≤ c ∧ Aside0 (Kd.C (Kd.int .i64) w' A l.length l) ∧ Aside0 (Below w.heap.size w w') := by
  refine (record_Get.calls K a0 _ _ w h).mono ?_
  rintro e w' ⟨A, c, rfl, hR, hb⟩
  obtain ⟨A', c', ev, hcc, hC⟩ := Kd.R_reads hR
  obtain ⟨rfl, rfl⟩ : A = A' ∧ c = c' := by simpa using ev
  exact ⟨A, c, rfl, hcc, ⟨hC⟩, ⟨hb⟩⟩
/-- A record's box and its row. -/
structure RB (W : World) (g : Nat) (k q s st en v : Int) (ov : Bool) (A : Option Addr) (c : Nat) (l : List Int) (se ti sq by_ : Int) : Prop where
  o : RC W g k q s st en v ov A c l se ti sq by_
  r : Kd.C (Kd.int .i64) W A l.length l
theorem RB.step {W W' : World} {g : Nat} {k q s st en v : Int} {ov : Bool} {A : Option Addr} {c : Nat} {l : List Int} {se ti sq by_ : Int} (h : RB W g k q s st en v ov A c l se ti sq by_) (hb : Below W.heap.size W W') : RB W' g k q s st en v ov A c l se ti sq by_ :=
  ⟨by unfold RC; exact blk_below h.o hb, Kd.C_below h.r hb⟩
theorem RB.new {W : World} {k q s st en v : Int} {ov : Bool} {A : Option Addr} {c : Nat} {l : List Int} {se ti sq by_ : Int} (h : Kd.C (Kd.int .i64) W A l.length l) : RB (W.alloc (.cells #[.int .i64 k, .int .i64 q, .int .i64 s, .int .i64 st, .int .i64 en, .int .i64 v, .bool ov, .slice A l.length c, .int .i64 se, .int .i64 ti, .int .i64 sq, .int .i64 by_] 30 (0, 0))) W.heap.size k q s st en v ov A c l se ti sq by_ :=
  ⟨by unfold RC; exact blk_new _ _, Kd.C_below h (below_alloc (Below.refl _ _) _)⟩
set_option maxHeartbeats 8000000 in
set_option maxRecDepth 100000 in
theorem awake_calls (K : Nat) (w : World)
    (A1 : Aside0 (record_Put.f K 0 1 2 (-3) 4 0 false [1, 2] 0 0 0 0 = some ((⟨#[0, 2, 4, 5, 8, 0, 0, 4, 2, 4]⟩ : ByteArray), 0)))
    (A2 : Aside0 (record_Get.f K (⟨#[0, 2, 4, 5, 8, 0, 0, 4, 2, 4]⟩ : ByteArray) = some (⟨0, 1, 2, -3, 4, 0, false, [1, 2], 0, 0, 0, 0⟩, 0)))
    (A3 : Aside0 (record_Get.f K ((⟨#[0, 2, 4, 5, 8, 0, 0, 4, 2, 4]⟩ : ByteArray) ++ (⟨#[0]⟩ : ByteArray)) = some (⟨0, 0, 0, 0, 0, 0, false, [], 0, 0, 0, 0⟩, 1000)))
    (A4 : Aside0 (record_Put.f K 5 0 0 0 0 0 false [] 0 0 0 0 = some ((⟨#[]⟩ : ByteArray), 1000)))
    (A5 : Aside0 (record_Put.f K 1 0 0 0 0 0 false [] 1 2 3 0 = some ((⟨#[2, 2, 4, 6]⟩ : ByteArray), 0)))
    (A6 : Aside0 (record_May.f 0 1 2 (-3) 4 0 false [1, 2] 0 0 0 0 = some true)) :
    Calls Try.prog 15 #[] w fun e w' => e = .returned (.bool true) ∧ Below w.heap.size w w' := by
  have HB := Aside0.mk (Below.refl w.heap.size w)
  go_enter Try.func15, Try.ntmps15
  go_upto_region 2 with (fail)
  have F1 : Aside0 (RB ((w.alloc (.cells #[.int .i64 1, .int .i64 2] 3 (0, 0))).alloc (.cells #[.int .i64 0, .int .i64 1, .int .i64 2, .int .i64 (-3), .int .i64 4, .int .i64 0, .bool false, .slice (some ⟨w.heap.size, 0, none⟩) 2 2, .int .i64 0, .int .i64 0, .int .i64 0, .int .i64 0] 30 (0, 0))) (w.heap.size + 1) 0 1 2 (-3) 4 0 false (some ⟨w.heap.size, 0, none⟩) 2 [1, 2] 0 0 0 0) := ⟨by
    have e : (w.alloc (.cells #[.int .i64 1, .int .i64 2] 3 (0, 0))).heap.size = w.heap.size + 1 := Array.size_push ..
    rw [← e]; exact RB.new (lit_C (t := 3) [1, 2] (blk_new _ _) (show 2 ≤ 100 by decide))⟩
  have B1 := Aside0.mk (below_alloc (below_alloc HB.out (.cells #[.int .i64 1, .int .i64 2] 3 (0, 0))) (.cells #[.int .i64 0, .int .i64 1, .int .i64 2, .int .i64 (-3), .int .i64 4, .int .i64 0, .bool false, .slice (some ⟨w.heap.size, 0, none⟩) 2 2, .int .i64 0, .int .i64 0, .int .i64 0, .int .i64 0] 30 (0, 0)))
  generalize hg0 : (some (⟨w.heap.size, 0, none⟩ : Addr)) = A0 at *
  generalize hg1 : w.heap.size + 1 = g1 at *
  generalize (w.alloc (.cells #[.int .i64 1, .int .i64 2] 3 (0, 0))).alloc _ = W1 at *
  clear hg0 hg1 HB
  have x0 := blk_cell (show W1.heap[g1]? = _ from F1.out.o) 0; simp at x0; have x1 := blk_cell (show W1.heap[g1]? = _ from F1.out.o) 1; simp at x1; have x2 := blk_cell (show W1.heap[g1]? = _ from F1.out.o) 2; simp at x2; have x3 := blk_cell (show W1.heap[g1]? = _ from F1.out.o) 3; simp at x3; have x4 := blk_cell (show W1.heap[g1]? = _ from F1.out.o) 4; simp at x4; have x5 := blk_cell (show W1.heap[g1]? = _ from F1.out.o) 5; simp at x5; have x6 := blk_cell (show W1.heap[g1]? = _ from F1.out.o) 6; simp at x6; have x7 := blk_cell (show W1.heap[g1]? = _ from F1.out.o) 7; simp at x7; have x8 := blk_cell (show W1.heap[g1]? = _ from F1.out.o) 8; simp at x8; have x9 := blk_cell (show W1.heap[g1]? = _ from F1.out.o) 9; simp at x9; have x10 := blk_cell (show W1.heap[g1]? = _ from F1.out.o) 10; simp at x10; have x11 := blk_cell (show W1.heap[g1]? = _ from F1.out.o) 11; simp at x11
  go_wp2_with fail
  refine (record_Put.calls K 0 1 2 (-3) 4 0 false A0 2 [1, 2] 0 0 0 0 _ 0 _ F1.out.r (Nat.le_refl _) A1.out).mono ?_
  rintro e w2 ⟨rfl, hb⟩
  have F2 := Aside0.mk (F1.out.step hb)
  have B2 := Aside0.mk (below_step B1.out hb)
  clear x0 x1 x2 x3 x4 x5 x6 x7 x8 x9 x10 x11
  clear hb F1 B1 A1
  go_wp2_with fail
  refine (get_ok K _ 0 1 2 (-3) 4 0 false [1, 2] 0 0 0 0 0 _ A2.out).mono ?_
  rintro e w3 ⟨At, ct, rfl, hct, hC, hb⟩
  have F3 := Aside0.mk (F2.out.step hb.out)
  have B3 := Aside0.mk (below_step B2.out hb.out)
  have HCT := Aside0.mk hct
  clear hb F2 B2 A2 hct
  go_upto_region 4 with (fail)
  have G4 := Aside0.mk (RB.new (c := ct) (k := 0) (q := 1) (s := 2) (st := -3) (en := 4) (v := 0) (ov := false) (se := 0) (ti := 0) (sq := 0) (by_ := 0) hC.out)
  have F4 := Aside0.mk (F3.out.step (below_alloc (Below.refl _ _) (.cells #[.int .i64 0, .int .i64 1, .int .i64 2, .int .i64 (-3), .int .i64 4, .int .i64 0, .bool false, .slice At 2 ct, .int .i64 0, .int .i64 0, .int .i64 0, .int .i64 0] 30 (0, 0))))
  have B4 := Aside0.mk (below_alloc B3.out (.cells #[.int .i64 0, .int .i64 1, .int .i64 2, .int .i64 (-3), .int .i64 4, .int .i64 0, .bool false, .slice At 2 ct, .int .i64 0, .int .i64 0, .int .i64 0, .int .i64 0] 30 (0, 0)))
  generalize hgt : w3.heap.size = gt at *
  generalize w3.alloc _ = W4 at *
  clear hgt hC F3 B3
  go_wp2_with fail
  refine (get_ok K _ 0 0 0 0 0 0 false [] 0 0 0 0 1000 _ A3.out).mono ?_
  rintro e w5 ⟨Au, cu, rfl, hcu, hC, hb⟩
  have F5 := Aside0.mk (F4.out.step hb.out)
  have G5 := Aside0.mk (G4.out.step hb.out)
  have B5 := Aside0.mk (below_step B4.out hb.out)
  clear hb F4 G4 B4 A3 hC hcu
  go_upto_region 5 with (fail)
  have F6 := Aside0.mk (F5.out.step (below_alloc (Below.refl _ _) (.cells #[.int .i64 0, .int .i64 0, .int .i64 0, .int .i64 0, .int .i64 0, .int .i64 0, .bool false, .slice Au 0 cu, .int .i64 0, .int .i64 0, .int .i64 0, .int .i64 0] 30 (0, 0))))
  have G6 := Aside0.mk (G5.out.step (below_alloc (Below.refl _ _) (.cells #[.int .i64 0, .int .i64 0, .int .i64 0, .int .i64 0, .int .i64 0, .int .i64 0, .bool false, .slice Au 0 cu, .int .i64 0, .int .i64 0, .int .i64 0, .int .i64 0] 30 (0, 0))))
  have B6 := Aside0.mk (below_alloc B5.out (.cells #[.int .i64 0, .int .i64 0, .int .i64 0, .int .i64 0, .int .i64 0, .int .i64 0, .bool false, .slice Au 0 cu, .int .i64 0, .int .i64 0, .int .i64 0, .int .i64 0] 30 (0, 0)))
  generalize hgu : w5.heap.size = gu at *
  generalize w5.alloc _ = W6 at *
  clear hgu F5 G5 B5
  go_wp2_with fail
  refine (record_Put.calls K 5 0 0 0 0 0 false none 0 [] 0 0 0 0 _ 1000 _ (Kd.C_nil _ _) (Nat.le_refl _) A4.out).mono ?_
  rintro e w7 ⟨rfl, hb⟩
  have F7 := Aside0.mk (F6.out.step hb)
  have G7 := Aside0.mk (G6.out.step hb)
  have B7 := Aside0.mk (below_step B6.out hb)
  clear hb F6 G6 B6 A4
  go_wp2_with fail
  refine (record_Put.calls K 1 0 0 0 0 0 false none 0 [] 1 2 3 0 _ 0 _ (Kd.C_nil _ _) (Nat.le_refl _) A5.out).mono ?_
  rintro e w8 ⟨rfl, hb⟩
  have F8 := Aside0.mk (F7.out.step hb)
  have G8 := Aside0.mk (G7.out.step hb)
  have B8 := Aside0.mk (below_step B7.out hb)
  clear hb F7 G7 B7 A5
  have x0 := blk_cell (show w8.heap[g1]? = _ from F8.out.o) 0; simp at x0; have x1 := blk_cell (show w8.heap[g1]? = _ from F8.out.o) 1; simp at x1; have x2 := blk_cell (show w8.heap[g1]? = _ from F8.out.o) 2; simp at x2; have x3 := blk_cell (show w8.heap[g1]? = _ from F8.out.o) 3; simp at x3; have x4 := blk_cell (show w8.heap[g1]? = _ from F8.out.o) 4; simp at x4; have x5 := blk_cell (show w8.heap[g1]? = _ from F8.out.o) 5; simp at x5; have x6 := blk_cell (show w8.heap[g1]? = _ from F8.out.o) 6; simp at x6; have x7 := blk_cell (show w8.heap[g1]? = _ from F8.out.o) 7; simp at x7; have x8 := blk_cell (show w8.heap[g1]? = _ from F8.out.o) 8; simp at x8; have x9 := blk_cell (show w8.heap[g1]? = _ from F8.out.o) 9; simp at x9; have x10 := blk_cell (show w8.heap[g1]? = _ from F8.out.o) 10; simp at x10; have x11 := blk_cell (show w8.heap[g1]? = _ from F8.out.o) 11; simp at x11
  have y0 := blk_cell (show w8.heap[gt]? = _ from G8.out.o) 0; simp at y0; have y1 := blk_cell (show w8.heap[gt]? = _ from G8.out.o) 1; simp at y1; have y2 := blk_cell (show w8.heap[gt]? = _ from G8.out.o) 2; simp at y2; have y3 := blk_cell (show w8.heap[gt]? = _ from G8.out.o) 3; simp at y3; have y4 := blk_cell (show w8.heap[gt]? = _ from G8.out.o) 4; simp at y4; have y5 := blk_cell (show w8.heap[gt]? = _ from G8.out.o) 5; simp at y5; have y6 := blk_cell (show w8.heap[gt]? = _ from G8.out.o) 6; simp at y6; have y7 := blk_cell (show w8.heap[gt]? = _ from G8.out.o) 7; simp at y7; have y8 := blk_cell (show w8.heap[gt]? = _ from G8.out.o) 8; simp at y8; have y9 := blk_cell (show w8.heap[gt]? = _ from G8.out.o) 9; simp at y9; have y10 := blk_cell (show w8.heap[gt]? = _ from G8.out.o) 10; simp at y10; have y11 := blk_cell (show w8.heap[gt]? = _ from G8.out.o) 11; simp at y11
  have CS := Aside0.mk (same_rec 0 1 2 (-3) 4 0 false [1, 2] 0 0 0 0 At A0 ct 2 w8 (by decide) HCT.out (Nat.le_refl _) G8.out.r F8.out.r)
  go_wp2_with (go_at_call 10; (with_reducible refine (num_calls 0 _).mono ?_); rintro e w1 ⟨rfl, rfl⟩)
  refine CS.out.mono ?_
  rintro e w9 ⟨rfl, hb⟩
  have F9 := Aside0.mk (F8.out.step hb)
  have B9 := Aside0.mk (below_step B8.out hb)
  clear x0 x1 x2 x3 x4 x5 x6 x7 x8 x9 x10 x11
  clear y0 y1 y2 y3 y4 y5 y6 y7 y8 y9 y10 y11
  clear hb F8 G8 B8 CS
  have x0 := blk_cell (show w9.heap[g1]? = _ from F9.out.o) 0; simp at x0; have x1 := blk_cell (show w9.heap[g1]? = _ from F9.out.o) 1; simp at x1; have x2 := blk_cell (show w9.heap[g1]? = _ from F9.out.o) 2; simp at x2; have x3 := blk_cell (show w9.heap[g1]? = _ from F9.out.o) 3; simp at x3; have x4 := blk_cell (show w9.heap[g1]? = _ from F9.out.o) 4; simp at x4; have x5 := blk_cell (show w9.heap[g1]? = _ from F9.out.o) 5; simp at x5; have x6 := blk_cell (show w9.heap[g1]? = _ from F9.out.o) 6; simp at x6; have x7 := blk_cell (show w9.heap[g1]? = _ from F9.out.o) 7; simp at x7; have x8 := blk_cell (show w9.heap[g1]? = _ from F9.out.o) 8; simp at x8; have x9 := blk_cell (show w9.heap[g1]? = _ from F9.out.o) 9; simp at x9; have x10 := blk_cell (show w9.heap[g1]? = _ from F9.out.o) 10; simp at x10; have x11 := blk_cell (show w9.heap[g1]? = _ from F9.out.o) 11; simp at x11
  go_wp2_with (first | (go_at_call 10; (with_reducible refine (num_calls 0 _).mono ?_); rintro e w1 ⟨rfl, rfl⟩) | (go_at_call 10; (with_reducible refine (num_calls 1000 _).mono ?_); rintro e w1 ⟨rfl, rfl⟩))
  refine (record_May.calls 0 1 2 (-3) 4 0 false A0 2 [1, 2] 0 0 0 0 true _ F9.out.r (Nat.le_refl _) A6.out).mono ?_
  rintro e w10 ⟨rfl, hb⟩
  have B10 := Aside0.mk (below_step B9.out hb)
  go_wp2_with fail
  go_ret
  exact ⟨by first | rfl | (simp; done), B10.out⟩
/-- Every record program that is one is awake. -/
theorem awake_all (w : World) : Calls Try.prog 15 #[] w fun e w' => e = .returned (.bool true) ∧ Below w.heap.size w w' :=
  awake_calls 40 w ⟨a1_ev 40 (by decide)⟩ ⟨a2_ev 40 (by decide)⟩ ⟨a3_ev 40 (by decide)⟩ ⟨a4_ev 40⟩ ⟨a5_ev 40 (by decide)⟩ ⟨a6_ev⟩

end Go.Proofs.Ytikfpihapdabfaa.RecAwakeR
