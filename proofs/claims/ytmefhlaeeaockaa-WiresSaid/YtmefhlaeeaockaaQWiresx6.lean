-- Written by a program of this session (wip/myprint.py), over the words of the print
import Derived.Test.YtmefhlaeeaockaaQWiresx0
import Derived.Test.YtmefhlaeeaockaaQWiresx2
import Derived.Test.YtmefhlaeeaockaaQWiresx5
namespace Go.Proofs.Ytmefhlaeeaockaa.QWires
open Go.RowKit Go.Proofs.YtmefhlaeeaockaaW.PrintWords Go.Proofs.YtmefhlaeeaockaaW.PrintLast Go.Proofs.YtmefhlaeeaockaaW.PrintMore
attribute [local go_sem] max2_int min2_int max_two min_two max_three min_three max_four min_four   -- for this text's walks alone
set_option linter.unusedVariables false
set_option linter.unusedSimpArgs false

/-! ### wire_Get: function 9, by a walk of its own -/
abbrev GetRes := Int × Int × Int × Int × Int × ByteArray × Int × Bool
def wire_Get.raw (k : Nat) (a0 : ByteArray) : Option GetRes :=
  (varint_Reader_Num.f k a0 0 false).bind fun t0 =>
    if t0.1 = 0 then
      (varint_Reader_Num.f k t0.2.1 t0.2.2.1 t0.2.2.2).bind fun t1 => (varint_Reader_Num.f k t1.2.1 t1.2.2.1 t1.2.2.2).bind fun t2 =>
      (varint_Reader_Num.f k t2.2.1 t2.2.2.1 t2.2.2.2).bind fun t3 => (varint_Reader_Num.f k t3.2.1 t3.2.2.1 t3.2.2.2).bind fun t4 =>
      some (t0.1, t1.1, t2.1, t3.1, t4.1, t4.2)
    else if t0.1 = 1 then
      (varint_Reader_Num.f k t0.2.1 t0.2.2.1 t0.2.2.2).bind fun t1 => (varint_Reader_Num.f k t1.2.1 t1.2.2.1 t1.2.2.2).bind fun t2 =>
      some (t0.1, t1.1, 0, t2.1, 0, t2.2)
    else some (t0.1, 0, 0, 0, 0, t0.2)
def wire_Get.f (k : Nat) (a0 : ByteArray) : Option (Int × Int × Int × Int × Int × Int) :=
  (wire_Get.raw k a0).bind fun q =>
    if (if q.2.2.2.2.2.2.2 = true then false else q.2.2.2.2.2.2.1 == (q.2.2.2.2.2.1.size : Int)) = true then (if oMay q.1 q.2.1 q.2.2.1 q.2.2.2.1 q.2.2.2.2.1 = true then some (q.1, q.2.1, q.2.2.1, q.2.2.2.1, q.2.2.2.2.1, 0) else some (0, 0, 0, 0, 0, 900))
    else some (0, 0, 0, 0, 0, 900)
theorem wire_Get.mono : ∀ a0 k, LeO (wire_Get.f k a0) (wire_Get.f (k + 1) a0) := by
  intro a0 k
  unfold wire_Get.f wire_Get.raw
  repeat' first
    | exact LeO.refl _
    | exact varint_Reader_Num.mono _ _ _ _
    | exact LeO.none _
    | refine LeO.ite ?_ ?_
    | refine LeO.bind ?_ (fun _ => ?_)
structure wire_Get.G (w W : World) (gr : Nat) (s : ByteArray) (at_ : Int) (bad : Bool) : Prop where
  res : W.heap[w.heap.size]? = some (.cells #[.int .i64 0, .int .i64 0, .int .i64 0, .int .i64 0, .int .i64 0] 23 (0, 0))
  rd : IsS45 w W gr s at_ bad
  ne : w.heap.size < gr
  below : Below w.heap.size w W
theorem wire_Get.G.num {w W W' : World} {gr : Nat} {s s' : ByteArray} {at_ at' : Int} {bad bad' : Bool} (h : wire_Get.G w W gr s at_ bad) (hI : IsS45 w W' gr s' at' bad') (hB : Below w.heap.size w W') (hK : KeepBut W W' gr none) : wire_Get.G w W' gr s' at' bad' :=
  ⟨by rw [hK.2 _ (Nat.lt_trans h.ne h.rd.lt) (Nat.ne_of_lt h.ne) (by simp)]; exact h.res, hI, h.ne, hB⟩
theorem wire_Get.G.start (w : World) (a0 : ByteArray) : wire_Get.G w ((w.alloc (.cells #[.int .i64 0, .int .i64 0, .int .i64 0, .int .i64 0, .int .i64 0] 23)).alloc (.cells #[.string a0, .int .i64 0, .bool false] 45)) (w.heap.size + 1) a0 0 false :=
  ⟨by show ((w.heap.push _).push _)[w.heap.size]? = _; simp [Array.getElem?_push], by
    have e : (w.alloc (.cells #[.int .i64 0, .int .i64 0, .int .i64 0, .int .i64 0, .int .i64 0] 23)).heap.size = w.heap.size + 1 := Array.size_push ..
    rw [← e]; exact IsS45.new w _ a0 0 false (below_alloc (Below.refl _ _) _), by omega, below_alloc (below_alloc (Below.refl _ _) _) _⟩
structure wire_Get.O (w W : World) (gr go : Nat) (s : ByteArray) (at_ : Int) (bad : Bool) (k a b c d : Int) : Prop where
  g : wire_Get.G w W gr s at_ bad
  o : W.heap[go]? = some (.cells #[.int .i64 k, .int .i64 a, .int .i64 b, .int .i64 c, .int .i64 d] 23 (0, 0))
  ne : gr < go
theorem wire_Get.G.step {w W W' : World} {gr : Nat} {s : ByteArray} {at_ : Int} {bad : Bool} (h : wire_Get.G w W gr s at_ bad) (hb : Below W.heap.size W W') : wire_Get.G w W' gr s at_ bad :=
  ⟨blk_below h.res hb, h.rd.below hb, h.ne, below_step h.below hb⟩
theorem wire_Get.G.far {w W : World} {gr go : Nat} {s : ByteArray} {at_ : Int} {bad : Bool} (h : wire_Get.G w W gr s at_ bad) (hn : gr < go) (j : Nat) (u : Value) : wire_Get.G w (W.setCell ⟨go, j, none⟩ u) gr s at_ bad :=
  ⟨blk_far h.res (Nat.ne_of_lt (Nat.lt_trans h.ne hn)) u, h.rd.far (Nat.ne_of_lt hn) u, h.ne, below_set h.below (Nat.le_of_lt (Nat.lt_trans h.ne hn))⟩
theorem wire_Get.O.new {w W : World} {gr : Nat} {s : ByteArray} {at_ : Int} {bad : Bool} (h : wire_Get.G w W gr s at_ bad) (k : Int) : wire_Get.O w (W.alloc (.cells #[.int .i64 k, .int .i64 0, .int .i64 0, .int .i64 0, .int .i64 0] 23)) gr W.heap.size s at_ bad k 0 0 0 0 :=
  ⟨h.step (below_alloc (Below.refl _ _) _), blk_new _ _, h.rd.lt⟩
theorem wire_Get.O.num {w W W' : World} {gr go : Nat} {s s' : ByteArray} {at_ at' : Int} {bad bad' : Bool} {k a b c d : Int} (h : wire_Get.O w W gr go s at_ bad k a b c d) (hI : IsS45 w W' gr s' at' bad') (hB : Below w.heap.size w W') (hK : KeepBut W W' gr none) : wire_Get.O w W' gr go s' at' bad' k a b c d :=
  ⟨h.g.num hI hB hK, by rw [hK.2 _ (blk_lt h.o) (Nat.ne_of_gt h.ne) (by simp)]; exact h.o, h.ne⟩
theorem wire_Get.O.step {w W W' : World} {gr go : Nat} {s : ByteArray} {at_ : Int} {bad : Bool} {k a b c d : Int} (h : wire_Get.O w W gr go s at_ bad k a b c d) (hb : Below W.heap.size W W') : wire_Get.O w W' gr go s at_ bad k a b c d :=
  ⟨h.g.step hb, blk_below h.o hb, h.ne⟩
theorem wire_Get.O.set1 {w W : World} {gr go : Nat} {s : ByteArray} {at_ : Int} {bad : Bool} {k a b c d : Int} (h : wire_Get.O w W gr go s at_ bad k a b c d) (x : Int) : wire_Get.O w (W.setCell ⟨go, 1, none⟩ (.int .i64 x)) gr go s at_ bad k x b c d := ⟨h.g.far h.ne _ _, blk_put h.o _ _ rfl, h.ne⟩
theorem wire_Get.O.set2 {w W : World} {gr go : Nat} {s : ByteArray} {at_ : Int} {bad : Bool} {k a b c d : Int} (h : wire_Get.O w W gr go s at_ bad k a b c d) (x : Int) : wire_Get.O w (W.setCell ⟨go, 2, none⟩ (.int .i64 x)) gr go s at_ bad k a x c d := ⟨h.g.far h.ne _ _, blk_put h.o _ _ rfl, h.ne⟩
theorem wire_Get.O.set3 {w W : World} {gr go : Nat} {s : ByteArray} {at_ : Int} {bad : Bool} {k a b c d : Int} (h : wire_Get.O w W gr go s at_ bad k a b c d) (x : Int) : wire_Get.O w (W.setCell ⟨go, 3, none⟩ (.int .i64 x)) gr go s at_ bad k a b x d := ⟨h.g.far h.ne _ _, blk_put h.o _ _ rfl, h.ne⟩
theorem wire_Get.O.set4 {w W : World} {gr go : Nat} {s : ByteArray} {at_ : Int} {bad : Bool} {k a b c d : Int} (h : wire_Get.O w W gr go s at_ bad k a b c d) (x : Int) : wire_Get.O w (W.setCell ⟨go, 4, none⟩ (.int .i64 x)) gr go s at_ bad k a b c x := ⟨h.g.far h.ne _ _, blk_put h.o _ _ rfl, h.ne⟩
theorem wire_Get.done_eq (s : ByteArray) (p : Int) (b : Bool) : varint_Reader_Done.f s p b = some ((if b = true then false else p == (s.size : Int)), s, p, b) := by
  unfold varint_Reader_Done.f
  cases b <;> rfl
theorem wire_Get.res5 {W : World} {g : Nat} (h : W.heap[g]? = some (.cells #[.int .i64 0, .int .i64 0, .int .i64 0, .int .i64 0, .int .i64 0] 23 (0, 0))) (a b c d e : Int) : (((((W.setCell ⟨g, 0, none⟩ (.int .i64 a)).setCell ⟨g, 1, none⟩ (.int .i64 b)).setCell ⟨g, 2, none⟩ (.int .i64 c)).setCell ⟨g, 3, none⟩ (.int .i64 d)).setCell ⟨g, 4, none⟩ (.int .i64 e)).heap[g]? = some (.cells #[.int .i64 a, .int .i64 b, .int .i64 c, .int .i64 d, .int .i64 e] 23 (0, 0)) :=
  blk_put (blk_put (blk_put (blk_put (blk_put h 0 _ rfl) 1 _ rfl) 2 _ rfl) 3 _ rfl) 4 _ rfl
set_option maxHeartbeats 8000000 in
set_option maxRecDepth 100000 in
theorem wire_Get.calls (k : Nat) (a0 : ByteArray) (r1 : Int) (r2 : Int) (r3 : Int) (r4 : Int) (r5 : Int) (r6 : Int) (w : World) (h : wire_Get.f k a0 = some (r1, r2, r3, r4, r5, r6)) :
    Calls Try.prog 9 #[.string a0] w fun e w' => e = .returned (.tuple #[.agg #[.int .i64 r1, .int .i64 r2, .int .i64 r3, .int .i64 r4, .int .i64 r5], .int .i64 r6]) ∧ Below w.heap.size w w' := by
  unfold wire_Get.f at h
  obtain ⟨q, hq, h⟩ := Option.bind_eq_some_iff.mp h
  have H := Aside0.mk h
  clear h
  unfold wire_Get.raw at hq
  obtain ⟨⟨n0, s0, p0, b0⟩, h0, hq⟩ := Option.bind_eq_some_iff.mp hq
  have H0 := Aside0.mk h0
  clear h0
  dsimp only at hq
  have G2 := Aside0.mk (wire_Get.G.start w a0)
  rcases (show n0 = 0 ∨ n0 = 1 ∨ (n0 ≠ 0 ∧ n0 ≠ 1) by omega) with rfl | rfl | ⟨c0, c1⟩
  · rw [if_pos rfl] at hq
    obtain ⟨⟨n1, s1, p1, b1⟩, h1, hq⟩ := Option.bind_eq_some_iff.mp hq
    have H1 := Aside0.mk h1
    clear h1
    dsimp only at hq
    obtain ⟨⟨n2, s2, p2, b2⟩, h2, hq⟩ := Option.bind_eq_some_iff.mp hq
    have H2 := Aside0.mk h2
    clear h2
    dsimp only at hq
    obtain ⟨⟨n3, s3, p3, b3⟩, h3, hq⟩ := Option.bind_eq_some_iff.mp hq
    have H3 := Aside0.mk h3
    clear h3
    dsimp only at hq
    obtain ⟨⟨n4, s4, p4, b4⟩, h4, hq⟩ := Option.bind_eq_some_iff.mp hq
    have H4 := Aside0.mk h4
    clear h4
    dsimp only at hq
    obtain rfl := Option.some.inj hq
    clear hq
    go_enter Try.func9, Try.ntmps9
    go_wp2_with fail
    refine (varint_Reader_Num.calls k _ a0 0 false 0 s0 p0 b0 w _ G2.out.rd G2.out.below H0.out).mono ?_
    rintro e W3 ⟨rfl, hI, hB, hK⟩
    have G3 := Aside0.mk (G2.out.num hI hB hK)
    clear hI hB hK G2
    go_wp2_with fail
    have O0 := Aside0.mk (wire_Get.O.new G3.out 0)
    clear G3
    generalize hgo : W3.heap.size = go at *
    generalize W3.alloc _ = V0 at *
    clear hgo
    refine (varint_Reader_Num.calls k _ s0 p0 b0 n1 s1 p1 b1 w _ O0.out.g.rd O0.out.g.below H1.out).mono ?_
    rintro e V1 ⟨rfl, hI, hB, hK⟩
    have O1 := Aside0.mk (O0.out.num hI hB hK)
    clear hI hB hK O0
    go_wp2_with fail
    refine (varint_Reader_Num.calls k _ s1 p1 b1 n2 s2 p2 b2 w _ O1.out.g.rd O1.out.g.below H2.out).mono ?_
    rintro e V2 ⟨rfl, hI, hB, hK⟩
    have O2 := Aside0.mk (O1.out.num hI hB hK)
    clear hI hB hK O1
    go_wp2_with fail
    refine (varint_Reader_Num.calls k _ s2 p2 b2 n3 s3 p3 b3 w _ O2.out.g.rd O2.out.g.below H3.out).mono ?_
    rintro e V3 ⟨rfl, hI, hB, hK⟩
    have O3 := Aside0.mk (O2.out.num hI hB hK)
    clear hI hB hK O2
    go_wp2_with fail
    refine (varint_Reader_Num.calls k _ s3 p3 b3 n4 s4 p4 b4 w _ O3.out.g.rd O3.out.g.below H4.out).mono ?_
    rintro e V4 ⟨rfl, hI, hB, hK⟩
    have O4 := Aside0.mk (O3.out.num hI hB hK)
    clear hI hB hK O3
    have z1 : V4.cell? ⟨go, 1, none⟩ = some (.int .i64 0) := blk_cell O4.out.o 1
    have z2 : V4.cell? ⟨go, 2, none⟩ = some (.int .i64 0) := blk_cell O4.out.o 2
    have z3 : V4.cell? ⟨go, 3, none⟩ = some (.int .i64 0) := blk_cell O4.out.o 3
    have z4 : V4.cell? ⟨go, 4, none⟩ = some (.int .i64 0) := blk_cell O4.out.o 4
    have f1 := blk_frozen O4.out.o 1
    have f2 := blk_frozen O4.out.o 2
    have f3 := blk_frozen O4.out.o 3
    have f4 := blk_frozen O4.out.o 4
    go_wp2_with fail
    have O5 := Aside0.mk ((((O4.out.set1 n1).set2 n2).set3 n3).set4 n4)
    clear z1 f1 z2 f2 z3 f3 z4 f4 O4
    generalize ((((V4.setCell ⟨go, 1, none⟩ (.int .i64 n1)).setCell ⟨go, 2, none⟩ (.int .i64 n2)).setCell ⟨go, 3, none⟩ (.int .i64 n3)).setCell ⟨go, 4, none⟩ (.int .i64 n4)) = V5 at *
    refine (varint_Reader_Done.calls _ s4 p4 b4 _ _ _ _ w _ O5.out.g.rd O5.out.g.below (wire_Get.done_eq s4 p4 b4)).mono ?_
    rintro e V8 ⟨rfl, hI, hB, hK⟩
    have O8 := Aside0.mk (O5.out.num hI hB hK)
    clear hI hB hK O5
    have B8 := Aside0.mk O8.out.g.below
    generalize (if b4 = true then false else p4 == (s4.size : Int)) = dn at H ⊢
    have hm : Aside0 (wire_May.f 0 n1 n2 n3 n4 = some (oMay 0 n1 n2 n3 n4)) := ⟨rfl⟩
    generalize oMay 0 n1 n2 n3 n4 = om at H hm
    cases dn with
    | false =>
      obtain ⟨rfl, rfl, rfl, rfl, rfl, rfl⟩ : 0 = r1 ∧ 0 = r2 ∧ 0 = r3 ∧ 0 = r4 ∧ 0 = r5 ∧ 900 = r6 := by
        have E := H.out
        rw [if_neg (by decide)] at E
        simpa only [Option.some.injEq, Prod.mk.injEq] using E
      clear H
      have y0 : V8.cell? ⟨go, 0, none⟩ = some (.int .i64 _) := blk_cell O8.out.o 0; have y1 : V8.cell? ⟨go, 1, none⟩ = some (.int .i64 _) := blk_cell O8.out.o 1; have y2 : V8.cell? ⟨go, 2, none⟩ = some (.int .i64 _) := blk_cell O8.out.o 2; have y3 : V8.cell? ⟨go, 3, none⟩ = some (.int .i64 _) := blk_cell O8.out.o 3; have y4 : V8.cell? ⟨go, 4, none⟩ = some (.int .i64 _) := blk_cell O8.out.o 4; have x0 : V8.cell? ⟨w.heap.size, 0, none⟩ = some (.int .i64 0) := blk_cell O8.out.g.res 0; have x1 : V8.cell? ⟨w.heap.size, 1, none⟩ = some (.int .i64 0) := blk_cell O8.out.g.res 1; have x2 : V8.cell? ⟨w.heap.size, 2, none⟩ = some (.int .i64 0) := blk_cell O8.out.g.res 2; have x3 : V8.cell? ⟨w.heap.size, 3, none⟩ = some (.int .i64 0) := blk_cell O8.out.g.res 3; have x4 : V8.cell? ⟨w.heap.size, 4, none⟩ = some (.int .i64 0) := blk_cell O8.out.g.res 4; have f0 := blk_frozen O8.out.g.res 0; have f1 := blk_frozen O8.out.g.res 1; have f2 := blk_frozen O8.out.g.res 2; have f3 := blk_frozen O8.out.g.res 3; have f4 := blk_frozen O8.out.g.res 4
      go_wp2_with fail
      (try simp only [Exit.inBlock, Exit.then]); refine bodyPost_ret (results_ct rfl _ _ w.heap.size 23 #[.int .i64 0, .int .i64 0, .int .i64 0, .int .i64 0, .int .i64 0] (0, 0) _ rfl (wire_Get.res5 O8.out.g.res _ _ _ _ _) Try.underlying23 rfl (by kernel_rfl)) rfl ?_; exact ⟨by first | rfl | simp, by repeat (first | exact B8.out | refine below_set ?_ (Nat.le_refl _))⟩
    | true =>
      have y0 : V8.cell? ⟨go, 0, none⟩ = some (.int .i64 _) := blk_cell O8.out.o 0; have y1 : V8.cell? ⟨go, 1, none⟩ = some (.int .i64 _) := blk_cell O8.out.o 1; have y2 : V8.cell? ⟨go, 2, none⟩ = some (.int .i64 _) := blk_cell O8.out.o 2; have y3 : V8.cell? ⟨go, 3, none⟩ = some (.int .i64 _) := blk_cell O8.out.o 3; have y4 : V8.cell? ⟨go, 4, none⟩ = some (.int .i64 _) := blk_cell O8.out.o 4; have x0 : V8.cell? ⟨w.heap.size, 0, none⟩ = some (.int .i64 0) := blk_cell O8.out.g.res 0; have x1 : V8.cell? ⟨w.heap.size, 1, none⟩ = some (.int .i64 0) := blk_cell O8.out.g.res 1; have x2 : V8.cell? ⟨w.heap.size, 2, none⟩ = some (.int .i64 0) := blk_cell O8.out.g.res 2; have x3 : V8.cell? ⟨w.heap.size, 3, none⟩ = some (.int .i64 0) := blk_cell O8.out.g.res 3; have x4 : V8.cell? ⟨w.heap.size, 4, none⟩ = some (.int .i64 0) := blk_cell O8.out.g.res 4; have f0 := blk_frozen O8.out.g.res 0; have f1 := blk_frozen O8.out.g.res 1; have f2 := blk_frozen O8.out.g.res 2; have f3 := blk_frozen O8.out.g.res 3; have f4 := blk_frozen O8.out.g.res 4
      go_wp2_with fail
      refine (wire_May.calls 0 n1 n2 n3 n4 om _ hm.out).mono ?_
      rintro e V9 ⟨rfl, hb⟩
      have O9 := Aside0.mk (O8.out.step hb)
      clear hb O8 B8
      clear y0 y1 y2 y3 y4 x0 x1 x2 x3 x4 f0 f1 f2 f3 f4
      have B9 := Aside0.mk O9.out.g.below
      have y0 : V9.cell? ⟨go, 0, none⟩ = some (.int .i64 _) := blk_cell O9.out.o 0; have y1 : V9.cell? ⟨go, 1, none⟩ = some (.int .i64 _) := blk_cell O9.out.o 1; have y2 : V9.cell? ⟨go, 2, none⟩ = some (.int .i64 _) := blk_cell O9.out.o 2; have y3 : V9.cell? ⟨go, 3, none⟩ = some (.int .i64 _) := blk_cell O9.out.o 3; have y4 : V9.cell? ⟨go, 4, none⟩ = some (.int .i64 _) := blk_cell O9.out.o 4; have x0 : V9.cell? ⟨w.heap.size, 0, none⟩ = some (.int .i64 0) := blk_cell O9.out.g.res 0; have x1 : V9.cell? ⟨w.heap.size, 1, none⟩ = some (.int .i64 0) := blk_cell O9.out.g.res 1; have x2 : V9.cell? ⟨w.heap.size, 2, none⟩ = some (.int .i64 0) := blk_cell O9.out.g.res 2; have x3 : V9.cell? ⟨w.heap.size, 3, none⟩ = some (.int .i64 0) := blk_cell O9.out.g.res 3; have x4 : V9.cell? ⟨w.heap.size, 4, none⟩ = some (.int .i64 0) := blk_cell O9.out.g.res 4; have f0 := blk_frozen O9.out.g.res 0; have f1 := blk_frozen O9.out.g.res 1; have f2 := blk_frozen O9.out.g.res 2; have f3 := blk_frozen O9.out.g.res 3; have f4 := blk_frozen O9.out.g.res 4
      cases om with
      | false =>
        obtain ⟨rfl, rfl, rfl, rfl, rfl, rfl⟩ : 0 = r1 ∧ 0 = r2 ∧ 0 = r3 ∧ 0 = r4 ∧ 0 = r5 ∧ 900 = r6 := by
          have E := H.out
          simp only [reduceIte, Bool.false_eq_true, Option.some.injEq, Prod.mk.injEq] at E
          exact E
        clear H
        go_wp2_with fail
        (try simp only [Exit.inBlock, Exit.then]); refine bodyPost_ret (results_ct rfl _ _ w.heap.size 23 #[.int .i64 0, .int .i64 0, .int .i64 0, .int .i64 0, .int .i64 0] (0, 0) _ rfl (wire_Get.res5 O9.out.g.res _ _ _ _ _) Try.underlying23 rfl (by kernel_rfl)) rfl ?_; exact ⟨by first | rfl | simp, by repeat (first | exact B9.out | refine below_set ?_ (Nat.le_refl _))⟩
      | true =>
        obtain ⟨rfl, rfl, rfl, rfl, rfl, rfl⟩ : 0 = r1 ∧ n1 = r2 ∧ n2 = r3 ∧ n3 = r4 ∧ n4 = r5 ∧ 0 = r6 := by
          have E := H.out
          simp only [reduceIte, Bool.false_eq_true, Option.some.injEq, Prod.mk.injEq] at E
          exact E
        clear H
        go_wp2_with fail
        (try simp only [Exit.inBlock, Exit.then]); refine bodyPost_ret (results_ct rfl _ _ w.heap.size 23 #[.int .i64 0, .int .i64 n1, .int .i64 n2, .int .i64 n3, .int .i64 n4] (0, 0) _ rfl (wire_Get.res5 O9.out.g.res _ _ _ _ _) Try.underlying23 rfl (by kernel_rfl)) rfl ?_; exact ⟨by first | rfl | simp, by repeat (first | exact B9.out | refine below_set ?_ (Nat.le_refl _))⟩
  · rw [if_neg (by decide), if_pos rfl] at hq
    obtain ⟨⟨n1, s1, p1, b1⟩, h1, hq⟩ := Option.bind_eq_some_iff.mp hq
    have H1 := Aside0.mk h1
    clear h1
    dsimp only at hq
    obtain ⟨⟨n2, s2, p2, b2⟩, h2, hq⟩ := Option.bind_eq_some_iff.mp hq
    have H2 := Aside0.mk h2
    clear h2
    dsimp only at hq
    obtain rfl := Option.some.inj hq
    clear hq
    go_enter Try.func9, Try.ntmps9
    go_wp2_with fail
    refine (varint_Reader_Num.calls k _ a0 0 false 1 s0 p0 b0 w _ G2.out.rd G2.out.below H0.out).mono ?_
    rintro e W3 ⟨rfl, hI, hB, hK⟩
    have G3 := Aside0.mk (G2.out.num hI hB hK)
    clear hI hB hK G2
    go_wp2_with fail
    have O0 := Aside0.mk (wire_Get.O.new G3.out 1)
    clear G3
    generalize hgo : W3.heap.size = go at *
    generalize W3.alloc _ = V0 at *
    clear hgo
    refine (varint_Reader_Num.calls k _ s0 p0 b0 n1 s1 p1 b1 w _ O0.out.g.rd O0.out.g.below H1.out).mono ?_
    rintro e V1 ⟨rfl, hI, hB, hK⟩
    have O1 := Aside0.mk (O0.out.num hI hB hK)
    clear hI hB hK O0
    go_wp2_with fail
    refine (varint_Reader_Num.calls k _ s1 p1 b1 n2 s2 p2 b2 w _ O1.out.g.rd O1.out.g.below H2.out).mono ?_
    rintro e V2 ⟨rfl, hI, hB, hK⟩
    have O2 := Aside0.mk (O1.out.num hI hB hK)
    clear hI hB hK O1
    have z1 : V2.cell? ⟨go, 1, none⟩ = some (.int .i64 0) := blk_cell O2.out.o 1
    have z3 : V2.cell? ⟨go, 3, none⟩ = some (.int .i64 0) := blk_cell O2.out.o 3
    have f1 := blk_frozen O2.out.o 1
    have f3 := blk_frozen O2.out.o 3
    go_wp2_with fail
    have O5 := Aside0.mk ((O2.out.set1 n1).set3 n2)
    clear z1 f1 z3 f3 O2
    generalize ((V2.setCell ⟨go, 1, none⟩ (.int .i64 n1)).setCell ⟨go, 3, none⟩ (.int .i64 n2)) = V5 at *
    refine (varint_Reader_Done.calls _ s2 p2 b2 _ _ _ _ w _ O5.out.g.rd O5.out.g.below (wire_Get.done_eq s2 p2 b2)).mono ?_
    rintro e V8 ⟨rfl, hI, hB, hK⟩
    have O8 := Aside0.mk (O5.out.num hI hB hK)
    clear hI hB hK O5
    have B8 := Aside0.mk O8.out.g.below
    generalize (if b2 = true then false else p2 == (s2.size : Int)) = dn at H ⊢
    have hm : Aside0 (wire_May.f 1 n1 0 n2 0 = some (oMay 1 n1 0 n2 0)) := ⟨rfl⟩
    generalize oMay 1 n1 0 n2 0 = om at H hm
    cases dn with
    | false =>
      obtain ⟨rfl, rfl, rfl, rfl, rfl, rfl⟩ : 0 = r1 ∧ 0 = r2 ∧ 0 = r3 ∧ 0 = r4 ∧ 0 = r5 ∧ 900 = r6 := by
        have E := H.out
        rw [if_neg (by decide)] at E
        simpa only [Option.some.injEq, Prod.mk.injEq] using E
      clear H
      have y0 : V8.cell? ⟨go, 0, none⟩ = some (.int .i64 _) := blk_cell O8.out.o 0; have y1 : V8.cell? ⟨go, 1, none⟩ = some (.int .i64 _) := blk_cell O8.out.o 1; have y2 : V8.cell? ⟨go, 2, none⟩ = some (.int .i64 _) := blk_cell O8.out.o 2; have y3 : V8.cell? ⟨go, 3, none⟩ = some (.int .i64 _) := blk_cell O8.out.o 3; have y4 : V8.cell? ⟨go, 4, none⟩ = some (.int .i64 _) := blk_cell O8.out.o 4; have x0 : V8.cell? ⟨w.heap.size, 0, none⟩ = some (.int .i64 0) := blk_cell O8.out.g.res 0; have x1 : V8.cell? ⟨w.heap.size, 1, none⟩ = some (.int .i64 0) := blk_cell O8.out.g.res 1; have x2 : V8.cell? ⟨w.heap.size, 2, none⟩ = some (.int .i64 0) := blk_cell O8.out.g.res 2; have x3 : V8.cell? ⟨w.heap.size, 3, none⟩ = some (.int .i64 0) := blk_cell O8.out.g.res 3; have x4 : V8.cell? ⟨w.heap.size, 4, none⟩ = some (.int .i64 0) := blk_cell O8.out.g.res 4; have f0 := blk_frozen O8.out.g.res 0; have f1 := blk_frozen O8.out.g.res 1; have f2 := blk_frozen O8.out.g.res 2; have f3 := blk_frozen O8.out.g.res 3; have f4 := blk_frozen O8.out.g.res 4
      go_wp2_with fail
      (try simp only [Exit.inBlock, Exit.then]); refine bodyPost_ret (results_ct rfl _ _ w.heap.size 23 #[.int .i64 0, .int .i64 0, .int .i64 0, .int .i64 0, .int .i64 0] (0, 0) _ rfl (wire_Get.res5 O8.out.g.res _ _ _ _ _) Try.underlying23 rfl (by kernel_rfl)) rfl ?_; exact ⟨by first | rfl | simp, by repeat (first | exact B8.out | refine below_set ?_ (Nat.le_refl _))⟩
    | true =>
      have y0 : V8.cell? ⟨go, 0, none⟩ = some (.int .i64 _) := blk_cell O8.out.o 0; have y1 : V8.cell? ⟨go, 1, none⟩ = some (.int .i64 _) := blk_cell O8.out.o 1; have y2 : V8.cell? ⟨go, 2, none⟩ = some (.int .i64 _) := blk_cell O8.out.o 2; have y3 : V8.cell? ⟨go, 3, none⟩ = some (.int .i64 _) := blk_cell O8.out.o 3; have y4 : V8.cell? ⟨go, 4, none⟩ = some (.int .i64 _) := blk_cell O8.out.o 4; have x0 : V8.cell? ⟨w.heap.size, 0, none⟩ = some (.int .i64 0) := blk_cell O8.out.g.res 0; have x1 : V8.cell? ⟨w.heap.size, 1, none⟩ = some (.int .i64 0) := blk_cell O8.out.g.res 1; have x2 : V8.cell? ⟨w.heap.size, 2, none⟩ = some (.int .i64 0) := blk_cell O8.out.g.res 2; have x3 : V8.cell? ⟨w.heap.size, 3, none⟩ = some (.int .i64 0) := blk_cell O8.out.g.res 3; have x4 : V8.cell? ⟨w.heap.size, 4, none⟩ = some (.int .i64 0) := blk_cell O8.out.g.res 4; have f0 := blk_frozen O8.out.g.res 0; have f1 := blk_frozen O8.out.g.res 1; have f2 := blk_frozen O8.out.g.res 2; have f3 := blk_frozen O8.out.g.res 3; have f4 := blk_frozen O8.out.g.res 4
      go_wp2_with fail
      refine (wire_May.calls 1 n1 0 n2 0 om _ hm.out).mono ?_
      rintro e V9 ⟨rfl, hb⟩
      have O9 := Aside0.mk (O8.out.step hb)
      clear hb O8 B8
      clear y0 y1 y2 y3 y4 x0 x1 x2 x3 x4 f0 f1 f2 f3 f4
      have B9 := Aside0.mk O9.out.g.below
      have y0 : V9.cell? ⟨go, 0, none⟩ = some (.int .i64 _) := blk_cell O9.out.o 0; have y1 : V9.cell? ⟨go, 1, none⟩ = some (.int .i64 _) := blk_cell O9.out.o 1; have y2 : V9.cell? ⟨go, 2, none⟩ = some (.int .i64 _) := blk_cell O9.out.o 2; have y3 : V9.cell? ⟨go, 3, none⟩ = some (.int .i64 _) := blk_cell O9.out.o 3; have y4 : V9.cell? ⟨go, 4, none⟩ = some (.int .i64 _) := blk_cell O9.out.o 4; have x0 : V9.cell? ⟨w.heap.size, 0, none⟩ = some (.int .i64 0) := blk_cell O9.out.g.res 0; have x1 : V9.cell? ⟨w.heap.size, 1, none⟩ = some (.int .i64 0) := blk_cell O9.out.g.res 1; have x2 : V9.cell? ⟨w.heap.size, 2, none⟩ = some (.int .i64 0) := blk_cell O9.out.g.res 2; have x3 : V9.cell? ⟨w.heap.size, 3, none⟩ = some (.int .i64 0) := blk_cell O9.out.g.res 3; have x4 : V9.cell? ⟨w.heap.size, 4, none⟩ = some (.int .i64 0) := blk_cell O9.out.g.res 4; have f0 := blk_frozen O9.out.g.res 0; have f1 := blk_frozen O9.out.g.res 1; have f2 := blk_frozen O9.out.g.res 2; have f3 := blk_frozen O9.out.g.res 3; have f4 := blk_frozen O9.out.g.res 4
      cases om with
      | false =>
        obtain ⟨rfl, rfl, rfl, rfl, rfl, rfl⟩ : 0 = r1 ∧ 0 = r2 ∧ 0 = r3 ∧ 0 = r4 ∧ 0 = r5 ∧ 900 = r6 := by
          have E := H.out
          simp only [reduceIte, Bool.false_eq_true, Option.some.injEq, Prod.mk.injEq] at E
          exact E
        clear H
        go_wp2_with fail
        (try simp only [Exit.inBlock, Exit.then]); refine bodyPost_ret (results_ct rfl _ _ w.heap.size 23 #[.int .i64 0, .int .i64 0, .int .i64 0, .int .i64 0, .int .i64 0] (0, 0) _ rfl (wire_Get.res5 O9.out.g.res _ _ _ _ _) Try.underlying23 rfl (by kernel_rfl)) rfl ?_; exact ⟨by first | rfl | simp, by repeat (first | exact B9.out | refine below_set ?_ (Nat.le_refl _))⟩
      | true =>
        obtain ⟨rfl, rfl, rfl, rfl, rfl, rfl⟩ : 1 = r1 ∧ n1 = r2 ∧ 0 = r3 ∧ n2 = r4 ∧ 0 = r5 ∧ 0 = r6 := by
          have E := H.out
          simp only [reduceIte, Bool.false_eq_true, Option.some.injEq, Prod.mk.injEq] at E
          exact E
        clear H
        go_wp2_with fail
        (try simp only [Exit.inBlock, Exit.then]); refine bodyPost_ret (results_ct rfl _ _ w.heap.size 23 #[.int .i64 1, .int .i64 n1, .int .i64 0, .int .i64 n2, .int .i64 0] (0, 0) _ rfl (wire_Get.res5 O9.out.g.res _ _ _ _ _) Try.underlying23 rfl (by kernel_rfl)) rfl ?_; exact ⟨by first | rfl | simp, by repeat (first | exact B9.out | refine below_set ?_ (Nat.le_refl _))⟩
  · rw [if_neg c0, if_neg c1] at hq
    have e0 : (n0 == 0) = false := beq_eq_false_iff_ne.2 c0
    have e1 : (n0 == 1) = false := beq_eq_false_iff_ne.2 c1
    clear c0 c1
    obtain rfl := Option.some.inj hq
    clear hq
    go_enter Try.func9, Try.ntmps9
    go_wp2_with fail
    refine (varint_Reader_Num.calls k _ a0 0 false n0 s0 p0 b0 w _ G2.out.rd G2.out.below H0.out).mono ?_
    rintro e W3 ⟨rfl, hI, hB, hK⟩
    have G3 := Aside0.mk (G2.out.num hI hB hK)
    clear hI hB hK G2
    go_wp2_with fail
    have O0 := Aside0.mk (wire_Get.O.new G3.out n0)
    clear G3
    generalize hgo : W3.heap.size = go at *
    generalize W3.alloc _ = V0 at *
    clear hgo
    refine (varint_Reader_Done.calls _ s0 p0 b0 _ _ _ _ w _ O0.out.g.rd O0.out.g.below (wire_Get.done_eq s0 p0 b0)).mono ?_
    rintro e V8 ⟨rfl, hI, hB, hK⟩
    have O8 := Aside0.mk (O0.out.num hI hB hK)
    clear hI hB hK O0
    have B8 := Aside0.mk O8.out.g.below
    generalize (if b0 = true then false else p0 == (s0.size : Int)) = dn at H ⊢
    have hm : Aside0 (wire_May.f n0 0 0 0 0 = some (oMay n0 0 0 0 0)) := ⟨rfl⟩
    generalize oMay n0 0 0 0 0 = om at H hm
    cases dn with
    | false =>
      obtain ⟨rfl, rfl, rfl, rfl, rfl, rfl⟩ : 0 = r1 ∧ 0 = r2 ∧ 0 = r3 ∧ 0 = r4 ∧ 0 = r5 ∧ 900 = r6 := by
        have E := H.out
        rw [if_neg (by decide)] at E
        simpa only [Option.some.injEq, Prod.mk.injEq] using E
      clear H
      have y0 : V8.cell? ⟨go, 0, none⟩ = some (.int .i64 _) := blk_cell O8.out.o 0; have y1 : V8.cell? ⟨go, 1, none⟩ = some (.int .i64 _) := blk_cell O8.out.o 1; have y2 : V8.cell? ⟨go, 2, none⟩ = some (.int .i64 _) := blk_cell O8.out.o 2; have y3 : V8.cell? ⟨go, 3, none⟩ = some (.int .i64 _) := blk_cell O8.out.o 3; have y4 : V8.cell? ⟨go, 4, none⟩ = some (.int .i64 _) := blk_cell O8.out.o 4; have x0 : V8.cell? ⟨w.heap.size, 0, none⟩ = some (.int .i64 0) := blk_cell O8.out.g.res 0; have x1 : V8.cell? ⟨w.heap.size, 1, none⟩ = some (.int .i64 0) := blk_cell O8.out.g.res 1; have x2 : V8.cell? ⟨w.heap.size, 2, none⟩ = some (.int .i64 0) := blk_cell O8.out.g.res 2; have x3 : V8.cell? ⟨w.heap.size, 3, none⟩ = some (.int .i64 0) := blk_cell O8.out.g.res 3; have x4 : V8.cell? ⟨w.heap.size, 4, none⟩ = some (.int .i64 0) := blk_cell O8.out.g.res 4; have f0 := blk_frozen O8.out.g.res 0; have f1 := blk_frozen O8.out.g.res 1; have f2 := blk_frozen O8.out.g.res 2; have f3 := blk_frozen O8.out.g.res 3; have f4 := blk_frozen O8.out.g.res 4
      go_wp2_with fail
      (try simp only [Exit.inBlock, Exit.then]); refine bodyPost_ret (results_ct rfl _ _ w.heap.size 23 #[.int .i64 0, .int .i64 0, .int .i64 0, .int .i64 0, .int .i64 0] (0, 0) _ rfl (wire_Get.res5 O8.out.g.res _ _ _ _ _) Try.underlying23 rfl (by kernel_rfl)) rfl ?_; exact ⟨by first | rfl | simp, by repeat (first | exact B8.out | refine below_set ?_ (Nat.le_refl _))⟩
    | true =>
      have y0 : V8.cell? ⟨go, 0, none⟩ = some (.int .i64 _) := blk_cell O8.out.o 0; have y1 : V8.cell? ⟨go, 1, none⟩ = some (.int .i64 _) := blk_cell O8.out.o 1; have y2 : V8.cell? ⟨go, 2, none⟩ = some (.int .i64 _) := blk_cell O8.out.o 2; have y3 : V8.cell? ⟨go, 3, none⟩ = some (.int .i64 _) := blk_cell O8.out.o 3; have y4 : V8.cell? ⟨go, 4, none⟩ = some (.int .i64 _) := blk_cell O8.out.o 4; have x0 : V8.cell? ⟨w.heap.size, 0, none⟩ = some (.int .i64 0) := blk_cell O8.out.g.res 0; have x1 : V8.cell? ⟨w.heap.size, 1, none⟩ = some (.int .i64 0) := blk_cell O8.out.g.res 1; have x2 : V8.cell? ⟨w.heap.size, 2, none⟩ = some (.int .i64 0) := blk_cell O8.out.g.res 2; have x3 : V8.cell? ⟨w.heap.size, 3, none⟩ = some (.int .i64 0) := blk_cell O8.out.g.res 3; have x4 : V8.cell? ⟨w.heap.size, 4, none⟩ = some (.int .i64 0) := blk_cell O8.out.g.res 4; have f0 := blk_frozen O8.out.g.res 0; have f1 := blk_frozen O8.out.g.res 1; have f2 := blk_frozen O8.out.g.res 2; have f3 := blk_frozen O8.out.g.res 3; have f4 := blk_frozen O8.out.g.res 4
      go_wp2_with fail
      refine (wire_May.calls n0 0 0 0 0 om _ hm.out).mono ?_
      rintro e V9 ⟨rfl, hb⟩
      have O9 := Aside0.mk (O8.out.step hb)
      clear hb O8 B8
      clear y0 y1 y2 y3 y4 x0 x1 x2 x3 x4 f0 f1 f2 f3 f4
      have B9 := Aside0.mk O9.out.g.below
      have y0 : V9.cell? ⟨go, 0, none⟩ = some (.int .i64 _) := blk_cell O9.out.o 0; have y1 : V9.cell? ⟨go, 1, none⟩ = some (.int .i64 _) := blk_cell O9.out.o 1; have y2 : V9.cell? ⟨go, 2, none⟩ = some (.int .i64 _) := blk_cell O9.out.o 2; have y3 : V9.cell? ⟨go, 3, none⟩ = some (.int .i64 _) := blk_cell O9.out.o 3; have y4 : V9.cell? ⟨go, 4, none⟩ = some (.int .i64 _) := blk_cell O9.out.o 4; have x0 : V9.cell? ⟨w.heap.size, 0, none⟩ = some (.int .i64 0) := blk_cell O9.out.g.res 0; have x1 : V9.cell? ⟨w.heap.size, 1, none⟩ = some (.int .i64 0) := blk_cell O9.out.g.res 1; have x2 : V9.cell? ⟨w.heap.size, 2, none⟩ = some (.int .i64 0) := blk_cell O9.out.g.res 2; have x3 : V9.cell? ⟨w.heap.size, 3, none⟩ = some (.int .i64 0) := blk_cell O9.out.g.res 3; have x4 : V9.cell? ⟨w.heap.size, 4, none⟩ = some (.int .i64 0) := blk_cell O9.out.g.res 4; have f0 := blk_frozen O9.out.g.res 0; have f1 := blk_frozen O9.out.g.res 1; have f2 := blk_frozen O9.out.g.res 2; have f3 := blk_frozen O9.out.g.res 3; have f4 := blk_frozen O9.out.g.res 4
      cases om with
      | false =>
        obtain ⟨rfl, rfl, rfl, rfl, rfl, rfl⟩ : 0 = r1 ∧ 0 = r2 ∧ 0 = r3 ∧ 0 = r4 ∧ 0 = r5 ∧ 900 = r6 := by
          have E := H.out
          simp only [reduceIte, Bool.false_eq_true, Option.some.injEq, Prod.mk.injEq] at E
          exact E
        clear H
        go_wp2_with fail
        (try simp only [Exit.inBlock, Exit.then]); refine bodyPost_ret (results_ct rfl _ _ w.heap.size 23 #[.int .i64 0, .int .i64 0, .int .i64 0, .int .i64 0, .int .i64 0] (0, 0) _ rfl (wire_Get.res5 O9.out.g.res _ _ _ _ _) Try.underlying23 rfl (by kernel_rfl)) rfl ?_; exact ⟨by first | rfl | simp, by repeat (first | exact B9.out | refine below_set ?_ (Nat.le_refl _))⟩
      | true =>
        obtain ⟨rfl, rfl, rfl, rfl, rfl, rfl⟩ : n0 = r1 ∧ 0 = r2 ∧ 0 = r3 ∧ 0 = r4 ∧ 0 = r5 ∧ 0 = r6 := by
          have E := H.out
          simp only [reduceIte, Bool.false_eq_true, Option.some.injEq, Prod.mk.injEq] at E
          exact E
        clear H
        go_wp2_with fail
        (try simp only [Exit.inBlock, Exit.then]); refine bodyPost_ret (results_ct rfl _ _ w.heap.size 23 #[.int .i64 n0, .int .i64 0, .int .i64 0, .int .i64 0, .int .i64 0] (0, 0) _ rfl (wire_Get.res5 O9.out.g.res _ _ _ _ _) Try.underlying23 rfl (by kernel_rfl)) rfl ?_; exact ⟨by first | rfl | simp, by repeat (first | exact B9.out | refine below_set ?_ (Nat.le_refl _))⟩

/-! ### bourneref1_GetNum: function 26 -/
mutual
def bourneref1_GetNum.j0 : Nat → ByteArray → Int → Bool → Option (Int × Int × Int)
  | 0, _, _, _ => none
  | k + 1, x0, x1, x18 => if x18 = true then (some (0, 0, 700)) else (bourneref1_GetNum.l0 k x0 x1 0 0)
def bourneref1_GetNum.l0 : Nat → ByteArray → Int → Int → Int → Option (Int × Int × Int)
  | 0, _, _, _, _ => none
  | k + 1, x0, x1, x7, x8 => if x8 < 10 then (if (wrap64 (x1 + x8)) ≥ (x0.size : Int) then (some (0, 0, 701)) else (if 0 ≤ (wrap64 (x1 + x8)) then (if (wrap64 (x1 + x8)) < (x0.size : Int) then (if 0 ≤ (IntKind.u64.wrap (wrap64 (7 * x8))) then (if (bt x0 (wrap64 (x1 + x8))) < 128 then (if (bt x0 (wrap64 (x1 + x8))) = 0 then (if x8 > 0 then (bourneref1_GetNum.j2 k x1 (Go.bits .or .u64 x7 (shl .u64 (IntKind.u64.wrap (Go.bits .and .u8 (bt x0 (wrap64 (x1 + x8))) 127)) (IntKind.u64.wrap (wrap64 (7 * x8))))) x8 true) else (if x8 = 9 then (bourneref1_GetNum.j2 k x1 (Go.bits .or .u64 x7 (shl .u64 (IntKind.u64.wrap (Go.bits .and .u8 (bt x0 (wrap64 (x1 + x8))) 127)) (IntKind.u64.wrap (wrap64 (7 * x8))))) x8 (decide ((bt x0 (wrap64 (x1 + x8))) > 1))) else (bourneref1_GetNum.j2 k x1 (Go.bits .or .u64 x7 (shl .u64 (IntKind.u64.wrap (Go.bits .and .u8 (bt x0 (wrap64 (x1 + x8))) 127)) (IntKind.u64.wrap (wrap64 (7 * x8))))) x8 false))) else (if x8 = 9 then (bourneref1_GetNum.j2 k x1 (Go.bits .or .u64 x7 (shl .u64 (IntKind.u64.wrap (Go.bits .and .u8 (bt x0 (wrap64 (x1 + x8))) 127)) (IntKind.u64.wrap (wrap64 (7 * x8))))) x8 (decide ((bt x0 (wrap64 (x1 + x8))) > 1))) else (bourneref1_GetNum.j2 k x1 (Go.bits .or .u64 x7 (shl .u64 (IntKind.u64.wrap (Go.bits .and .u8 (bt x0 (wrap64 (x1 + x8))) 127)) (IntKind.u64.wrap (wrap64 (7 * x8))))) x8 false))) else (bourneref1_GetNum.l0 k x0 x1 (Go.bits .or .u64 x7 (shl .u64 (IntKind.u64.wrap (Go.bits .and .u8 (bt x0 (wrap64 (x1 + x8))) 127)) (IntKind.u64.wrap (wrap64 (7 * x8))))) (wrap64 (x8 + 1)))) else (none)) else (none)) else (none))) else (some (0, 0, 700))
def bourneref1_GetNum.j2 : Nat → Int → Int → Int → Bool → Option (Int × Int × Int)
  | 0, _, _, _, _ => none
  | k + 1, x1, x7, x8, x58 => if x58 = true then (some (0, 0, 700)) else (if (Go.bits .and .u64 x7 1) = 1 then (some (wrap64 ((wrap64 (-(wrap64 (x7 / 2)))) - 1), wrap64 ((wrap64 (x1 + x8)) + 1), 0)) else (some (wrap64 (x7 / 2), wrap64 ((wrap64 (x1 + x8)) + 1), 0)))
end
def bourneref1_GetNum.f (k : Nat) (a0 : ByteArray) (a1 : Int) : Option (Int × Int × Int) := if a1 < 0 then (bourneref1_GetNum.j0 k a0 a1 true) else (bourneref1_GetNum.j0 k a0 a1 (decide (a1 > (a0.size : Int))))
theorem bourneref1_GetNum.mono_l : ∀ k, (∀ y0 y1 y2, LeO (bourneref1_GetNum.j0 k y0 y1 y2) (bourneref1_GetNum.j0 (k + 1) y0 y1 y2)) ∧ (∀ y0 y1 y2 y3, LeO (bourneref1_GetNum.l0 k y0 y1 y2 y3) (bourneref1_GetNum.l0 (k + 1) y0 y1 y2 y3)) ∧ (∀ y0 y1 y2 y3, LeO (bourneref1_GetNum.j2 k y0 y1 y2 y3) (bourneref1_GetNum.j2 (k + 1) y0 y1 y2 y3))
  | 0 => ⟨fun _ _ _ r h => by simp [bourneref1_GetNum.j0] at h, fun _ _ _ _ r h => by simp [bourneref1_GetNum.l0] at h, fun _ _ _ _ r h => by simp [bourneref1_GetNum.j2] at h⟩
  | k + 1 => by
    obtain ⟨ih0, ih1, ih2⟩ := bourneref1_GetNum.mono_l k
    refine ⟨?_, ?_, ?_⟩
    · intro y0 y1 y2
      unfold bourneref1_GetNum.j0
      repeat' first
      | (with_reducible exact ih0 _ _ _)
      | (with_reducible exact ih1 _ _ _ _)
      | (with_reducible exact ih2 _ _ _ _)
      | (with_reducible exact LeO.refl _)
      | (with_reducible exact LeO.none _)
      | (with_reducible refine LeO.ite ?_ ?_)
      | (with_reducible refine LeO.bind ?_ (fun _ => ?_))
      | exact ih0 _ _ _
      | exact ih1 _ _ _ _
      | exact ih2 _ _ _ _
      | exact LeO.none _
      | refine LeO.ite ?_ ?_
      | refine LeO.bind ?_ (fun _ => ?_)
    · intro y0 y1 y2 y3
      unfold bourneref1_GetNum.l0
      repeat' first
      | (with_reducible exact ih0 _ _ _)
      | (with_reducible exact ih1 _ _ _ _)
      | (with_reducible exact ih2 _ _ _ _)
      | (with_reducible exact LeO.refl _)
      | (with_reducible exact LeO.none _)
      | (with_reducible refine LeO.ite ?_ ?_)
      | (with_reducible refine LeO.bind ?_ (fun _ => ?_))
      | exact ih0 _ _ _
      | exact ih1 _ _ _ _
      | exact ih2 _ _ _ _
      | exact LeO.none _
      | refine LeO.ite ?_ ?_
      | refine LeO.bind ?_ (fun _ => ?_)
    · intro y0 y1 y2 y3
      unfold bourneref1_GetNum.j2
      repeat' first
      | (with_reducible exact ih0 _ _ _)
      | (with_reducible exact ih1 _ _ _ _)
      | (with_reducible exact ih2 _ _ _ _)
      | (with_reducible exact LeO.refl _)
      | (with_reducible exact LeO.none _)
      | (with_reducible refine LeO.ite ?_ ?_)
      | (with_reducible refine LeO.bind ?_ (fun _ => ?_))
      | exact ih0 _ _ _
      | exact ih1 _ _ _ _
      | exact ih2 _ _ _ _
      | exact LeO.none _
      | refine LeO.ite ?_ ?_
      | refine LeO.bind ?_ (fun _ => ?_)
theorem bourneref1_GetNum.mono : ∀ a0 a1 k, LeO (bourneref1_GetNum.f k a0 a1) (bourneref1_GetNum.f (k + 1) a0 a1) := by
  intro a0 a1 k
  obtain ⟨ih0, ih1, ih2⟩ := bourneref1_GetNum.mono_l k
  unfold bourneref1_GetNum.f
  repeat' first
      | (with_reducible exact ih0 _ _ _)
      | (with_reducible exact ih1 _ _ _ _)
      | (with_reducible exact ih2 _ _ _ _)
      | (with_reducible exact LeO.refl _)
      | (with_reducible exact LeO.none _)
      | (with_reducible refine LeO.ite ?_ ?_)
      | (with_reducible refine LeO.bind ?_ (fun _ => ?_))
      | exact ih0 _ _ _
      | exact ih1 _ _ _ _
      | exact ih2 _ _ _ _
      | exact LeO.none _
      | refine LeO.ite ?_ ?_
      | refine LeO.bind ?_ (fun _ => ?_)
set_option maxHeartbeats 8000000 in
set_option maxRecDepth 100000 in
theorem bourneref1_GetNum.calls (k : Nat) (a0 : ByteArray) (a1 : Int) (r1 : Int) (r2 : Int) (r3 : Int) (w : World) (h : bourneref1_GetNum.f k a0 a1 = some (r1, r2, r3)) :
    Calls Try.prog 26 #[.string a0, .int .i64 a1] w fun e w' => e = .returned (.tuple #[.int .i64 r1, .int .i64 r2, .int .i64 r3]) ∧ Drawn0 w w' := by
  have H : (if a1 < 0 then (bourneref1_GetNum.j0 k a0 a1 true) else (bourneref1_GetNum.j0 k a0 a1 (decide (a1 > (a0.size : Int))))) = some (r1, r2, r3) := h
  clear h
  have HC3 := Aside0.mk H
  clear H
  go_enter Try.func26, Try.ntmps26
  go_upto_region 1 with (fail)
  go_cut [18] (fun v18 wc => ∃ (kq : Nat) (x18_2 : Bool), v18 = .bool x18_2 ∧ Aside0 (bourneref1_GetNum.j0 kq a0 a1 x18_2 = some (r1, r2, r3)) ∧ Aside0 (kq ≤ k) ∧ Drawn0 w wc)
  case first =>
    have H := HC3.out
    clear HC3
    by_cases c4 : a1 < 0
    · rw [if_pos c4] at H
      have c4b0 : decide (a1 < 0) = true := decide_eq_true c4
      clear c4
      (first | rw [c4b0] | (simp only [i64_w, i32_w]; rw [c4b0]) | skip)
      have H' := Aside0.mk H
      clear H
      go_wp2
      go_meet
      case rel => exact ⟨_, (true), (by first | rfl | (simp; done) | (simp [*]; done)), H', ⟨by first | omega | exact Nat.le_refl _⟩, by repeat (first | exact Drawn0.refl _ | apply Drawn0.step)⟩
    · rw [if_neg c4] at H
      have c4b0 : decide (a1 < 0) = false := decide_eq_false c4
      clear c4
      (first | rw [c4b0] | (simp only [i64_w, i32_w]; rw [c4b0]) | skip)
      have H' := Aside0.mk H
      clear H
      go_wp2
      go_meet
      case rel => exact ⟨_, (decide (a1 > (a0.size : Int))), (by first | rfl | (simp; done) | (simp [*]; done)), H', ⟨by first | omega | exact Nat.le_refl _⟩, by repeat (first | exact Drawn0.refl _ | apply Drawn0.step)⟩
  case rest =>
    clear HC3
    try clear c2
    try clear p2
    try clear c4
    try clear c4b0
    obtain ⟨kq, x18_2, rfl, HA, HJ2, ⟨mc2, rfl⟩⟩ := hcut
    cases kq with
    | zero => exact absurd HA.out (by simp [bourneref1_GetNum.j0])
    | succ kj2 =>
      have H := HA.out
      clear HA
      simp only [bourneref1_GetNum.j0] at H
      by_cases c5 : x18_2 = true
      · subst c5
        have H1 : (some (0, 0, 700)) = some (r1, r2, r3) := by rw [if_pos rfl] at H; exact H
        clear H
        have H := H1
        clear H1
        simp only [Option.some.injEq, Prod.mk.injEq] at H
        obtain ⟨rfl, rfl, rfl⟩ := H
        go_wp2
        go_ret3
        exact ⟨by first | rfl | (simp; done) | (simp [*]; done), by repeat (first | exact Drawn0.refl _ | apply Drawn0.step)⟩
      · replace c5 := Bool.eq_false_iff.mpr c5
        subst c5
        have H1 : (bourneref1_GetNum.l0 kj2 a0 a1 0 0) = some (r1, r2, r3) := by rw [if_neg (show ¬ (false = true) by decide)] at H; exact H
        clear H
        have H := H1
        clear H1
        have H' := Aside0.mk H
        clear H
        go_wp2
        go_loopg [7, 8] kj2 (fun kq v7 v8 w' => ∃ (x7_2 : Int) (x8_2 : Int), v7 = .int .u64 x7_2 ∧ v8 = .int .i64 x8_2 ∧ Aside0 (bourneref1_GetNum.l0 kq a0 a1 x7_2 x8_2 = some (r1, r2, r3)) ∧ Aside0 (kq ≤ kj2) ∧ Drawn0 w w')
        case atStart => exact ⟨(0), (0), (by first | rfl | (simp; done) | (simp [*]; done)), (by first | rfl | (simp; done) | (simp [*]; done)), H', ⟨Nat.le_refl _⟩, by repeat (first | exact Drawn0.refl _ | apply Drawn0.step)⟩
        case round =>
          clear H'
          try clear c2
          try clear p2
          try clear c4
          try clear c4b0
          try clear c5
          try clear p2
          obtain ⟨x7_2, x8_2, rfl, rfl, HA, HK2, ⟨m2, rfl⟩⟩ := hrel
          cases gk with
          | zero => exact absurd HA.out (by simp [bourneref1_GetNum.l0])
          | succ k2 =>
            have H := HA.out
            clear HA
            simp only [bourneref1_GetNum.l0] at H
            by_cases c6 : x8_2 < 10
            · rw [if_pos c6] at H
              have c6b0 : decide (x8_2 < 10) = true := decide_eq_true c6
              clear c6
              by_cases c7 : (wrap64 (a1 + x8_2)) ≥ (a0.size : Int)
              · rw [if_pos c7] at H
                have c7b0 : decide ((a0.size : Int) ≤ (wrap64 (a1 + x8_2))) = true := decide_eq_true c7
                clear c7
                simp only [Option.some.injEq, Prod.mk.injEq] at H
                obtain ⟨rfl, rfl, rfl⟩ := H
                go_wp2
                go_ret3
                exact ⟨by first | rfl | (simp; done) | (simp [*]; done), by repeat (first | exact Drawn0.refl _ | apply Drawn0.step)⟩
              · rw [if_neg c7] at H
                have c7b0 : decide ((a0.size : Int) ≤ (wrap64 (a1 + x8_2))) = false := decide_eq_false c7
                clear c7
                obtain ⟨ji8, hji8⟩ : ∃ j_ : Int, (wrap64 (a1 + x8_2)) = j_ := ⟨_, rfl⟩
                replace H : (if 0 ≤ (ji8) then (if (ji8) < (a0.size : Int) then (if 0 ≤ (IntKind.u64.wrap (wrap64 (7 * x8_2))) then (if (bt a0 (ji8)) < 128 then (if (bt a0 (ji8)) = 0 then (if x8_2 > 0 then (bourneref1_GetNum.j2 k2 a1 (Go.bits .or .u64 x7_2 (shl .u64 (IntKind.u64.wrap (Go.bits .and .u8 (bt a0 (ji8)) 127)) (IntKind.u64.wrap (wrap64 (7 * x8_2))))) x8_2 true) else (if x8_2 = 9 then (bourneref1_GetNum.j2 k2 a1 (Go.bits .or .u64 x7_2 (shl .u64 (IntKind.u64.wrap (Go.bits .and .u8 (bt a0 (ji8)) 127)) (IntKind.u64.wrap (wrap64 (7 * x8_2))))) x8_2 (decide ((bt a0 (ji8)) > 1))) else (bourneref1_GetNum.j2 k2 a1 (Go.bits .or .u64 x7_2 (shl .u64 (IntKind.u64.wrap (Go.bits .and .u8 (bt a0 (ji8)) 127)) (IntKind.u64.wrap (wrap64 (7 * x8_2))))) x8_2 false))) else (if x8_2 = 9 then (bourneref1_GetNum.j2 k2 a1 (Go.bits .or .u64 x7_2 (shl .u64 (IntKind.u64.wrap (Go.bits .and .u8 (bt a0 (ji8)) 127)) (IntKind.u64.wrap (wrap64 (7 * x8_2))))) x8_2 (decide ((bt a0 (ji8)) > 1))) else (bourneref1_GetNum.j2 k2 a1 (Go.bits .or .u64 x7_2 (shl .u64 (IntKind.u64.wrap (Go.bits .and .u8 (bt a0 (ji8)) 127)) (IntKind.u64.wrap (wrap64 (7 * x8_2))))) x8_2 false))) else (bourneref1_GetNum.l0 k2 a0 a1 (Go.bits .or .u64 x7_2 (shl .u64 (IntKind.u64.wrap (Go.bits .and .u8 (bt a0 (ji8)) 127)) (IntKind.u64.wrap (wrap64 (7 * x8_2))))) (wrap64 (x8_2 + 1)))) else (none)) else (none)) else (none)) = some (r1, r2, r3) := by first | (rw [hji8] at H; exact H) | (simp only [hji8] at H ⊢; exact H)
                (try rw [hji8] at c7b0)
                have hji8w : (IntKind.i64.wrap (a1 + x8_2)) = ji8 := (i64_w _).trans hji8
                by_cases c9 : 0 ≤ (ji8)
                · rw [if_pos c9] at H
                  have c9b0 : decide (0 ≤ (ji8)) = true := decide_eq_true c9
                  clear c9
                  by_cases c10 : (ji8) < (a0.size : Int)
                  · rw [if_pos c10] at H
                    have c10b0 : decide ((ji8) < (a0.size : Int)) = true := decide_eq_true c10
                    clear c10
                    obtain ⟨ji12, hji12⟩ : ∃ j_ : Int, (IntKind.u64.wrap (wrap64 (7 * x8_2))) = j_ := ⟨_, rfl⟩
                    replace H : (if 0 ≤ (ji12) then (if (bt a0 (ji8)) < 128 then (if (bt a0 (ji8)) = 0 then (if x8_2 > 0 then (bourneref1_GetNum.j2 k2 a1 (Go.bits .or .u64 x7_2 (shl .u64 (IntKind.u64.wrap (Go.bits .and .u8 (bt a0 (ji8)) 127)) (ji12))) x8_2 true) else (if x8_2 = 9 then (bourneref1_GetNum.j2 k2 a1 (Go.bits .or .u64 x7_2 (shl .u64 (IntKind.u64.wrap (Go.bits .and .u8 (bt a0 (ji8)) 127)) (ji12))) x8_2 (decide ((bt a0 (ji8)) > 1))) else (bourneref1_GetNum.j2 k2 a1 (Go.bits .or .u64 x7_2 (shl .u64 (IntKind.u64.wrap (Go.bits .and .u8 (bt a0 (ji8)) 127)) (ji12))) x8_2 false))) else (if x8_2 = 9 then (bourneref1_GetNum.j2 k2 a1 (Go.bits .or .u64 x7_2 (shl .u64 (IntKind.u64.wrap (Go.bits .and .u8 (bt a0 (ji8)) 127)) (ji12))) x8_2 (decide ((bt a0 (ji8)) > 1))) else (bourneref1_GetNum.j2 k2 a1 (Go.bits .or .u64 x7_2 (shl .u64 (IntKind.u64.wrap (Go.bits .and .u8 (bt a0 (ji8)) 127)) (ji12))) x8_2 false))) else (bourneref1_GetNum.l0 k2 a0 a1 (Go.bits .or .u64 x7_2 (shl .u64 (IntKind.u64.wrap (Go.bits .and .u8 (bt a0 (ji8)) 127)) (ji12))) (wrap64 (x8_2 + 1)))) else (none)) = some (r1, r2, r3) := by first | (rw [hji12] at H; exact H) | (simp only [hji12] at H ⊢; exact H)
                    by_cases c13 : 0 ≤ (ji12)
                    · rw [if_pos c13] at H
                      have c13b0 := eq_true c13
                      have c13b1 : decide (0 ≤ (ji12)) = true := decide_eq_true c13
                      clear c13
                      obtain ⟨ji14, hji14⟩ : ∃ j_ : Int, (shl .u64 (IntKind.u64.wrap (Go.bits .and .u8 (bt a0 (ji8)) 127)) (ji12)) = j_ := ⟨_, rfl⟩
                      replace H : (if (bt a0 (ji8)) < 128 then (if (bt a0 (ji8)) = 0 then (if x8_2 > 0 then (bourneref1_GetNum.j2 k2 a1 (Go.bits .or .u64 x7_2 (ji14)) x8_2 true) else (if x8_2 = 9 then (bourneref1_GetNum.j2 k2 a1 (Go.bits .or .u64 x7_2 (ji14)) x8_2 (decide ((bt a0 (ji8)) > 1))) else (bourneref1_GetNum.j2 k2 a1 (Go.bits .or .u64 x7_2 (ji14)) x8_2 false))) else (if x8_2 = 9 then (bourneref1_GetNum.j2 k2 a1 (Go.bits .or .u64 x7_2 (ji14)) x8_2 (decide ((bt a0 (ji8)) > 1))) else (bourneref1_GetNum.j2 k2 a1 (Go.bits .or .u64 x7_2 (ji14)) x8_2 false))) else (bourneref1_GetNum.l0 k2 a0 a1 (Go.bits .or .u64 x7_2 (ji14)) (wrap64 (x8_2 + 1)))) = some (r1, r2, r3) := by first | (rw [hji14] at H; exact H) | (simp only [hji14] at H ⊢; exact H)
                      have hji14_ : (IntKind.u64.wrap ((IntKind.u64.wrap (Go.bits .and .u8 (bt a0 (ji8)) 127)) * 2 ^ min (ji12).toNat 64)) = ji14 := hji14
                      have hji14z : (ji12) ≤ 64 → (IntKind.u64.wrap ((IntKind.u64.wrap (Go.bits .and .u8 (bt a0 (ji8)) 127)) * 2 ^ (ji12).toNat)) = ji14 := shl_small hji14
                      by_cases c15 : (bt a0 (ji8)) < 128
                      · rw [if_pos c15] at H
                        have c15b0 : decide ((bt a0 (ji8)) < 128) = true := decide_eq_true c15
                        clear c15
                        have HC16 := Aside0.mk H
                        clear H
                        have p11 : 0 ≤ ((ji8) : Int) := of_decide_eq_true (by first | (with_reducible assumption) | assumption)
                        have q11 : (ji8) < (a0.size : Int) := of_decide_eq_true (by first | (with_reducible assumption) | assumption)
                        have hx11 := bt_at a0 (ji8)
                        replace p11 := eq_true p11
                        replace q11 := eq_true q11
                        go_upto_region 12 with (fail)
                        go_cut [58] (fun v58 wc => ∃ (kq : Nat) (x58_15 : Bool), v58 = .bool x58_15 ∧ Aside0 (bourneref1_GetNum.j2 kq a1 (Go.bits .or .u64 x7_2 (ji14)) x8_2 x58_15 = some (r1, r2, r3)) ∧ Aside0 (kq ≤ k2) ∧ Drawn0 w wc)
                        case first =>
                          have H := HC16.out
                          clear HC16
                          by_cases c17 : (bt a0 (ji8)) = 0
                          · rw [if_pos c17] at H
                            have c17b0 : ((bt a0 (ji8)) == 0) = true := beq_iff_eq.mpr c17
                            have c17b1 : ((bt a0 (ji8)) != 0) = false := bne_eq_false_iff_eq.mpr c17
                            clear c17
                            (first | rw [c17b0] | (simp only [i64_w, i32_w]; rw [c17b0]) | skip)
                            by_cases c18 : x8_2 > 0
                            · rw [if_pos c18] at H
                              have c18b0 : decide (0 < x8_2) = true := decide_eq_true c18
                              clear c18
                              have H' := Aside0.mk H
                              clear H
                              go_wp2
                              go_meet
                              case rel => exact ⟨_, (true), (by first | rfl | (simp; done) | (simp [*]; done)), H', ⟨by have := HJ2.out; have := HK2.out; first | omega | exact Nat.le_refl _⟩, by repeat (first | exact Drawn0.refl _ | apply Drawn0.step)⟩
                            · rw [if_neg c18] at H
                              have c18b0 : decide (0 < x8_2) = false := decide_eq_false c18
                              clear c18
                              by_cases c19 : x8_2 = 9
                              · rw [if_pos c19] at H
                                have c19b0 : (x8_2 == 9) = true := beq_iff_eq.mpr c19
                                have c19b1 : (x8_2 != 9) = false := bne_eq_false_iff_eq.mpr c19
                                clear c19
                                have H' := Aside0.mk H
                                clear H
                                go_wp2
                                go_meet
                                case rel => exact ⟨_, (decide ((bt a0 (ji8)) > 1)), (by first | rfl | (simp; done) | (simp only [← hji8] <;> (first | rfl | simp)) | (simp [*]; done)), H', ⟨by have := HJ2.out; have := HK2.out; first | omega | exact Nat.le_refl _⟩, by repeat (first | exact Drawn0.refl _ | apply Drawn0.step)⟩
                              · rw [if_neg c19] at H
                                have c19b0 : (x8_2 == 9) = false := beq_eq_false_iff_ne.mpr c19
                                have c19b1 : (x8_2 != 9) = true := bne_iff_ne.mpr c19
                                have H' := Aside0.mk H
                                clear H
                                go_wp2
                                go_meet
                                case rel => exact ⟨_, (false), (by first | rfl | (simp; done) | (simp [*]; done)), H', ⟨by have := HJ2.out; have := HK2.out; first | omega | exact Nat.le_refl _⟩, by repeat (first | exact Drawn0.refl _ | apply Drawn0.step)⟩
                          · rw [if_neg c17] at H
                            have c17b0 : ((bt a0 (ji8)) == 0) = false := beq_eq_false_iff_ne.mpr c17
                            have c17b1 : ((bt a0 (ji8)) != 0) = true := bne_iff_ne.mpr c17
                            (first | rw [c17b0] | (simp only [i64_w, i32_w]; rw [c17b0]) | skip)
                            by_cases c20 : x8_2 = 9
                            · rw [if_pos c20] at H
                              have c20b0 : (x8_2 == 9) = true := beq_iff_eq.mpr c20
                              have c20b1 : (x8_2 != 9) = false := bne_eq_false_iff_eq.mpr c20
                              clear c20
                              have H' := Aside0.mk H
                              clear H
                              go_wp2
                              go_meet
                              case rel => exact ⟨_, (decide ((bt a0 (ji8)) > 1)), (by first | rfl | (simp; done) | (simp only [← hji8] <;> (first | rfl | simp)) | (simp [*]; done)), H', ⟨by have := HJ2.out; have := HK2.out; first | omega | exact Nat.le_refl _⟩, by repeat (first | exact Drawn0.refl _ | apply Drawn0.step)⟩
                            · rw [if_neg c20] at H
                              have c20b0 : (x8_2 == 9) = false := beq_eq_false_iff_ne.mpr c20
                              have c20b1 : (x8_2 != 9) = true := bne_iff_ne.mpr c20
                              have H' := Aside0.mk H
                              clear H
                              go_wp2
                              go_meet
                              case rel => exact ⟨_, (false), (by first | rfl | (simp; done) | (simp [*]; done)), H', ⟨by have := HJ2.out; have := HK2.out; first | omega | exact Nat.le_refl _⟩, by repeat (first | exact Drawn0.refl _ | apply Drawn0.step)⟩
                        case rest =>
                          clear HC16
                          try clear c1
                          try clear p1
                          try clear q1
                          try clear hx1
                          try clear c2
                          try clear p2
                          try clear c4
                          try clear c4b0
                          try clear c5
                          try clear c6
                          try clear c6b0
                          try clear p6
                          try clear c7
                          try clear c7b0
                          try clear c9
                          try clear c9b0
                          try clear c10
                          try clear c10b0
                          try clear p11
                          try clear q11
                          try clear hx11
                          try clear c13
                          try clear c13b0
                          try clear c13b1
                          try clear c15
                          try clear c15b0
                          try clear c17
                          try clear c17b0
                          try clear c17b1
                          try clear c18
                          try clear c18b0
                          try clear c19
                          try clear c19b0
                          try clear c19b1
                          try clear c20
                          try clear c20b0
                          try clear c20b1
                          try clear p11
                          try clear p2
                          try clear q11
                          obtain ⟨kq, x58_15, rfl, HA, HJ15, ⟨mc15, rfl⟩⟩ := hcut
                          cases kq with
                          | zero => exact absurd HA.out (by simp [bourneref1_GetNum.j2])
                          | succ kj15 =>
                            have H := HA.out
                            clear HA
                            simp only [bourneref1_GetNum.j2] at H
                            by_cases c21 : x58_15 = true
                            · subst c21
                              have H1 : (some (0, 0, 700)) = some (r1, r2, r3) := by rw [if_pos rfl] at H; exact H
                              clear H
                              have H := H1
                              clear H1
                              simp only [Option.some.injEq, Prod.mk.injEq] at H
                              obtain ⟨rfl, rfl, rfl⟩ := H
                              go_wp2
                              go_ret3
                              exact ⟨by first | rfl | (simp; done) | (simp only [← hji8, ← hji12, ← hji14] <;> (first | rfl | simp)) | (simp [*]; done), by repeat (first | exact Drawn0.refl _ | apply Drawn0.step)⟩
                            · replace c21 := Bool.eq_false_iff.mpr c21
                              subst c21
                              have H1 : (if (Go.bits .and .u64 (Go.bits .or .u64 x7_2 (ji14)) 1) = 1 then (some (wrap64 ((wrap64 (-(wrap64 ((Go.bits .or .u64 x7_2 (ji14)) / 2)))) - 1), wrap64 ((wrap64 (a1 + x8_2)) + 1), 0)) else (some (wrap64 ((Go.bits .or .u64 x7_2 (ji14)) / 2), wrap64 ((wrap64 (a1 + x8_2)) + 1), 0))) = some (r1, r2, r3) := by rw [if_neg (show ¬ (false = true) by decide)] at H; exact H
                              clear H
                              have H := H1
                              clear H1
                              by_cases c22 : (Go.bits .and .u64 (Go.bits .or .u64 x7_2 (ji14)) 1) = 1
                              · rw [if_pos c22] at H
                                have c22b0 : ((Go.bits .and .u64 (Go.bits .or .u64 x7_2 (ji14)) 1) == 1) = true := beq_iff_eq.mpr c22
                                have c22b1 : ((Go.bits .and .u64 (Go.bits .or .u64 x7_2 (ji14)) 1) != 1) = false := bne_eq_false_iff_eq.mpr c22
                                clear c22
                                simp only [Option.some.injEq, Prod.mk.injEq] at H
                                obtain ⟨rfl, rfl, rfl⟩ := H
                                go_wp2
                                go_ret3
                                exact ⟨by first | rfl | (simp; done) | (simp only [← hji8, ← hji12, ← hji14] <;> (first | rfl | simp)) | (simp [*]; done), by repeat (first | exact Drawn0.refl _ | apply Drawn0.step)⟩
                              · rw [if_neg c22] at H
                                have c22b0 : ((Go.bits .and .u64 (Go.bits .or .u64 x7_2 (ji14)) 1) == 1) = false := beq_eq_false_iff_ne.mpr c22
                                have c22b1 : ((Go.bits .and .u64 (Go.bits .or .u64 x7_2 (ji14)) 1) != 1) = true := bne_iff_ne.mpr c22
                                simp only [Option.some.injEq, Prod.mk.injEq] at H
                                obtain ⟨rfl, rfl, rfl⟩ := H
                                go_wp2
                                go_ret3
                                exact ⟨by first | rfl | (simp; done) | (simp only [← hji8, ← hji12, ← hji14] <;> (first | rfl | simp)) | (simp [*]; done), by repeat (first | exact Drawn0.refl _ | apply Drawn0.step)⟩
                      · rw [if_neg c15] at H
                        have c15b0 : decide ((bt a0 (ji8)) < 128) = false := decide_eq_false c15
                        clear c15
                        have H' := Aside0.mk H
                        clear H
                        have p11 : 0 ≤ ((ji8) : Int) := of_decide_eq_true (by first | (with_reducible assumption) | assumption)
                        have q11 : (ji8) < (a0.size : Int) := of_decide_eq_true (by first | (with_reducible assumption) | assumption)
                        have hx11 := bt_at a0 (ji8)
                        replace p11 := eq_true p11
                        replace q11 := eq_true q11
                        go_wp2
                        go_roundg k2
                        case measure => have := HJ2.out; have := HK2.out; omega
                        case rel => exact ⟨(Go.bits .or .u64 x7_2 (ji14)), (wrap64 (x8_2 + 1)), (by first | rfl | (simp; done) | (simp only [← hji14] <;> (first | rfl | simp)) | (simp [*]; done)), (by first | rfl | (simp; done) | (simp [*]; done)), H', ⟨by have := HJ2.out; have := HK2.out; omega⟩, by repeat (first | exact Drawn0.refl _ | apply Drawn0.step)⟩
                    · rw [if_neg c13] at H
                      exact absurd H (by simp)
                  · rw [if_neg c10] at H
                    exact absurd H (by simp)
                · rw [if_neg c9] at H
                  exact absurd H (by simp)
            · rw [if_neg c6] at H
              have c6b0 : decide (x8_2 < 10) = false := decide_eq_false c6
              clear c6
              simp only [Option.some.injEq, Prod.mk.injEq] at H
              obtain ⟨rfl, rfl, rfl⟩ := H
              go_wp2
              go_ret3
              exact ⟨by first | rfl | (simp; done) | (simp [*]; done), by repeat (first | exact Drawn0.refl _ | apply Drawn0.step)⟩

/-- A state of type 48 at block g of W; what its slices lead to came in by w0. -/
def IsS48 (w0 W : World) (g : Nat) (f0 : ByteArray) (f1 : Int) (f2 : Bool) : Prop := W.heap[g]? = some (.cells #[.string f0, .int .i64 f1, .bool f2] 48 (0, 0)) ∧ w0.heap.size ≤ g
theorem IsS48.grown {w0 W : World} {g : Nat} {f0 : ByteArray} {f1 : Int} {f2 : Bool} {W1 : World} {row : Option Nat} (h : IsS48 w0 W g f0 f1 f2) (hw : W.grownBy W1 row) (hne : some g ≠ row) : IsS48 w0 W1 g f0 f1 f2 := by
  obtain ⟨hb, hg⟩ := h
  exact ⟨blk_grown hb hw hne, hg⟩
theorem IsS48.own_neN {w0 W : World} {g : Nat} {f0 : ByteArray} {f1 : Int} {f2 : Bool} {α : Type} {d : Kd α} {e : Nat} {base : Nat} {ok : Nat → Prop} {v : Value} {xs : List α} (h : IsS48 w0 W g f0 f1 f2) (ho : Kd.N d e W base ok v xs) (ht : e ≠ 48) : some g ≠ v.ownBlock := by
  obtain ⟨hb, hg⟩ := h
  exact Kd.N_ne ho hb ht
theorem IsS48.fresh {w0 W : World} {g : Nat} {f0 : ByteArray} {f1 : Int} {f2 : Bool} (h : IsS48 w0 W g f0 f1 f2) : ∀ k, W.heap.size ≤ k → k ≠ g := by
  obtain ⟨hb, hg⟩ := h
  exact Kd.freshB hb
theorem IsS48.kept {w0 W : World} {g : Nat} {f0 : ByteArray} {f1 : Int} {f2 : Bool} {W1 : World} {S : Nat → Prop} (h : IsS48 w0 W g f0 f1 f2) (hk : Kept W W1 S) (hne : ¬ S g) : IsS48 w0 W1 g f0 f1 f2 := by
  obtain ⟨hb, hg⟩ := h
  exact ⟨blk_kept hb hk hne, hg⟩
theorem IsS48.below {w0 W : World} {g : Nat} {f0 : ByteArray} {f1 : Int} {f2 : Bool} {W1 : World} (h : IsS48 w0 W g f0 f1 f2) (hw : Below W.heap.size W W1) : IsS48 w0 W1 g f0 f1 f2 := h.grown (grown_of_below hw none) (by simp)
theorem IsS48.alloc {w0 W : World} {g : Nat} {f0 : ByteArray} {f1 : Int} {f2 : Bool} (h : IsS48 w0 W g f0 f1 f2) (o : Obj) : IsS48 w0 (W.alloc o) g f0 f1 f2 := h.below (below_alloc (Below.refl _ _) o)
theorem IsS48.drewN {w0 W : World} {g : Nat} {f0 : ByteArray} {f1 : Int} {f2 : Bool} (h : IsS48 w0 W g f0 f1 f2) (m : Nat) : IsS48 w0 (W.drewN m) g f0 f1 f2 := h
theorem IsS48.drew {w0 W : World} {g : Nat} {f0 : ByteArray} {f1 : Int} {f2 : Bool} (h : IsS48 w0 W g f0 f1 f2) : IsS48 w0 W.drew g f0 f1 f2 := h
theorem IsS48.at_ {w0 W : World} {g : Nat} {f0 : ByteArray} {f1 : Int} {f2 : Bool} {w' : World} {m : Nat} (hq : W.drewN m = w') (h : IsS48 w0 W g f0 f1 f2) : IsS48 w0 w' g f0 f1 f2 := by subst hq; exact IsS48.drewN h m
theorem IsS48.apart {w0 W : World} {g : Nat} {f0 : ByteArray} {f1 : Int} {f2 : Bool} {α : Type} {d : Kd α} {e : Nat} {base : Nat} {ok : Nat → Prop} {v : Value} {xs : List α} (h : IsS48 w0 W g f0 f1 f2) (ho : d.R e W base ok v xs) (ht : ∀ q, q ∈ e :: d.E → q ≠ 48) : d.R e W base (fun k => ok k ∧ k ≠ g) v xs := by
  obtain ⟨hb, hg⟩ := h
  exact Kd.R_types ho hb ht
theorem IsS48.own_ne {w0 W : World} {g : Nat} {f0 : ByteArray} {f1 : Int} {f2 : Bool} {α : Type} {d : Kd α} {e : Nat} {base : Nat} {ok : Nat → Prop} {v : Value} {xs : List α} (h : IsS48 w0 W g f0 f1 f2) (ho : d.R e W base ok v xs) (ht : e ≠ 48) : some g ≠ v.ownBlock := by
  obtain ⟨hb, hg⟩ := h
  exact Kd.R_ne ho hb ht
theorem IsS48.apartQ {w0 W : World} {g : Nat} {f0 : ByteArray} {f1 : Int} {f2 : Bool} {α : Type} {d : Kd α} {e : Nat} {base : Nat} {ok : Nat → Prop} {v : Value} {xs : List α} (h : IsS48 w0 W g f0 f1 f2) (ho : d.Q e W base ok v xs) (ht : ∀ q, q ∈ e :: d.E → q ≠ 48) : d.Q e W base (fun k => ok k ∧ k ≠ g) v xs := by
  obtain ⟨hb, hg⟩ := h
  exact Kd.Q_types ho hb ht
theorem IsS48.own_neQ {w0 W : World} {g : Nat} {f0 : ByteArray} {f1 : Int} {f2 : Bool} {α : Type} {d : Kd α} {e : Nat} {base : Nat} {ok : Nat → Prop} {v : Value} {xs : List α} (h : IsS48 w0 W g f0 f1 f2) (ho : d.Q e W base ok v xs) (ht : e ≠ 48) : some g ≠ v.ownBlock := by
  obtain ⟨hb, hg⟩ := h
  exact Kd.Q_ne ho hb ht
theorem IsS48.apartS {w0 W : World} {g : Nat} {f0 : ByteArray} {f1 : Int} {f2 : Bool} {α : Type} {d : Kd α} {e : Nat} {base : Nat} {ok : Nat → Prop} {v : Value} {xs : List α} (h : IsS48 w0 W g f0 f1 f2) (ho : d.S e W base ok v xs) (ht : ∀ q, q ∈ e :: d.E → q ≠ 48) : d.S e W base (fun k => ok k ∧ k ≠ g) v xs := by
  obtain ⟨hb, hg⟩ := h
  exact Kd.S_types ho hb ht
theorem IsS48.own_neS {w0 W : World} {g : Nat} {f0 : ByteArray} {f1 : Int} {f2 : Bool} {α : Type} {d : Kd α} {e : Nat} {base : Nat} {ok : Nat → Prop} {v : Value} {xs : List α} (h : IsS48 w0 W g f0 f1 f2) (ho : d.S e W base ok v xs) (ht : e ≠ 48) : some g ≠ v.ownBlock := by
  obtain ⟨hb, hg⟩ := h
  exact Kd.S_ne ho hb ht
theorem IsS48.lt {w0 W : World} {g : Nat} {f0 : ByteArray} {f1 : Int} {f2 : Bool} (h : IsS48 w0 W g f0 f1 f2) : g < W.heap.size := by
  obtain ⟨hb, hg⟩ := h
  exact blk_lt hb
theorem IsS48.ge {w0 W : World} {g : Nat} {f0 : ByteArray} {f1 : Int} {f2 : Bool} (h : IsS48 w0 W g f0 f1 f2) : w0.heap.size ≤ g := by
  obtain ⟨hb, hg⟩ := h
  exact hg
theorem IsS48.ne_blk {w0 W : World} {g : Nat} {f0 : ByteArray} {f1 : Int} {f2 : Bool} {a : Nat} {cs : Array Value} {t : TypeId} {fr : Nat × Nat} (h : IsS48 w0 W g f0 f1 f2) (hb2 : W.heap[a]? = some (.cells cs t fr)) (ht : t ≠ 48) : g ≠ a := by
  obtain ⟨hb, hg⟩ := h
  rintro rfl
  rw [hb] at hb2
  injection hb2 with hb2
  injection hb2 with _ ht2
  exact ht ht2.symm
theorem IsS48.far {w0 W : World} {g : Nat} {f0 : ByteArray} {f1 : Int} {f2 : Bool} {p : Addr} (h : IsS48 w0 W g f0 f1 f2) (hne : g ≠ p.block) (u : Value) : IsS48 w0 (W.setCell p u) g f0 f1 f2 := by
  obtain ⟨hb, hg⟩ := h
  exact ⟨blk_far hb hne u, hg⟩
theorem cellS48_0 {W : World} {g : Nat} {f0 : ByteArray} {f1 : Int} {f2 : Bool} (h : W.heap[g]? = some (.cells #[.string f0, .int .i64 f1, .bool f2] 48 (0, 0))) : W.cell? ⟨g, 0, none⟩ = some (.string f0) := (blk_cell h 0).trans rfl
theorem IsS48.set_0 {w0 W : World} {g : Nat} {f0 : ByteArray} {f1 : Int} {f2 : Bool} (h : IsS48 w0 W g f0 f1 f2) (x : ByteArray) : IsS48 w0 (W.setCell ⟨g, 0, none⟩ (.string x)) g x f1 f2 := by
  obtain ⟨hb, hg⟩ := h
  exact ⟨by simpa using blk_set hb 0 (.string x), hg⟩
theorem cellS48_1 {W : World} {g : Nat} {f0 : ByteArray} {f1 : Int} {f2 : Bool} (h : W.heap[g]? = some (.cells #[.string f0, .int .i64 f1, .bool f2] 48 (0, 0))) : W.cell? ⟨g, 1, none⟩ = some (.int .i64 f1) := (blk_cell h 1).trans rfl
theorem IsS48.set_1 {w0 W : World} {g : Nat} {f0 : ByteArray} {f1 : Int} {f2 : Bool} (h : IsS48 w0 W g f0 f1 f2) (x : Int) : IsS48 w0 (W.setCell ⟨g, 1, none⟩ (.int .i64 x)) g f0 x f2 := by
  obtain ⟨hb, hg⟩ := h
  exact ⟨by simpa using blk_set hb 1 (.int .i64 x), hg⟩
theorem cellS48_2 {W : World} {g : Nat} {f0 : ByteArray} {f1 : Int} {f2 : Bool} (h : W.heap[g]? = some (.cells #[.string f0, .int .i64 f1, .bool f2] 48 (0, 0))) : W.cell? ⟨g, 2, none⟩ = some (.bool f2) := (blk_cell h 2).trans rfl
theorem IsS48.set_2 {w0 W : World} {g : Nat} {f0 : ByteArray} {f1 : Int} {f2 : Bool} (h : IsS48 w0 W g f0 f1 f2) (x : Bool) : IsS48 w0 (W.setCell ⟨g, 2, none⟩ (.bool x)) g f0 f1 x := by
  obtain ⟨hb, hg⟩ := h
  exact ⟨by simpa using blk_set hb 2 (.bool x), hg⟩
theorem IsS48.new (w0 W : World) (f0 : ByteArray) (f1 : Int) (f2 : Bool) (hB : Below w0.heap.size w0 W) : IsS48 w0 (W.alloc (.cells #[.string f0, .int .i64 f1, .bool f2] 48)) W.heap.size f0 f1 f2 := ⟨by simpa using heap_alloc_new W _, hB.size⟩

/-! ### bourneref1_Reader_Num: function 19 -/
def bourneref1_Reader_Num.f (k : Nat) (s0_0 : ByteArray) (s0_1 : Int) (s0_2 : Bool) : Option (Int × ByteArray × Int × Bool) := (bourneref1_GetNum.f k s0_0 s0_1).bind fun bt143 => (if s0_2 = true then (some (0, s0_0, s0_1, true)) else (if bt143.2.2 = 0 then (some (bt143.1, s0_0, bt143.2.1, s0_2)) else (some (0, s0_0, s0_1, true))))
theorem bourneref1_Reader_Num.mono : ∀ a0 a1 a2 k, LeO (bourneref1_Reader_Num.f k a0 a1 a2) (bourneref1_Reader_Num.f (k + 1) a0 a1 a2) := by
  intro a0 a1 a2 k
  unfold bourneref1_Reader_Num.f
  repeat' first
      | (with_reducible exact bourneref1_GetNum.mono _ _ _)
      | (with_reducible exact LeO.refl _)
      | (with_reducible exact LeO.none _)
      | (with_reducible refine LeO.ite ?_ ?_)
      | (with_reducible refine LeO.bind ?_ (fun _ => ?_))
      | exact bourneref1_GetNum.mono _ _ _
      | exact LeO.none _
      | refine LeO.ite ?_ ?_
      | refine LeO.bind ?_ (fun _ => ?_)
set_option maxHeartbeats 8000000 in
set_option maxRecDepth 100000 in
theorem bourneref1_Reader_Num.calls (k : Nat) (g : Nat) (s0_0 : ByteArray) (s0_1 : Int) (s0_2 : Bool) (r1 : Int) (r2 : ByteArray) (r3 : Int) (r4 : Bool) (w0 w : World) (hI : IsS48 w0 w g s0_0 s0_1 s0_2) (hB : Below w0.heap.size w0 w) (h : bourneref1_Reader_Num.f k s0_0 s0_1 s0_2 = some (r1, r2, r3, r4)) :
    Calls Try.prog 19 #[.pointer (some ⟨g, 0, none⟩)] w fun e w' => e = .returned (.int .i64 r1) ∧ IsS48 w0 w' g r2 r3 r4 ∧ Below w0.heap.size w0 w' ∧ KeepBut w w' g none := by
  have HI0 := Aside0.mk hI
  have HK := Aside0.mk (KeepBut.refl w g none)
  have HL := Aside0.mk hB.size
  clear hI
  have HW0 := Aside0.mk hB.size
  have HB := Aside0.mk hB
  clear hB
  have H : ((bourneref1_GetNum.f k s0_0 s0_1).bind fun bt143 => (if s0_2 = true then (some (0, s0_0, s0_1, true)) else (if bt143.2.2 = 0 then (some (bt143.1, s0_0, bt143.2.1, s0_2)) else (some (0, s0_0, s0_1, true))))) = some (r1, r2, r3, r4) := h
  clear h
  replace H := Option.bind_eq_some_iff.mp H
  obtain ⟨⟨t143, t144, t145⟩, A20, H⟩ := H
  replace H : (if s0_2 = true then (some (0, s0_0, s0_1, true)) else (if t145 = 0 then (some (t143, s0_0, t144, s0_2)) else (some (0, s0_0, s0_1, true)))) = some (r1, r2, r3, r4) := H
  have A2 := Aside0.mk A20
  clear A20
  by_cases c3 : s0_2 = true
  · subst c3
    have H1 : (some (0, s0_0, s0_1, true)) = some (r1, r2, r3, r4) := by rw [if_pos rfl] at H; exact H
    clear H
    have H := H1
    clear H1
    simp only [Option.some.injEq, Prod.mk.injEq] at H
    obtain ⟨rfl, rfl, rfl, rfl⟩ := H
    obtain ⟨HGz4, hgz4⟩ := HI0.out
    have hcz4_0 := cellS48_0 HGz4
    have hcz4_1 := cellS48_1 HGz4
    have hcz4_2 := cellS48_2 HGz4
    have hfz4_0 := blk_frozen HGz4 0
    have hfz4_1 := blk_frozen HGz4 1
    have hfz4_2 := blk_frozen HGz4 2
    clear HGz4 hgz4
    go_enter Try.func19, Try.ntmps19
    go_wp2_with (first | (go_at_call 26; (with_reducible refine (bourneref1_GetNum.calls k s0_0 s0_1 t143 t144 t145 _ A2.out).mono ?_); rintro e w' ⟨rfl, ⟨nd, rfl⟩⟩; (try first | exact ⟨rfl, _, World.drewN_drewN _ _ _⟩ | exact ⟨rfl, _, Eq.trans (World.drewN_drewN _ _ _) (congrArg (World.drewN _) (Nat.add_assoc _ _ _))⟩)))
    repeat (go_quiet (first | (go_at_call 26; (with_reducible refine (bourneref1_GetNum.calls k s0_0 s0_1 t143 t144 t145 _ A2.out).mono ?_); rintro e w' ⟨rfl, ⟨nd, rfl⟩⟩; (try first | exact ⟨rfl, _, World.drewN_drewN _ _ _⟩ | exact ⟨rfl, _, Eq.trans (World.drewN_drewN _ _ _) (congrArg (World.drewN _) (Nat.add_assoc _ _ _))⟩))); try go_wp2_with (first | (go_at_call 26; (with_reducible refine (bourneref1_GetNum.calls k s0_0 s0_1 t143 t144 t145 _ A2.out).mono ?_); rintro e w' ⟨rfl, ⟨nd, rfl⟩⟩; (try first | exact ⟨rfl, _, World.drewN_drewN _ _ _⟩ | exact ⟨rfl, _, Eq.trans (World.drewN_drewN _ _ _) (congrArg (World.drewN _) (Nat.add_assoc _ _ _))⟩))))
    go_ret
    exact ⟨by first | rfl | (simp [errW_none, errW_some] <;> rfl) | (simp [*, errW_none, errW_some] <;> rfl), by repeat (first | (with_reducible first | exact HI0.out | apply IsS48.alloc | apply IsS48.drewN | apply IsS48.drew | apply IsS48.set_0 | apply IsS48.set_1 | apply IsS48.set_2) | exact HI0.out), by repeat (first | (with_reducible first | exact HB.out | apply below_alloc | apply pw_below_drewN | apply below_drew1 | refine below_set ?_ (IsS48.ge HI0.out)) | exact HB.out), by repeat (first | (with_reducible first | exact HK.out | apply KeepBut.set_ | apply keep_drewN | apply keep_drew | apply keep_alloc) | exact HK.out)⟩
  · replace c3 := Bool.eq_false_iff.mpr c3
    subst c3
    have H1 : (if t145 = 0 then (some (t143, s0_0, t144, false)) else (some (0, s0_0, s0_1, true))) = some (r1, r2, r3, r4) := by rw [if_neg (show ¬ (false = true) by decide)] at H; exact H
    clear H
    have H := H1
    clear H1
    by_cases c5 : t145 = 0
    · rw [if_pos c5] at H
      have c5b0 : (t145 == 0) = true := beq_iff_eq.mpr c5
      have c5b1 : (t145 != 0) = false := bne_eq_false_iff_eq.mpr c5
      clear c5
      simp only [Option.some.injEq, Prod.mk.injEq] at H
      obtain ⟨rfl, rfl, rfl, rfl⟩ := H
      obtain ⟨HGz6, hgz6⟩ := HI0.out
      have hcz6_0 := cellS48_0 HGz6
      have hcz6_1 := cellS48_1 HGz6
      have hcz6_2 := cellS48_2 HGz6
      have hfz6_0 := blk_frozen HGz6 0
      have hfz6_1 := blk_frozen HGz6 1
      have hfz6_2 := blk_frozen HGz6 2
      clear HGz6 hgz6
      go_enter Try.func19, Try.ntmps19
      go_wp2_with (first | (go_at_call 26; (with_reducible refine (bourneref1_GetNum.calls k s0_0 s0_1 t143 t144 t145 _ A2.out).mono ?_); rintro e w' ⟨rfl, ⟨nd, rfl⟩⟩; (try first | exact ⟨rfl, _, World.drewN_drewN _ _ _⟩ | exact ⟨rfl, _, Eq.trans (World.drewN_drewN _ _ _) (congrArg (World.drewN _) (Nat.add_assoc _ _ _))⟩)))
      repeat (go_quiet (first | (go_at_call 26; (with_reducible refine (bourneref1_GetNum.calls k s0_0 s0_1 t143 t144 t145 _ A2.out).mono ?_); rintro e w' ⟨rfl, ⟨nd, rfl⟩⟩; (try first | exact ⟨rfl, _, World.drewN_drewN _ _ _⟩ | exact ⟨rfl, _, Eq.trans (World.drewN_drewN _ _ _) (congrArg (World.drewN _) (Nat.add_assoc _ _ _))⟩))); try go_wp2_with (first | (go_at_call 26; (with_reducible refine (bourneref1_GetNum.calls k s0_0 s0_1 t143 t144 t145 _ A2.out).mono ?_); rintro e w' ⟨rfl, ⟨nd, rfl⟩⟩; (try first | exact ⟨rfl, _, World.drewN_drewN _ _ _⟩ | exact ⟨rfl, _, Eq.trans (World.drewN_drewN _ _ _) (congrArg (World.drewN _) (Nat.add_assoc _ _ _))⟩))))
      go_ret
      exact ⟨by first | rfl | (simp [errW_none, errW_some] <;> rfl) | (simp [*, errW_none, errW_some] <;> rfl), by repeat (first | (with_reducible first | exact HI0.out | apply IsS48.alloc | apply IsS48.drewN | apply IsS48.drew | apply IsS48.set_0 | apply IsS48.set_1 | apply IsS48.set_2) | exact HI0.out), by repeat (first | (with_reducible first | exact HB.out | apply below_alloc | apply pw_below_drewN | apply below_drew1 | refine below_set ?_ (IsS48.ge HI0.out)) | exact HB.out), by repeat (first | (with_reducible first | exact HK.out | apply KeepBut.set_ | apply keep_drewN | apply keep_drew | apply keep_alloc) | exact HK.out)⟩
    · rw [if_neg c5] at H
      have c5b0 : (t145 == 0) = false := beq_eq_false_iff_ne.mpr c5
      have c5b1 : (t145 != 0) = true := bne_iff_ne.mpr c5
      simp only [Option.some.injEq, Prod.mk.injEq] at H
      obtain ⟨rfl, rfl, rfl, rfl⟩ := H
      obtain ⟨HGz7, hgz7⟩ := HI0.out
      have hcz7_0 := cellS48_0 HGz7
      have hcz7_1 := cellS48_1 HGz7
      have hcz7_2 := cellS48_2 HGz7
      have hfz7_0 := blk_frozen HGz7 0
      have hfz7_1 := blk_frozen HGz7 1
      have hfz7_2 := blk_frozen HGz7 2
      clear HGz7 hgz7
      go_enter Try.func19, Try.ntmps19
      go_wp2_with (first | (go_at_call 26; (with_reducible refine (bourneref1_GetNum.calls k s0_0 s0_1 t143 t144 t145 _ A2.out).mono ?_); rintro e w' ⟨rfl, ⟨nd, rfl⟩⟩; (try first | exact ⟨rfl, _, World.drewN_drewN _ _ _⟩ | exact ⟨rfl, _, Eq.trans (World.drewN_drewN _ _ _) (congrArg (World.drewN _) (Nat.add_assoc _ _ _))⟩)))
      repeat (go_quiet (first | (go_at_call 26; (with_reducible refine (bourneref1_GetNum.calls k s0_0 s0_1 t143 t144 t145 _ A2.out).mono ?_); rintro e w' ⟨rfl, ⟨nd, rfl⟩⟩; (try first | exact ⟨rfl, _, World.drewN_drewN _ _ _⟩ | exact ⟨rfl, _, Eq.trans (World.drewN_drewN _ _ _) (congrArg (World.drewN _) (Nat.add_assoc _ _ _))⟩))); try go_wp2_with (first | (go_at_call 26; (with_reducible refine (bourneref1_GetNum.calls k s0_0 s0_1 t143 t144 t145 _ A2.out).mono ?_); rintro e w' ⟨rfl, ⟨nd, rfl⟩⟩; (try first | exact ⟨rfl, _, World.drewN_drewN _ _ _⟩ | exact ⟨rfl, _, Eq.trans (World.drewN_drewN _ _ _) (congrArg (World.drewN _) (Nat.add_assoc _ _ _))⟩))))
      go_ret
      exact ⟨by first | rfl | (simp [errW_none, errW_some] <;> rfl) | (simp [*, errW_none, errW_some] <;> rfl), by repeat (first | (with_reducible first | exact HI0.out | apply IsS48.alloc | apply IsS48.drewN | apply IsS48.drew | apply IsS48.set_0 | apply IsS48.set_1 | apply IsS48.set_2) | exact HI0.out), by repeat (first | (with_reducible first | exact HB.out | apply below_alloc | apply pw_below_drewN | apply below_drew1 | refine below_set ?_ (IsS48.ge HI0.out)) | exact HB.out), by repeat (first | (with_reducible first | exact HK.out | apply KeepBut.set_ | apply keep_drewN | apply keep_drew | apply keep_alloc) | exact HK.out)⟩

end Go.Proofs.Ytmefhlaeeaockaa.QWires
