-- Written by a program of this session (wip/myprint.py), over the words of the print
import Derived.Test.YtmccgkbbgicglaaQScanRefx0
import Derived.Test.YtmccgkbbgicglaaQScanRefx2
import Derived.Test.YtmccgkbbgicglaaQScanRefx5
import Derived.Test.YtmccgkbbgicglaaQScanRefx6
namespace Go.Proofs.Ytmccgkbbgicglaa.QScanRef
open Go.RowKit Go.Proofs.YtmccgkbbgicglaaW.PrintWords Go.Proofs.YtmccgkbbgicglaaW.PrintLast Go.Proofs.YtmccgkbbgicglaaW.PrintMore
attribute [local go_sem] max2_int min2_int max_two min_two max_three min_three max_four min_four   -- for this text's walks alone
set_option linter.unusedVariables false
set_option linter.unusedSimpArgs false

/-! ### wire_Get: function 37, by a walk of its own -/
abbrev GetRes := Int × Int × Int × Int × Int × ByteArray × Int × Bool
def wire_Get.raw (k : Nat) (a0 : ByteArray) : Option GetRes :=
 (varint_Reader_Num.f k a0 0 false).bind fun t0 =>
  if t0.1 = 0 then
   (varint_Reader_Num.f k t0.2.1 t0.2.2.1 t0.2.2.2).bind fun t1 => (varint_Reader_Num.f k t1.2.1 t1.2.2.1 t1.2.2.2).bind fun t2 =>
   (varint_Reader_Num.f k t2.2.1 t2.2.2.1 t2.2.2.2).bind fun t3 => (varint_Reader_Num.f k t3.2.1 t3.2.2.1 t3.2.2.2).bind fun t4 =>
   some (t0.1, t1.1, t2.1, t3.1, t4.1, t4.2)
  else if t0.1 = 1 then
   (varint_Reader_Num.f k t0.2.1 t0.2.2.1 t0.2.2.2).bind fun t1 => (varint_Reader_Num.f k t1.2.1 t1.2.2.1 t1.2.2.2).bind fun t2 =>
   some (t0.1, t1.1, 0, t2.1, 0, t2.2)
  else some (t0.1, 0, 0, 0, 0, t0.2)
def wire_Get.f (k : Nat) (a0 : ByteArray) : Option (Int × Int × Int × Int × Int × Int) :=
 (wire_Get.raw k a0).bind fun q =>
  if (if q.2.2.2.2.2.2.2 = true then false else q.2.2.2.2.2.2.1 == (q.2.2.2.2.2.1.size : Int)) = true then (if oMay q.1 q.2.1 q.2.2.1 q.2.2.2.1 q.2.2.2.2.1 = true then some (q.1, q.2.1, q.2.2.1, q.2.2.2.1, q.2.2.2.2.1, 0) else some (0, 0, 0, 0, 0, 900))
  else some (0, 0, 0, 0, 0, 900)
theorem wire_Get.mono : ∀ a0 k, LeO (wire_Get.f k a0) (wire_Get.f (k + 1) a0) := by
 intro a0 k
 unfold wire_Get.f wire_Get.raw
 repeat' first
   | exact LeO.refl _
   | exact varint_Reader_Num.mono _ _ _ _
   | exact LeO.none _
   | refine LeO.ite ?_ ?_
   | refine LeO.bind ?_ (fun _ => ?_)
structure wire_Get.G (w W : World) (gr : Nat) (s : ByteArray) (at_ : Int) (bad : Bool) : Prop where
 res : W.heap[w.heap.size]? = some (.cells #[.int .i64 0, .int .i64 0, .int .i64 0, .int .i64 0, .int .i64 0] 49 (0, 0))
 rd : IsS79 w W gr s at_ bad
 ne : w.heap.size < gr
 below : Below w.heap.size w W
theorem wire_Get.G.num {w W W' : World} {gr : Nat} {s s' : ByteArray} {at_ at' : Int} {bad bad' : Bool} (h : wire_Get.G w W gr s at_ bad) (hI : IsS79 w W' gr s' at' bad') (hB : Below w.heap.size w W') (hK : KeepBut W W' gr none) : wire_Get.G w W' gr s' at' bad' :=
 ⟨by rw [hK.2 _ (Nat.lt_trans h.ne h.rd.lt) (Nat.ne_of_lt h.ne) (by simp)]; exact h.res, hI, h.ne, hB⟩
theorem wire_Get.G.start (w : World) (a0 : ByteArray) : wire_Get.G w ((w.alloc (.cells #[.int .i64 0, .int .i64 0, .int .i64 0, .int .i64 0, .int .i64 0] 49)).alloc (.cells #[.string a0, .int .i64 0, .bool false] 79)) (w.heap.size + 1) a0 0 false :=
 ⟨by show ((w.heap.push _).push _)[w.heap.size]? = _; simp [Array.getElem?_push], by
  have e : (w.alloc (.cells #[.int .i64 0, .int .i64 0, .int .i64 0, .int .i64 0, .int .i64 0] 49)).heap.size = w.heap.size + 1 := Array.size_push ..
  rw [← e]; exact IsS79.new w _ a0 0 false (below_alloc (Below.refl _ _) _), by omega, below_alloc (below_alloc (Below.refl _ _) _) _⟩
structure wire_Get.O (w W : World) (gr go : Nat) (s : ByteArray) (at_ : Int) (bad : Bool) (k a b c d : Int) : Prop where
 g : wire_Get.G w W gr s at_ bad
 o : W.heap[go]? = some (.cells #[.int .i64 k, .int .i64 a, .int .i64 b, .int .i64 c, .int .i64 d] 49 (0, 0))
 ne : gr < go
theorem wire_Get.G.step {w W W' : World} {gr : Nat} {s : ByteArray} {at_ : Int} {bad : Bool} (h : wire_Get.G w W gr s at_ bad) (hb : Below W.heap.size W W') : wire_Get.G w W' gr s at_ bad :=
 ⟨blk_below h.res hb, h.rd.below hb, h.ne, below_step h.below hb⟩
theorem wire_Get.G.far {w W : World} {gr go : Nat} {s : ByteArray} {at_ : Int} {bad : Bool} (h : wire_Get.G w W gr s at_ bad) (hn : gr < go) (j : Nat) (u : Value) : wire_Get.G w (W.setCell ⟨go, j, none⟩ u) gr s at_ bad :=
 ⟨blk_far h.res (Nat.ne_of_lt (Nat.lt_trans h.ne hn)) u, h.rd.far (Nat.ne_of_lt hn) u, h.ne, below_set h.below (Nat.le_of_lt (Nat.lt_trans h.ne hn))⟩
theorem wire_Get.O.new {w W : World} {gr : Nat} {s : ByteArray} {at_ : Int} {bad : Bool} (h : wire_Get.G w W gr s at_ bad) (k : Int) : wire_Get.O w (W.alloc (.cells #[.int .i64 k, .int .i64 0, .int .i64 0, .int .i64 0, .int .i64 0] 49)) gr W.heap.size s at_ bad k 0 0 0 0 :=
 ⟨h.step (below_alloc (Below.refl _ _) _), blk_new _ _, h.rd.lt⟩
theorem wire_Get.O.num {w W W' : World} {gr go : Nat} {s s' : ByteArray} {at_ at' : Int} {bad bad' : Bool} {k a b c d : Int} (h : wire_Get.O w W gr go s at_ bad k a b c d) (hI : IsS79 w W' gr s' at' bad') (hB : Below w.heap.size w W') (hK : KeepBut W W' gr none) : wire_Get.O w W' gr go s' at' bad' k a b c d :=
 ⟨h.g.num hI hB hK, by rw [hK.2 _ (blk_lt h.o) (Nat.ne_of_gt h.ne) (by simp)]; exact h.o, h.ne⟩
theorem wire_Get.O.step {w W W' : World} {gr go : Nat} {s : ByteArray} {at_ : Int} {bad : Bool} {k a b c d : Int} (h : wire_Get.O w W gr go s at_ bad k a b c d) (hb : Below W.heap.size W W') : wire_Get.O w W' gr go s at_ bad k a b c d :=
 ⟨h.g.step hb, blk_below h.o hb, h.ne⟩
theorem wire_Get.O.set1 {w W : World} {gr go : Nat} {s : ByteArray} {at_ : Int} {bad : Bool} {k a b c d : Int} (h : wire_Get.O w W gr go s at_ bad k a b c d) (x : Int) : wire_Get.O w (W.setCell ⟨go, 1, none⟩ (.int .i64 x)) gr go s at_ bad k x b c d := ⟨h.g.far h.ne _ _, blk_put h.o _ _ rfl, h.ne⟩
theorem wire_Get.O.set2 {w W : World} {gr go : Nat} {s : ByteArray} {at_ : Int} {bad : Bool} {k a b c d : Int} (h : wire_Get.O w W gr go s at_ bad k a b c d) (x : Int) : wire_Get.O w (W.setCell ⟨go, 2, none⟩ (.int .i64 x)) gr go s at_ bad k a x c d := ⟨h.g.far h.ne _ _, blk_put h.o _ _ rfl, h.ne⟩
theorem wire_Get.O.set3 {w W : World} {gr go : Nat} {s : ByteArray} {at_ : Int} {bad : Bool} {k a b c d : Int} (h : wire_Get.O w W gr go s at_ bad k a b c d) (x : Int) : wire_Get.O w (W.setCell ⟨go, 3, none⟩ (.int .i64 x)) gr go s at_ bad k a b x d := ⟨h.g.far h.ne _ _, blk_put h.o _ _ rfl, h.ne⟩
theorem wire_Get.O.set4 {w W : World} {gr go : Nat} {s : ByteArray} {at_ : Int} {bad : Bool} {k a b c d : Int} (h : wire_Get.O w W gr go s at_ bad k a b c d) (x : Int) : wire_Get.O w (W.setCell ⟨go, 4, none⟩ (.int .i64 x)) gr go s at_ bad k a b c x := ⟨h.g.far h.ne _ _, blk_put h.o _ _ rfl, h.ne⟩
theorem wire_Get.done_eq (s : ByteArray) (p : Int) (b : Bool) : varint_Reader_Done.f s p b = some ((if b = true then false else p == (s.size : Int)), s, p, b) := by
 unfold varint_Reader_Done.f
 cases b <;> rfl
theorem wire_Get.res5 {W : World} {g : Nat} (h : W.heap[g]? = some (.cells #[.int .i64 0, .int .i64 0, .int .i64 0, .int .i64 0, .int .i64 0] 49 (0, 0))) (a b c d e : Int) : (((((W.setCell ⟨g, 0, none⟩ (.int .i64 a)).setCell ⟨g, 1, none⟩ (.int .i64 b)).setCell ⟨g, 2, none⟩ (.int .i64 c)).setCell ⟨g, 3, none⟩ (.int .i64 d)).setCell ⟨g, 4, none⟩ (.int .i64 e)).heap[g]? = some (.cells #[.int .i64 a, .int .i64 b, .int .i64 c, .int .i64 d, .int .i64 e] 49 (0, 0)) :=
 blk_put (blk_put (blk_put (blk_put (blk_put h 0 _ rfl) 1 _ rfl) 2 _ rfl) 3 _ rfl) 4 _ rfl
set_option maxHeartbeats 8000000 in
set_option maxRecDepth 100000 in
theorem wire_Get.calls (k : Nat) (a0 : ByteArray) (r1 : Int) (r2 : Int) (r3 : Int) (r4 : Int) (r5 : Int) (r6 : Int) (w : World) (h : wire_Get.f k a0 = some (r1, r2, r3, r4, r5, r6)) :
  Calls Try.prog 37 #[.string a0] w fun e w' => e = .returned (.tuple #[.agg #[.int .i64 r1, .int .i64 r2, .int .i64 r3, .int .i64 r4, .int .i64 r5], .int .i64 r6]) ∧ Below w.heap.size w w' := by
 unfold wire_Get.f at h
 obtain ⟨q, hq, h⟩ := Option.bind_eq_some_iff.mp h
 have H := Aside0.mk h
 clear h
 unfold wire_Get.raw at hq
 obtain ⟨⟨n0, s0, p0, b0⟩, h0, hq⟩ := Option.bind_eq_some_iff.mp hq
 have H0 := Aside0.mk h0
 clear h0
 dsimp only at hq
 have G2 := Aside0.mk (wire_Get.G.start w a0)
 rcases (show n0 = 0 ∨ n0 = 1 ∨ (n0 ≠ 0 ∧ n0 ≠ 1) by omega) with rfl | rfl | ⟨c0, c1⟩
 ·rw [if_pos rfl] at hq
  obtain ⟨⟨n1, s1, p1, b1⟩, h1, hq⟩ := Option.bind_eq_some_iff.mp hq
  have H1 := Aside0.mk h1
  clear h1
  dsimp only at hq
  obtain ⟨⟨n2, s2, p2, b2⟩, h2, hq⟩ := Option.bind_eq_some_iff.mp hq
  have H2 := Aside0.mk h2
  clear h2
  dsimp only at hq
  obtain ⟨⟨n3, s3, p3, b3⟩, h3, hq⟩ := Option.bind_eq_some_iff.mp hq
  have H3 := Aside0.mk h3
  clear h3
  dsimp only at hq
  obtain ⟨⟨n4, s4, p4, b4⟩, h4, hq⟩ := Option.bind_eq_some_iff.mp hq
  have H4 := Aside0.mk h4
  clear h4
  dsimp only at hq
  obtain rfl := Option.some.inj hq
  clear hq
  go_enter Try.func37, Try.ntmps37
  go_wp2_with fail
  refine (varint_Reader_Num.calls k _ a0 0 false 0 s0 p0 b0 w _ G2.out.rd G2.out.below H0.out).mono ?_
  rintro e W3 ⟨rfl, hI, hB, hK⟩
  have G3 := Aside0.mk (G2.out.num hI hB hK)
  clear hI hB hK G2
  go_wp2_with fail
  have O0 := Aside0.mk (wire_Get.O.new G3.out 0)
  clear G3
  generalize hgo : W3.heap.size = go at *
  generalize W3.alloc _ = V0 at *
  clear hgo
  refine (varint_Reader_Num.calls k _ s0 p0 b0 n1 s1 p1 b1 w _ O0.out.g.rd O0.out.g.below H1.out).mono ?_
  rintro e V1 ⟨rfl, hI, hB, hK⟩
  have O1 := Aside0.mk (O0.out.num hI hB hK)
  clear hI hB hK O0
  go_wp2_with fail
  refine (varint_Reader_Num.calls k _ s1 p1 b1 n2 s2 p2 b2 w _ O1.out.g.rd O1.out.g.below H2.out).mono ?_
  rintro e V2 ⟨rfl, hI, hB, hK⟩
  have O2 := Aside0.mk (O1.out.num hI hB hK)
  clear hI hB hK O1
  go_wp2_with fail
  refine (varint_Reader_Num.calls k _ s2 p2 b2 n3 s3 p3 b3 w _ O2.out.g.rd O2.out.g.below H3.out).mono ?_
  rintro e V3 ⟨rfl, hI, hB, hK⟩
  have O3 := Aside0.mk (O2.out.num hI hB hK)
  clear hI hB hK O2
  go_wp2_with fail
  refine (varint_Reader_Num.calls k _ s3 p3 b3 n4 s4 p4 b4 w _ O3.out.g.rd O3.out.g.below H4.out).mono ?_
  rintro e V4 ⟨rfl, hI, hB, hK⟩
  have O4 := Aside0.mk (O3.out.num hI hB hK)
  clear hI hB hK O3
  have z1 : V4.cell? ⟨go, 1, none⟩ = some (.int .i64 0) := blk_cell O4.out.o 1
  have z2 : V4.cell? ⟨go, 2, none⟩ = some (.int .i64 0) := blk_cell O4.out.o 2
  have z3 : V4.cell? ⟨go, 3, none⟩ = some (.int .i64 0) := blk_cell O4.out.o 3
  have z4 : V4.cell? ⟨go, 4, none⟩ = some (.int .i64 0) := blk_cell O4.out.o 4
  have f1 := blk_frozen O4.out.o 1
  have f2 := blk_frozen O4.out.o 2
  have f3 := blk_frozen O4.out.o 3
  have f4 := blk_frozen O4.out.o 4
  go_wp2_with fail
  have O5 := Aside0.mk ((((O4.out.set1 n1).set2 n2).set3 n3).set4 n4)
  clear z1 f1 z2 f2 z3 f3 z4 f4 O4
  generalize ((((V4.setCell ⟨go, 1, none⟩ (.int .i64 n1)).setCell ⟨go, 2, none⟩ (.int .i64 n2)).setCell ⟨go, 3, none⟩ (.int .i64 n3)).setCell ⟨go, 4, none⟩ (.int .i64 n4)) = V5 at *
  refine (varint_Reader_Done.calls _ s4 p4 b4 _ _ _ _ w _ O5.out.g.rd O5.out.g.below (wire_Get.done_eq s4 p4 b4)).mono ?_
  rintro e V8 ⟨rfl, hI, hB, hK⟩
  have O8 := Aside0.mk (O5.out.num hI hB hK)
  clear hI hB hK O5
  have B8 := Aside0.mk O8.out.g.below
  generalize (if b4 = true then false else p4 == (s4.size : Int)) = dn at H ⊢
  have hm : Aside0 (wire_May.f 0 n1 n2 n3 n4 = some (oMay 0 n1 n2 n3 n4)) := ⟨rfl⟩
  generalize oMay 0 n1 n2 n3 n4 = om at H hm
  cases dn with
   | false =>
   obtain ⟨rfl, rfl, rfl, rfl, rfl, rfl⟩ : 0 = r1 ∧ 0 = r2 ∧ 0 = r3 ∧ 0 = r4 ∧ 0 = r5 ∧ 900 = r6 := by
    have E := H.out
    rw [if_neg (by decide)] at E
    simpa only [Option.some.injEq, Prod.mk.injEq] using E
   clear H
   have y0 : V8.cell? ⟨go, 0, none⟩ = some (.int .i64 _) := blk_cell O8.out.o 0; have y1 : V8.cell? ⟨go, 1, none⟩ = some (.int .i64 _) := blk_cell O8.out.o 1; have y2 : V8.cell? ⟨go, 2, none⟩ = some (.int .i64 _) := blk_cell O8.out.o 2; have y3 : V8.cell? ⟨go, 3, none⟩ = some (.int .i64 _) := blk_cell O8.out.o 3; have y4 : V8.cell? ⟨go, 4, none⟩ = some (.int .i64 _) := blk_cell O8.out.o 4; have x0 : V8.cell? ⟨w.heap.size, 0, none⟩ = some (.int .i64 0) := blk_cell O8.out.g.res 0; have x1 : V8.cell? ⟨w.heap.size, 1, none⟩ = some (.int .i64 0) := blk_cell O8.out.g.res 1; have x2 : V8.cell? ⟨w.heap.size, 2, none⟩ = some (.int .i64 0) := blk_cell O8.out.g.res 2; have x3 : V8.cell? ⟨w.heap.size, 3, none⟩ = some (.int .i64 0) := blk_cell O8.out.g.res 3; have x4 : V8.cell? ⟨w.heap.size, 4, none⟩ = some (.int .i64 0) := blk_cell O8.out.g.res 4; have f0 := blk_frozen O8.out.g.res 0; have f1 := blk_frozen O8.out.g.res 1; have f2 := blk_frozen O8.out.g.res 2; have f3 := blk_frozen O8.out.g.res 3; have f4 := blk_frozen O8.out.g.res 4
   go_wp2_with fail
   (try simp only [Exit.inBlock, Exit.then]); refine bodyPost_ret (results_ct rfl _ _ w.heap.size 49 #[.int .i64 0, .int .i64 0, .int .i64 0, .int .i64 0, .int .i64 0] (0, 0) _ rfl (wire_Get.res5 O8.out.g.res _ _ _ _ _) Try.underlying49 rfl (by kernel_rfl)) rfl ?_; exact ⟨by first | rfl | simp, by repeat (first | exact B8.out | refine below_set ?_ (Nat.le_refl _))⟩
   | true =>
   have y0 : V8.cell? ⟨go, 0, none⟩ = some (.int .i64 _) := blk_cell O8.out.o 0; have y1 : V8.cell? ⟨go, 1, none⟩ = some (.int .i64 _) := blk_cell O8.out.o 1; have y2 : V8.cell? ⟨go, 2, none⟩ = some (.int .i64 _) := blk_cell O8.out.o 2; have y3 : V8.cell? ⟨go, 3, none⟩ = some (.int .i64 _) := blk_cell O8.out.o 3; have y4 : V8.cell? ⟨go, 4, none⟩ = some (.int .i64 _) := blk_cell O8.out.o 4; have x0 : V8.cell? ⟨w.heap.size, 0, none⟩ = some (.int .i64 0) := blk_cell O8.out.g.res 0; have x1 : V8.cell? ⟨w.heap.size, 1, none⟩ = some (.int .i64 0) := blk_cell O8.out.g.res 1; have x2 : V8.cell? ⟨w.heap.size, 2, none⟩ = some (.int .i64 0) := blk_cell O8.out.g.res 2; have x3 : V8.cell? ⟨w.heap.size, 3, none⟩ = some (.int .i64 0) := blk_cell O8.out.g.res 3; have x4 : V8.cell? ⟨w.heap.size, 4, none⟩ = some (.int .i64 0) := blk_cell O8.out.g.res 4; have f0 := blk_frozen O8.out.g.res 0; have f1 := blk_frozen O8.out.g.res 1; have f2 := blk_frozen O8.out.g.res 2; have f3 := blk_frozen O8.out.g.res 3; have f4 := blk_frozen O8.out.g.res 4
   go_wp2_with fail
   refine (wire_May.calls 0 n1 n2 n3 n4 om _ hm.out).mono ?_
   rintro e V9 ⟨rfl, hb⟩
   have O9 := Aside0.mk (O8.out.step hb)
   clear hb O8 B8
   clear y0 y1 y2 y3 y4 x0 x1 x2 x3 x4 f0 f1 f2 f3 f4
   have B9 := Aside0.mk O9.out.g.below
   have y0 : V9.cell? ⟨go, 0, none⟩ = some (.int .i64 _) := blk_cell O9.out.o 0; have y1 : V9.cell? ⟨go, 1, none⟩ = some (.int .i64 _) := blk_cell O9.out.o 1; have y2 : V9.cell? ⟨go, 2, none⟩ = some (.int .i64 _) := blk_cell O9.out.o 2; have y3 : V9.cell? ⟨go, 3, none⟩ = some (.int .i64 _) := blk_cell O9.out.o 3; have y4 : V9.cell? ⟨go, 4, none⟩ = some (.int .i64 _) := blk_cell O9.out.o 4; have x0 : V9.cell? ⟨w.heap.size, 0, none⟩ = some (.int .i64 0) := blk_cell O9.out.g.res 0; have x1 : V9.cell? ⟨w.heap.size, 1, none⟩ = some (.int .i64 0) := blk_cell O9.out.g.res 1; have x2 : V9.cell? ⟨w.heap.size, 2, none⟩ = some (.int .i64 0) := blk_cell O9.out.g.res 2; have x3 : V9.cell? ⟨w.heap.size, 3, none⟩ = some (.int .i64 0) := blk_cell O9.out.g.res 3; have x4 : V9.cell? ⟨w.heap.size, 4, none⟩ = some (.int .i64 0) := blk_cell O9.out.g.res 4; have f0 := blk_frozen O9.out.g.res 0; have f1 := blk_frozen O9.out.g.res 1; have f2 := blk_frozen O9.out.g.res 2; have f3 := blk_frozen O9.out.g.res 3; have f4 := blk_frozen O9.out.g.res 4
   cases om with
    | false =>
    obtain ⟨rfl, rfl, rfl, rfl, rfl, rfl⟩ : 0 = r1 ∧ 0 = r2 ∧ 0 = r3 ∧ 0 = r4 ∧ 0 = r5 ∧ 900 = r6 := by
     have E := H.out
     simp only [reduceIte, Bool.false_eq_true, Option.some.injEq, Prod.mk.injEq] at E
     exact E
    clear H
    go_wp2_with fail
    (try simp only [Exit.inBlock, Exit.then]); refine bodyPost_ret (results_ct rfl _ _ w.heap.size 49 #[.int .i64 0, .int .i64 0, .int .i64 0, .int .i64 0, .int .i64 0] (0, 0) _ rfl (wire_Get.res5 O9.out.g.res _ _ _ _ _) Try.underlying49 rfl (by kernel_rfl)) rfl ?_; exact ⟨by first | rfl | simp, by repeat (first | exact B9.out | refine below_set ?_ (Nat.le_refl _))⟩
    | true =>
    obtain ⟨rfl, rfl, rfl, rfl, rfl, rfl⟩ : 0 = r1 ∧ n1 = r2 ∧ n2 = r3 ∧ n3 = r4 ∧ n4 = r5 ∧ 0 = r6 := by
     have E := H.out
     simp only [reduceIte, Bool.false_eq_true, Option.some.injEq, Prod.mk.injEq] at E
     exact E
    clear H
    go_wp2_with fail
    (try simp only [Exit.inBlock, Exit.then]); refine bodyPost_ret (results_ct rfl _ _ w.heap.size 49 #[.int .i64 0, .int .i64 n1, .int .i64 n2, .int .i64 n3, .int .i64 n4] (0, 0) _ rfl (wire_Get.res5 O9.out.g.res _ _ _ _ _) Try.underlying49 rfl (by kernel_rfl)) rfl ?_; exact ⟨by first | rfl | simp, by repeat (first | exact B9.out | refine below_set ?_ (Nat.le_refl _))⟩
 ·rw [if_neg (by decide), if_pos rfl] at hq
  obtain ⟨⟨n1, s1, p1, b1⟩, h1, hq⟩ := Option.bind_eq_some_iff.mp hq
  have H1 := Aside0.mk h1
  clear h1
  dsimp only at hq
  obtain ⟨⟨n2, s2, p2, b2⟩, h2, hq⟩ := Option.bind_eq_some_iff.mp hq
  have H2 := Aside0.mk h2
  clear h2
  dsimp only at hq
  obtain rfl := Option.some.inj hq
  clear hq
  go_enter Try.func37, Try.ntmps37
  go_wp2_with fail
  refine (varint_Reader_Num.calls k _ a0 0 false 1 s0 p0 b0 w _ G2.out.rd G2.out.below H0.out).mono ?_
  rintro e W3 ⟨rfl, hI, hB, hK⟩
  have G3 := Aside0.mk (G2.out.num hI hB hK)
  clear hI hB hK G2
  go_wp2_with fail
  have O0 := Aside0.mk (wire_Get.O.new G3.out 1)
  clear G3
  generalize hgo : W3.heap.size = go at *
  generalize W3.alloc _ = V0 at *
  clear hgo
  refine (varint_Reader_Num.calls k _ s0 p0 b0 n1 s1 p1 b1 w _ O0.out.g.rd O0.out.g.below H1.out).mono ?_
  rintro e V1 ⟨rfl, hI, hB, hK⟩
  have O1 := Aside0.mk (O0.out.num hI hB hK)
  clear hI hB hK O0
  go_wp2_with fail
  refine (varint_Reader_Num.calls k _ s1 p1 b1 n2 s2 p2 b2 w _ O1.out.g.rd O1.out.g.below H2.out).mono ?_
  rintro e V2 ⟨rfl, hI, hB, hK⟩
  have O2 := Aside0.mk (O1.out.num hI hB hK)
  clear hI hB hK O1
  have z1 : V2.cell? ⟨go, 1, none⟩ = some (.int .i64 0) := blk_cell O2.out.o 1
  have z3 : V2.cell? ⟨go, 3, none⟩ = some (.int .i64 0) := blk_cell O2.out.o 3
  have f1 := blk_frozen O2.out.o 1
  have f3 := blk_frozen O2.out.o 3
  go_wp2_with fail
  have O5 := Aside0.mk ((O2.out.set1 n1).set3 n2)
  clear z1 f1 z3 f3 O2
  generalize ((V2.setCell ⟨go, 1, none⟩ (.int .i64 n1)).setCell ⟨go, 3, none⟩ (.int .i64 n2)) = V5 at *
  refine (varint_Reader_Done.calls _ s2 p2 b2 _ _ _ _ w _ O5.out.g.rd O5.out.g.below (wire_Get.done_eq s2 p2 b2)).mono ?_
  rintro e V8 ⟨rfl, hI, hB, hK⟩
  have O8 := Aside0.mk (O5.out.num hI hB hK)
  clear hI hB hK O5
  have B8 := Aside0.mk O8.out.g.below
  generalize (if b2 = true then false else p2 == (s2.size : Int)) = dn at H ⊢
  have hm : Aside0 (wire_May.f 1 n1 0 n2 0 = some (oMay 1 n1 0 n2 0)) := ⟨rfl⟩
  generalize oMay 1 n1 0 n2 0 = om at H hm
  cases dn with
   | false =>
   obtain ⟨rfl, rfl, rfl, rfl, rfl, rfl⟩ : 0 = r1 ∧ 0 = r2 ∧ 0 = r3 ∧ 0 = r4 ∧ 0 = r5 ∧ 900 = r6 := by
    have E := H.out
    rw [if_neg (by decide)] at E
    simpa only [Option.some.injEq, Prod.mk.injEq] using E
   clear H
   have y0 : V8.cell? ⟨go, 0, none⟩ = some (.int .i64 _) := blk_cell O8.out.o 0; have y1 : V8.cell? ⟨go, 1, none⟩ = some (.int .i64 _) := blk_cell O8.out.o 1; have y2 : V8.cell? ⟨go, 2, none⟩ = some (.int .i64 _) := blk_cell O8.out.o 2; have y3 : V8.cell? ⟨go, 3, none⟩ = some (.int .i64 _) := blk_cell O8.out.o 3; have y4 : V8.cell? ⟨go, 4, none⟩ = some (.int .i64 _) := blk_cell O8.out.o 4; have x0 : V8.cell? ⟨w.heap.size, 0, none⟩ = some (.int .i64 0) := blk_cell O8.out.g.res 0; have x1 : V8.cell? ⟨w.heap.size, 1, none⟩ = some (.int .i64 0) := blk_cell O8.out.g.res 1; have x2 : V8.cell? ⟨w.heap.size, 2, none⟩ = some (.int .i64 0) := blk_cell O8.out.g.res 2; have x3 : V8.cell? ⟨w.heap.size, 3, none⟩ = some (.int .i64 0) := blk_cell O8.out.g.res 3; have x4 : V8.cell? ⟨w.heap.size, 4, none⟩ = some (.int .i64 0) := blk_cell O8.out.g.res 4; have f0 := blk_frozen O8.out.g.res 0; have f1 := blk_frozen O8.out.g.res 1; have f2 := blk_frozen O8.out.g.res 2; have f3 := blk_frozen O8.out.g.res 3; have f4 := blk_frozen O8.out.g.res 4
   go_wp2_with fail
   (try simp only [Exit.inBlock, Exit.then]); refine bodyPost_ret (results_ct rfl _ _ w.heap.size 49 #[.int .i64 0, .int .i64 0, .int .i64 0, .int .i64 0, .int .i64 0] (0, 0) _ rfl (wire_Get.res5 O8.out.g.res _ _ _ _ _) Try.underlying49 rfl (by kernel_rfl)) rfl ?_; exact ⟨by first | rfl | simp, by repeat (first | exact B8.out | refine below_set ?_ (Nat.le_refl _))⟩
   | true =>
   have y0 : V8.cell? ⟨go, 0, none⟩ = some (.int .i64 _) := blk_cell O8.out.o 0; have y1 : V8.cell? ⟨go, 1, none⟩ = some (.int .i64 _) := blk_cell O8.out.o 1; have y2 : V8.cell? ⟨go, 2, none⟩ = some (.int .i64 _) := blk_cell O8.out.o 2; have y3 : V8.cell? ⟨go, 3, none⟩ = some (.int .i64 _) := blk_cell O8.out.o 3; have y4 : V8.cell? ⟨go, 4, none⟩ = some (.int .i64 _) := blk_cell O8.out.o 4; have x0 : V8.cell? ⟨w.heap.size, 0, none⟩ = some (.int .i64 0) := blk_cell O8.out.g.res 0; have x1 : V8.cell? ⟨w.heap.size, 1, none⟩ = some (.int .i64 0) := blk_cell O8.out.g.res 1; have x2 : V8.cell? ⟨w.heap.size, 2, none⟩ = some (.int .i64 0) := blk_cell O8.out.g.res 2; have x3 : V8.cell? ⟨w.heap.size, 3, none⟩ = some (.int .i64 0) := blk_cell O8.out.g.res 3; have x4 : V8.cell? ⟨w.heap.size, 4, none⟩ = some (.int .i64 0) := blk_cell O8.out.g.res 4; have f0 := blk_frozen O8.out.g.res 0; have f1 := blk_frozen O8.out.g.res 1; have f2 := blk_frozen O8.out.g.res 2; have f3 := blk_frozen O8.out.g.res 3; have f4 := blk_frozen O8.out.g.res 4
   go_wp2_with fail
   refine (wire_May.calls 1 n1 0 n2 0 om _ hm.out).mono ?_
   rintro e V9 ⟨rfl, hb⟩
   have O9 := Aside0.mk (O8.out.step hb)
   clear hb O8 B8
   clear y0 y1 y2 y3 y4 x0 x1 x2 x3 x4 f0 f1 f2 f3 f4
   have B9 := Aside0.mk O9.out.g.below
   have y0 : V9.cell? ⟨go, 0, none⟩ = some (.int .i64 _) := blk_cell O9.out.o 0; have y1 : V9.cell? ⟨go, 1, none⟩ = some (.int .i64 _) := blk_cell O9.out.o 1; have y2 : V9.cell? ⟨go, 2, none⟩ = some (.int .i64 _) := blk_cell O9.out.o 2; have y3 : V9.cell? ⟨go, 3, none⟩ = some (.int .i64 _) := blk_cell O9.out.o 3; have y4 : V9.cell? ⟨go, 4, none⟩ = some (.int .i64 _) := blk_cell O9.out.o 4; have x0 : V9.cell? ⟨w.heap.size, 0, none⟩ = some (.int .i64 0) := blk_cell O9.out.g.res 0; have x1 : V9.cell? ⟨w.heap.size, 1, none⟩ = some (.int .i64 0) := blk_cell O9.out.g.res 1; have x2 : V9.cell? ⟨w.heap.size, 2, none⟩ = some (.int .i64 0) := blk_cell O9.out.g.res 2; have x3 : V9.cell? ⟨w.heap.size, 3, none⟩ = some (.int .i64 0) := blk_cell O9.out.g.res 3; have x4 : V9.cell? ⟨w.heap.size, 4, none⟩ = some (.int .i64 0) := blk_cell O9.out.g.res 4; have f0 := blk_frozen O9.out.g.res 0; have f1 := blk_frozen O9.out.g.res 1; have f2 := blk_frozen O9.out.g.res 2; have f3 := blk_frozen O9.out.g.res 3; have f4 := blk_frozen O9.out.g.res 4
   cases om with
    | false =>
    obtain ⟨rfl, rfl, rfl, rfl, rfl, rfl⟩ : 0 = r1 ∧ 0 = r2 ∧ 0 = r3 ∧ 0 = r4 ∧ 0 = r5 ∧ 900 = r6 := by
     have E := H.out
     simp only [reduceIte, Bool.false_eq_true, Option.some.injEq, Prod.mk.injEq] at E
     exact E
    clear H
    go_wp2_with fail
    (try simp only [Exit.inBlock, Exit.then]); refine bodyPost_ret (results_ct rfl _ _ w.heap.size 49 #[.int .i64 0, .int .i64 0, .int .i64 0, .int .i64 0, .int .i64 0] (0, 0) _ rfl (wire_Get.res5 O9.out.g.res _ _ _ _ _) Try.underlying49 rfl (by kernel_rfl)) rfl ?_; exact ⟨by first | rfl | simp, by repeat (first | exact B9.out | refine below_set ?_ (Nat.le_refl _))⟩
    | true =>
    obtain ⟨rfl, rfl, rfl, rfl, rfl, rfl⟩ : 1 = r1 ∧ n1 = r2 ∧ 0 = r3 ∧ n2 = r4 ∧ 0 = r5 ∧ 0 = r6 := by
     have E := H.out
     simp only [reduceIte, Bool.false_eq_true, Option.some.injEq, Prod.mk.injEq] at E
     exact E
    clear H
    go_wp2_with fail
    (try simp only [Exit.inBlock, Exit.then]); refine bodyPost_ret (results_ct rfl _ _ w.heap.size 49 #[.int .i64 1, .int .i64 n1, .int .i64 0, .int .i64 n2, .int .i64 0] (0, 0) _ rfl (wire_Get.res5 O9.out.g.res _ _ _ _ _) Try.underlying49 rfl (by kernel_rfl)) rfl ?_; exact ⟨by first | rfl | simp, by repeat (first | exact B9.out | refine below_set ?_ (Nat.le_refl _))⟩
 ·rw [if_neg c0, if_neg c1] at hq
  have e0 : (n0 == 0) = false := beq_eq_false_iff_ne.2 c0
  have e1 : (n0 == 1) = false := beq_eq_false_iff_ne.2 c1
  clear c0 c1
  obtain rfl := Option.some.inj hq
  clear hq
  go_enter Try.func37, Try.ntmps37
  go_wp2_with fail
  refine (varint_Reader_Num.calls k _ a0 0 false n0 s0 p0 b0 w _ G2.out.rd G2.out.below H0.out).mono ?_
  rintro e W3 ⟨rfl, hI, hB, hK⟩
  have G3 := Aside0.mk (G2.out.num hI hB hK)
  clear hI hB hK G2
  go_wp2_with fail
  have O0 := Aside0.mk (wire_Get.O.new G3.out n0)
  clear G3
  generalize hgo : W3.heap.size = go at *
  generalize W3.alloc _ = V0 at *
  clear hgo
  refine (varint_Reader_Done.calls _ s0 p0 b0 _ _ _ _ w _ O0.out.g.rd O0.out.g.below (wire_Get.done_eq s0 p0 b0)).mono ?_
  rintro e V8 ⟨rfl, hI, hB, hK⟩
  have O8 := Aside0.mk (O0.out.num hI hB hK)
  clear hI hB hK O0
  have B8 := Aside0.mk O8.out.g.below
  generalize (if b0 = true then false else p0 == (s0.size : Int)) = dn at H ⊢
  have hm : Aside0 (wire_May.f n0 0 0 0 0 = some (oMay n0 0 0 0 0)) := ⟨rfl⟩
  generalize oMay n0 0 0 0 0 = om at H hm
  cases dn with
   | false =>
   obtain ⟨rfl, rfl, rfl, rfl, rfl, rfl⟩ : 0 = r1 ∧ 0 = r2 ∧ 0 = r3 ∧ 0 = r4 ∧ 0 = r5 ∧ 900 = r6 := by
    have E := H.out
    rw [if_neg (by decide)] at E
    simpa only [Option.some.injEq, Prod.mk.injEq] using E
   clear H
   have y0 : V8.cell? ⟨go, 0, none⟩ = some (.int .i64 _) := blk_cell O8.out.o 0; have y1 : V8.cell? ⟨go, 1, none⟩ = some (.int .i64 _) := blk_cell O8.out.o 1; have y2 : V8.cell? ⟨go, 2, none⟩ = some (.int .i64 _) := blk_cell O8.out.o 2; have y3 : V8.cell? ⟨go, 3, none⟩ = some (.int .i64 _) := blk_cell O8.out.o 3; have y4 : V8.cell? ⟨go, 4, none⟩ = some (.int .i64 _) := blk_cell O8.out.o 4; have x0 : V8.cell? ⟨w.heap.size, 0, none⟩ = some (.int .i64 0) := blk_cell O8.out.g.res 0; have x1 : V8.cell? ⟨w.heap.size, 1, none⟩ = some (.int .i64 0) := blk_cell O8.out.g.res 1; have x2 : V8.cell? ⟨w.heap.size, 2, none⟩ = some (.int .i64 0) := blk_cell O8.out.g.res 2; have x3 : V8.cell? ⟨w.heap.size, 3, none⟩ = some (.int .i64 0) := blk_cell O8.out.g.res 3; have x4 : V8.cell? ⟨w.heap.size, 4, none⟩ = some (.int .i64 0) := blk_cell O8.out.g.res 4; have f0 := blk_frozen O8.out.g.res 0; have f1 := blk_frozen O8.out.g.res 1; have f2 := blk_frozen O8.out.g.res 2; have f3 := blk_frozen O8.out.g.res 3; have f4 := blk_frozen O8.out.g.res 4
   go_wp2_with fail
   (try simp only [Exit.inBlock, Exit.then]); refine bodyPost_ret (results_ct rfl _ _ w.heap.size 49 #[.int .i64 0, .int .i64 0, .int .i64 0, .int .i64 0, .int .i64 0] (0, 0) _ rfl (wire_Get.res5 O8.out.g.res _ _ _ _ _) Try.underlying49 rfl (by kernel_rfl)) rfl ?_; exact ⟨by first | rfl | simp, by repeat (first | exact B8.out | refine below_set ?_ (Nat.le_refl _))⟩
   | true =>
   have y0 : V8.cell? ⟨go, 0, none⟩ = some (.int .i64 _) := blk_cell O8.out.o 0; have y1 : V8.cell? ⟨go, 1, none⟩ = some (.int .i64 _) := blk_cell O8.out.o 1; have y2 : V8.cell? ⟨go, 2, none⟩ = some (.int .i64 _) := blk_cell O8.out.o 2; have y3 : V8.cell? ⟨go, 3, none⟩ = some (.int .i64 _) := blk_cell O8.out.o 3; have y4 : V8.cell? ⟨go, 4, none⟩ = some (.int .i64 _) := blk_cell O8.out.o 4; have x0 : V8.cell? ⟨w.heap.size, 0, none⟩ = some (.int .i64 0) := blk_cell O8.out.g.res 0; have x1 : V8.cell? ⟨w.heap.size, 1, none⟩ = some (.int .i64 0) := blk_cell O8.out.g.res 1; have x2 : V8.cell? ⟨w.heap.size, 2, none⟩ = some (.int .i64 0) := blk_cell O8.out.g.res 2; have x3 : V8.cell? ⟨w.heap.size, 3, none⟩ = some (.int .i64 0) := blk_cell O8.out.g.res 3; have x4 : V8.cell? ⟨w.heap.size, 4, none⟩ = some (.int .i64 0) := blk_cell O8.out.g.res 4; have f0 := blk_frozen O8.out.g.res 0; have f1 := blk_frozen O8.out.g.res 1; have f2 := blk_frozen O8.out.g.res 2; have f3 := blk_frozen O8.out.g.res 3; have f4 := blk_frozen O8.out.g.res 4
   go_wp2_with fail
   refine (wire_May.calls n0 0 0 0 0 om _ hm.out).mono ?_
   rintro e V9 ⟨rfl, hb⟩
   have O9 := Aside0.mk (O8.out.step hb)
   clear hb O8 B8
   clear y0 y1 y2 y3 y4 x0 x1 x2 x3 x4 f0 f1 f2 f3 f4
   have B9 := Aside0.mk O9.out.g.below
   have y0 : V9.cell? ⟨go, 0, none⟩ = some (.int .i64 _) := blk_cell O9.out.o 0; have y1 : V9.cell? ⟨go, 1, none⟩ = some (.int .i64 _) := blk_cell O9.out.o 1; have y2 : V9.cell? ⟨go, 2, none⟩ = some (.int .i64 _) := blk_cell O9.out.o 2; have y3 : V9.cell? ⟨go, 3, none⟩ = some (.int .i64 _) := blk_cell O9.out.o 3; have y4 : V9.cell? ⟨go, 4, none⟩ = some (.int .i64 _) := blk_cell O9.out.o 4; have x0 : V9.cell? ⟨w.heap.size, 0, none⟩ = some (.int .i64 0) := blk_cell O9.out.g.res 0; have x1 : V9.cell? ⟨w.heap.size, 1, none⟩ = some (.int .i64 0) := blk_cell O9.out.g.res 1; have x2 : V9.cell? ⟨w.heap.size, 2, none⟩ = some (.int .i64 0) := blk_cell O9.out.g.res 2; have x3 : V9.cell? ⟨w.heap.size, 3, none⟩ = some (.int .i64 0) := blk_cell O9.out.g.res 3; have x4 : V9.cell? ⟨w.heap.size, 4, none⟩ = some (.int .i64 0) := blk_cell O9.out.g.res 4; have f0 := blk_frozen O9.out.g.res 0; have f1 := blk_frozen O9.out.g.res 1; have f2 := blk_frozen O9.out.g.res 2; have f3 := blk_frozen O9.out.g.res 3; have f4 := blk_frozen O9.out.g.res 4
   cases om with
    | false =>
    obtain ⟨rfl, rfl, rfl, rfl, rfl, rfl⟩ : 0 = r1 ∧ 0 = r2 ∧ 0 = r3 ∧ 0 = r4 ∧ 0 = r5 ∧ 900 = r6 := by
     have E := H.out
     simp only [reduceIte, Bool.false_eq_true, Option.some.injEq, Prod.mk.injEq] at E
     exact E
    clear H
    go_wp2_with fail
    (try simp only [Exit.inBlock, Exit.then]); refine bodyPost_ret (results_ct rfl _ _ w.heap.size 49 #[.int .i64 0, .int .i64 0, .int .i64 0, .int .i64 0, .int .i64 0] (0, 0) _ rfl (wire_Get.res5 O9.out.g.res _ _ _ _ _) Try.underlying49 rfl (by kernel_rfl)) rfl ?_; exact ⟨by first | rfl | simp, by repeat (first | exact B9.out | refine below_set ?_ (Nat.le_refl _))⟩
    | true =>
    obtain ⟨rfl, rfl, rfl, rfl, rfl, rfl⟩ : n0 = r1 ∧ 0 = r2 ∧ 0 = r3 ∧ 0 = r4 ∧ 0 = r5 ∧ 0 = r6 := by
     have E := H.out
     simp only [reduceIte, Bool.false_eq_true, Option.some.injEq, Prod.mk.injEq] at E
     exact E
    clear H
    go_wp2_with fail
    (try simp only [Exit.inBlock, Exit.then]); refine bodyPost_ret (results_ct rfl _ _ w.heap.size 49 #[.int .i64 n0, .int .i64 0, .int .i64 0, .int .i64 0, .int .i64 0] (0, 0) _ rfl (wire_Get.res5 O9.out.g.res _ _ _ _ _) Try.underlying49 rfl (by kernel_rfl)) rfl ?_; exact ⟨by first | rfl | simp, by repeat (first | exact B9.out | refine below_set ?_ (Nat.le_refl _))⟩

/-! ### scan_Scanner_told: function 38 -/
def scan_Scanner_told.f (s0_0 : ByteArray) (s0_1 : Int) (l1 : List (S49)) : Option ((List (S49)) × ByteArray × Int) := if s0_1 = 0 then (some (l1, s0_0, s0_1)) else (if l1.length < 3518437208883 then (some ((l1 ++ [(⟨3, 0, 0, 0, s0_1⟩ : S49)]), s0_0, 0)) else (none))
set_option maxHeartbeats 8000000 in
set_option maxRecDepth 100000 in
theorem scan_Scanner_told.calls (g : Nat) (s0_0 : ByteArray) (s0_1 : Int) (P1_ : Nat → Prop) (u9000_ : Value) (l1 : List (S49)) (r1 : List (S49)) (r2 : ByteArray) (r3 : Int) (w0 w : World) (hI : IsS58 w0 w g s0_0 s0_1) (hB : Below w0.heap.size w0 w) (ho1 : Kd.R k49 49 w w0.heap.size P1_ u9000_ l1) (h : scan_Scanner_told.f s0_0 s0_1 l1 = some (r1, r2, r3)) :
  Calls Try.prog 38 #[.pointer (some ⟨g, 0, none⟩), u9000_] w fun e w' => ∃ v0_ : Value, e = .returned (v0_) ∧ Kd.R k49 49 w' w0.heap.size (fun k_ => (P1_ k_ ∨ w.heap.size ≤ k_)) v0_ r1 ∧ IsS58 w0 w' g r2 r3 ∧ Below w0.heap.size w0 w' ∧ Kept w w' (fun k_ => (P1_ k_) ∨ k_ = g) := by
 have hu49 := Try.underlying49
 have HO1 := Aside0.mk (show Kd.R k49 49 w w0.heap.size (fun k_ => (P1_ k_ ∨ w.heap.size ≤ k_)) u9000_ l1 from Kd.R_mono ho1 (fun k_ hk => (.inl hk)))
 have HI0 := Aside0.mk hI
 have HL := Aside0.mk hB.size
 clear hI
 have HK := Aside0.mk (Kept.refl w (fun k_ => (P1_ k_) ∨ k_ = g))
 have HW0 := Aside0.mk hB.size
 have HB := Aside0.mk hB
 clear hB
 have H : (if s0_1 = 0 then (some (l1, s0_0, s0_1)) else (if l1.length < 3518437208883 then (some ((l1 ++ [(⟨3, 0, 0, 0, s0_1⟩ : S49)]), s0_0, 0)) else (none))) = some (r1, r2, r3) := h
 clear h
 by_cases c3 : s0_1 = 0
 ·rw [if_pos c3] at H
  have c3b0 : (s0_1 == 0) = true := beq_iff_eq.mpr c3
  have c3b1 : (s0_1 != 0) = false := bne_eq_false_iff_eq.mpr c3
  clear c3
  simp only [Option.some.injEq, Prod.mk.injEq] at H
  obtain ⟨rfl, rfl, rfl⟩ := H
  obtain ⟨HGz4, hgz4⟩ := HI0.out
  have hcz4_0 := cellS58_0 HGz4
  have hcz4_1 := cellS58_1 HGz4
  have hfz4_0 := blk_frozen HGz4 0
  have hfz4_1 := blk_frozen HGz4 1
  clear HGz4 hgz4
  go_enter Try.func38, Try.ntmps38
  go_wp2
  go_ret
  exact ⟨_, by first | rfl | (simp [errW_none, errW_some] <;> rfl) | (simp [*, errW_none, errW_some] <;> rfl), by (with_reducible repeat (first | apply Kd.R_alloc | apply Kd.R_drewN | apply Kd.R_drew)); exact HO1.out, by repeat (first | (with_reducible first | exact HI0.out | apply IsS58.alloc | apply IsS58.drewN | apply IsS58.drew | apply IsS58.set_0 | apply IsS58.set_1) | exact HI0.out), by repeat (first | (with_reducible first | exact HB.out | apply below_alloc | apply pw_below_drewN | apply below_drew1 | refine below_set ?_ (IsS58.ge HI0.out)) | exact HB.out), by repeat (first | (with_reducible first | exact HK.out | apply Kept.alloc | apply Kept.drewN | apply Kept.drew | refine Kept.setCell ?_ (.inl (.inr rfl)) _) | exact HK.out)⟩
 ·rw [if_neg c3] at H
  have c3b0 : (s0_1 == 0) = false := beq_eq_false_iff_ne.mpr c3
  have c3b1 : (s0_1 != 0) = true := bne_iff_ne.mpr c3
  by_cases c5 : l1.length < 3518437208883
  ·rw [if_pos c5] at H
   have LMc5 := Aside0.mk c5
   clear c5
   obtain ⟨y110, hy110⟩ : ∃ y_ : List (S49), y_ = (l1 ++ [(⟨3, 0, 0, 0, s0_1⟩ : S49)]) := ⟨_, rfl⟩
   replace H : (some (y110, s0_0, 0)) = some (r1, r2, r3) := by first | (rw [hy110]; with_reducible exact H) | (have H2_ := (Option.bind_some _ _).symm.trans H; rw [hy110]; with_reducible exact H2_) | (have H2_ := (Option.bind_some _ _).symm.trans H; with_reducible exact H2_) | with_reducible exact H | (rw [hy110]; exact H) | exact H
   have Ny110 := Aside0.mk hy110
   clear hy110
   simp only [Option.some.injEq, Prod.mk.injEq] at H
   obtain ⟨rfl, rfl, rfl⟩ := H
   obtain ⟨HGz6, hgz6⟩ := HI0.out
   have hcz6_0 := cellS58_0 HGz6
   have hcz6_1 := cellS58_1 HGz6
   have hfz6_0 := blk_frozen HGz6 0
   have hfz6_1 := blk_frozen HGz6 1
   clear HGz6 hgz6
   go_enter Try.func38, Try.ntmps38
   go_wp2_with (first | ((with_reducible refine gate_builtin (b := .append) (xs := #[.tmp 11, .tmp 17]) rfl ?_); at_builtin; refine Kd.R_append k49 (w0 := w0) w0.heap.size rfl (.tmp 11) (.tmp 17) 34 49 (.agg #[(.int .i64 0), (.int .i64 0), (.int .i64 0), (.int .i64 0), (.int .i64 0)]) 40 rfl Try.underlying34 info49 rfl (by decide) (by omega) u9000_ l1 (⟨3, 0, 0, 0, s0_1⟩ : S49) [.int .i64 3, .int .i64 0, .int .i64 0, .int .i64 0, .int .i64 s0_1] (fun k_ => (P1_ k_ ∨ w.heap.size ≤ k_)) (fun _ => False) rfl rfl ?aP (fun _ hk => hk.elim) ?aF ?aO ?aB ?aS ?aL ?_; (case aP => exact k49_mkM _ _ _ (⟨3, 0, 0, 0, s0_1⟩ : S49)); (case aB => exact (by repeat (first | (with_reducible first | exact HB.out | apply below_alloc | apply pw_below_drewN | apply below_drew1 | refine below_set ?_ (IsS58.ge HI0.out)) | exact HB.out))); (case aF => exact (fun k_ hk => (.inr (Nat.le_trans (by first | exact HK.out.1 | exact (show Kept w _ (fun k_ => (P1_ k_) ∨ k_ = g) from by repeat (first | (with_reducible first | exact HK.out | apply Kept.alloc | apply Kept.drewN | apply Kept.drew | refine Kept.setCell ?_ (.inl (.inr rfl)) _) | exact HK.out)).1) hk)))); (case aO => exact (by (with_reducible repeat (first | apply Kd.R_alloc | apply Kd.R_drewN | apply Kd.R_drew)); exact HO1.out)); (case aS => exact (below_size (by repeat (first | (with_reducible first | exact HB.out | apply below_alloc | apply pw_below_drewN | apply below_drew1 | refine below_set ?_ (IsS58.ge HI0.out)) | exact HB.out)))); (case aL => have := LMc5.out; omega); intro v111 w7 ho hb hg hat; rw [← Ny110.out] at ho; have n0_ := Aside0.mk (IsS58.grown (by repeat (first | (with_reducible first | exact HI0.out | apply IsS58.alloc | apply IsS58.drewN | apply IsS58.drew | apply IsS58.set_0 | apply IsS58.set_1) | exact HI0.out)) hg (IsS58.own_ne HI0.out HO1.out (by decide))); have n1_ := Aside0.mk (hb); have n2_ := Aside0.mk (Kept.of_grown (S := (fun k_ => (P1_ k_) ∨ k_ = g)) hg (by repeat (first | (with_reducible first | exact HK.out | apply Kept.alloc | apply Kept.drewN | apply Kept.drew | refine Kept.setCell ?_ (.inl (.inr rfl)) _) | exact HK.out)) (fun k_ e_ => Or.imp_left Or.inl ((HO1.out.1 k_ e_)))); have n3_ := Aside0.mk (ho); clear HI0; clear HB; clear HK; clear HO1; have HI0 := n0_; have HB := n1_; have HK := n2_; have HO112 := n3_; clear n0_ n1_ n2_ n3_; clear ho hb hg hat; obtain ⟨HGz8, hgz8⟩ := HI0.out; have hcz8_0 := cellS58_0 HGz8; have hcz8_1 := cellS58_1 HGz8; have hfz8_0 := blk_frozen HGz8 0; have hfz8_1 := blk_frozen HGz8 1; clear HGz8 hgz8))
   go_ret
   exact ⟨_, by first | rfl | (simp [errW_none, errW_some] <;> rfl) | (simp [*, errW_none, errW_some] <;> rfl), by (with_reducible repeat (first | apply Kd.R_alloc | apply Kd.R_drewN | apply Kd.R_drew)); exact Kd.R_mono (Kd.R_far (p := ⟨g, 1, none⟩) (IsS58.apart HI0.out HO112.out (by decide)) (fun _ hk => hk.2) (.int .i64 0)) (fun _ hk => hk.1), by repeat (first | (with_reducible first | exact HI0.out | apply IsS58.alloc | apply IsS58.drewN | apply IsS58.drew | apply IsS58.set_0 | apply IsS58.set_1) | exact HI0.out), by repeat (first | (with_reducible first | exact HB.out | apply below_alloc | apply pw_below_drewN | apply below_drew1 | refine below_set ?_ (IsS58.ge HI0.out)) | exact HB.out), by repeat (first | (with_reducible first | exact HK.out | apply Kept.alloc | apply Kept.drewN | apply Kept.drew | refine Kept.setCell ?_ (.inl (.inr rfl)) _) | exact HK.out)⟩
  ·rw [if_neg c5] at H
   exact absurd H (by simp)

end Go.Proofs.Ytmccgkbbgicglaa.QScanRef
