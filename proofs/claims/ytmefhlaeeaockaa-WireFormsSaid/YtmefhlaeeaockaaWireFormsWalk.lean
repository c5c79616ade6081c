/- The walk of the law WireForms of folder 9, from what its callees answer. No condition beyond those. -/
import Derived.Test.YtmefhlaeeaockaaQWireFormsx4
namespace Go.Proofs.Ytmefhlaeeaockaa.FormsW
open Go.RowKit Go.Proofs.Ytmefhlaeeaockaa.QWireForms Go.Proofs.YtmefhlaeeaockaaW.PrintWords Go.Proofs.YtmefhlaeeaockaaW.PrintLast Go.Proofs.YtmefhlaeeaockaaW.PrintMore
set_option linter.unusedVariables false
set_option linter.unusedSimpArgs false


theorem num_calls (a : Int) (w : World) : Calls Try.prog 11 #[.int .i64 a] w fun e w' => e = .returned (.int .i64 a) ∧ Drawn0 w w' := by
  go_enter Try.func11, Try.ntmps11
  go_wp2
  go_ret
  exact ⟨rfl, by repeat (first | exact Drawn0.refl _ | apply Drawn0.step)⟩
/-- Two boxed operations and what lies below. -/
structure Bx (w W : World) (go gm : Nat) (k a b c d k' a' b' c' d' : Int) : Prop where
  o : W.heap[go]? = some (.cells #[.int .i64 k, .int .i64 a, .int .i64 b, .int .i64 c, .int .i64 d] 23 (0, 0))
  m : W.heap[gm]? = some (.cells #[.int .i64 k', .int .i64 a', .int .i64 b', .int .i64 c', .int .i64 d'] 23 (0, 0))
  le : w.heap.size ≤ go
  ne : go < gm
  below : Below w.heap.size w W
theorem Bx.step {w W W' : World} {go gm : Nat} {k a b c d k' a' b' c' d' : Int} (h : Bx w W go gm k a b c d k' a' b' c' d') (hb : Below W.heap.size W W') : Bx w W' go gm k a b c d k' a' b' c' d' :=
  ⟨blk_below h.o hb, blk_below h.m hb, h.le, h.ne, below_step h.below hb⟩
theorem Bx.new {w W : World} (hb : Below w.heap.size w W) (k a b c d k' a' b' c' d' : Int) :
    Bx w ((W.alloc (.cells #[.int .i64 k, .int .i64 a, .int .i64 b, .int .i64 c, .int .i64 d] 23)).alloc (.cells #[.int .i64 k', .int .i64 a', .int .i64 b', .int .i64 c', .int .i64 d'] 23)) W.heap.size (W.heap.size + 1) k a b c d k' a' b' c' d' :=
  ⟨by show ((W.heap.push _).push _)[W.heap.size]? = _; simp [Array.getElem?_push], by show ((W.heap.push _).push _)[W.heap.size + 1]? = _; rw [Array.getElem?_push, if_pos (by simp)], hb.size, by omega, below_alloc (below_alloc hb _) _⟩
theorem Bx.set {w W : World} {go gm : Nat} {k a b c d k' a' b' c' d' : Int} (h : Bx w W go gm k a b c d k' a' b' c' d') (k2 a2 b2 c2 d2 : Int) (j : Nat) (x : Int) (hj : (#[.int .i64 k, .int .i64 a, .int .i64 b, .int .i64 c, .int .i64 d] : Array Value).setIfInBounds j (.int .i64 x) = #[.int .i64 k2, .int .i64 a2, .int .i64 b2, .int .i64 c2, .int .i64 d2]) :
    Bx w (W.setCell ⟨go, j, none⟩ (.int .i64 x)) go gm k2 a2 b2 c2 d2 k' a' b' c' d' :=
  ⟨by have := blk_put h.o j (.int .i64 x) rfl; rw [hj] at this; exact this, blk_far h.m (Nat.ne_of_gt h.ne) _, h.le, h.ne, below_set h.below h.le⟩
set_option maxHeartbeats 4000000 in
set_option maxRecDepth 100000 in
theorem way0 (k : Nat) (a0 a1 d : Int) (w : World) (hc : Int.tmod (IntKind.u64.wrap a0) 16 = 0) (hd : Aside0 (wrap64 (1 + (Go.bits .and .i64 a1 1023)) = d)) (d1 : 1 ≤ d) (d2 : d ≤ 1024)
    (A : Aside0 (bournelaw9_awake.f k = some true))
    (m0 : Aside0 (wire_May.f 0 7 1048575 1099511627776 (-1099511627776) = some true)) (m1 : Aside0 (wire_May.f 1 0 0 4398046511104 0 = some true)) (m2 : Aside0 (wire_May.f 2 0 0 0 0 = some true))
    (P : Aside0 (wire_Put.f k 3 7 1048575 1099511627776 (-1099511627776) = some ((⟨#[]⟩ : ByteArray), 900))) (Q : Aside0 (wire_May.f 3 7 1048575 1099511627776 (-1099511627776) = some false)) :
    Calls Try.prog 5 #[.int .i64 a0, .int .i64 a1] w fun e w' => e = .returned (.bool true) ∧ Below w.heap.size w w' := by
  have HC := Aside0.mk hc
  clear hc
  go_enter Try.func5, Try.ntmps5
  go_wp2_with fail
  refine (bournelaw9_awake.calls k true _ A.out).mono ?_
  rintro e w1 ⟨rfl, hb1⟩
  have HB := Aside0.mk hb1
  clear hb1
  go_wp2_with fail
  rw [hd.out]
  refine (wire_May.calls 0 7 1048575 1099511627776 (-1099511627776) true _ m0.out).mono ?_
  rintro e w2 ⟨rfl, hb⟩
  have X2 := Aside0.mk ((Bx.new HB.out 0 7 1048575 1099511627776 (-1099511627776) 1 0 0 4398046511104 0).step hb)
  clear hb
  generalize w1.heap.size = go at *
  clear HB
  have x0 : w2.cell? ⟨go + 1, 0, none⟩ = some (.int .i64 1) := blk_cell X2.out.m 0
  have x1 : w2.cell? ⟨go + 1, 1, none⟩ = some (.int .i64 0) := blk_cell X2.out.m 1
  have x2 : w2.cell? ⟨go + 1, 2, none⟩ = some (.int .i64 0) := blk_cell X2.out.m 2
  have x3 : w2.cell? ⟨go + 1, 3, none⟩ = some (.int .i64 4398046511104) := blk_cell X2.out.m 3
  have x4 : w2.cell? ⟨go + 1, 4, none⟩ = some (.int .i64 0) := blk_cell X2.out.m 4
  go_wp2_with fail
  clear x0 x1 x2 x3 x4
  refine (wire_May.calls 1 0 0 4398046511104 0 true _ m1.out).mono ?_
  rintro e w3 ⟨rfl, hb⟩
  have X3 := Aside0.mk (X2.out.step hb)
  clear hb X2
  go_wp2_with fail
  refine (wire_May.calls 2 0 0 0 0 true _ m2.out).mono ?_
  rintro e w4 ⟨rfl, hb⟩
  have X4 := Aside0.mk (X3.out.step hb)
  clear hb X3
  have y0 : w4.cell? ⟨go, 0, none⟩ = some (.int .i64 0) := blk_cell X4.out.o 0
  have y1 : w4.cell? ⟨go, 1, none⟩ = some (.int .i64 7) := blk_cell X4.out.o 1
  have y2 : w4.cell? ⟨go, 2, none⟩ = some (.int .i64 1048575) := blk_cell X4.out.o 2
  have y3 : w4.cell? ⟨go, 3, none⟩ = some (.int .i64 1099511627776) := blk_cell X4.out.o 3
  have y4 : w4.cell? ⟨go, 4, none⟩ = some (.int .i64 (-1099511627776)) := blk_cell X4.out.o 4
  have f0 := blk_frozen X4.out.o 0
  have f1 := blk_frozen X4.out.o 1
  have f2 := blk_frozen X4.out.o 2
  have f3 := blk_frozen X4.out.o 3
  have f4 := blk_frozen X4.out.o 4
  have hc := HC.out
  go_wp2_with fail
  clear hc f0 f1 f2 f3 f4 y0 y1 y2 y3 y4
  have X5 := Aside0.mk (X4.out.set 3 7 1048575 1099511627776 (-1099511627776) 0 3 rfl)
  clear X4
  generalize (w4.setCell ⟨go, 0, none⟩ (.int .i64 3)) = w5 at *
  refine (wire_Put.calls k 3 7 1048575 1099511627776 (-1099511627776) (⟨#[]⟩ : ByteArray) 900 _ P.out).mono ?_
  rintro e w6 ⟨rfl, hb⟩
  have X6 := Aside0.mk (X5.out.step hb)
  clear hb X5
  have y0 : w6.cell? ⟨go, 0, none⟩ = some (.int .i64 3) := blk_cell X6.out.o 0
  have y1 : w6.cell? ⟨go, 1, none⟩ = some (.int .i64 7) := blk_cell X6.out.o 1
  have y2 : w6.cell? ⟨go, 2, none⟩ = some (.int .i64 1048575) := blk_cell X6.out.o 2
  have y3 : w6.cell? ⟨go, 3, none⟩ = some (.int .i64 1099511627776) := blk_cell X6.out.o 3
  have y4 : w6.cell? ⟨go, 4, none⟩ = some (.int .i64 (-1099511627776)) := blk_cell X6.out.o 4
  go_wp2_with fail
  clear y0 y1 y2 y3 y4
  refine (wire_May.calls 3 7 1048575 1099511627776 (-1099511627776) false _ Q.out).mono ?_
  rintro e w7 ⟨rfl, hb⟩
  have X7 := Aside0.mk (X6.out.step hb)
  clear hb X6
  go_wp2_with (first | (go_at_call 11; (with_reducible refine (num_calls 900 _).mono ?_); rintro e w8 ⟨rfl, ⟨nd, rfl⟩⟩))
  go_ret
  exact ⟨rfl, pw_below_drewN X7.out.below _⟩
set_option maxHeartbeats 4000000 in
set_option maxRecDepth 100000 in
theorem way1 (k : Nat) (a0 a1 d : Int) (w : World) (hc : Int.tmod (IntKind.u64.wrap a0) 16 = 1) (hd : Aside0 (wrap64 (1 + (Go.bits .and .i64 a1 1023)) = d)) (d1 : 1 ≤ d) (d2 : d ≤ 1024)
    (A : Aside0 (bournelaw9_awake.f k = some true))
    (m0 : Aside0 (wire_May.f 0 7 1048575 1099511627776 (-1099511627776) = some true)) (m1 : Aside0 (wire_May.f 1 0 0 4398046511104 0 = some true)) (m2 : Aside0 (wire_May.f 2 0 0 0 0 = some true))
    (P : Aside0 (wire_Put.f k (3 + d) 7 1048575 1099511627776 (-1099511627776) = some ((⟨#[]⟩ : ByteArray), 900))) (Q : Aside0 (wire_May.f (3 + d) 7 1048575 1099511627776 (-1099511627776) = some false)) :
    Calls Try.prog 5 #[.int .i64 a0, .int .i64 a1] w fun e w' => e = .returned (.bool true) ∧ Below w.heap.size w w' := by
  have HC := Aside0.mk hc
  clear hc
  go_enter Try.func5, Try.ntmps5
  go_wp2_with fail
  refine (bournelaw9_awake.calls k true _ A.out).mono ?_
  rintro e w1 ⟨rfl, hb1⟩
  have HB := Aside0.mk hb1
  clear hb1
  go_wp2_with fail
  rw [hd.out]
  refine (wire_May.calls 0 7 1048575 1099511627776 (-1099511627776) true _ m0.out).mono ?_
  rintro e w2 ⟨rfl, hb⟩
  have X2 := Aside0.mk ((Bx.new HB.out 0 7 1048575 1099511627776 (-1099511627776) 1 0 0 4398046511104 0).step hb)
  clear hb
  generalize w1.heap.size = go at *
  clear HB
  have x0 : w2.cell? ⟨go + 1, 0, none⟩ = some (.int .i64 1) := blk_cell X2.out.m 0
  have x1 : w2.cell? ⟨go + 1, 1, none⟩ = some (.int .i64 0) := blk_cell X2.out.m 1
  have x2 : w2.cell? ⟨go + 1, 2, none⟩ = some (.int .i64 0) := blk_cell X2.out.m 2
  have x3 : w2.cell? ⟨go + 1, 3, none⟩ = some (.int .i64 4398046511104) := blk_cell X2.out.m 3
  have x4 : w2.cell? ⟨go + 1, 4, none⟩ = some (.int .i64 0) := blk_cell X2.out.m 4
  go_wp2_with fail
  clear x0 x1 x2 x3 x4
  refine (wire_May.calls 1 0 0 4398046511104 0 true _ m1.out).mono ?_
  rintro e w3 ⟨rfl, hb⟩
  have X3 := Aside0.mk (X2.out.step hb)
  clear hb X2
  go_wp2_with fail
  refine (wire_May.calls 2 0 0 0 0 true _ m2.out).mono ?_
  rintro e w4 ⟨rfl, hb⟩
  have X4 := Aside0.mk (X3.out.step hb)
  clear hb X3
  have y0 : w4.cell? ⟨go, 0, none⟩ = some (.int .i64 0) := blk_cell X4.out.o 0
  have y1 : w4.cell? ⟨go, 1, none⟩ = some (.int .i64 7) := blk_cell X4.out.o 1
  have y2 : w4.cell? ⟨go, 2, none⟩ = some (.int .i64 1048575) := blk_cell X4.out.o 2
  have y3 : w4.cell? ⟨go, 3, none⟩ = some (.int .i64 1099511627776) := blk_cell X4.out.o 3
  have y4 : w4.cell? ⟨go, 4, none⟩ = some (.int .i64 (-1099511627776)) := blk_cell X4.out.o 4
  have f0 := blk_frozen X4.out.o 0
  have f1 := blk_frozen X4.out.o 1
  have f2 := blk_frozen X4.out.o 2
  have f3 := blk_frozen X4.out.o 3
  have f4 := blk_frozen X4.out.o 4
  have hc := HC.out
  go_wp2_with fail
  clear hc f0 f1 f2 f3 f4 y0 y1 y2 y3 y4
  have X5 := Aside0.mk (X4.out.set (3 + d) 7 1048575 1099511627776 (-1099511627776) 0 (3 + d) rfl)
  clear X4
  generalize (w4.setCell ⟨go, 0, none⟩ (.int .i64 (3 + d))) = w5 at *
  refine (wire_Put.calls k (3 + d) 7 1048575 1099511627776 (-1099511627776) (⟨#[]⟩ : ByteArray) 900 _ P.out).mono ?_
  rintro e w6 ⟨rfl, hb⟩
  have X6 := Aside0.mk (X5.out.step hb)
  clear hb X5
  have y0 : w6.cell? ⟨go, 0, none⟩ = some (.int .i64 (3 + d)) := blk_cell X6.out.o 0
  have y1 : w6.cell? ⟨go, 1, none⟩ = some (.int .i64 7) := blk_cell X6.out.o 1
  have y2 : w6.cell? ⟨go, 2, none⟩ = some (.int .i64 1048575) := blk_cell X6.out.o 2
  have y3 : w6.cell? ⟨go, 3, none⟩ = some (.int .i64 1099511627776) := blk_cell X6.out.o 3
  have y4 : w6.cell? ⟨go, 4, none⟩ = some (.int .i64 (-1099511627776)) := blk_cell X6.out.o 4
  go_wp2_with fail
  clear y0 y1 y2 y3 y4
  refine (wire_May.calls (3 + d) 7 1048575 1099511627776 (-1099511627776) false _ Q.out).mono ?_
  rintro e w7 ⟨rfl, hb⟩
  have X7 := Aside0.mk (X6.out.step hb)
  clear hb X6
  go_wp2_with (first | (go_at_call 11; (with_reducible refine (num_calls 900 _).mono ?_); rintro e w8 ⟨rfl, ⟨nd, rfl⟩⟩))
  go_ret
  exact ⟨rfl, pw_below_drewN X7.out.below _⟩
set_option maxHeartbeats 4000000 in
set_option maxRecDepth 100000 in
theorem way2 (k : Nat) (a0 a1 d : Int) (w : World) (hc : Int.tmod (IntKind.u64.wrap a0) 16 = 2) (hd : Aside0 (wrap64 (1 + (Go.bits .and .i64 a1 1023)) = d)) (d1 : 1 ≤ d) (d2 : d ≤ 1024)
    (A : Aside0 (bournelaw9_awake.f k = some true))
    (m0 : Aside0 (wire_May.f 0 7 1048575 1099511627776 (-1099511627776) = some true)) (m1 : Aside0 (wire_May.f 1 0 0 4398046511104 0 = some true)) (m2 : Aside0 (wire_May.f 2 0 0 0 0 = some true))
    (P : Aside0 (wire_Put.f k (-d) 7 1048575 1099511627776 (-1099511627776) = some ((⟨#[]⟩ : ByteArray), 900))) (Q : Aside0 (wire_May.f (-d) 7 1048575 1099511627776 (-1099511627776) = some false)) :
    Calls Try.prog 5 #[.int .i64 a0, .int .i64 a1] w fun e w' => e = .returned (.bool true) ∧ Below w.heap.size w w' := by
  have HC := Aside0.mk hc
  clear hc
  go_enter Try.func5, Try.ntmps5
  go_wp2_with fail
  refine (bournelaw9_awake.calls k true _ A.out).mono ?_
  rintro e w1 ⟨rfl, hb1⟩
  have HB := Aside0.mk hb1
  clear hb1
  go_wp2_with fail
  rw [hd.out]
  refine (wire_May.calls 0 7 1048575 1099511627776 (-1099511627776) true _ m0.out).mono ?_
  rintro e w2 ⟨rfl, hb⟩
  have X2 := Aside0.mk ((Bx.new HB.out 0 7 1048575 1099511627776 (-1099511627776) 1 0 0 4398046511104 0).step hb)
  clear hb
  generalize w1.heap.size = go at *
  clear HB
  have x0 : w2.cell? ⟨go + 1, 0, none⟩ = some (.int .i64 1) := blk_cell X2.out.m 0
  have x1 : w2.cell? ⟨go + 1, 1, none⟩ = some (.int .i64 0) := blk_cell X2.out.m 1
  have x2 : w2.cell? ⟨go + 1, 2, none⟩ = some (.int .i64 0) := blk_cell X2.out.m 2
  have x3 : w2.cell? ⟨go + 1, 3, none⟩ = some (.int .i64 4398046511104) := blk_cell X2.out.m 3
  have x4 : w2.cell? ⟨go + 1, 4, none⟩ = some (.int .i64 0) := blk_cell X2.out.m 4
  go_wp2_with fail
  clear x0 x1 x2 x3 x4
  refine (wire_May.calls 1 0 0 4398046511104 0 true _ m1.out).mono ?_
  rintro e w3 ⟨rfl, hb⟩
  have X3 := Aside0.mk (X2.out.step hb)
  clear hb X2
  go_wp2_with fail
  refine (wire_May.calls 2 0 0 0 0 true _ m2.out).mono ?_
  rintro e w4 ⟨rfl, hb⟩
  have X4 := Aside0.mk (X3.out.step hb)
  clear hb X3
  have y0 : w4.cell? ⟨go, 0, none⟩ = some (.int .i64 0) := blk_cell X4.out.o 0
  have y1 : w4.cell? ⟨go, 1, none⟩ = some (.int .i64 7) := blk_cell X4.out.o 1
  have y2 : w4.cell? ⟨go, 2, none⟩ = some (.int .i64 1048575) := blk_cell X4.out.o 2
  have y3 : w4.cell? ⟨go, 3, none⟩ = some (.int .i64 1099511627776) := blk_cell X4.out.o 3
  have y4 : w4.cell? ⟨go, 4, none⟩ = some (.int .i64 (-1099511627776)) := blk_cell X4.out.o 4
  have f0 := blk_frozen X4.out.o 0
  have f1 := blk_frozen X4.out.o 1
  have f2 := blk_frozen X4.out.o 2
  have f3 := blk_frozen X4.out.o 3
  have f4 := blk_frozen X4.out.o 4
  have hc := HC.out
  go_wp2_with fail
  clear hc f0 f1 f2 f3 f4 y0 y1 y2 y3 y4
  have X5 := Aside0.mk (X4.out.set (-d) 7 1048575 1099511627776 (-1099511627776) 0 (-d) rfl)
  clear X4
  generalize (w4.setCell ⟨go, 0, none⟩ (.int .i64 (-d))) = w5 at *
  refine (wire_Put.calls k (-d) 7 1048575 1099511627776 (-1099511627776) (⟨#[]⟩ : ByteArray) 900 _ P.out).mono ?_
  rintro e w6 ⟨rfl, hb⟩
  have X6 := Aside0.mk (X5.out.step hb)
  clear hb X5
  have y0 : w6.cell? ⟨go, 0, none⟩ = some (.int .i64 (-d)) := blk_cell X6.out.o 0
  have y1 : w6.cell? ⟨go, 1, none⟩ = some (.int .i64 7) := blk_cell X6.out.o 1
  have y2 : w6.cell? ⟨go, 2, none⟩ = some (.int .i64 1048575) := blk_cell X6.out.o 2
  have y3 : w6.cell? ⟨go, 3, none⟩ = some (.int .i64 1099511627776) := blk_cell X6.out.o 3
  have y4 : w6.cell? ⟨go, 4, none⟩ = some (.int .i64 (-1099511627776)) := blk_cell X6.out.o 4
  go_wp2_with fail
  clear y0 y1 y2 y3 y4
  refine (wire_May.calls (-d) 7 1048575 1099511627776 (-1099511627776) false _ Q.out).mono ?_
  rintro e w7 ⟨rfl, hb⟩
  have X7 := Aside0.mk (X6.out.step hb)
  clear hb X6
  go_wp2_with (first | (go_at_call 11; (with_reducible refine (num_calls 900 _).mono ?_); rintro e w8 ⟨rfl, ⟨nd, rfl⟩⟩))
  go_ret
  exact ⟨rfl, pw_below_drewN X7.out.below _⟩
set_option maxHeartbeats 4000000 in
set_option maxRecDepth 100000 in
theorem way3 (k : Nat) (a0 a1 d : Int) (w : World) (hc : Int.tmod (IntKind.u64.wrap a0) 16 = 3) (hd : Aside0 (wrap64 (1 + (Go.bits .and .i64 a1 1023)) = d)) (d1 : 1 ≤ d) (d2 : d ≤ 1024)
    (A : Aside0 (bournelaw9_awake.f k = some true))
    (m0 : Aside0 (wire_May.f 0 7 1048575 1099511627776 (-1099511627776) = some true)) (m1 : Aside0 (wire_May.f 1 0 0 4398046511104 0 = some true)) (m2 : Aside0 (wire_May.f 2 0 0 0 0 = some true))
    (P : Aside0 (wire_Put.f k 0 (7 + d) 1048575 1099511627776 (-1099511627776) = some ((⟨#[]⟩ : ByteArray), 900))) (Q : Aside0 (wire_May.f 0 (7 + d) 1048575 1099511627776 (-1099511627776) = some false)) :
    Calls Try.prog 5 #[.int .i64 a0, .int .i64 a1] w fun e w' => e = .returned (.bool true) ∧ Below w.heap.size w w' := by
  have HC := Aside0.mk hc
  clear hc
  go_enter Try.func5, Try.ntmps5
  go_wp2_with fail
  refine (bournelaw9_awake.calls k true _ A.out).mono ?_
  rintro e w1 ⟨rfl, hb1⟩
  have HB := Aside0.mk hb1
  clear hb1
  go_wp2_with fail
  rw [hd.out]
  refine (wire_May.calls 0 7 1048575 1099511627776 (-1099511627776) true _ m0.out).mono ?_
  rintro e w2 ⟨rfl, hb⟩
  have X2 := Aside0.mk ((Bx.new HB.out 0 7 1048575 1099511627776 (-1099511627776) 1 0 0 4398046511104 0).step hb)
  clear hb
  generalize w1.heap.size = go at *
  clear HB
  have x0 : w2.cell? ⟨go + 1, 0, none⟩ = some (.int .i64 1) := blk_cell X2.out.m 0
  have x1 : w2.cell? ⟨go + 1, 1, none⟩ = some (.int .i64 0) := blk_cell X2.out.m 1
  have x2 : w2.cell? ⟨go + 1, 2, none⟩ = some (.int .i64 0) := blk_cell X2.out.m 2
  have x3 : w2.cell? ⟨go + 1, 3, none⟩ = some (.int .i64 4398046511104) := blk_cell X2.out.m 3
  have x4 : w2.cell? ⟨go + 1, 4, none⟩ = some (.int .i64 0) := blk_cell X2.out.m 4
  go_wp2_with fail
  clear x0 x1 x2 x3 x4
  refine (wire_May.calls 1 0 0 4398046511104 0 true _ m1.out).mono ?_
  rintro e w3 ⟨rfl, hb⟩
  have X3 := Aside0.mk (X2.out.step hb)
  clear hb X2
  go_wp2_with fail
  refine (wire_May.calls 2 0 0 0 0 true _ m2.out).mono ?_
  rintro e w4 ⟨rfl, hb⟩
  have X4 := Aside0.mk (X3.out.step hb)
  clear hb X3
  have y0 : w4.cell? ⟨go, 0, none⟩ = some (.int .i64 0) := blk_cell X4.out.o 0
  have y1 : w4.cell? ⟨go, 1, none⟩ = some (.int .i64 7) := blk_cell X4.out.o 1
  have y2 : w4.cell? ⟨go, 2, none⟩ = some (.int .i64 1048575) := blk_cell X4.out.o 2
  have y3 : w4.cell? ⟨go, 3, none⟩ = some (.int .i64 1099511627776) := blk_cell X4.out.o 3
  have y4 : w4.cell? ⟨go, 4, none⟩ = some (.int .i64 (-1099511627776)) := blk_cell X4.out.o 4
  have f0 := blk_frozen X4.out.o 0
  have f1 := blk_frozen X4.out.o 1
  have f2 := blk_frozen X4.out.o 2
  have f3 := blk_frozen X4.out.o 3
  have f4 := blk_frozen X4.out.o 4
  have hc := HC.out
  go_wp2_with fail
  clear hc f0 f1 f2 f3 f4 y0 y1 y2 y3 y4
  have X5 := Aside0.mk (X4.out.set 0 (7 + d) 1048575 1099511627776 (-1099511627776) 1 (7 + d) rfl)
  clear X4
  generalize (w4.setCell ⟨go, 1, none⟩ (.int .i64 (7 + d))) = w5 at *
  refine (wire_Put.calls k 0 (7 + d) 1048575 1099511627776 (-1099511627776) (⟨#[]⟩ : ByteArray) 900 _ P.out).mono ?_
  rintro e w6 ⟨rfl, hb⟩
  have X6 := Aside0.mk (X5.out.step hb)
  clear hb X5
  have y0 : w6.cell? ⟨go, 0, none⟩ = some (.int .i64 0) := blk_cell X6.out.o 0
  have y1 : w6.cell? ⟨go, 1, none⟩ = some (.int .i64 (7 + d)) := blk_cell X6.out.o 1
  have y2 : w6.cell? ⟨go, 2, none⟩ = some (.int .i64 1048575) := blk_cell X6.out.o 2
  have y3 : w6.cell? ⟨go, 3, none⟩ = some (.int .i64 1099511627776) := blk_cell X6.out.o 3
  have y4 : w6.cell? ⟨go, 4, none⟩ = some (.int .i64 (-1099511627776)) := blk_cell X6.out.o 4
  go_wp2_with fail
  clear y0 y1 y2 y3 y4
  refine (wire_May.calls 0 (7 + d) 1048575 1099511627776 (-1099511627776) false _ Q.out).mono ?_
  rintro e w7 ⟨rfl, hb⟩
  have X7 := Aside0.mk (X6.out.step hb)
  clear hb X6
  go_wp2_with (first | (go_at_call 11; (with_reducible refine (num_calls 900 _).mono ?_); rintro e w8 ⟨rfl, ⟨nd, rfl⟩⟩))
  go_ret
  exact ⟨rfl, pw_below_drewN X7.out.below _⟩
set_option maxHeartbeats 4000000 in
set_option maxRecDepth 100000 in
theorem way4 (k : Nat) (a0 a1 d : Int) (w : World) (hc : Int.tmod (IntKind.u64.wrap a0) 16 = 4) (hd : Aside0 (wrap64 (1 + (Go.bits .and .i64 a1 1023)) = d)) (d1 : 1 ≤ d) (d2 : d ≤ 1024)
    (A : Aside0 (bournelaw9_awake.f k = some true))
    (m0 : Aside0 (wire_May.f 0 7 1048575 1099511627776 (-1099511627776) = some true)) (m1 : Aside0 (wire_May.f 1 0 0 4398046511104 0 = some true)) (m2 : Aside0 (wire_May.f 2 0 0 0 0 = some true))
    (P : Aside0 (wire_Put.f k 0 (-d) 1048575 1099511627776 (-1099511627776) = some ((⟨#[]⟩ : ByteArray), 900))) (Q : Aside0 (wire_May.f 0 (-d) 1048575 1099511627776 (-1099511627776) = some false)) :
    Calls Try.prog 5 #[.int .i64 a0, .int .i64 a1] w fun e w' => e = .returned (.bool true) ∧ Below w.heap.size w w' := by
  have HC := Aside0.mk hc
  clear hc
  go_enter Try.func5, Try.ntmps5
  go_wp2_with fail
  refine (bournelaw9_awake.calls k true _ A.out).mono ?_
  rintro e w1 ⟨rfl, hb1⟩
  have HB := Aside0.mk hb1
  clear hb1
  go_wp2_with fail
  rw [hd.out]
  refine (wire_May.calls 0 7 1048575 1099511627776 (-1099511627776) true _ m0.out).mono ?_
  rintro e w2 ⟨rfl, hb⟩
  have X2 := Aside0.mk ((Bx.new HB.out 0 7 1048575 1099511627776 (-1099511627776) 1 0 0 4398046511104 0).step hb)
  clear hb
  generalize w1.heap.size = go at *
  clear HB
  have x0 : w2.cell? ⟨go + 1, 0, none⟩ = some (.int .i64 1) := blk_cell X2.out.m 0
  have x1 : w2.cell? ⟨go + 1, 1, none⟩ = some (.int .i64 0) := blk_cell X2.out.m 1
  have x2 : w2.cell? ⟨go + 1, 2, none⟩ = some (.int .i64 0) := blk_cell X2.out.m 2
  have x3 : w2.cell? ⟨go + 1, 3, none⟩ = some (.int .i64 4398046511104) := blk_cell X2.out.m 3
  have x4 : w2.cell? ⟨go + 1, 4, none⟩ = some (.int .i64 0) := blk_cell X2.out.m 4
  go_wp2_with fail
  clear x0 x1 x2 x3 x4
  refine (wire_May.calls 1 0 0 4398046511104 0 true _ m1.out).mono ?_
  rintro e w3 ⟨rfl, hb⟩
  have X3 := Aside0.mk (X2.out.step hb)
  clear hb X2
  go_wp2_with fail
  refine (wire_May.calls 2 0 0 0 0 true _ m2.out).mono ?_
  rintro e w4 ⟨rfl, hb⟩
  have X4 := Aside0.mk (X3.out.step hb)
  clear hb X3
  have y0 : w4.cell? ⟨go, 0, none⟩ = some (.int .i64 0) := blk_cell X4.out.o 0
  have y1 : w4.cell? ⟨go, 1, none⟩ = some (.int .i64 7) := blk_cell X4.out.o 1
  have y2 : w4.cell? ⟨go, 2, none⟩ = some (.int .i64 1048575) := blk_cell X4.out.o 2
  have y3 : w4.cell? ⟨go, 3, none⟩ = some (.int .i64 1099511627776) := blk_cell X4.out.o 3
  have y4 : w4.cell? ⟨go, 4, none⟩ = some (.int .i64 (-1099511627776)) := blk_cell X4.out.o 4
  have f0 := blk_frozen X4.out.o 0
  have f1 := blk_frozen X4.out.o 1
  have f2 := blk_frozen X4.out.o 2
  have f3 := blk_frozen X4.out.o 3
  have f4 := blk_frozen X4.out.o 4
  have hc := HC.out
  go_wp2_with fail
  clear hc f0 f1 f2 f3 f4 y0 y1 y2 y3 y4
  have X5 := Aside0.mk (X4.out.set 0 (-d) 1048575 1099511627776 (-1099511627776) 1 (-d) rfl)
  clear X4
  generalize (w4.setCell ⟨go, 1, none⟩ (.int .i64 (-d))) = w5 at *
  refine (wire_Put.calls k 0 (-d) 1048575 1099511627776 (-1099511627776) (⟨#[]⟩ : ByteArray) 900 _ P.out).mono ?_
  rintro e w6 ⟨rfl, hb⟩
  have X6 := Aside0.mk (X5.out.step hb)
  clear hb X5
  have y0 : w6.cell? ⟨go, 0, none⟩ = some (.int .i64 0) := blk_cell X6.out.o 0
  have y1 : w6.cell? ⟨go, 1, none⟩ = some (.int .i64 (-d)) := blk_cell X6.out.o 1
  have y2 : w6.cell? ⟨go, 2, none⟩ = some (.int .i64 1048575) := blk_cell X6.out.o 2
  have y3 : w6.cell? ⟨go, 3, none⟩ = some (.int .i64 1099511627776) := blk_cell X6.out.o 3
  have y4 : w6.cell? ⟨go, 4, none⟩ = some (.int .i64 (-1099511627776)) := blk_cell X6.out.o 4
  go_wp2_with fail
  clear y0 y1 y2 y3 y4
  refine (wire_May.calls 0 (-d) 1048575 1099511627776 (-1099511627776) false _ Q.out).mono ?_
  rintro e w7 ⟨rfl, hb⟩
  have X7 := Aside0.mk (X6.out.step hb)
  clear hb X6
  go_wp2_with (first | (go_at_call 11; (with_reducible refine (num_calls 900 _).mono ?_); rintro e w8 ⟨rfl, ⟨nd, rfl⟩⟩))
  go_ret
  exact ⟨rfl, pw_below_drewN X7.out.below _⟩
set_option maxHeartbeats 4000000 in
set_option maxRecDepth 100000 in
theorem way5 (k : Nat) (a0 a1 d : Int) (w : World) (hc : Int.tmod (IntKind.u64.wrap a0) 16 = 5) (hd : Aside0 (wrap64 (1 + (Go.bits .and .i64 a1 1023)) = d)) (d1 : 1 ≤ d) (d2 : d ≤ 1024)
    (A : Aside0 (bournelaw9_awake.f k = some true))
    (m0 : Aside0 (wire_May.f 0 7 1048575 1099511627776 (-1099511627776) = some true)) (m1 : Aside0 (wire_May.f 1 0 0 4398046511104 0 = some true)) (m2 : Aside0 (wire_May.f 2 0 0 0 0 = some true))
    (P : Aside0 (wire_Put.f k 0 7 (1048575 + d) 1099511627776 (-1099511627776) = some ((⟨#[]⟩ : ByteArray), 900))) (Q : Aside0 (wire_May.f 0 7 (1048575 + d) 1099511627776 (-1099511627776) = some false)) :
    Calls Try.prog 5 #[.int .i64 a0, .int .i64 a1] w fun e w' => e = .returned (.bool true) ∧ Below w.heap.size w w' := by
  have HC := Aside0.mk hc
  clear hc
  go_enter Try.func5, Try.ntmps5
  go_wp2_with fail
  refine (bournelaw9_awake.calls k true _ A.out).mono ?_
  rintro e w1 ⟨rfl, hb1⟩
  have HB := Aside0.mk hb1
  clear hb1
  go_wp2_with fail
  rw [hd.out]
  refine (wire_May.calls 0 7 1048575 1099511627776 (-1099511627776) true _ m0.out).mono ?_
  rintro e w2 ⟨rfl, hb⟩
  have X2 := Aside0.mk ((Bx.new HB.out 0 7 1048575 1099511627776 (-1099511627776) 1 0 0 4398046511104 0).step hb)
  clear hb
  generalize w1.heap.size = go at *
  clear HB
  have x0 : w2.cell? ⟨go + 1, 0, none⟩ = some (.int .i64 1) := blk_cell X2.out.m 0
  have x1 : w2.cell? ⟨go + 1, 1, none⟩ = some (.int .i64 0) := blk_cell X2.out.m 1
  have x2 : w2.cell? ⟨go + 1, 2, none⟩ = some (.int .i64 0) := blk_cell X2.out.m 2
  have x3 : w2.cell? ⟨go + 1, 3, none⟩ = some (.int .i64 4398046511104) := blk_cell X2.out.m 3
  have x4 : w2.cell? ⟨go + 1, 4, none⟩ = some (.int .i64 0) := blk_cell X2.out.m 4
  go_wp2_with fail
  clear x0 x1 x2 x3 x4
  refine (wire_May.calls 1 0 0 4398046511104 0 true _ m1.out).mono ?_
  rintro e w3 ⟨rfl, hb⟩
  have X3 := Aside0.mk (X2.out.step hb)
  clear hb X2
  go_wp2_with fail
  refine (wire_May.calls 2 0 0 0 0 true _ m2.out).mono ?_
  rintro e w4 ⟨rfl, hb⟩
  have X4 := Aside0.mk (X3.out.step hb)
  clear hb X3
  have y0 : w4.cell? ⟨go, 0, none⟩ = some (.int .i64 0) := blk_cell X4.out.o 0
  have y1 : w4.cell? ⟨go, 1, none⟩ = some (.int .i64 7) := blk_cell X4.out.o 1
  have y2 : w4.cell? ⟨go, 2, none⟩ = some (.int .i64 1048575) := blk_cell X4.out.o 2
  have y3 : w4.cell? ⟨go, 3, none⟩ = some (.int .i64 1099511627776) := blk_cell X4.out.o 3
  have y4 : w4.cell? ⟨go, 4, none⟩ = some (.int .i64 (-1099511627776)) := blk_cell X4.out.o 4
  have f0 := blk_frozen X4.out.o 0
  have f1 := blk_frozen X4.out.o 1
  have f2 := blk_frozen X4.out.o 2
  have f3 := blk_frozen X4.out.o 3
  have f4 := blk_frozen X4.out.o 4
  have hc := HC.out
  go_wp2_with fail
  clear hc f0 f1 f2 f3 f4 y0 y1 y2 y3 y4
  have X5 := Aside0.mk (X4.out.set 0 7 (1048575 + d) 1099511627776 (-1099511627776) 2 (1048575 + d) rfl)
  clear X4
  generalize (w4.setCell ⟨go, 2, none⟩ (.int .i64 (1048575 + d))) = w5 at *
  refine (wire_Put.calls k 0 7 (1048575 + d) 1099511627776 (-1099511627776) (⟨#[]⟩ : ByteArray) 900 _ P.out).mono ?_
  rintro e w6 ⟨rfl, hb⟩
  have X6 := Aside0.mk (X5.out.step hb)
  clear hb X5
  have y0 : w6.cell? ⟨go, 0, none⟩ = some (.int .i64 0) := blk_cell X6.out.o 0
  have y1 : w6.cell? ⟨go, 1, none⟩ = some (.int .i64 7) := blk_cell X6.out.o 1
  have y2 : w6.cell? ⟨go, 2, none⟩ = some (.int .i64 (1048575 + d)) := blk_cell X6.out.o 2
  have y3 : w6.cell? ⟨go, 3, none⟩ = some (.int .i64 1099511627776) := blk_cell X6.out.o 3
  have y4 : w6.cell? ⟨go, 4, none⟩ = some (.int .i64 (-1099511627776)) := blk_cell X6.out.o 4
  go_wp2_with fail
  clear y0 y1 y2 y3 y4
  refine (wire_May.calls 0 7 (1048575 + d) 1099511627776 (-1099511627776) false _ Q.out).mono ?_
  rintro e w7 ⟨rfl, hb⟩
  have X7 := Aside0.mk (X6.out.step hb)
  clear hb X6
  go_wp2_with (first | (go_at_call 11; (with_reducible refine (num_calls 900 _).mono ?_); rintro e w8 ⟨rfl, ⟨nd, rfl⟩⟩))
  go_ret
  exact ⟨rfl, pw_below_drewN X7.out.below _⟩
set_option maxHeartbeats 4000000 in
set_option maxRecDepth 100000 in
theorem way6 (k : Nat) (a0 a1 d : Int) (w : World) (hc : Int.tmod (IntKind.u64.wrap a0) 16 = 6) (hd : Aside0 (wrap64 (1 + (Go.bits .and .i64 a1 1023)) = d)) (d1 : 1 ≤ d) (d2 : d ≤ 1024)
    (A : Aside0 (bournelaw9_awake.f k = some true))
    (m0 : Aside0 (wire_May.f 0 7 1048575 1099511627776 (-1099511627776) = some true)) (m1 : Aside0 (wire_May.f 1 0 0 4398046511104 0 = some true)) (m2 : Aside0 (wire_May.f 2 0 0 0 0 = some true))
    (P : Aside0 (wire_Put.f k 0 7 (-d) 1099511627776 (-1099511627776) = some ((⟨#[]⟩ : ByteArray), 900))) (Q : Aside0 (wire_May.f 0 7 (-d) 1099511627776 (-1099511627776) = some false)) :
    Calls Try.prog 5 #[.int .i64 a0, .int .i64 a1] w fun e w' => e = .returned (.bool true) ∧ Below w.heap.size w w' := by
  have HC := Aside0.mk hc
  clear hc
  go_enter Try.func5, Try.ntmps5
  go_wp2_with fail
  refine (bournelaw9_awake.calls k true _ A.out).mono ?_
  rintro e w1 ⟨rfl, hb1⟩
  have HB := Aside0.mk hb1
  clear hb1
  go_wp2_with fail
  rw [hd.out]
  refine (wire_May.calls 0 7 1048575 1099511627776 (-1099511627776) true _ m0.out).mono ?_
  rintro e w2 ⟨rfl, hb⟩
  have X2 := Aside0.mk ((Bx.new HB.out 0 7 1048575 1099511627776 (-1099511627776) 1 0 0 4398046511104 0).step hb)
  clear hb
  generalize w1.heap.size = go at *
  clear HB
  have x0 : w2.cell? ⟨go + 1, 0, none⟩ = some (.int .i64 1) := blk_cell X2.out.m 0
  have x1 : w2.cell? ⟨go + 1, 1, none⟩ = some (.int .i64 0) := blk_cell X2.out.m 1
  have x2 : w2.cell? ⟨go + 1, 2, none⟩ = some (.int .i64 0) := blk_cell X2.out.m 2
  have x3 : w2.cell? ⟨go + 1, 3, none⟩ = some (.int .i64 4398046511104) := blk_cell X2.out.m 3
  have x4 : w2.cell? ⟨go + 1, 4, none⟩ = some (.int .i64 0) := blk_cell X2.out.m 4
  go_wp2_with fail
  clear x0 x1 x2 x3 x4
  refine (wire_May.calls 1 0 0 4398046511104 0 true _ m1.out).mono ?_
  rintro e w3 ⟨rfl, hb⟩
  have X3 := Aside0.mk (X2.out.step hb)
  clear hb X2
  go_wp2_with fail
  refine (wire_May.calls 2 0 0 0 0 true _ m2.out).mono ?_
  rintro e w4 ⟨rfl, hb⟩
  have X4 := Aside0.mk (X3.out.step hb)
  clear hb X3
  have y0 : w4.cell? ⟨go, 0, none⟩ = some (.int .i64 0) := blk_cell X4.out.o 0
  have y1 : w4.cell? ⟨go, 1, none⟩ = some (.int .i64 7) := blk_cell X4.out.o 1
  have y2 : w4.cell? ⟨go, 2, none⟩ = some (.int .i64 1048575) := blk_cell X4.out.o 2
  have y3 : w4.cell? ⟨go, 3, none⟩ = some (.int .i64 1099511627776) := blk_cell X4.out.o 3
  have y4 : w4.cell? ⟨go, 4, none⟩ = some (.int .i64 (-1099511627776)) := blk_cell X4.out.o 4
  have f0 := blk_frozen X4.out.o 0
  have f1 := blk_frozen X4.out.o 1
  have f2 := blk_frozen X4.out.o 2
  have f3 := blk_frozen X4.out.o 3
  have f4 := blk_frozen X4.out.o 4
  have hc := HC.out
  go_wp2_with fail
  clear hc f0 f1 f2 f3 f4 y0 y1 y2 y3 y4
  have X5 := Aside0.mk (X4.out.set 0 7 (-d) 1099511627776 (-1099511627776) 2 (-d) rfl)
  clear X4
  generalize (w4.setCell ⟨go, 2, none⟩ (.int .i64 (-d))) = w5 at *
  refine (wire_Put.calls k 0 7 (-d) 1099511627776 (-1099511627776) (⟨#[]⟩ : ByteArray) 900 _ P.out).mono ?_
  rintro e w6 ⟨rfl, hb⟩
  have X6 := Aside0.mk (X5.out.step hb)
  clear hb X5
  have y0 : w6.cell? ⟨go, 0, none⟩ = some (.int .i64 0) := blk_cell X6.out.o 0
  have y1 : w6.cell? ⟨go, 1, none⟩ = some (.int .i64 7) := blk_cell X6.out.o 1
  have y2 : w6.cell? ⟨go, 2, none⟩ = some (.int .i64 (-d)) := blk_cell X6.out.o 2
  have y3 : w6.cell? ⟨go, 3, none⟩ = some (.int .i64 1099511627776) := blk_cell X6.out.o 3
  have y4 : w6.cell? ⟨go, 4, none⟩ = some (.int .i64 (-1099511627776)) := blk_cell X6.out.o 4
  go_wp2_with fail
  clear y0 y1 y2 y3 y4
  refine (wire_May.calls 0 7 (-d) 1099511627776 (-1099511627776) false _ Q.out).mono ?_
  rintro e w7 ⟨rfl, hb⟩
  have X7 := Aside0.mk (X6.out.step hb)
  clear hb X6
  go_wp2_with (first | (go_at_call 11; (with_reducible refine (num_calls 900 _).mono ?_); rintro e w8 ⟨rfl, ⟨nd, rfl⟩⟩))
  go_ret
  exact ⟨rfl, pw_below_drewN X7.out.below _⟩
set_option maxHeartbeats 4000000 in
set_option maxRecDepth 100000 in
theorem way7 (k : Nat) (a0 a1 d : Int) (w : World) (hc : Int.tmod (IntKind.u64.wrap a0) 16 = 7) (hd : Aside0 (wrap64 (1 + (Go.bits .and .i64 a1 1023)) = d)) (d1 : 1 ≤ d) (d2 : d ≤ 1024)
    (A : Aside0 (bournelaw9_awake.f k = some true))
    (m0 : Aside0 (wire_May.f 0 7 1048575 1099511627776 (-1099511627776) = some true)) (m1 : Aside0 (wire_May.f 1 0 0 4398046511104 0 = some true)) (m2 : Aside0 (wire_May.f 2 0 0 0 0 = some true))
    (P : Aside0 (wire_Put.f k 0 7 1048575 (1099511627776 + d) (-1099511627776) = some ((⟨#[]⟩ : ByteArray), 900))) (Q : Aside0 (wire_May.f 0 7 1048575 (1099511627776 + d) (-1099511627776) = some false)) :
    Calls Try.prog 5 #[.int .i64 a0, .int .i64 a1] w fun e w' => e = .returned (.bool true) ∧ Below w.heap.size w w' := by
  have HC := Aside0.mk hc
  clear hc
  go_enter Try.func5, Try.ntmps5
  go_wp2_with fail
  refine (bournelaw9_awake.calls k true _ A.out).mono ?_
  rintro e w1 ⟨rfl, hb1⟩
  have HB := Aside0.mk hb1
  clear hb1
  go_wp2_with fail
  rw [hd.out]
  refine (wire_May.calls 0 7 1048575 1099511627776 (-1099511627776) true _ m0.out).mono ?_
  rintro e w2 ⟨rfl, hb⟩
  have X2 := Aside0.mk ((Bx.new HB.out 0 7 1048575 1099511627776 (-1099511627776) 1 0 0 4398046511104 0).step hb)
  clear hb
  generalize w1.heap.size = go at *
  clear HB
  have x0 : w2.cell? ⟨go + 1, 0, none⟩ = some (.int .i64 1) := blk_cell X2.out.m 0
  have x1 : w2.cell? ⟨go + 1, 1, none⟩ = some (.int .i64 0) := blk_cell X2.out.m 1
  have x2 : w2.cell? ⟨go + 1, 2, none⟩ = some (.int .i64 0) := blk_cell X2.out.m 2
  have x3 : w2.cell? ⟨go + 1, 3, none⟩ = some (.int .i64 4398046511104) := blk_cell X2.out.m 3
  have x4 : w2.cell? ⟨go + 1, 4, none⟩ = some (.int .i64 0) := blk_cell X2.out.m 4
  go_wp2_with fail
  clear x0 x1 x2 x3 x4
  refine (wire_May.calls 1 0 0 4398046511104 0 true _ m1.out).mono ?_
  rintro e w3 ⟨rfl, hb⟩
  have X3 := Aside0.mk (X2.out.step hb)
  clear hb X2
  go_wp2_with fail
  refine (wire_May.calls 2 0 0 0 0 true _ m2.out).mono ?_
  rintro e w4 ⟨rfl, hb⟩
  have X4 := Aside0.mk (X3.out.step hb)
  clear hb X3
  have y0 : w4.cell? ⟨go, 0, none⟩ = some (.int .i64 0) := blk_cell X4.out.o 0
  have y1 : w4.cell? ⟨go, 1, none⟩ = some (.int .i64 7) := blk_cell X4.out.o 1
  have y2 : w4.cell? ⟨go, 2, none⟩ = some (.int .i64 1048575) := blk_cell X4.out.o 2
  have y3 : w4.cell? ⟨go, 3, none⟩ = some (.int .i64 1099511627776) := blk_cell X4.out.o 3
  have y4 : w4.cell? ⟨go, 4, none⟩ = some (.int .i64 (-1099511627776)) := blk_cell X4.out.o 4
  have f0 := blk_frozen X4.out.o 0
  have f1 := blk_frozen X4.out.o 1
  have f2 := blk_frozen X4.out.o 2
  have f3 := blk_frozen X4.out.o 3
  have f4 := blk_frozen X4.out.o 4
  have hc := HC.out
  go_wp2_with fail
  clear hc f0 f1 f2 f3 f4 y0 y1 y2 y3 y4
  have X5 := Aside0.mk (X4.out.set 0 7 1048575 (1099511627776 + d) (-1099511627776) 3 (1099511627776 + d) rfl)
  clear X4
  generalize (w4.setCell ⟨go, 3, none⟩ (.int .i64 (1099511627776 + d))) = w5 at *
  refine (wire_Put.calls k 0 7 1048575 (1099511627776 + d) (-1099511627776) (⟨#[]⟩ : ByteArray) 900 _ P.out).mono ?_
  rintro e w6 ⟨rfl, hb⟩
  have X6 := Aside0.mk (X5.out.step hb)
  clear hb X5
  have y0 : w6.cell? ⟨go, 0, none⟩ = some (.int .i64 0) := blk_cell X6.out.o 0
  have y1 : w6.cell? ⟨go, 1, none⟩ = some (.int .i64 7) := blk_cell X6.out.o 1
  have y2 : w6.cell? ⟨go, 2, none⟩ = some (.int .i64 1048575) := blk_cell X6.out.o 2
  have y3 : w6.cell? ⟨go, 3, none⟩ = some (.int .i64 (1099511627776 + d)) := blk_cell X6.out.o 3
  have y4 : w6.cell? ⟨go, 4, none⟩ = some (.int .i64 (-1099511627776)) := blk_cell X6.out.o 4
  go_wp2_with fail
  clear y0 y1 y2 y3 y4
  refine (wire_May.calls 0 7 1048575 (1099511627776 + d) (-1099511627776) false _ Q.out).mono ?_
  rintro e w7 ⟨rfl, hb⟩
  have X7 := Aside0.mk (X6.out.step hb)
  clear hb X6
  go_wp2_with (first | (go_at_call 11; (with_reducible refine (num_calls 900 _).mono ?_); rintro e w8 ⟨rfl, ⟨nd, rfl⟩⟩))
  go_ret
  exact ⟨rfl, pw_below_drewN X7.out.below _⟩
set_option maxHeartbeats 4000000 in
set_option maxRecDepth 100000 in
theorem way8 (k : Nat) (a0 a1 d : Int) (w : World) (hc : Int.tmod (IntKind.u64.wrap a0) 16 = 8) (hd : Aside0 (wrap64 (1 + (Go.bits .and .i64 a1 1023)) = d)) (d1 : 1 ≤ d) (d2 : d ≤ 1024)
    (A : Aside0 (bournelaw9_awake.f k = some true))
    (m0 : Aside0 (wire_May.f 0 7 1048575 1099511627776 (-1099511627776) = some true)) (m1 : Aside0 (wire_May.f 1 0 0 4398046511104 0 = some true)) (m2 : Aside0 (wire_May.f 2 0 0 0 0 = some true))
    (P : Aside0 (wire_Put.f k 0 7 1048575 (-1099511627776 - d) (-1099511627776) = some ((⟨#[]⟩ : ByteArray), 900))) (Q : Aside0 (wire_May.f 0 7 1048575 (-1099511627776 - d) (-1099511627776) = some false)) :
    Calls Try.prog 5 #[.int .i64 a0, .int .i64 a1] w fun e w' => e = .returned (.bool true) ∧ Below w.heap.size w w' := by
  have HC := Aside0.mk hc
  clear hc
  go_enter Try.func5, Try.ntmps5
  go_wp2_with fail
  refine (bournelaw9_awake.calls k true _ A.out).mono ?_
  rintro e w1 ⟨rfl, hb1⟩
  have HB := Aside0.mk hb1
  clear hb1
  go_wp2_with fail
  rw [hd.out]
  refine (wire_May.calls 0 7 1048575 1099511627776 (-1099511627776) true _ m0.out).mono ?_
  rintro e w2 ⟨rfl, hb⟩
  have X2 := Aside0.mk ((Bx.new HB.out 0 7 1048575 1099511627776 (-1099511627776) 1 0 0 4398046511104 0).step hb)
  clear hb
  generalize w1.heap.size = go at *
  clear HB
  have x0 : w2.cell? ⟨go + 1, 0, none⟩ = some (.int .i64 1) := blk_cell X2.out.m 0
  have x1 : w2.cell? ⟨go + 1, 1, none⟩ = some (.int .i64 0) := blk_cell X2.out.m 1
  have x2 : w2.cell? ⟨go + 1, 2, none⟩ = some (.int .i64 0) := blk_cell X2.out.m 2
  have x3 : w2.cell? ⟨go + 1, 3, none⟩ = some (.int .i64 4398046511104) := blk_cell X2.out.m 3
  have x4 : w2.cell? ⟨go + 1, 4, none⟩ = some (.int .i64 0) := blk_cell X2.out.m 4
  go_wp2_with fail
  clear x0 x1 x2 x3 x4
  refine (wire_May.calls 1 0 0 4398046511104 0 true _ m1.out).mono ?_
  rintro e w3 ⟨rfl, hb⟩
  have X3 := Aside0.mk (X2.out.step hb)
  clear hb X2
  go_wp2_with fail
  refine (wire_May.calls 2 0 0 0 0 true _ m2.out).mono ?_
  rintro e w4 ⟨rfl, hb⟩
  have X4 := Aside0.mk (X3.out.step hb)
  clear hb X3
  have y0 : w4.cell? ⟨go, 0, none⟩ = some (.int .i64 0) := blk_cell X4.out.o 0
  have y1 : w4.cell? ⟨go, 1, none⟩ = some (.int .i64 7) := blk_cell X4.out.o 1
  have y2 : w4.cell? ⟨go, 2, none⟩ = some (.int .i64 1048575) := blk_cell X4.out.o 2
  have y3 : w4.cell? ⟨go, 3, none⟩ = some (.int .i64 1099511627776) := blk_cell X4.out.o 3
  have y4 : w4.cell? ⟨go, 4, none⟩ = some (.int .i64 (-1099511627776)) := blk_cell X4.out.o 4
  have f0 := blk_frozen X4.out.o 0
  have f1 := blk_frozen X4.out.o 1
  have f2 := blk_frozen X4.out.o 2
  have f3 := blk_frozen X4.out.o 3
  have f4 := blk_frozen X4.out.o 4
  have hc := HC.out
  go_wp2_with fail
  clear hc f0 f1 f2 f3 f4 y0 y1 y2 y3 y4
  have X5 := Aside0.mk (X4.out.set 0 7 1048575 (-1099511627776 - d) (-1099511627776) 3 (-1099511627776 - d) rfl)
  clear X4
  generalize (w4.setCell ⟨go, 3, none⟩ (.int .i64 (-1099511627776 - d))) = w5 at *
  refine (wire_Put.calls k 0 7 1048575 (-1099511627776 - d) (-1099511627776) (⟨#[]⟩ : ByteArray) 900 _ P.out).mono ?_
  rintro e w6 ⟨rfl, hb⟩
  have X6 := Aside0.mk (X5.out.step hb)
  clear hb X5
  have y0 : w6.cell? ⟨go, 0, none⟩ = some (.int .i64 0) := blk_cell X6.out.o 0
  have y1 : w6.cell? ⟨go, 1, none⟩ = some (.int .i64 7) := blk_cell X6.out.o 1
  have y2 : w6.cell? ⟨go, 2, none⟩ = some (.int .i64 1048575) := blk_cell X6.out.o 2
  have y3 : w6.cell? ⟨go, 3, none⟩ = some (.int .i64 (-1099511627776 - d)) := blk_cell X6.out.o 3
  have y4 : w6.cell? ⟨go, 4, none⟩ = some (.int .i64 (-1099511627776)) := blk_cell X6.out.o 4
  go_wp2_with fail
  clear y0 y1 y2 y3 y4
  refine (wire_May.calls 0 7 1048575 (-1099511627776 - d) (-1099511627776) false _ Q.out).mono ?_
  rintro e w7 ⟨rfl, hb⟩
  have X7 := Aside0.mk (X6.out.step hb)
  clear hb X6
  go_wp2_with (first | (go_at_call 11; (with_reducible refine (num_calls 900 _).mono ?_); rintro e w8 ⟨rfl, ⟨nd, rfl⟩⟩))
  go_ret
  exact ⟨rfl, pw_below_drewN X7.out.below _⟩
set_option maxHeartbeats 4000000 in
set_option maxRecDepth 100000 in
theorem way9 (k : Nat) (a0 a1 d : Int) (w : World) (hc : Int.tmod (IntKind.u64.wrap a0) 16 = 9) (hd : Aside0 (wrap64 (1 + (Go.bits .and .i64 a1 1023)) = d)) (d1 : 1 ≤ d) (d2 : d ≤ 1024)
    (A : Aside0 (bournelaw9_awake.f k = some true))
    (m0 : Aside0 (wire_May.f 0 7 1048575 1099511627776 (-1099511627776) = some true)) (m1 : Aside0 (wire_May.f 1 0 0 4398046511104 0 = some true)) (m2 : Aside0 (wire_May.f 2 0 0 0 0 = some true))
    (P : Aside0 (wire_Put.f k 0 7 1048575 1099511627776 (1099511627776 + d) = some ((⟨#[]⟩ : ByteArray), 900))) (Q : Aside0 (wire_May.f 0 7 1048575 1099511627776 (1099511627776 + d) = some false)) :
    Calls Try.prog 5 #[.int .i64 a0, .int .i64 a1] w fun e w' => e = .returned (.bool true) ∧ Below w.heap.size w w' := by
  have HC := Aside0.mk hc
  clear hc
  go_enter Try.func5, Try.ntmps5
  go_wp2_with fail
  refine (bournelaw9_awake.calls k true _ A.out).mono ?_
  rintro e w1 ⟨rfl, hb1⟩
  have HB := Aside0.mk hb1
  clear hb1
  go_wp2_with fail
  rw [hd.out]
  refine (wire_May.calls 0 7 1048575 1099511627776 (-1099511627776) true _ m0.out).mono ?_
  rintro e w2 ⟨rfl, hb⟩
  have X2 := Aside0.mk ((Bx.new HB.out 0 7 1048575 1099511627776 (-1099511627776) 1 0 0 4398046511104 0).step hb)
  clear hb
  generalize w1.heap.size = go at *
  clear HB
  have x0 : w2.cell? ⟨go + 1, 0, none⟩ = some (.int .i64 1) := blk_cell X2.out.m 0
  have x1 : w2.cell? ⟨go + 1, 1, none⟩ = some (.int .i64 0) := blk_cell X2.out.m 1
  have x2 : w2.cell? ⟨go + 1, 2, none⟩ = some (.int .i64 0) := blk_cell X2.out.m 2
  have x3 : w2.cell? ⟨go + 1, 3, none⟩ = some (.int .i64 4398046511104) := blk_cell X2.out.m 3
  have x4 : w2.cell? ⟨go + 1, 4, none⟩ = some (.int .i64 0) := blk_cell X2.out.m 4
  go_wp2_with fail
  clear x0 x1 x2 x3 x4
  refine (wire_May.calls 1 0 0 4398046511104 0 true _ m1.out).mono ?_
  rintro e w3 ⟨rfl, hb⟩
  have X3 := Aside0.mk (X2.out.step hb)
  clear hb X2
  go_wp2_with fail
  refine (wire_May.calls 2 0 0 0 0 true _ m2.out).mono ?_
  rintro e w4 ⟨rfl, hb⟩
  have X4 := Aside0.mk (X3.out.step hb)
  clear hb X3
  have y0 : w4.cell? ⟨go, 0, none⟩ = some (.int .i64 0) := blk_cell X4.out.o 0
  have y1 : w4.cell? ⟨go, 1, none⟩ = some (.int .i64 7) := blk_cell X4.out.o 1
  have y2 : w4.cell? ⟨go, 2, none⟩ = some (.int .i64 1048575) := blk_cell X4.out.o 2
  have y3 : w4.cell? ⟨go, 3, none⟩ = some (.int .i64 1099511627776) := blk_cell X4.out.o 3
  have y4 : w4.cell? ⟨go, 4, none⟩ = some (.int .i64 (-1099511627776)) := blk_cell X4.out.o 4
  have f0 := blk_frozen X4.out.o 0
  have f1 := blk_frozen X4.out.o 1
  have f2 := blk_frozen X4.out.o 2
  have f3 := blk_frozen X4.out.o 3
  have f4 := blk_frozen X4.out.o 4
  have hc := HC.out
  go_wp2_with fail
  clear hc f0 f1 f2 f3 f4 y0 y1 y2 y3 y4
  have X5 := Aside0.mk (X4.out.set 0 7 1048575 1099511627776 (1099511627776 + d) 4 (1099511627776 + d) rfl)
  clear X4
  generalize (w4.setCell ⟨go, 4, none⟩ (.int .i64 (1099511627776 + d))) = w5 at *
  refine (wire_Put.calls k 0 7 1048575 1099511627776 (1099511627776 + d) (⟨#[]⟩ : ByteArray) 900 _ P.out).mono ?_
  rintro e w6 ⟨rfl, hb⟩
  have X6 := Aside0.mk (X5.out.step hb)
  clear hb X5
  have y0 : w6.cell? ⟨go, 0, none⟩ = some (.int .i64 0) := blk_cell X6.out.o 0
  have y1 : w6.cell? ⟨go, 1, none⟩ = some (.int .i64 7) := blk_cell X6.out.o 1
  have y2 : w6.cell? ⟨go, 2, none⟩ = some (.int .i64 1048575) := blk_cell X6.out.o 2
  have y3 : w6.cell? ⟨go, 3, none⟩ = some (.int .i64 1099511627776) := blk_cell X6.out.o 3
  have y4 : w6.cell? ⟨go, 4, none⟩ = some (.int .i64 (1099511627776 + d)) := blk_cell X6.out.o 4
  go_wp2_with fail
  clear y0 y1 y2 y3 y4
  refine (wire_May.calls 0 7 1048575 1099511627776 (1099511627776 + d) false _ Q.out).mono ?_
  rintro e w7 ⟨rfl, hb⟩
  have X7 := Aside0.mk (X6.out.step hb)
  clear hb X6
  go_wp2_with (first | (go_at_call 11; (with_reducible refine (num_calls 900 _).mono ?_); rintro e w8 ⟨rfl, ⟨nd, rfl⟩⟩))
  go_ret
  exact ⟨rfl, pw_below_drewN X7.out.below _⟩
set_option maxHeartbeats 4000000 in
set_option maxRecDepth 100000 in
theorem way10 (k : Nat) (a0 a1 d : Int) (w : World) (hc : Int.tmod (IntKind.u64.wrap a0) 16 = 10) (hd : Aside0 (wrap64 (1 + (Go.bits .and .i64 a1 1023)) = d)) (d1 : 1 ≤ d) (d2 : d ≤ 1024)
    (A : Aside0 (bournelaw9_awake.f k = some true))
    (m0 : Aside0 (wire_May.f 0 7 1048575 1099511627776 (-1099511627776) = some true)) (m1 : Aside0 (wire_May.f 1 0 0 4398046511104 0 = some true)) (m2 : Aside0 (wire_May.f 2 0 0 0 0 = some true))
    (P : Aside0 (wire_Put.f k 1 0 0 (4398046511104 + d) 0 = some ((⟨#[]⟩ : ByteArray), 900))) (Q : Aside0 (wire_May.f 1 0 0 (4398046511104 + d) 0 = some false)) :
    Calls Try.prog 5 #[.int .i64 a0, .int .i64 a1] w fun e w' => e = .returned (.bool true) ∧ Below w.heap.size w w' := by
  have HC := Aside0.mk hc
  clear hc
  go_enter Try.func5, Try.ntmps5
  go_wp2_with fail
  refine (bournelaw9_awake.calls k true _ A.out).mono ?_
  rintro e w1 ⟨rfl, hb1⟩
  have HB := Aside0.mk hb1
  clear hb1
  go_wp2_with fail
  rw [hd.out]
  refine (wire_May.calls 0 7 1048575 1099511627776 (-1099511627776) true _ m0.out).mono ?_
  rintro e w2 ⟨rfl, hb⟩
  have X2 := Aside0.mk ((Bx.new HB.out 0 7 1048575 1099511627776 (-1099511627776) 1 0 0 4398046511104 0).step hb)
  clear hb
  generalize w1.heap.size = go at *
  clear HB
  have x0 : w2.cell? ⟨go + 1, 0, none⟩ = some (.int .i64 1) := blk_cell X2.out.m 0
  have x1 : w2.cell? ⟨go + 1, 1, none⟩ = some (.int .i64 0) := blk_cell X2.out.m 1
  have x2 : w2.cell? ⟨go + 1, 2, none⟩ = some (.int .i64 0) := blk_cell X2.out.m 2
  have x3 : w2.cell? ⟨go + 1, 3, none⟩ = some (.int .i64 4398046511104) := blk_cell X2.out.m 3
  have x4 : w2.cell? ⟨go + 1, 4, none⟩ = some (.int .i64 0) := blk_cell X2.out.m 4
  go_wp2_with fail
  clear x0 x1 x2 x3 x4
  refine (wire_May.calls 1 0 0 4398046511104 0 true _ m1.out).mono ?_
  rintro e w3 ⟨rfl, hb⟩
  have X3 := Aside0.mk (X2.out.step hb)
  clear hb X2
  go_wp2_with fail
  refine (wire_May.calls 2 0 0 0 0 true _ m2.out).mono ?_
  rintro e w4 ⟨rfl, hb⟩
  have X4 := Aside0.mk (X3.out.step hb)
  clear hb X3
  have y0 : w4.cell? ⟨go, 0, none⟩ = some (.int .i64 0) := blk_cell X4.out.o 0
  have y1 : w4.cell? ⟨go, 1, none⟩ = some (.int .i64 7) := blk_cell X4.out.o 1
  have y2 : w4.cell? ⟨go, 2, none⟩ = some (.int .i64 1048575) := blk_cell X4.out.o 2
  have y3 : w4.cell? ⟨go, 3, none⟩ = some (.int .i64 1099511627776) := blk_cell X4.out.o 3
  have y4 : w4.cell? ⟨go, 4, none⟩ = some (.int .i64 (-1099511627776)) := blk_cell X4.out.o 4
  have x0 : w4.cell? ⟨go + 1, 0, none⟩ = some (.int .i64 1) := blk_cell X4.out.m 0
  have x1 : w4.cell? ⟨go + 1, 1, none⟩ = some (.int .i64 0) := blk_cell X4.out.m 1
  have x2 : w4.cell? ⟨go + 1, 2, none⟩ = some (.int .i64 0) := blk_cell X4.out.m 2
  have x3 : w4.cell? ⟨go + 1, 3, none⟩ = some (.int .i64 4398046511104) := blk_cell X4.out.m 3
  have x4 : w4.cell? ⟨go + 1, 4, none⟩ = some (.int .i64 0) := blk_cell X4.out.m 4
  have f0 := blk_frozen X4.out.o 0
  have f1 := blk_frozen X4.out.o 1
  have f2 := blk_frozen X4.out.o 2
  have f3 := blk_frozen X4.out.o 3
  have f4 := blk_frozen X4.out.o 4
  have hc := HC.out
  go_upto_region 31 with (fail)
  clear hc f0 f1 f2 f3 f4 y0 y1 y2 y3 y4 x0 x1 x2 x3 x4
  have X4b := Aside0.mk (((((X4.out.set 1 7 1048575 1099511627776 (-1099511627776) 0 1 rfl).set 1 0 1048575 1099511627776 (-1099511627776) 1 0 rfl).set 1 0 0 1099511627776 (-1099511627776) 2 0 rfl).set 1 0 0 4398046511104 (-1099511627776) 3 4398046511104 rfl).set 1 0 0 4398046511104 0 4 0 rfl)
  clear X4
  generalize (((((w4.setCell ⟨go, 0, none⟩ (.int .i64 1)).setCell ⟨go, 1, none⟩ (.int .i64 0)).setCell ⟨go, 2, none⟩ (.int .i64 0)).setCell ⟨go, 3, none⟩ (.int .i64 4398046511104)).setCell ⟨go, 4, none⟩ (.int .i64 0)) = w4b at *
  have y0 : w4b.cell? ⟨go, 0, none⟩ = some (.int .i64 1) := blk_cell X4b.out.o 0
  have y1 : w4b.cell? ⟨go, 1, none⟩ = some (.int .i64 0) := blk_cell X4b.out.o 1
  have y2 : w4b.cell? ⟨go, 2, none⟩ = some (.int .i64 0) := blk_cell X4b.out.o 2
  have y3 : w4b.cell? ⟨go, 3, none⟩ = some (.int .i64 4398046511104) := blk_cell X4b.out.o 3
  have y4 : w4b.cell? ⟨go, 4, none⟩ = some (.int .i64 0) := blk_cell X4b.out.o 4
  have f0 := blk_frozen X4b.out.o 0
  have f1 := blk_frozen X4b.out.o 1
  have f2 := blk_frozen X4b.out.o 2
  have f3 := blk_frozen X4b.out.o 3
  have f4 := blk_frozen X4b.out.o 4
  go_wp2_with fail
  clear f0 f1 f2 f3 f4 y0 y1 y2 y3 y4
  have X4 := X4b
  have X5 := Aside0.mk (X4b.out.set 1 0 0 (4398046511104 + d) 0 3 (4398046511104 + d) rfl)
  clear X4 X4b
  generalize (w4b.setCell ⟨go, 3, none⟩ (.int .i64 (4398046511104 + d))) = w5 at *
  refine (wire_Put.calls k 1 0 0 (4398046511104 + d) 0 (⟨#[]⟩ : ByteArray) 900 _ P.out).mono ?_
  rintro e w6 ⟨rfl, hb⟩
  have X6 := Aside0.mk (X5.out.step hb)
  clear hb X5
  have y0 : w6.cell? ⟨go, 0, none⟩ = some (.int .i64 1) := blk_cell X6.out.o 0
  have y1 : w6.cell? ⟨go, 1, none⟩ = some (.int .i64 0) := blk_cell X6.out.o 1
  have y2 : w6.cell? ⟨go, 2, none⟩ = some (.int .i64 0) := blk_cell X6.out.o 2
  have y3 : w6.cell? ⟨go, 3, none⟩ = some (.int .i64 (4398046511104 + d)) := blk_cell X6.out.o 3
  have y4 : w6.cell? ⟨go, 4, none⟩ = some (.int .i64 0) := blk_cell X6.out.o 4
  go_wp2_with fail
  clear y0 y1 y2 y3 y4
  refine (wire_May.calls 1 0 0 (4398046511104 + d) 0 false _ Q.out).mono ?_
  rintro e w7 ⟨rfl, hb⟩
  have X7 := Aside0.mk (X6.out.step hb)
  clear hb X6
  go_wp2_with (first | (go_at_call 11; (with_reducible refine (num_calls 900 _).mono ?_); rintro e w8 ⟨rfl, ⟨nd, rfl⟩⟩))
  go_ret
  exact ⟨rfl, pw_below_drewN X7.out.below _⟩
set_option maxHeartbeats 4000000 in
set_option maxRecDepth 100000 in
theorem way11 (k : Nat) (a0 a1 d : Int) (w : World) (hc : Int.tmod (IntKind.u64.wrap a0) 16 = 11) (hd : Aside0 (wrap64 (1 + (Go.bits .and .i64 a1 1023)) = d)) (d1 : 1 ≤ d) (d2 : d ≤ 1024)
    (A : Aside0 (bournelaw9_awake.f k = some true))
    (m0 : Aside0 (wire_May.f 0 7 1048575 1099511627776 (-1099511627776) = some true)) (m1 : Aside0 (wire_May.f 1 0 0 4398046511104 0 = some true)) (m2 : Aside0 (wire_May.f 2 0 0 0 0 = some true))
    (P : Aside0 (wire_Put.f k 1 0 0 (-4398046511104) 0 = some ((⟨#[]⟩ : ByteArray), 900))) (Q : Aside0 (wire_May.f 1 0 0 (-4398046511104) 0 = some false)) :
    Calls Try.prog 5 #[.int .i64 a0, .int .i64 a1] w fun e w' => e = .returned (.bool true) ∧ Below w.heap.size w w' := by
  have HC := Aside0.mk hc
  clear hc
  go_enter Try.func5, Try.ntmps5
  go_wp2_with fail
  refine (bournelaw9_awake.calls k true _ A.out).mono ?_
  rintro e w1 ⟨rfl, hb1⟩
  have HB := Aside0.mk hb1
  clear hb1
  go_wp2_with fail
  rw [hd.out]
  refine (wire_May.calls 0 7 1048575 1099511627776 (-1099511627776) true _ m0.out).mono ?_
  rintro e w2 ⟨rfl, hb⟩
  have X2 := Aside0.mk ((Bx.new HB.out 0 7 1048575 1099511627776 (-1099511627776) 1 0 0 4398046511104 0).step hb)
  clear hb
  generalize w1.heap.size = go at *
  clear HB
  have x0 : w2.cell? ⟨go + 1, 0, none⟩ = some (.int .i64 1) := blk_cell X2.out.m 0
  have x1 : w2.cell? ⟨go + 1, 1, none⟩ = some (.int .i64 0) := blk_cell X2.out.m 1
  have x2 : w2.cell? ⟨go + 1, 2, none⟩ = some (.int .i64 0) := blk_cell X2.out.m 2
  have x3 : w2.cell? ⟨go + 1, 3, none⟩ = some (.int .i64 4398046511104) := blk_cell X2.out.m 3
  have x4 : w2.cell? ⟨go + 1, 4, none⟩ = some (.int .i64 0) := blk_cell X2.out.m 4
  go_wp2_with fail
  clear x0 x1 x2 x3 x4
  refine (wire_May.calls 1 0 0 4398046511104 0 true _ m1.out).mono ?_
  rintro e w3 ⟨rfl, hb⟩
  have X3 := Aside0.mk (X2.out.step hb)
  clear hb X2
  go_wp2_with fail
  refine (wire_May.calls 2 0 0 0 0 true _ m2.out).mono ?_
  rintro e w4 ⟨rfl, hb⟩
  have X4 := Aside0.mk (X3.out.step hb)
  clear hb X3
  have y0 : w4.cell? ⟨go, 0, none⟩ = some (.int .i64 0) := blk_cell X4.out.o 0
  have y1 : w4.cell? ⟨go, 1, none⟩ = some (.int .i64 7) := blk_cell X4.out.o 1
  have y2 : w4.cell? ⟨go, 2, none⟩ = some (.int .i64 1048575) := blk_cell X4.out.o 2
  have y3 : w4.cell? ⟨go, 3, none⟩ = some (.int .i64 1099511627776) := blk_cell X4.out.o 3
  have y4 : w4.cell? ⟨go, 4, none⟩ = some (.int .i64 (-1099511627776)) := blk_cell X4.out.o 4
  have x0 : w4.cell? ⟨go + 1, 0, none⟩ = some (.int .i64 1) := blk_cell X4.out.m 0
  have x1 : w4.cell? ⟨go + 1, 1, none⟩ = some (.int .i64 0) := blk_cell X4.out.m 1
  have x2 : w4.cell? ⟨go + 1, 2, none⟩ = some (.int .i64 0) := blk_cell X4.out.m 2
  have x3 : w4.cell? ⟨go + 1, 3, none⟩ = some (.int .i64 4398046511104) := blk_cell X4.out.m 3
  have x4 : w4.cell? ⟨go + 1, 4, none⟩ = some (.int .i64 0) := blk_cell X4.out.m 4
  have f0 := blk_frozen X4.out.o 0
  have f1 := blk_frozen X4.out.o 1
  have f2 := blk_frozen X4.out.o 2
  have f3 := blk_frozen X4.out.o 3
  have f4 := blk_frozen X4.out.o 4
  have hc := HC.out
  go_upto_region 34 with (fail)
  clear hc f0 f1 f2 f3 f4 y0 y1 y2 y3 y4 x0 x1 x2 x3 x4
  have X4b := Aside0.mk (((((X4.out.set 1 7 1048575 1099511627776 (-1099511627776) 0 1 rfl).set 1 0 1048575 1099511627776 (-1099511627776) 1 0 rfl).set 1 0 0 1099511627776 (-1099511627776) 2 0 rfl).set 1 0 0 4398046511104 (-1099511627776) 3 4398046511104 rfl).set 1 0 0 4398046511104 0 4 0 rfl)
  clear X4
  generalize (((((w4.setCell ⟨go, 0, none⟩ (.int .i64 1)).setCell ⟨go, 1, none⟩ (.int .i64 0)).setCell ⟨go, 2, none⟩ (.int .i64 0)).setCell ⟨go, 3, none⟩ (.int .i64 4398046511104)).setCell ⟨go, 4, none⟩ (.int .i64 0)) = w4b at *
  have y0 : w4b.cell? ⟨go, 0, none⟩ = some (.int .i64 1) := blk_cell X4b.out.o 0
  have y1 : w4b.cell? ⟨go, 1, none⟩ = some (.int .i64 0) := blk_cell X4b.out.o 1
  have y2 : w4b.cell? ⟨go, 2, none⟩ = some (.int .i64 0) := blk_cell X4b.out.o 2
  have y3 : w4b.cell? ⟨go, 3, none⟩ = some (.int .i64 4398046511104) := blk_cell X4b.out.o 3
  have y4 : w4b.cell? ⟨go, 4, none⟩ = some (.int .i64 0) := blk_cell X4b.out.o 4
  have f0 := blk_frozen X4b.out.o 0
  have f1 := blk_frozen X4b.out.o 1
  have f2 := blk_frozen X4b.out.o 2
  have f3 := blk_frozen X4b.out.o 3
  have f4 := blk_frozen X4b.out.o 4
  go_wp2_with fail
  clear f0 f1 f2 f3 f4 y0 y1 y2 y3 y4
  have X4 := X4b
  have X5 := Aside0.mk (X4b.out.set 1 0 0 (-4398046511104) 0 3 (-4398046511104) rfl)
  clear X4 X4b
  generalize (w4b.setCell ⟨go, 3, none⟩ (.int .i64 (-4398046511104))) = w5 at *
  refine (wire_Put.calls k 1 0 0 (-4398046511104) 0 (⟨#[]⟩ : ByteArray) 900 _ P.out).mono ?_
  rintro e w6 ⟨rfl, hb⟩
  have X6 := Aside0.mk (X5.out.step hb)
  clear hb X5
  have y0 : w6.cell? ⟨go, 0, none⟩ = some (.int .i64 1) := blk_cell X6.out.o 0
  have y1 : w6.cell? ⟨go, 1, none⟩ = some (.int .i64 0) := blk_cell X6.out.o 1
  have y2 : w6.cell? ⟨go, 2, none⟩ = some (.int .i64 0) := blk_cell X6.out.o 2
  have y3 : w6.cell? ⟨go, 3, none⟩ = some (.int .i64 (-4398046511104)) := blk_cell X6.out.o 3
  have y4 : w6.cell? ⟨go, 4, none⟩ = some (.int .i64 0) := blk_cell X6.out.o 4
  go_wp2_with fail
  clear y0 y1 y2 y3 y4
  refine (wire_May.calls 1 0 0 (-4398046511104) 0 false _ Q.out).mono ?_
  rintro e w7 ⟨rfl, hb⟩
  have X7 := Aside0.mk (X6.out.step hb)
  clear hb X6
  go_wp2_with (first | (go_at_call 11; (with_reducible refine (num_calls 900 _).mono ?_); rintro e w8 ⟨rfl, ⟨nd, rfl⟩⟩))
  go_ret
  exact ⟨rfl, pw_below_drewN X7.out.below _⟩
set_option maxHeartbeats 4000000 in
set_option maxRecDepth 100000 in
theorem way12 (k : Nat) (a0 a1 d : Int) (w : World) (hc : Int.tmod (IntKind.u64.wrap a0) 16 = 12) (hd : Aside0 (wrap64 (1 + (Go.bits .and .i64 a1 1023)) = d)) (d1 : 1 ≤ d) (d2 : d ≤ 1024)
    (A : Aside0 (bournelaw9_awake.f k = some true))
    (m0 : Aside0 (wire_May.f 0 7 1048575 1099511627776 (-1099511627776) = some true)) (m1 : Aside0 (wire_May.f 1 0 0 4398046511104 0 = some true)) (m2 : Aside0 (wire_May.f 2 0 0 0 0 = some true))
    (P : Aside0 (wire_Put.f k 1 0 d 4398046511104 0 = some ((⟨#[]⟩ : ByteArray), 900))) (Q : Aside0 (wire_May.f 1 0 d 4398046511104 0 = some false)) :
    Calls Try.prog 5 #[.int .i64 a0, .int .i64 a1] w fun e w' => e = .returned (.bool true) ∧ Below w.heap.size w w' := by
  have HC := Aside0.mk hc
  clear hc
  go_enter Try.func5, Try.ntmps5
  go_wp2_with fail
  refine (bournelaw9_awake.calls k true _ A.out).mono ?_
  rintro e w1 ⟨rfl, hb1⟩
  have HB := Aside0.mk hb1
  clear hb1
  go_wp2_with fail
  rw [hd.out]
  refine (wire_May.calls 0 7 1048575 1099511627776 (-1099511627776) true _ m0.out).mono ?_
  rintro e w2 ⟨rfl, hb⟩
  have X2 := Aside0.mk ((Bx.new HB.out 0 7 1048575 1099511627776 (-1099511627776) 1 0 0 4398046511104 0).step hb)
  clear hb
  generalize w1.heap.size = go at *
  clear HB
  have x0 : w2.cell? ⟨go + 1, 0, none⟩ = some (.int .i64 1) := blk_cell X2.out.m 0
  have x1 : w2.cell? ⟨go + 1, 1, none⟩ = some (.int .i64 0) := blk_cell X2.out.m 1
  have x2 : w2.cell? ⟨go + 1, 2, none⟩ = some (.int .i64 0) := blk_cell X2.out.m 2
  have x3 : w2.cell? ⟨go + 1, 3, none⟩ = some (.int .i64 4398046511104) := blk_cell X2.out.m 3
  have x4 : w2.cell? ⟨go + 1, 4, none⟩ = some (.int .i64 0) := blk_cell X2.out.m 4
  go_wp2_with fail
  clear x0 x1 x2 x3 x4
  refine (wire_May.calls 1 0 0 4398046511104 0 true _ m1.out).mono ?_
  rintro e w3 ⟨rfl, hb⟩
  have X3 := Aside0.mk (X2.out.step hb)
  clear hb X2
  go_wp2_with fail
  refine (wire_May.calls 2 0 0 0 0 true _ m2.out).mono ?_
  rintro e w4 ⟨rfl, hb⟩
  have X4 := Aside0.mk (X3.out.step hb)
  clear hb X3
  have y0 : w4.cell? ⟨go, 0, none⟩ = some (.int .i64 0) := blk_cell X4.out.o 0
  have y1 : w4.cell? ⟨go, 1, none⟩ = some (.int .i64 7) := blk_cell X4.out.o 1
  have y2 : w4.cell? ⟨go, 2, none⟩ = some (.int .i64 1048575) := blk_cell X4.out.o 2
  have y3 : w4.cell? ⟨go, 3, none⟩ = some (.int .i64 1099511627776) := blk_cell X4.out.o 3
  have y4 : w4.cell? ⟨go, 4, none⟩ = some (.int .i64 (-1099511627776)) := blk_cell X4.out.o 4
  have x0 : w4.cell? ⟨go + 1, 0, none⟩ = some (.int .i64 1) := blk_cell X4.out.m 0
  have x1 : w4.cell? ⟨go + 1, 1, none⟩ = some (.int .i64 0) := blk_cell X4.out.m 1
  have x2 : w4.cell? ⟨go + 1, 2, none⟩ = some (.int .i64 0) := blk_cell X4.out.m 2
  have x3 : w4.cell? ⟨go + 1, 3, none⟩ = some (.int .i64 4398046511104) := blk_cell X4.out.m 3
  have x4 : w4.cell? ⟨go + 1, 4, none⟩ = some (.int .i64 0) := blk_cell X4.out.m 4
  have f0 := blk_frozen X4.out.o 0
  have f1 := blk_frozen X4.out.o 1
  have f2 := blk_frozen X4.out.o 2
  have f3 := blk_frozen X4.out.o 3
  have f4 := blk_frozen X4.out.o 4
  have hc := HC.out
  go_upto_region 37 with (fail)
  clear hc f0 f1 f2 f3 f4 y0 y1 y2 y3 y4 x0 x1 x2 x3 x4
  have X4b := Aside0.mk (((((X4.out.set 1 7 1048575 1099511627776 (-1099511627776) 0 1 rfl).set 1 0 1048575 1099511627776 (-1099511627776) 1 0 rfl).set 1 0 0 1099511627776 (-1099511627776) 2 0 rfl).set 1 0 0 4398046511104 (-1099511627776) 3 4398046511104 rfl).set 1 0 0 4398046511104 0 4 0 rfl)
  clear X4
  generalize (((((w4.setCell ⟨go, 0, none⟩ (.int .i64 1)).setCell ⟨go, 1, none⟩ (.int .i64 0)).setCell ⟨go, 2, none⟩ (.int .i64 0)).setCell ⟨go, 3, none⟩ (.int .i64 4398046511104)).setCell ⟨go, 4, none⟩ (.int .i64 0)) = w4b at *
  have y0 : w4b.cell? ⟨go, 0, none⟩ = some (.int .i64 1) := blk_cell X4b.out.o 0
  have y1 : w4b.cell? ⟨go, 1, none⟩ = some (.int .i64 0) := blk_cell X4b.out.o 1
  have y2 : w4b.cell? ⟨go, 2, none⟩ = some (.int .i64 0) := blk_cell X4b.out.o 2
  have y3 : w4b.cell? ⟨go, 3, none⟩ = some (.int .i64 4398046511104) := blk_cell X4b.out.o 3
  have y4 : w4b.cell? ⟨go, 4, none⟩ = some (.int .i64 0) := blk_cell X4b.out.o 4
  have f0 := blk_frozen X4b.out.o 0
  have f1 := blk_frozen X4b.out.o 1
  have f2 := blk_frozen X4b.out.o 2
  have f3 := blk_frozen X4b.out.o 3
  have f4 := blk_frozen X4b.out.o 4
  go_wp2_with fail
  clear f0 f1 f2 f3 f4 y0 y1 y2 y3 y4
  have X4 := X4b
  have X5 := Aside0.mk (X4b.out.set 1 0 d 4398046511104 0 2 d rfl)
  clear X4 X4b
  generalize (w4b.setCell ⟨go, 2, none⟩ (.int .i64 d)) = w5 at *
  refine (wire_Put.calls k 1 0 d 4398046511104 0 (⟨#[]⟩ : ByteArray) 900 _ P.out).mono ?_
  rintro e w6 ⟨rfl, hb⟩
  have X6 := Aside0.mk (X5.out.step hb)
  clear hb X5
  have y0 : w6.cell? ⟨go, 0, none⟩ = some (.int .i64 1) := blk_cell X6.out.o 0
  have y1 : w6.cell? ⟨go, 1, none⟩ = some (.int .i64 0) := blk_cell X6.out.o 1
  have y2 : w6.cell? ⟨go, 2, none⟩ = some (.int .i64 d) := blk_cell X6.out.o 2
  have y3 : w6.cell? ⟨go, 3, none⟩ = some (.int .i64 4398046511104) := blk_cell X6.out.o 3
  have y4 : w6.cell? ⟨go, 4, none⟩ = some (.int .i64 0) := blk_cell X6.out.o 4
  go_wp2_with fail
  clear y0 y1 y2 y3 y4
  refine (wire_May.calls 1 0 d 4398046511104 0 false _ Q.out).mono ?_
  rintro e w7 ⟨rfl, hb⟩
  have X7 := Aside0.mk (X6.out.step hb)
  clear hb X6
  go_wp2_with (first | (go_at_call 11; (with_reducible refine (num_calls 900 _).mono ?_); rintro e w8 ⟨rfl, ⟨nd, rfl⟩⟩))
  go_ret
  exact ⟨rfl, pw_below_drewN X7.out.below _⟩
set_option maxHeartbeats 4000000 in
set_option maxRecDepth 100000 in
theorem way13 (k : Nat) (a0 a1 d : Int) (w : World) (hc : Int.tmod (IntKind.u64.wrap a0) 16 = 13) (hd : Aside0 (wrap64 (1 + (Go.bits .and .i64 a1 1023)) = d)) (d1 : 1 ≤ d) (d2 : d ≤ 1024)
    (A : Aside0 (bournelaw9_awake.f k = some true))
    (m0 : Aside0 (wire_May.f 0 7 1048575 1099511627776 (-1099511627776) = some true)) (m1 : Aside0 (wire_May.f 1 0 0 4398046511104 0 = some true)) (m2 : Aside0 (wire_May.f 2 0 0 0 0 = some true))
    (P : Aside0 (wire_Put.f k 1 0 0 4398046511104 d = some ((⟨#[]⟩ : ByteArray), 900))) (Q : Aside0 (wire_May.f 1 0 0 4398046511104 d = some false)) :
    Calls Try.prog 5 #[.int .i64 a0, .int .i64 a1] w fun e w' => e = .returned (.bool true) ∧ Below w.heap.size w w' := by
  have HC := Aside0.mk hc
  clear hc
  go_enter Try.func5, Try.ntmps5
  go_wp2_with fail
  refine (bournelaw9_awake.calls k true _ A.out).mono ?_
  rintro e w1 ⟨rfl, hb1⟩
  have HB := Aside0.mk hb1
  clear hb1
  go_wp2_with fail
  rw [hd.out]
  refine (wire_May.calls 0 7 1048575 1099511627776 (-1099511627776) true _ m0.out).mono ?_
  rintro e w2 ⟨rfl, hb⟩
  have X2 := Aside0.mk ((Bx.new HB.out 0 7 1048575 1099511627776 (-1099511627776) 1 0 0 4398046511104 0).step hb)
  clear hb
  generalize w1.heap.size = go at *
  clear HB
  have x0 : w2.cell? ⟨go + 1, 0, none⟩ = some (.int .i64 1) := blk_cell X2.out.m 0
  have x1 : w2.cell? ⟨go + 1, 1, none⟩ = some (.int .i64 0) := blk_cell X2.out.m 1
  have x2 : w2.cell? ⟨go + 1, 2, none⟩ = some (.int .i64 0) := blk_cell X2.out.m 2
  have x3 : w2.cell? ⟨go + 1, 3, none⟩ = some (.int .i64 4398046511104) := blk_cell X2.out.m 3
  have x4 : w2.cell? ⟨go + 1, 4, none⟩ = some (.int .i64 0) := blk_cell X2.out.m 4
  go_wp2_with fail
  clear x0 x1 x2 x3 x4
  refine (wire_May.calls 1 0 0 4398046511104 0 true _ m1.out).mono ?_
  rintro e w3 ⟨rfl, hb⟩
  have X3 := Aside0.mk (X2.out.step hb)
  clear hb X2
  go_wp2_with fail
  refine (wire_May.calls 2 0 0 0 0 true _ m2.out).mono ?_
  rintro e w4 ⟨rfl, hb⟩
  have X4 := Aside0.mk (X3.out.step hb)
  clear hb X3
  have y0 : w4.cell? ⟨go, 0, none⟩ = some (.int .i64 0) := blk_cell X4.out.o 0
  have y1 : w4.cell? ⟨go, 1, none⟩ = some (.int .i64 7) := blk_cell X4.out.o 1
  have y2 : w4.cell? ⟨go, 2, none⟩ = some (.int .i64 1048575) := blk_cell X4.out.o 2
  have y3 : w4.cell? ⟨go, 3, none⟩ = some (.int .i64 1099511627776) := blk_cell X4.out.o 3
  have y4 : w4.cell? ⟨go, 4, none⟩ = some (.int .i64 (-1099511627776)) := blk_cell X4.out.o 4
  have x0 : w4.cell? ⟨go + 1, 0, none⟩ = some (.int .i64 1) := blk_cell X4.out.m 0
  have x1 : w4.cell? ⟨go + 1, 1, none⟩ = some (.int .i64 0) := blk_cell X4.out.m 1
  have x2 : w4.cell? ⟨go + 1, 2, none⟩ = some (.int .i64 0) := blk_cell X4.out.m 2
  have x3 : w4.cell? ⟨go + 1, 3, none⟩ = some (.int .i64 4398046511104) := blk_cell X4.out.m 3
  have x4 : w4.cell? ⟨go + 1, 4, none⟩ = some (.int .i64 0) := blk_cell X4.out.m 4
  have f0 := blk_frozen X4.out.o 0
  have f1 := blk_frozen X4.out.o 1
  have f2 := blk_frozen X4.out.o 2
  have f3 := blk_frozen X4.out.o 3
  have f4 := blk_frozen X4.out.o 4
  have hc := HC.out
  go_upto_region 40 with (fail)
  clear hc f0 f1 f2 f3 f4 y0 y1 y2 y3 y4 x0 x1 x2 x3 x4
  have X4b := Aside0.mk (((((X4.out.set 1 7 1048575 1099511627776 (-1099511627776) 0 1 rfl).set 1 0 1048575 1099511627776 (-1099511627776) 1 0 rfl).set 1 0 0 1099511627776 (-1099511627776) 2 0 rfl).set 1 0 0 4398046511104 (-1099511627776) 3 4398046511104 rfl).set 1 0 0 4398046511104 0 4 0 rfl)
  clear X4
  generalize (((((w4.setCell ⟨go, 0, none⟩ (.int .i64 1)).setCell ⟨go, 1, none⟩ (.int .i64 0)).setCell ⟨go, 2, none⟩ (.int .i64 0)).setCell ⟨go, 3, none⟩ (.int .i64 4398046511104)).setCell ⟨go, 4, none⟩ (.int .i64 0)) = w4b at *
  have y0 : w4b.cell? ⟨go, 0, none⟩ = some (.int .i64 1) := blk_cell X4b.out.o 0
  have y1 : w4b.cell? ⟨go, 1, none⟩ = some (.int .i64 0) := blk_cell X4b.out.o 1
  have y2 : w4b.cell? ⟨go, 2, none⟩ = some (.int .i64 0) := blk_cell X4b.out.o 2
  have y3 : w4b.cell? ⟨go, 3, none⟩ = some (.int .i64 4398046511104) := blk_cell X4b.out.o 3
  have y4 : w4b.cell? ⟨go, 4, none⟩ = some (.int .i64 0) := blk_cell X4b.out.o 4
  have f0 := blk_frozen X4b.out.o 0
  have f1 := blk_frozen X4b.out.o 1
  have f2 := blk_frozen X4b.out.o 2
  have f3 := blk_frozen X4b.out.o 3
  have f4 := blk_frozen X4b.out.o 4
  go_wp2_with fail
  clear f0 f1 f2 f3 f4 y0 y1 y2 y3 y4
  have X4 := X4b
  have X5 := Aside0.mk (X4b.out.set 1 0 0 4398046511104 d 4 d rfl)
  clear X4 X4b
  generalize (w4b.setCell ⟨go, 4, none⟩ (.int .i64 d)) = w5 at *
  refine (wire_Put.calls k 1 0 0 4398046511104 d (⟨#[]⟩ : ByteArray) 900 _ P.out).mono ?_
  rintro e w6 ⟨rfl, hb⟩
  have X6 := Aside0.mk (X5.out.step hb)
  clear hb X5
  have y0 : w6.cell? ⟨go, 0, none⟩ = some (.int .i64 1) := blk_cell X6.out.o 0
  have y1 : w6.cell? ⟨go, 1, none⟩ = some (.int .i64 0) := blk_cell X6.out.o 1
  have y2 : w6.cell? ⟨go, 2, none⟩ = some (.int .i64 0) := blk_cell X6.out.o 2
  have y3 : w6.cell? ⟨go, 3, none⟩ = some (.int .i64 4398046511104) := blk_cell X6.out.o 3
  have y4 : w6.cell? ⟨go, 4, none⟩ = some (.int .i64 d) := blk_cell X6.out.o 4
  go_wp2_with fail
  clear y0 y1 y2 y3 y4
  refine (wire_May.calls 1 0 0 4398046511104 d false _ Q.out).mono ?_
  rintro e w7 ⟨rfl, hb⟩
  have X7 := Aside0.mk (X6.out.step hb)
  clear hb X6
  go_wp2_with (first | (go_at_call 11; (with_reducible refine (num_calls 900 _).mono ?_); rintro e w8 ⟨rfl, ⟨nd, rfl⟩⟩))
  go_ret
  exact ⟨rfl, pw_below_drewN X7.out.below _⟩
set_option maxHeartbeats 4000000 in
set_option maxRecDepth 100000 in
theorem way14 (k : Nat) (a0 a1 d : Int) (w : World) (hc : Int.tmod (IntKind.u64.wrap a0) 16 = 14) (hd : Aside0 (wrap64 (1 + (Go.bits .and .i64 a1 1023)) = d)) (d1 : 1 ≤ d) (d2 : d ≤ 1024)
    (A : Aside0 (bournelaw9_awake.f k = some true))
    (m0 : Aside0 (wire_May.f 0 7 1048575 1099511627776 (-1099511627776) = some true)) (m1 : Aside0 (wire_May.f 1 0 0 4398046511104 0 = some true)) (m2 : Aside0 (wire_May.f 2 0 0 0 0 = some true))
    (P : Aside0 (wire_Put.f k 2 d 0 0 0 = some ((⟨#[]⟩ : ByteArray), 900))) (Q : Aside0 (wire_May.f 2 d 0 0 0 = some false)) :
    Calls Try.prog 5 #[.int .i64 a0, .int .i64 a1] w fun e w' => e = .returned (.bool true) ∧ Below w.heap.size w w' := by
  have HC := Aside0.mk hc
  clear hc
  go_enter Try.func5, Try.ntmps5
  go_wp2_with fail
  refine (bournelaw9_awake.calls k true _ A.out).mono ?_
  rintro e w1 ⟨rfl, hb1⟩
  have HB := Aside0.mk hb1
  clear hb1
  go_wp2_with fail
  rw [hd.out]
  refine (wire_May.calls 0 7 1048575 1099511627776 (-1099511627776) true _ m0.out).mono ?_
  rintro e w2 ⟨rfl, hb⟩
  have X2 := Aside0.mk ((Bx.new HB.out 0 7 1048575 1099511627776 (-1099511627776) 1 0 0 4398046511104 0).step hb)
  clear hb
  generalize w1.heap.size = go at *
  clear HB
  have x0 : w2.cell? ⟨go + 1, 0, none⟩ = some (.int .i64 1) := blk_cell X2.out.m 0
  have x1 : w2.cell? ⟨go + 1, 1, none⟩ = some (.int .i64 0) := blk_cell X2.out.m 1
  have x2 : w2.cell? ⟨go + 1, 2, none⟩ = some (.int .i64 0) := blk_cell X2.out.m 2
  have x3 : w2.cell? ⟨go + 1, 3, none⟩ = some (.int .i64 4398046511104) := blk_cell X2.out.m 3
  have x4 : w2.cell? ⟨go + 1, 4, none⟩ = some (.int .i64 0) := blk_cell X2.out.m 4
  go_wp2_with fail
  clear x0 x1 x2 x3 x4
  refine (wire_May.calls 1 0 0 4398046511104 0 true _ m1.out).mono ?_
  rintro e w3 ⟨rfl, hb⟩
  have X3 := Aside0.mk (X2.out.step hb)
  clear hb X2
  go_wp2_with fail
  refine (wire_May.calls 2 0 0 0 0 true _ m2.out).mono ?_
  rintro e w4 ⟨rfl, hb⟩
  have X4 := Aside0.mk (X3.out.step hb)
  clear hb X3
  have y0 : w4.cell? ⟨go, 0, none⟩ = some (.int .i64 0) := blk_cell X4.out.o 0
  have y1 : w4.cell? ⟨go, 1, none⟩ = some (.int .i64 7) := blk_cell X4.out.o 1
  have y2 : w4.cell? ⟨go, 2, none⟩ = some (.int .i64 1048575) := blk_cell X4.out.o 2
  have y3 : w4.cell? ⟨go, 3, none⟩ = some (.int .i64 1099511627776) := blk_cell X4.out.o 3
  have y4 : w4.cell? ⟨go, 4, none⟩ = some (.int .i64 (-1099511627776)) := blk_cell X4.out.o 4
  have f0 := blk_frozen X4.out.o 0
  have f1 := blk_frozen X4.out.o 1
  have f2 := blk_frozen X4.out.o 2
  have f3 := blk_frozen X4.out.o 3
  have f4 := blk_frozen X4.out.o 4
  have hc := HC.out
  go_wp2_with fail
  clear hc f0 f1 f2 f3 f4 y0 y1 y2 y3 y4
  have X5 := Aside0.mk (((((X4.out.set 2 7 1048575 1099511627776 (-1099511627776) 0 2 rfl).set 2 d 1048575 1099511627776 (-1099511627776) 1 d rfl).set 2 d 0 1099511627776 (-1099511627776) 2 0 rfl).set 2 d 0 0 (-1099511627776) 3 0 rfl).set 2 d 0 0 0 4 0 rfl)
  clear X4
  generalize (((((w4.setCell ⟨go, 0, none⟩ (.int .i64 2)).setCell ⟨go, 1, none⟩ (.int .i64 d)).setCell ⟨go, 2, none⟩ (.int .i64 0)).setCell ⟨go, 3, none⟩ (.int .i64 0)).setCell ⟨go, 4, none⟩ (.int .i64 0)) = w5 at *
  refine (wire_Put.calls k 2 d 0 0 0 (⟨#[]⟩ : ByteArray) 900 _ P.out).mono ?_
  rintro e w6 ⟨rfl, hb⟩
  have X6 := Aside0.mk (X5.out.step hb)
  clear hb X5
  have y0 : w6.cell? ⟨go, 0, none⟩ = some (.int .i64 2) := blk_cell X6.out.o 0
  have y1 : w6.cell? ⟨go, 1, none⟩ = some (.int .i64 d) := blk_cell X6.out.o 1
  have y2 : w6.cell? ⟨go, 2, none⟩ = some (.int .i64 0) := blk_cell X6.out.o 2
  have y3 : w6.cell? ⟨go, 3, none⟩ = some (.int .i64 0) := blk_cell X6.out.o 3
  have y4 : w6.cell? ⟨go, 4, none⟩ = some (.int .i64 0) := blk_cell X6.out.o 4
  go_wp2_with fail
  clear y0 y1 y2 y3 y4
  refine (wire_May.calls 2 d 0 0 0 false _ Q.out).mono ?_
  rintro e w7 ⟨rfl, hb⟩
  have X7 := Aside0.mk (X6.out.step hb)
  clear hb X6
  go_wp2_with (first | (go_at_call 11; (with_reducible refine (num_calls 900 _).mono ?_); rintro e w8 ⟨rfl, ⟨nd, rfl⟩⟩))
  go_ret
  exact ⟨rfl, pw_below_drewN X7.out.below _⟩
set_option maxHeartbeats 4000000 in
set_option maxRecDepth 100000 in
theorem way15 (k : Nat) (a0 a1 d : Int) (w : World) (hc : Int.tmod (IntKind.u64.wrap a0) 16 = 15) (hd : Aside0 (wrap64 (1 + (Go.bits .and .i64 a1 1023)) = d)) (d1 : 1 ≤ d) (d2 : d ≤ 1024)
    (A : Aside0 (bournelaw9_awake.f k = some true))
    (m0 : Aside0 (wire_May.f 0 7 1048575 1099511627776 (-1099511627776) = some true)) (m1 : Aside0 (wire_May.f 1 0 0 4398046511104 0 = some true)) (m2 : Aside0 (wire_May.f 2 0 0 0 0 = some true))
    (P : Aside0 (wire_Put.f k 2 0 0 0 d = some ((⟨#[]⟩ : ByteArray), 900))) (Q : Aside0 (wire_May.f 2 0 0 0 d = some false)) :
    Calls Try.prog 5 #[.int .i64 a0, .int .i64 a1] w fun e w' => e = .returned (.bool true) ∧ Below w.heap.size w w' := by
  have HC := Aside0.mk hc
  clear hc
  go_enter Try.func5, Try.ntmps5
  go_wp2_with fail
  refine (bournelaw9_awake.calls k true _ A.out).mono ?_
  rintro e w1 ⟨rfl, hb1⟩
  have HB := Aside0.mk hb1
  clear hb1
  go_wp2_with fail
  rw [hd.out]
  refine (wire_May.calls 0 7 1048575 1099511627776 (-1099511627776) true _ m0.out).mono ?_
  rintro e w2 ⟨rfl, hb⟩
  have X2 := Aside0.mk ((Bx.new HB.out 0 7 1048575 1099511627776 (-1099511627776) 1 0 0 4398046511104 0).step hb)
  clear hb
  generalize w1.heap.size = go at *
  clear HB
  have x0 : w2.cell? ⟨go + 1, 0, none⟩ = some (.int .i64 1) := blk_cell X2.out.m 0
  have x1 : w2.cell? ⟨go + 1, 1, none⟩ = some (.int .i64 0) := blk_cell X2.out.m 1
  have x2 : w2.cell? ⟨go + 1, 2, none⟩ = some (.int .i64 0) := blk_cell X2.out.m 2
  have x3 : w2.cell? ⟨go + 1, 3, none⟩ = some (.int .i64 4398046511104) := blk_cell X2.out.m 3
  have x4 : w2.cell? ⟨go + 1, 4, none⟩ = some (.int .i64 0) := blk_cell X2.out.m 4
  go_wp2_with fail
  clear x0 x1 x2 x3 x4
  refine (wire_May.calls 1 0 0 4398046511104 0 true _ m1.out).mono ?_
  rintro e w3 ⟨rfl, hb⟩
  have X3 := Aside0.mk (X2.out.step hb)
  clear hb X2
  go_wp2_with fail
  refine (wire_May.calls 2 0 0 0 0 true _ m2.out).mono ?_
  rintro e w4 ⟨rfl, hb⟩
  have X4 := Aside0.mk (X3.out.step hb)
  clear hb X3
  have y0 : w4.cell? ⟨go, 0, none⟩ = some (.int .i64 0) := blk_cell X4.out.o 0
  have y1 : w4.cell? ⟨go, 1, none⟩ = some (.int .i64 7) := blk_cell X4.out.o 1
  have y2 : w4.cell? ⟨go, 2, none⟩ = some (.int .i64 1048575) := blk_cell X4.out.o 2
  have y3 : w4.cell? ⟨go, 3, none⟩ = some (.int .i64 1099511627776) := blk_cell X4.out.o 3
  have y4 : w4.cell? ⟨go, 4, none⟩ = some (.int .i64 (-1099511627776)) := blk_cell X4.out.o 4
  have f0 := blk_frozen X4.out.o 0
  have f1 := blk_frozen X4.out.o 1
  have f2 := blk_frozen X4.out.o 2
  have f3 := blk_frozen X4.out.o 3
  have f4 := blk_frozen X4.out.o 4
  have hc := HC.out
  go_wp2_with fail
  clear hc f0 f1 f2 f3 f4 y0 y1 y2 y3 y4
  have X5 := Aside0.mk (((((X4.out.set 2 7 1048575 1099511627776 (-1099511627776) 0 2 rfl).set 2 0 1048575 1099511627776 (-1099511627776) 1 0 rfl).set 2 0 0 1099511627776 (-1099511627776) 2 0 rfl).set 2 0 0 0 (-1099511627776) 3 0 rfl).set 2 0 0 0 d 4 d rfl)
  clear X4
  generalize (((((w4.setCell ⟨go, 0, none⟩ (.int .i64 2)).setCell ⟨go, 1, none⟩ (.int .i64 0)).setCell ⟨go, 2, none⟩ (.int .i64 0)).setCell ⟨go, 3, none⟩ (.int .i64 0)).setCell ⟨go, 4, none⟩ (.int .i64 d)) = w5 at *
  refine (wire_Put.calls k 2 0 0 0 d (⟨#[]⟩ : ByteArray) 900 _ P.out).mono ?_
  rintro e w6 ⟨rfl, hb⟩
  have X6 := Aside0.mk (X5.out.step hb)
  clear hb X5
  have y0 : w6.cell? ⟨go, 0, none⟩ = some (.int .i64 2) := blk_cell X6.out.o 0
  have y1 : w6.cell? ⟨go, 1, none⟩ = some (.int .i64 0) := blk_cell X6.out.o 1
  have y2 : w6.cell? ⟨go, 2, none⟩ = some (.int .i64 0) := blk_cell X6.out.o 2
  have y3 : w6.cell? ⟨go, 3, none⟩ = some (.int .i64 0) := blk_cell X6.out.o 3
  have y4 : w6.cell? ⟨go, 4, none⟩ = some (.int .i64 d) := blk_cell X6.out.o 4
  go_wp2_with fail
  clear y0 y1 y2 y3 y4
  refine (wire_May.calls 2 0 0 0 d false _ Q.out).mono ?_
  rintro e w7 ⟨rfl, hb⟩
  have X7 := Aside0.mk (X6.out.step hb)
  clear hb X6
  go_wp2_with (first | (go_at_call 11; (with_reducible refine (num_calls 900 _).mono ?_); rintro e w8 ⟨rfl, ⟨nd, rfl⟩⟩))
  go_ret
  exact ⟨rfl, pw_below_drewN X7.out.below _⟩

end Go.Proofs.Ytmefhlaeeaockaa.FormsW
