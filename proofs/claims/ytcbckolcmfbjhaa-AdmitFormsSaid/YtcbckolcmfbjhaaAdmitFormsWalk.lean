/- The walk of the law AdmitForms of folder 14, from what its callees answer. No condition beyond those. -/
import Derived.Test.YtcbckolcmfbjhaaQAdmitFormsx5
namespace Go.Proofs.Ytcbckolcmfbjhaa.FormsW
open Go.RowKit Go.Proofs.Ytcbckolcmfbjhaa.QAdmitForms Go.Proofs.YtcbckolcmfbjhaaW.PrintWords Go.Proofs.YtcbckolcmfbjhaaW.PrintLast Go.Proofs.YtcbckolcmfbjhaaW.PrintMore
set_option linter.unusedVariables false
set_option linter.unusedSimpArgs false


theorem num_calls (a : Int) (w : World) : Calls Try.prog 10 #[.int .i64 a] w fun e w' => e = .returned (.int .i64 a) ∧ Drawn0 w w' := by
  go_enter Try.func10, Try.ntmps10
  go_wp2
  go_ret
  exact ⟨rfl, by repeat (first | exact Drawn0.refl _ | apply Drawn0.step)⟩
/-- The config's box, its queries' row, and what lies below. -/
structure Cx (w W : World) (gb : Nat) (A : Option Addr) (n c : Nat) (l : List S42) (late room series sources : Int) : Prop where
  b : W.heap[gb]? = some (.cells #[.slice A n c, .int .i64 late, .int .i64 room, .int .i64 series, .int .i64 sources] 24 (0, 0))
  q : Kd.S k42 42 W w.heap.size (fun _ => True) (.slice A n c) l
  le : w.heap.size ≤ gb
  below : Below w.heap.size w W
theorem Cx.step {w W W' : World} {gb : Nat} {A : Option Addr} {n c : Nat} {l : List S42} {late room series sources : Int} (h : Cx w W gb A n c l late room series sources) (hb : Below W.heap.size W W') : Cx w W' gb A n c l late room series sources :=
  ⟨blk_below h.b hb, Kd.S_below h.q hb, h.le, below_step h.below hb⟩
theorem Cx.new {w W : World} {A : Option Addr} {n c : Nat} {l : List S42} {late room series sources : Int} (hq : Kd.S k42 42 W w.heap.size (fun _ => True) (.slice A n c) l) (hb : Below w.heap.size w W) :
    Cx w (W.alloc (.cells #[.slice A n c, .int .i64 late, .int .i64 room, .int .i64 series, .int .i64 sources] 24)) W.heap.size A n c l late room series sources :=
  ⟨blk_new _ _, Kd.S_alloc hq _, hb.size, below_alloc hb _⟩
theorem Cx.set {w W : World} {gb : Nat} {A : Option Addr} {n c : Nat} {l : List S42} {late room series sources : Int} (h : Cx w W gb A n c l late room series sources) (late2 room2 series2 sources2 : Int) (j : Nat) (x : Int)
    (hj : (#[.slice A n c, .int .i64 late, .int .i64 room, .int .i64 series, .int .i64 sources] : Array Value).setIfInBounds j (.int .i64 x) = #[.slice A n c, .int .i64 late2, .int .i64 room2, .int .i64 series2, .int .i64 sources2]) :
    Cx w (W.setCell ⟨gb, j, none⟩ (.int .i64 x)) gb A n c l late2 room2 series2 sources2 :=
  ⟨by have := blk_put h.b j (.int .i64 x) rfl; rw [hj] at this; exact this, Kd.S_set h.q h.b (by decide) j _, h.le, below_set h.below h.le⟩
theorem Cx.row {w W : World} {gb : Nat} {A A' : Option Addr} {n c n' c' : Nat} {l l' : List S42} {late room series sources : Int} (h : Cx w W gb A n c l late room series sources) (hq : Kd.S k42 42 W w.heap.size (fun _ => True) (.slice A' n' c') l') :
    Cx w (W.setCell ⟨gb, 0, none⟩ (.slice A' n' c')) gb A' n' c' l' late room series sources :=
  ⟨by have := blk_put h.b 0 (.slice A' n' c') rfl; exact this, Kd.S_set hq h.b (by decide) 0 _, h.le, below_set h.below h.le⟩
/-- The first query's size, put. -/
theorem Cx.size {w W : World} {gb g cap : Nat} {late room series sources : Int} {q : S42} (h : Cx w W gb (some ⟨g, 0, none⟩) 1 cap [q] late room series sources) (hq4 : q.f4 = []) (x : Int) :
    Cx w (W.setCell ⟨g, 2, none⟩ (.int .i64 x)) gb (some ⟨g, 0, none⟩) 1 cap [(⟨q.f0, q.f1, x, q.f3, ([] : List Int), q.f5⟩ : S42)] late room series sources := by
  obtain ⟨g', cap', e, hbase, hlt, cells, hcl⟩ := Kd.S_form h.q (show 0 < [q].length from Nat.zero_lt_one)
  injection e with e1 _ _
  injection e1 with e1
  injection e1 with e1 _ _
  subst e1
  obtain ⟨oki, ce, hcl2, hM, hcc, hfr, hoki, hH⟩ := Kd.S_elem h.q z42 (0 : Int) (by decide) (by decide)
  have hM2 : k42.M W w.heap.size oki q ce := hM
  obtain ⟨v4, rfl, g4⟩ := k42_openM hM2
  have g5 : (Kd.int .i64).R 3 W w.heap.size oki v4 ([] : List Int) := by rw [← hq4]; exact g4
  have HP := Kd.S_seg0 hH (by decide) (by decide) (seg := [.int .i64 x]) (j := 2) (show 2 + 1 ≤ 6 by decide) (x' := (⟨q.f0, q.f1, x, q.f3, ([] : List Int), q.f5⟩ : S42)) (k42_mkM W w.heap.size oki (⟨q.f0, q.f1, x, q.f3, ([] : List Int), q.f5⟩ : S42) g5) (fun _ hk => hk)
  have hne : gb ≠ g := by
    rintro rfl
    have := h.b
    rw [hcl] at this
    injection this with this
    injection this with _ this _
    exact absurd this (by decide)
  exact ⟨blk_far h.b hne _, HP.1, h.le, below_set h.below hbase⟩
/-- The first query's size, as it stands. -/
theorem Cx.at2 {w W : World} {gb g cap : Nat} {late room series sources : Int} {q : S42} (h : Cx w W gb (some ⟨g, 0, none⟩) 1 cap [q] late room series sources) : W.cell? ⟨g, 2, none⟩ = some (.int .i64 q.f2) ∧ W.frozen? ⟨g, 2, none⟩ = false := by
  obtain ⟨oki, ce, hcl2, hM, hcc, hfr, hoki, hH⟩ := Kd.S_elem h.q z42 (0 : Int) (by decide) (by decide)
  have hM2 : k42.M W w.heap.size oki q ce := hM
  obtain ⟨v4, rfl, g4⟩ := k42_openM hM2
  exact ⟨hcc 2 _ rfl, hfr 2⟩
set_option maxHeartbeats 4000000 in
set_option maxRecDepth 100000 in
theorem way0 (k : Nat) (a0 a1 d : Int) (w : World) (hc : Int.tmod (IntKind.u64.wrap a0) 15 = 0) (hd : Aside0 (wrap64 (1 + (Go.bits .and .i64 a1 1023)) = d)) (d1 : 1 ≤ d) (d2 : d ≤ 1024)
    (A : Aside0 (bournelaw14_awake.f k = some true)) (CT : Aside0 (bournelaw14_count.f 5 3 = some ([(⟨0, 0, 10, 0, ([] : List Int), 0⟩ : S42)], 5, 3, 2, 1)))
    (P : Aside0 (admit_Verdict.f k ([] : List S42) 5 3 2 1 10 2 1 true 0 0 0 5 0 = some (0, 1400))) (Q : Aside0 (admit_May.f ([] : List S42) 5 3 2 1 = some false)) (G : Aside0 (admit_May.f [(⟨0, 0, 10, 0, ([] : List Int), 0⟩ : S42)] 5 3 2 1 = some true)) :
    Calls Try.prog 4 #[.int .i64 a0, .int .i64 a1] w fun e w' => e = .returned (.bool true) ∧ Below w.heap.size w w' := by
  have HC := Aside0.mk hc
  clear hc
  go_enter Try.func4, Try.ntmps4
  go_wp2_with fail
  refine (bournelaw14_awake.calls k true _ A.out).mono ?_
  rintro e w1 ⟨rfl, hb1⟩
  have HB := Aside0.mk hb1
  clear hb1
  go_wp2_with fail
  rw [hd.out]
  refine (bournelaw14_count.calls 5 3 [(⟨0, 0, 10, 0, ([] : List Int), 0⟩ : S42)] 5 3 2 1 _ CT.out).mono ?_
  rintro e w2 ⟨v, rfl, hs, hb⟩
  obtain ⟨g, cap, rfl, hg1, hg2, cells, hg3⟩ := Kd.S_form hs Nat.zero_lt_one
  clear hg1 hg2 hg3
  have HS := Aside0.mk (Kd.S_lower hs HB.out.size)
  have HB2 := Aside0.mk (below_step HB.out hb)
  clear hs hb HB
  go_upto_region 7 with (fail)
  have X3 := Aside0.mk (Cx.new (late := 5) (room := 3) (series := 2) (sources := 1) (show Kd.S k42 42 w2 w.heap.size (fun _ => True) (.slice (some ⟨g, 0, none⟩) 1 cap) [(⟨0, 0, 10, 0, ([] : List Int), 0⟩ : S42)] from HS.out) HB2.out)
  clear HS HB2
  (try simp only [List.length_cons, List.length_nil, Nat.zero_add])
  generalize w2.heap.size = gb at *
  generalize w2.alloc _ = w3 at *
  have b0 : w3.cell? ⟨gb, 0, none⟩ = some (.slice (some ⟨g, 0, none⟩) 1 cap) := blk_cell X3.out.b 0
  have b1 : w3.cell? ⟨gb, 1, none⟩ = some (.int .i64 5) := blk_cell X3.out.b 1
  have b2 : w3.cell? ⟨gb, 2, none⟩ = some (.int .i64 3) := blk_cell X3.out.b 2
  have b3 : w3.cell? ⟨gb, 3, none⟩ = some (.int .i64 2) := blk_cell X3.out.b 3
  have b4 : w3.cell? ⟨gb, 4, none⟩ = some (.int .i64 1) := blk_cell X3.out.b 4
  have f0 := blk_frozen X3.out.b 0
  have f1 := blk_frozen X3.out.b 1
  have f2 := blk_frozen X3.out.b 2
  have f3 := blk_frozen X3.out.b 3
  have f4 := blk_frozen X3.out.b 4
  have hc := HC.out
  go_wp2_with fail
  clear hc f0 f1 f2 f3 f4 b0 b1 b2 b3 b4
  have X5 := Aside0.mk (X3.out.row (Kd.S_nil k42 42 w3 w.heap.size (fun _ => True)))
  clear X3
  generalize w3.setCell _ _ = w5 at *
  have R5 := Aside0.mk (Kd.S_reads' X5.out.q)
  refine (admit_Verdict.calls k none 0 ([] : List S42) 5 3 2 1 10 2 1 true 0 0 0 5 0 0 1400 _ R5.out.2.2 R5.out.2.1 P.out).mono ?_
  rintro e w6 ⟨rfl, hb⟩
  have X6 := Aside0.mk (X5.out.step hb)
  clear hb X5 R5
  have b0 : w6.cell? ⟨gb, 0, none⟩ = some (.slice none 0 0) := blk_cell X6.out.b 0
  have b1 : w6.cell? ⟨gb, 1, none⟩ = some (.int .i64 5) := blk_cell X6.out.b 1
  have b2 : w6.cell? ⟨gb, 2, none⟩ = some (.int .i64 3) := blk_cell X6.out.b 2
  have b3 : w6.cell? ⟨gb, 3, none⟩ = some (.int .i64 2) := blk_cell X6.out.b 3
  have b4 : w6.cell? ⟨gb, 4, none⟩ = some (.int .i64 1) := blk_cell X6.out.b 4
  go_wp2_with fail
  clear b0 b1 b2 b3 b4
  have R6 := Aside0.mk (Kd.S_reads' X6.out.q)
  refine (admit_May.calls none 0 ([] : List S42) 5 3 2 1 false _ R6.out.2.2 R6.out.2.1 Q.out).mono ?_
  rintro e w7 ⟨rfl, hb⟩
  have HB7 := Aside0.mk (below_step X6.out.below hb)
  clear hb X6 R6
  go_wp2_with fail
  refine (num_calls 1400 _).mono ?_
  rintro e w8 ⟨rfl, ⟨nd, rfl⟩⟩
  go_wp2_with fail
  refine (bournelaw14_count.calls 5 3 [(⟨0, 0, 10, 0, ([] : List Int), 0⟩ : S42)] 5 3 2 1 _ CT.out).mono ?_
  rintro e w9 ⟨v, rfl, hs, hb⟩
  obtain ⟨A9, c9, rfl, hl9, hr9⟩ := Kd.S_reads hs
  have R9 := Aside0.mk hr9
  have L9 := Aside0.mk hl9
  have HB9 := Aside0.mk (below_step (pw_below_drewN HB7.out _) hb)
  clear hb hs hl9 hr9 HB7
  go_wp2_with fail
  refine (admit_May.calls A9 c9 [(⟨0, 0, 10, 0, ([] : List Int), 0⟩ : S42)] 5 3 2 1 true _ R9.out L9.out G.out).mono ?_
  rintro e w10 ⟨rfl, hb⟩
  have HB10 := Aside0.mk (below_step HB9.out hb)
  clear hb
  go_wp2_with fail
  go_ret
  exact ⟨rfl, HB10.out⟩
set_option maxHeartbeats 4000000 in
set_option maxRecDepth 100000 in
theorem way1 (k : Nat) (a0 a1 d : Int) (w : World) (hc : Int.tmod (IntKind.u64.wrap a0) 15 = 1) (hd : Aside0 (wrap64 (1 + (Go.bits .and .i64 a1 1023)) = d)) (d1 : 1 ≤ d) (d2 : d ≤ 1024)
    (A : Aside0 (bournelaw14_awake.f k = some true)) (CT : Aside0 (bournelaw14_count.f 5 3 = some ([(⟨0, 0, 10, 0, ([] : List Int), 0⟩ : S42)], 5, 3, 2, 1)))
    (P : Aside0 (admit_Verdict.f k [(⟨0, 0, (1 - d), 0, ([] : List Int), 0⟩ : S42)] 5 3 2 1 10 2 1 true 0 0 0 5 0 = some (0, 1400))) (Q : Aside0 (admit_May.f [(⟨0, 0, (1 - d), 0, ([] : List Int), 0⟩ : S42)] 5 3 2 1 = some false)) (G : Aside0 (admit_May.f [(⟨0, 0, 10, 0, ([] : List Int), 0⟩ : S42)] 5 3 2 1 = some true)) :
    Calls Try.prog 4 #[.int .i64 a0, .int .i64 a1] w fun e w' => e = .returned (.bool true) ∧ Below w.heap.size w w' := by
  have HC := Aside0.mk hc
  clear hc
  go_enter Try.func4, Try.ntmps4
  go_wp2_with fail
  refine (bournelaw14_awake.calls k true _ A.out).mono ?_
  rintro e w1 ⟨rfl, hb1⟩
  have HB := Aside0.mk hb1
  clear hb1
  go_wp2_with fail
  rw [hd.out]
  refine (bournelaw14_count.calls 5 3 [(⟨0, 0, 10, 0, ([] : List Int), 0⟩ : S42)] 5 3 2 1 _ CT.out).mono ?_
  rintro e w2 ⟨v, rfl, hs, hb⟩
  obtain ⟨g, cap, rfl, hg1, hg2, cells, hg3⟩ := Kd.S_form hs Nat.zero_lt_one
  clear hg1 hg2 hg3
  have HS := Aside0.mk (Kd.S_lower hs HB.out.size)
  have HB2 := Aside0.mk (below_step HB.out hb)
  clear hs hb HB
  go_upto_region 7 with (fail)
  have X3 := Aside0.mk (Cx.new (late := 5) (room := 3) (series := 2) (sources := 1) (show Kd.S k42 42 w2 w.heap.size (fun _ => True) (.slice (some ⟨g, 0, none⟩) 1 cap) [(⟨0, 0, 10, 0, ([] : List Int), 0⟩ : S42)] from HS.out) HB2.out)
  clear HS HB2
  (try simp only [List.length_cons, List.length_nil, Nat.zero_add])
  generalize w2.heap.size = gb at *
  generalize w2.alloc _ = w3 at *
  have b0 : w3.cell? ⟨gb, 0, none⟩ = some (.slice (some ⟨g, 0, none⟩) 1 cap) := blk_cell X3.out.b 0
  have b1 : w3.cell? ⟨gb, 1, none⟩ = some (.int .i64 5) := blk_cell X3.out.b 1
  have b2 : w3.cell? ⟨gb, 2, none⟩ = some (.int .i64 3) := blk_cell X3.out.b 2
  have b3 : w3.cell? ⟨gb, 3, none⟩ = some (.int .i64 2) := blk_cell X3.out.b 3
  have b4 : w3.cell? ⟨gb, 4, none⟩ = some (.int .i64 1) := blk_cell X3.out.b 4
  have f0 := blk_frozen X3.out.b 0
  have f1 := blk_frozen X3.out.b 1
  have f2 := blk_frozen X3.out.b 2
  have f3 := blk_frozen X3.out.b 3
  have f4 := blk_frozen X3.out.b 4
  have e2 := X3.out.at2.1
  have e3 := X3.out.at2.2
  dsimp only at e2
  have hc := HC.out
  go_upto_region 41 with (fail)
  clear hc f0 f1 f2 f3 f4 b0 b1 b2 b3 b4 e2 e3
  have X5 := Aside0.mk (X3.out.size rfl (1 - d))
  dsimp only at X5
  clear X3
  generalize w3.setCell _ _ = w5 at *
  have b0 : w5.cell? ⟨gb, 0, none⟩ = some (.slice (some ⟨g, 0, none⟩) 1 cap) := blk_cell X5.out.b 0
  have b1 : w5.cell? ⟨gb, 1, none⟩ = some (.int .i64 5) := blk_cell X5.out.b 1
  have b2 : w5.cell? ⟨gb, 2, none⟩ = some (.int .i64 3) := blk_cell X5.out.b 2
  have b3 : w5.cell? ⟨gb, 3, none⟩ = some (.int .i64 2) := blk_cell X5.out.b 3
  have b4 : w5.cell? ⟨gb, 4, none⟩ = some (.int .i64 1) := blk_cell X5.out.b 4
  go_wp2_with fail
  clear b0 b1 b2 b3 b4
  have R5 := Aside0.mk (Kd.S_reads' X5.out.q)
  refine (admit_Verdict.calls k (some ⟨g, 0, none⟩) cap [(⟨0, 0, (1 - d), 0, ([] : List Int), 0⟩ : S42)] 5 3 2 1 10 2 1 true 0 0 0 5 0 0 1400 _ R5.out.2.2 R5.out.2.1 P.out).mono ?_
  rintro e w6 ⟨rfl, hb⟩
  have X6 := Aside0.mk (X5.out.step hb)
  clear hb X5 R5
  have b0 : w6.cell? ⟨gb, 0, none⟩ = some (.slice (some ⟨g, 0, none⟩) 1 cap) := blk_cell X6.out.b 0
  have b1 : w6.cell? ⟨gb, 1, none⟩ = some (.int .i64 5) := blk_cell X6.out.b 1
  have b2 : w6.cell? ⟨gb, 2, none⟩ = some (.int .i64 3) := blk_cell X6.out.b 2
  have b3 : w6.cell? ⟨gb, 3, none⟩ = some (.int .i64 2) := blk_cell X6.out.b 3
  have b4 : w6.cell? ⟨gb, 4, none⟩ = some (.int .i64 1) := blk_cell X6.out.b 4
  go_wp2_with fail
  clear b0 b1 b2 b3 b4
  have R6 := Aside0.mk (Kd.S_reads' X6.out.q)
  refine (admit_May.calls (some ⟨g, 0, none⟩) cap [(⟨0, 0, (1 - d), 0, ([] : List Int), 0⟩ : S42)] 5 3 2 1 false _ R6.out.2.2 R6.out.2.1 Q.out).mono ?_
  rintro e w7 ⟨rfl, hb⟩
  have HB7 := Aside0.mk (below_step X6.out.below hb)
  clear hb X6 R6
  go_wp2_with fail
  refine (num_calls 1400 _).mono ?_
  rintro e w8 ⟨rfl, ⟨nd, rfl⟩⟩
  go_wp2_with fail
  refine (bournelaw14_count.calls 5 3 [(⟨0, 0, 10, 0, ([] : List Int), 0⟩ : S42)] 5 3 2 1 _ CT.out).mono ?_
  rintro e w9 ⟨v, rfl, hs, hb⟩
  obtain ⟨A9, c9, rfl, hl9, hr9⟩ := Kd.S_reads hs
  have R9 := Aside0.mk hr9
  have L9 := Aside0.mk hl9
  have HB9 := Aside0.mk (below_step (pw_below_drewN HB7.out _) hb)
  clear hb hs hl9 hr9 HB7
  go_wp2_with fail
  refine (admit_May.calls A9 c9 [(⟨0, 0, 10, 0, ([] : List Int), 0⟩ : S42)] 5 3 2 1 true _ R9.out L9.out G.out).mono ?_
  rintro e w10 ⟨rfl, hb⟩
  have HB10 := Aside0.mk (below_step HB9.out hb)
  clear hb
  go_wp2_with fail
  go_ret
  exact ⟨rfl, HB10.out⟩
set_option maxHeartbeats 4000000 in
set_option maxRecDepth 100000 in
theorem way2 (k : Nat) (a0 a1 d : Int) (w : World) (hc : Int.tmod (IntKind.u64.wrap a0) 15 = 2) (hd : Aside0 (wrap64 (1 + (Go.bits .and .i64 a1 1023)) = d)) (d1 : 1 ≤ d) (d2 : d ≤ 1024)
    (A : Aside0 (bournelaw14_awake.f k = some true)) (CT : Aside0 (bournelaw14_count.f 5 3 = some ([(⟨0, 0, 10, 0, ([] : List Int), 0⟩ : S42)], 5, 3, 2, 1)))
    (l2 : List S42) (HL : Aside0 (List.replicate (8 + d).toNat z42 = l2))
    (P : Aside0 (admit_Verdict.f k l2 5 3 2 1 10 2 1 true 0 0 0 5 0 = some (0, 1400))) (Q : Aside0 (admit_May.f l2 5 3 2 1 = some false)) (G : Aside0 (admit_May.f [(⟨0, 0, 10, 0, ([] : List Int), 0⟩ : S42)] 5 3 2 1 = some true)) :
    Calls Try.prog 4 #[.int .i64 a0, .int .i64 a1] w fun e w' => e = .returned (.bool true) ∧ Below w.heap.size w w' := by
  have HC := Aside0.mk hc
  clear hc
  go_enter Try.func4, Try.ntmps4
  go_wp2_with fail
  refine (bournelaw14_awake.calls k true _ A.out).mono ?_
  rintro e w1 ⟨rfl, hb1⟩
  have HB := Aside0.mk hb1
  clear hb1
  go_wp2_with fail
  rw [hd.out]
  refine (bournelaw14_count.calls 5 3 [(⟨0, 0, 10, 0, ([] : List Int), 0⟩ : S42)] 5 3 2 1 _ CT.out).mono ?_
  rintro e w2 ⟨v, rfl, hs, hb⟩
  obtain ⟨g, cap, rfl, hg1, hg2, cells, hg3⟩ := Kd.S_form hs Nat.zero_lt_one
  clear hg1 hg2 hg3
  have HS := Aside0.mk (Kd.S_lower hs HB.out.size)
  have HB2 := Aside0.mk (below_step HB.out hb)
  clear hs hb HB
  go_upto_region 7 with (fail)
  have X3 := Aside0.mk (Cx.new (late := 5) (room := 3) (series := 2) (sources := 1) (show Kd.S k42 42 w2 w.heap.size (fun _ => True) (.slice (some ⟨g, 0, none⟩) 1 cap) [(⟨0, 0, 10, 0, ([] : List Int), 0⟩ : S42)] from HS.out) HB2.out)
  clear HS HB2
  (try simp only [List.length_cons, List.length_nil, Nat.zero_add])
  generalize w2.heap.size = gb at *
  generalize w2.alloc _ = w3 at *
  have b0 : w3.cell? ⟨gb, 0, none⟩ = some (.slice (some ⟨g, 0, none⟩) 1 cap) := blk_cell X3.out.b 0
  have b1 : w3.cell? ⟨gb, 1, none⟩ = some (.int .i64 5) := blk_cell X3.out.b 1
  have b2 : w3.cell? ⟨gb, 2, none⟩ = some (.int .i64 3) := blk_cell X3.out.b 2
  have b3 : w3.cell? ⟨gb, 3, none⟩ = some (.int .i64 2) := blk_cell X3.out.b 3
  have b4 : w3.cell? ⟨gb, 4, none⟩ = some (.int .i64 1) := blk_cell X3.out.b 4
  have f0 := blk_frozen X3.out.b 0
  have f1 := blk_frozen X3.out.b 1
  have f2 := blk_frozen X3.out.b 2
  have f3 := blk_frozen X3.out.b 3
  have f4 := blk_frozen X3.out.b 4
  have hc := HC.out
  go_wp2_with ((with_reducible refine gate_dst (N := 39) rfl ?_); refine Kd.S_make k42 (w0 := w) w.heap.size 42 rfl (N := 39) rfl 22 (.tmp 38) (.tmp 38) rfl (8 + d) rfl rfl Try.underlying22 (.agg #[(.int .i64 0), (.int .i64 0), (.int .i64 0), (.int .i64 0), (.slice none 0 0), (.int .i64 0)]) 64 info42 rfl (by decide) (by decide) z42 (ok := fun _ => True) (okp := fun _ => True) (k42_mkM _ _ _ z42 (Kd.R_nil _ _ _ _ _)) (fun _ h => h) trivial (by omega) (by omega) X3.out.below X3.out.below.size ?_; intro v1 w3b hS hB3 hG hA; rw [HL.out] at hS; have S3 := Aside0.mk hS; have X3b := Aside0.mk (⟨blk_grown X3.out.b hG (by intro h; cases h), Kd.S_grown X3.out.q hG (fun _ _ h => by cases h), X3.out.le, hB3⟩ : Cx w w3b gb _ _ _ _ 5 3 2 1); clear hS hB3 hG hA X3; obtain ⟨A2, c2, e2⟩ := Kd.S_slice S3.out; subst e2; have q0 : w3b.cell? ⟨gb, 0, none⟩ = some (.slice (some ⟨g, 0, none⟩) 1 cap) := blk_cell X3b.out.b 0; have q1 : w3b.cell? ⟨gb, 1, none⟩ = some (.int .i64 5) := blk_cell X3b.out.b 1; have q2 : w3b.cell? ⟨gb, 2, none⟩ = some (.int .i64 3) := blk_cell X3b.out.b 2; have q3 : w3b.cell? ⟨gb, 3, none⟩ = some (.int .i64 2) := blk_cell X3b.out.b 3; have q4 : w3b.cell? ⟨gb, 4, none⟩ = some (.int .i64 1) := blk_cell X3b.out.b 4; have p0 := blk_frozen X3b.out.b 0; have p1 := blk_frozen X3b.out.b 1; have p2 := blk_frozen X3b.out.b 2; have p3 := blk_frozen X3b.out.b 3; have p4 := blk_frozen X3b.out.b 4; clear b0 b1 b2 b3 b4 f0 f1 f2 f3 f4)
  clear hc q0 q1 q2 q3 q4 p0 p1 p2 p3 p4
  have X5 := Aside0.mk (X3b.out.row S3.out)
  clear X3b S3
  generalize w3b.setCell _ _ = w5 at *
  have R5 := Aside0.mk (Kd.S_reads' X5.out.q)
  refine (admit_Verdict.calls k A2 c2 l2 5 3 2 1 10 2 1 true 0 0 0 5 0 0 1400 _ R5.out.2.2 R5.out.2.1 P.out).mono ?_
  rintro e w6 ⟨rfl, hb⟩
  have X6 := Aside0.mk (X5.out.step hb)
  clear hb X5 R5
  have b0 : w6.cell? ⟨gb, 0, none⟩ = some (.slice A2 l2.length c2) := blk_cell X6.out.b 0
  have b1 : w6.cell? ⟨gb, 1, none⟩ = some (.int .i64 5) := blk_cell X6.out.b 1
  have b2 : w6.cell? ⟨gb, 2, none⟩ = some (.int .i64 3) := blk_cell X6.out.b 2
  have b3 : w6.cell? ⟨gb, 3, none⟩ = some (.int .i64 2) := blk_cell X6.out.b 3
  have b4 : w6.cell? ⟨gb, 4, none⟩ = some (.int .i64 1) := blk_cell X6.out.b 4
  go_wp2_with fail
  clear b0 b1 b2 b3 b4
  have R6 := Aside0.mk (Kd.S_reads' X6.out.q)
  refine (admit_May.calls A2 c2 l2 5 3 2 1 false _ R6.out.2.2 R6.out.2.1 Q.out).mono ?_
  rintro e w7 ⟨rfl, hb⟩
  have HB7 := Aside0.mk (below_step X6.out.below hb)
  clear hb X6 R6
  go_wp2_with fail
  refine (num_calls 1400 _).mono ?_
  rintro e w8 ⟨rfl, ⟨nd, rfl⟩⟩
  go_wp2_with fail
  refine (bournelaw14_count.calls 5 3 [(⟨0, 0, 10, 0, ([] : List Int), 0⟩ : S42)] 5 3 2 1 _ CT.out).mono ?_
  rintro e w9 ⟨v, rfl, hs, hb⟩
  obtain ⟨A9, c9, rfl, hl9, hr9⟩ := Kd.S_reads hs
  have R9 := Aside0.mk hr9
  have L9 := Aside0.mk hl9
  have HB9 := Aside0.mk (below_step (pw_below_drewN HB7.out _) hb)
  clear hb hs hl9 hr9 HB7
  go_wp2_with fail
  refine (admit_May.calls A9 c9 [(⟨0, 0, 10, 0, ([] : List Int), 0⟩ : S42)] 5 3 2 1 true _ R9.out L9.out G.out).mono ?_
  rintro e w10 ⟨rfl, hb⟩
  have HB10 := Aside0.mk (below_step HB9.out hb)
  clear hb
  go_wp2_with fail
  go_ret
  exact ⟨rfl, HB10.out⟩
set_option maxHeartbeats 4000000 in
set_option maxRecDepth 100000 in
theorem way3 (k : Nat) (a0 a1 d : Int) (w : World) (hc : Int.tmod (IntKind.u64.wrap a0) 15 = 3) (hd : Aside0 (wrap64 (1 + (Go.bits .and .i64 a1 1023)) = d)) (d1 : 1 ≤ d) (d2 : d ≤ 1024)
    (A : Aside0 (bournelaw14_awake.f k = some true)) (CT : Aside0 (bournelaw14_count.f 5 3 = some ([(⟨0, 0, 10, 0, ([] : List Int), 0⟩ : S42)], 5, 3, 2, 1)))
    (P : Aside0 (admit_Verdict.f k [(⟨0, 0, 10, 0, ([] : List Int), 0⟩ : S42)] (-d) 3 2 1 10 2 1 true 0 0 0 5 0 = some (0, 1400))) (Q : Aside0 (admit_May.f [(⟨0, 0, 10, 0, ([] : List Int), 0⟩ : S42)] (-d) 3 2 1 = some false)) (G : Aside0 (admit_May.f [(⟨0, 0, 10, 0, ([] : List Int), 0⟩ : S42)] 5 3 2 1 = some true)) :
    Calls Try.prog 4 #[.int .i64 a0, .int .i64 a1] w fun e w' => e = .returned (.bool true) ∧ Below w.heap.size w w' := by
  have HC := Aside0.mk hc
  clear hc
  go_enter Try.func4, Try.ntmps4
  go_wp2_with fail
  refine (bournelaw14_awake.calls k true _ A.out).mono ?_
  rintro e w1 ⟨rfl, hb1⟩
  have HB := Aside0.mk hb1
  clear hb1
  go_wp2_with fail
  rw [hd.out]
  refine (bournelaw14_count.calls 5 3 [(⟨0, 0, 10, 0, ([] : List Int), 0⟩ : S42)] 5 3 2 1 _ CT.out).mono ?_
  rintro e w2 ⟨v, rfl, hs, hb⟩
  obtain ⟨g, cap, rfl, hg1, hg2, cells, hg3⟩ := Kd.S_form hs Nat.zero_lt_one
  clear hg1 hg2 hg3
  have HS := Aside0.mk (Kd.S_lower hs HB.out.size)
  have HB2 := Aside0.mk (below_step HB.out hb)
  clear hs hb HB
  go_upto_region 7 with (fail)
  have X3 := Aside0.mk (Cx.new (late := 5) (room := 3) (series := 2) (sources := 1) (show Kd.S k42 42 w2 w.heap.size (fun _ => True) (.slice (some ⟨g, 0, none⟩) 1 cap) [(⟨0, 0, 10, 0, ([] : List Int), 0⟩ : S42)] from HS.out) HB2.out)
  clear HS HB2
  (try simp only [List.length_cons, List.length_nil, Nat.zero_add])
  generalize w2.heap.size = gb at *
  generalize w2.alloc _ = w3 at *
  have b0 : w3.cell? ⟨gb, 0, none⟩ = some (.slice (some ⟨g, 0, none⟩) 1 cap) := blk_cell X3.out.b 0
  have b1 : w3.cell? ⟨gb, 1, none⟩ = some (.int .i64 5) := blk_cell X3.out.b 1
  have b2 : w3.cell? ⟨gb, 2, none⟩ = some (.int .i64 3) := blk_cell X3.out.b 2
  have b3 : w3.cell? ⟨gb, 3, none⟩ = some (.int .i64 2) := blk_cell X3.out.b 3
  have b4 : w3.cell? ⟨gb, 4, none⟩ = some (.int .i64 1) := blk_cell X3.out.b 4
  have f0 := blk_frozen X3.out.b 0
  have f1 := blk_frozen X3.out.b 1
  have f2 := blk_frozen X3.out.b 2
  have f3 := blk_frozen X3.out.b 3
  have f4 := blk_frozen X3.out.b 4
  have hc := HC.out
  go_wp2_with fail
  clear hc f0 f1 f2 f3 f4 b0 b1 b2 b3 b4
  have X5 := Aside0.mk (X3.out.set (-d) 3 2 1 1 (-d) rfl)
  clear X3
  generalize w3.setCell _ _ = w5 at *
  have R5 := Aside0.mk (Kd.S_reads' X5.out.q)
  refine (admit_Verdict.calls k (some ⟨g, 0, none⟩) cap [(⟨0, 0, 10, 0, ([] : List Int), 0⟩ : S42)] (-d) 3 2 1 10 2 1 true 0 0 0 5 0 0 1400 _ R5.out.2.2 R5.out.2.1 P.out).mono ?_
  rintro e w6 ⟨rfl, hb⟩
  have X6 := Aside0.mk (X5.out.step hb)
  clear hb X5 R5
  have b0 : w6.cell? ⟨gb, 0, none⟩ = some (.slice (some ⟨g, 0, none⟩) 1 cap) := blk_cell X6.out.b 0
  have b1 : w6.cell? ⟨gb, 1, none⟩ = some (.int .i64 (-d)) := blk_cell X6.out.b 1
  have b2 : w6.cell? ⟨gb, 2, none⟩ = some (.int .i64 3) := blk_cell X6.out.b 2
  have b3 : w6.cell? ⟨gb, 3, none⟩ = some (.int .i64 2) := blk_cell X6.out.b 3
  have b4 : w6.cell? ⟨gb, 4, none⟩ = some (.int .i64 1) := blk_cell X6.out.b 4
  go_wp2_with fail
  clear b0 b1 b2 b3 b4
  have R6 := Aside0.mk (Kd.S_reads' X6.out.q)
  refine (admit_May.calls (some ⟨g, 0, none⟩) cap [(⟨0, 0, 10, 0, ([] : List Int), 0⟩ : S42)] (-d) 3 2 1 false _ R6.out.2.2 R6.out.2.1 Q.out).mono ?_
  rintro e w7 ⟨rfl, hb⟩
  have HB7 := Aside0.mk (below_step X6.out.below hb)
  clear hb X6 R6
  go_wp2_with fail
  refine (num_calls 1400 _).mono ?_
  rintro e w8 ⟨rfl, ⟨nd, rfl⟩⟩
  go_wp2_with fail
  refine (bournelaw14_count.calls 5 3 [(⟨0, 0, 10, 0, ([] : List Int), 0⟩ : S42)] 5 3 2 1 _ CT.out).mono ?_
  rintro e w9 ⟨v, rfl, hs, hb⟩
  obtain ⟨A9, c9, rfl, hl9, hr9⟩ := Kd.S_reads hs
  have R9 := Aside0.mk hr9
  have L9 := Aside0.mk hl9
  have HB9 := Aside0.mk (below_step (pw_below_drewN HB7.out _) hb)
  clear hb hs hl9 hr9 HB7
  go_wp2_with fail
  refine (admit_May.calls A9 c9 [(⟨0, 0, 10, 0, ([] : List Int), 0⟩ : S42)] 5 3 2 1 true _ R9.out L9.out G.out).mono ?_
  rintro e w10 ⟨rfl, hb⟩
  have HB10 := Aside0.mk (below_step HB9.out hb)
  clear hb
  go_wp2_with fail
  go_ret
  exact ⟨rfl, HB10.out⟩
set_option maxHeartbeats 4000000 in
set_option maxRecDepth 100000 in
theorem way4 (k : Nat) (a0 a1 d : Int) (w : World) (hc : Int.tmod (IntKind.u64.wrap a0) 15 = 4) (hd : Aside0 (wrap64 (1 + (Go.bits .and .i64 a1 1023)) = d)) (d1 : 1 ≤ d) (d2 : d ≤ 1024)
    (A : Aside0 (bournelaw14_awake.f k = some true)) (CT : Aside0 (bournelaw14_count.f 5 3 = some ([(⟨0, 0, 10, 0, ([] : List Int), 0⟩ : S42)], 5, 3, 2, 1)))
    (P : Aside0 (admit_Verdict.f k [(⟨0, 0, 10, 0, ([] : List Int), 0⟩ : S42)] (1073741824 + d) 3 2 1 10 2 1 true 0 0 0 5 0 = some (0, 1400))) (Q : Aside0 (admit_May.f [(⟨0, 0, 10, 0, ([] : List Int), 0⟩ : S42)] (1073741824 + d) 3 2 1 = some false)) (G : Aside0 (admit_May.f [(⟨0, 0, 10, 0, ([] : List Int), 0⟩ : S42)] 5 3 2 1 = some true)) :
    Calls Try.prog 4 #[.int .i64 a0, .int .i64 a1] w fun e w' => e = .returned (.bool true) ∧ Below w.heap.size w w' := by
  have HC := Aside0.mk hc
  clear hc
  go_enter Try.func4, Try.ntmps4
  go_wp2_with fail
  refine (bournelaw14_awake.calls k true _ A.out).mono ?_
  rintro e w1 ⟨rfl, hb1⟩
  have HB := Aside0.mk hb1
  clear hb1
  go_wp2_with fail
  rw [hd.out]
  refine (bournelaw14_count.calls 5 3 [(⟨0, 0, 10, 0, ([] : List Int), 0⟩ : S42)] 5 3 2 1 _ CT.out).mono ?_
  rintro e w2 ⟨v, rfl, hs, hb⟩
  obtain ⟨g, cap, rfl, hg1, hg2, cells, hg3⟩ := Kd.S_form hs Nat.zero_lt_one
  clear hg1 hg2 hg3
  have HS := Aside0.mk (Kd.S_lower hs HB.out.size)
  have HB2 := Aside0.mk (below_step HB.out hb)
  clear hs hb HB
  go_upto_region 7 with (fail)
  have X3 := Aside0.mk (Cx.new (late := 5) (room := 3) (series := 2) (sources := 1) (show Kd.S k42 42 w2 w.heap.size (fun _ => True) (.slice (some ⟨g, 0, none⟩) 1 cap) [(⟨0, 0, 10, 0, ([] : List Int), 0⟩ : S42)] from HS.out) HB2.out)
  clear HS HB2
  (try simp only [List.length_cons, List.length_nil, Nat.zero_add])
  generalize w2.heap.size = gb at *
  generalize w2.alloc _ = w3 at *
  have b0 : w3.cell? ⟨gb, 0, none⟩ = some (.slice (some ⟨g, 0, none⟩) 1 cap) := blk_cell X3.out.b 0
  have b1 : w3.cell? ⟨gb, 1, none⟩ = some (.int .i64 5) := blk_cell X3.out.b 1
  have b2 : w3.cell? ⟨gb, 2, none⟩ = some (.int .i64 3) := blk_cell X3.out.b 2
  have b3 : w3.cell? ⟨gb, 3, none⟩ = some (.int .i64 2) := blk_cell X3.out.b 3
  have b4 : w3.cell? ⟨gb, 4, none⟩ = some (.int .i64 1) := blk_cell X3.out.b 4
  have f0 := blk_frozen X3.out.b 0
  have f1 := blk_frozen X3.out.b 1
  have f2 := blk_frozen X3.out.b 2
  have f3 := blk_frozen X3.out.b 3
  have f4 := blk_frozen X3.out.b 4
  have hc := HC.out
  go_wp2_with fail
  clear hc f0 f1 f2 f3 f4 b0 b1 b2 b3 b4
  have X5 := Aside0.mk (X3.out.set (1073741824 + d) 3 2 1 1 (1073741824 + d) rfl)
  clear X3
  generalize w3.setCell _ _ = w5 at *
  have R5 := Aside0.mk (Kd.S_reads' X5.out.q)
  refine (admit_Verdict.calls k (some ⟨g, 0, none⟩) cap [(⟨0, 0, 10, 0, ([] : List Int), 0⟩ : S42)] (1073741824 + d) 3 2 1 10 2 1 true 0 0 0 5 0 0 1400 _ R5.out.2.2 R5.out.2.1 P.out).mono ?_
  rintro e w6 ⟨rfl, hb⟩
  have X6 := Aside0.mk (X5.out.step hb)
  clear hb X5 R5
  have b0 : w6.cell? ⟨gb, 0, none⟩ = some (.slice (some ⟨g, 0, none⟩) 1 cap) := blk_cell X6.out.b 0
  have b1 : w6.cell? ⟨gb, 1, none⟩ = some (.int .i64 (1073741824 + d)) := blk_cell X6.out.b 1
  have b2 : w6.cell? ⟨gb, 2, none⟩ = some (.int .i64 3) := blk_cell X6.out.b 2
  have b3 : w6.cell? ⟨gb, 3, none⟩ = some (.int .i64 2) := blk_cell X6.out.b 3
  have b4 : w6.cell? ⟨gb, 4, none⟩ = some (.int .i64 1) := blk_cell X6.out.b 4
  go_wp2_with fail
  clear b0 b1 b2 b3 b4
  have R6 := Aside0.mk (Kd.S_reads' X6.out.q)
  refine (admit_May.calls (some ⟨g, 0, none⟩) cap [(⟨0, 0, 10, 0, ([] : List Int), 0⟩ : S42)] (1073741824 + d) 3 2 1 false _ R6.out.2.2 R6.out.2.1 Q.out).mono ?_
  rintro e w7 ⟨rfl, hb⟩
  have HB7 := Aside0.mk (below_step X6.out.below hb)
  clear hb X6 R6
  go_wp2_with fail
  refine (num_calls 1400 _).mono ?_
  rintro e w8 ⟨rfl, ⟨nd, rfl⟩⟩
  go_wp2_with fail
  refine (bournelaw14_count.calls 5 3 [(⟨0, 0, 10, 0, ([] : List Int), 0⟩ : S42)] 5 3 2 1 _ CT.out).mono ?_
  rintro e w9 ⟨v, rfl, hs, hb⟩
  obtain ⟨A9, c9, rfl, hl9, hr9⟩ := Kd.S_reads hs
  have R9 := Aside0.mk hr9
  have L9 := Aside0.mk hl9
  have HB9 := Aside0.mk (below_step (pw_below_drewN HB7.out _) hb)
  clear hb hs hl9 hr9 HB7
  go_wp2_with fail
  refine (admit_May.calls A9 c9 [(⟨0, 0, 10, 0, ([] : List Int), 0⟩ : S42)] 5 3 2 1 true _ R9.out L9.out G.out).mono ?_
  rintro e w10 ⟨rfl, hb⟩
  have HB10 := Aside0.mk (below_step HB9.out hb)
  clear hb
  go_wp2_with fail
  go_ret
  exact ⟨rfl, HB10.out⟩
set_option maxHeartbeats 4000000 in
set_option maxRecDepth 100000 in
theorem way5 (k : Nat) (a0 a1 d : Int) (w : World) (hc : Int.tmod (IntKind.u64.wrap a0) 15 = 5) (hd : Aside0 (wrap64 (1 + (Go.bits .and .i64 a1 1023)) = d)) (d1 : 1 ≤ d) (d2 : d ≤ 1024)
    (A : Aside0 (bournelaw14_awake.f k = some true)) (CT : Aside0 (bournelaw14_count.f 5 3 = some ([(⟨0, 0, 10, 0, ([] : List Int), 0⟩ : S42)], 5, 3, 2, 1)))
    (P : Aside0 (admit_Verdict.f k [(⟨0, 0, 10, 0, ([] : List Int), 0⟩ : S42)] 5 (1 - d) 2 1 10 2 1 true 0 0 0 5 0 = some (0, 1400))) (Q : Aside0 (admit_May.f [(⟨0, 0, 10, 0, ([] : List Int), 0⟩ : S42)] 5 (1 - d) 2 1 = some false)) (G : Aside0 (admit_May.f [(⟨0, 0, 10, 0, ([] : List Int), 0⟩ : S42)] 5 3 2 1 = some true)) :
    Calls Try.prog 4 #[.int .i64 a0, .int .i64 a1] w fun e w' => e = .returned (.bool true) ∧ Below w.heap.size w w' := by
  have HC := Aside0.mk hc
  clear hc
  go_enter Try.func4, Try.ntmps4
  go_wp2_with fail
  refine (bournelaw14_awake.calls k true _ A.out).mono ?_
  rintro e w1 ⟨rfl, hb1⟩
  have HB := Aside0.mk hb1
  clear hb1
  go_wp2_with fail
  rw [hd.out]
  refine (bournelaw14_count.calls 5 3 [(⟨0, 0, 10, 0, ([] : List Int), 0⟩ : S42)] 5 3 2 1 _ CT.out).mono ?_
  rintro e w2 ⟨v, rfl, hs, hb⟩
  obtain ⟨g, cap, rfl, hg1, hg2, cells, hg3⟩ := Kd.S_form hs Nat.zero_lt_one
  clear hg1 hg2 hg3
  have HS := Aside0.mk (Kd.S_lower hs HB.out.size)
  have HB2 := Aside0.mk (below_step HB.out hb)
  clear hs hb HB
  go_upto_region 7 with (fail)
  have X3 := Aside0.mk (Cx.new (late := 5) (room := 3) (series := 2) (sources := 1) (show Kd.S k42 42 w2 w.heap.size (fun _ => True) (.slice (some ⟨g, 0, none⟩) 1 cap) [(⟨0, 0, 10, 0, ([] : List Int), 0⟩ : S42)] from HS.out) HB2.out)
  clear HS HB2
  (try simp only [List.length_cons, List.length_nil, Nat.zero_add])
  generalize w2.heap.size = gb at *
  generalize w2.alloc _ = w3 at *
  have b0 : w3.cell? ⟨gb, 0, none⟩ = some (.slice (some ⟨g, 0, none⟩) 1 cap) := blk_cell X3.out.b 0
  have b1 : w3.cell? ⟨gb, 1, none⟩ = some (.int .i64 5) := blk_cell X3.out.b 1
  have b2 : w3.cell? ⟨gb, 2, none⟩ = some (.int .i64 3) := blk_cell X3.out.b 2
  have b3 : w3.cell? ⟨gb, 3, none⟩ = some (.int .i64 2) := blk_cell X3.out.b 3
  have b4 : w3.cell? ⟨gb, 4, none⟩ = some (.int .i64 1) := blk_cell X3.out.b 4
  have f0 := blk_frozen X3.out.b 0
  have f1 := blk_frozen X3.out.b 1
  have f2 := blk_frozen X3.out.b 2
  have f3 := blk_frozen X3.out.b 3
  have f4 := blk_frozen X3.out.b 4
  have hc := HC.out
  go_wp2_with fail
  clear hc f0 f1 f2 f3 f4 b0 b1 b2 b3 b4
  have X5 := Aside0.mk (X3.out.set 5 (1 - d) 2 1 2 (1 - d) rfl)
  clear X3
  generalize w3.setCell _ _ = w5 at *
  have R5 := Aside0.mk (Kd.S_reads' X5.out.q)
  refine (admit_Verdict.calls k (some ⟨g, 0, none⟩) cap [(⟨0, 0, 10, 0, ([] : List Int), 0⟩ : S42)] 5 (1 - d) 2 1 10 2 1 true 0 0 0 5 0 0 1400 _ R5.out.2.2 R5.out.2.1 P.out).mono ?_
  rintro e w6 ⟨rfl, hb⟩
  have X6 := Aside0.mk (X5.out.step hb)
  clear hb X5 R5
  have b0 : w6.cell? ⟨gb, 0, none⟩ = some (.slice (some ⟨g, 0, none⟩) 1 cap) := blk_cell X6.out.b 0
  have b1 : w6.cell? ⟨gb, 1, none⟩ = some (.int .i64 5) := blk_cell X6.out.b 1
  have b2 : w6.cell? ⟨gb, 2, none⟩ = some (.int .i64 (1 - d)) := blk_cell X6.out.b 2
  have b3 : w6.cell? ⟨gb, 3, none⟩ = some (.int .i64 2) := blk_cell X6.out.b 3
  have b4 : w6.cell? ⟨gb, 4, none⟩ = some (.int .i64 1) := blk_cell X6.out.b 4
  go_wp2_with fail
  clear b0 b1 b2 b3 b4
  have R6 := Aside0.mk (Kd.S_reads' X6.out.q)
  refine (admit_May.calls (some ⟨g, 0, none⟩) cap [(⟨0, 0, 10, 0, ([] : List Int), 0⟩ : S42)] 5 (1 - d) 2 1 false _ R6.out.2.2 R6.out.2.1 Q.out).mono ?_
  rintro e w7 ⟨rfl, hb⟩
  have HB7 := Aside0.mk (below_step X6.out.below hb)
  clear hb X6 R6
  go_wp2_with fail
  refine (num_calls 1400 _).mono ?_
  rintro e w8 ⟨rfl, ⟨nd, rfl⟩⟩
  go_wp2_with fail
  refine (bournelaw14_count.calls 5 3 [(⟨0, 0, 10, 0, ([] : List Int), 0⟩ : S42)] 5 3 2 1 _ CT.out).mono ?_
  rintro e w9 ⟨v, rfl, hs, hb⟩
  obtain ⟨A9, c9, rfl, hl9, hr9⟩ := Kd.S_reads hs
  have R9 := Aside0.mk hr9
  have L9 := Aside0.mk hl9
  have HB9 := Aside0.mk (below_step (pw_below_drewN HB7.out _) hb)
  clear hb hs hl9 hr9 HB7
  go_wp2_with fail
  refine (admit_May.calls A9 c9 [(⟨0, 0, 10, 0, ([] : List Int), 0⟩ : S42)] 5 3 2 1 true _ R9.out L9.out G.out).mono ?_
  rintro e w10 ⟨rfl, hb⟩
  have HB10 := Aside0.mk (below_step HB9.out hb)
  clear hb
  go_wp2_with fail
  go_ret
  exact ⟨rfl, HB10.out⟩
set_option maxHeartbeats 4000000 in
set_option maxRecDepth 100000 in
theorem way6 (k : Nat) (a0 a1 d : Int) (w : World) (hc : Int.tmod (IntKind.u64.wrap a0) 15 = 6) (hd : Aside0 (wrap64 (1 + (Go.bits .and .i64 a1 1023)) = d)) (d1 : 1 ≤ d) (d2 : d ≤ 1024)
    (A : Aside0 (bournelaw14_awake.f k = some true)) (CT : Aside0 (bournelaw14_count.f 5 3 = some ([(⟨0, 0, 10, 0, ([] : List Int), 0⟩ : S42)], 5, 3, 2, 1)))
    (P : Aside0 (admit_Verdict.f k [(⟨0, 0, 10, 0, ([] : List Int), 0⟩ : S42)] 5 (4096 + d) 2 1 10 2 1 true 0 0 0 5 0 = some (0, 1400))) (Q : Aside0 (admit_May.f [(⟨0, 0, 10, 0, ([] : List Int), 0⟩ : S42)] 5 (4096 + d) 2 1 = some false)) (G : Aside0 (admit_May.f [(⟨0, 0, 10, 0, ([] : List Int), 0⟩ : S42)] 5 3 2 1 = some true)) :
    Calls Try.prog 4 #[.int .i64 a0, .int .i64 a1] w fun e w' => e = .returned (.bool true) ∧ Below w.heap.size w w' := by
  have HC := Aside0.mk hc
  clear hc
  go_enter Try.func4, Try.ntmps4
  go_wp2_with fail
  refine (bournelaw14_awake.calls k true _ A.out).mono ?_
  rintro e w1 ⟨rfl, hb1⟩
  have HB := Aside0.mk hb1
  clear hb1
  go_wp2_with fail
  rw [hd.out]
  refine (bournelaw14_count.calls 5 3 [(⟨0, 0, 10, 0, ([] : List Int), 0⟩ : S42)] 5 3 2 1 _ CT.out).mono ?_
  rintro e w2 ⟨v, rfl, hs, hb⟩
  obtain ⟨g, cap, rfl, hg1, hg2, cells, hg3⟩ := Kd.S_form hs Nat.zero_lt_one
  clear hg1 hg2 hg3
  have HS := Aside0.mk (Kd.S_lower hs HB.out.size)
  have HB2 := Aside0.mk (below_step HB.out hb)
  clear hs hb HB
  go_upto_region 7 with (fail)
  have X3 := Aside0.mk (Cx.new (late := 5) (room := 3) (series := 2) (sources := 1) (show Kd.S k42 42 w2 w.heap.size (fun _ => True) (.slice (some ⟨g, 0, none⟩) 1 cap) [(⟨0, 0, 10, 0, ([] : List Int), 0⟩ : S42)] from HS.out) HB2.out)
  clear HS HB2
  (try simp only [List.length_cons, List.length_nil, Nat.zero_add])
  generalize w2.heap.size = gb at *
  generalize w2.alloc _ = w3 at *
  have b0 : w3.cell? ⟨gb, 0, none⟩ = some (.slice (some ⟨g, 0, none⟩) 1 cap) := blk_cell X3.out.b 0
  have b1 : w3.cell? ⟨gb, 1, none⟩ = some (.int .i64 5) := blk_cell X3.out.b 1
  have b2 : w3.cell? ⟨gb, 2, none⟩ = some (.int .i64 3) := blk_cell X3.out.b 2
  have b3 : w3.cell? ⟨gb, 3, none⟩ = some (.int .i64 2) := blk_cell X3.out.b 3
  have b4 : w3.cell? ⟨gb, 4, none⟩ = some (.int .i64 1) := blk_cell X3.out.b 4
  have f0 := blk_frozen X3.out.b 0
  have f1 := blk_frozen X3.out.b 1
  have f2 := blk_frozen X3.out.b 2
  have f3 := blk_frozen X3.out.b 3
  have f4 := blk_frozen X3.out.b 4
  have hc := HC.out
  go_wp2_with fail
  clear hc f0 f1 f2 f3 f4 b0 b1 b2 b3 b4
  have X5 := Aside0.mk (X3.out.set 5 (4096 + d) 2 1 2 (4096 + d) rfl)
  clear X3
  generalize w3.setCell _ _ = w5 at *
  have R5 := Aside0.mk (Kd.S_reads' X5.out.q)
  refine (admit_Verdict.calls k (some ⟨g, 0, none⟩) cap [(⟨0, 0, 10, 0, ([] : List Int), 0⟩ : S42)] 5 (4096 + d) 2 1 10 2 1 true 0 0 0 5 0 0 1400 _ R5.out.2.2 R5.out.2.1 P.out).mono ?_
  rintro e w6 ⟨rfl, hb⟩
  have X6 := Aside0.mk (X5.out.step hb)
  clear hb X5 R5
  have b0 : w6.cell? ⟨gb, 0, none⟩ = some (.slice (some ⟨g, 0, none⟩) 1 cap) := blk_cell X6.out.b 0
  have b1 : w6.cell? ⟨gb, 1, none⟩ = some (.int .i64 5) := blk_cell X6.out.b 1
  have b2 : w6.cell? ⟨gb, 2, none⟩ = some (.int .i64 (4096 + d)) := blk_cell X6.out.b 2
  have b3 : w6.cell? ⟨gb, 3, none⟩ = some (.int .i64 2) := blk_cell X6.out.b 3
  have b4 : w6.cell? ⟨gb, 4, none⟩ = some (.int .i64 1) := blk_cell X6.out.b 4
  go_wp2_with fail
  clear b0 b1 b2 b3 b4
  have R6 := Aside0.mk (Kd.S_reads' X6.out.q)
  refine (admit_May.calls (some ⟨g, 0, none⟩) cap [(⟨0, 0, 10, 0, ([] : List Int), 0⟩ : S42)] 5 (4096 + d) 2 1 false _ R6.out.2.2 R6.out.2.1 Q.out).mono ?_
  rintro e w7 ⟨rfl, hb⟩
  have HB7 := Aside0.mk (below_step X6.out.below hb)
  clear hb X6 R6
  go_wp2_with fail
  refine (num_calls 1400 _).mono ?_
  rintro e w8 ⟨rfl, ⟨nd, rfl⟩⟩
  go_wp2_with fail
  refine (bournelaw14_count.calls 5 3 [(⟨0, 0, 10, 0, ([] : List Int), 0⟩ : S42)] 5 3 2 1 _ CT.out).mono ?_
  rintro e w9 ⟨v, rfl, hs, hb⟩
  obtain ⟨A9, c9, rfl, hl9, hr9⟩ := Kd.S_reads hs
  have R9 := Aside0.mk hr9
  have L9 := Aside0.mk hl9
  have HB9 := Aside0.mk (below_step (pw_below_drewN HB7.out _) hb)
  clear hb hs hl9 hr9 HB7
  go_wp2_with fail
  refine (admit_May.calls A9 c9 [(⟨0, 0, 10, 0, ([] : List Int), 0⟩ : S42)] 5 3 2 1 true _ R9.out L9.out G.out).mono ?_
  rintro e w10 ⟨rfl, hb⟩
  have HB10 := Aside0.mk (below_step HB9.out hb)
  clear hb
  go_wp2_with fail
  go_ret
  exact ⟨rfl, HB10.out⟩
set_option maxHeartbeats 4000000 in
set_option maxRecDepth 100000 in
theorem way7 (k : Nat) (a0 a1 d : Int) (w : World) (hc : Int.tmod (IntKind.u64.wrap a0) 15 = 7) (hd : Aside0 (wrap64 (1 + (Go.bits .and .i64 a1 1023)) = d)) (d1 : 1 ≤ d) (d2 : d ≤ 1024)
    (A : Aside0 (bournelaw14_awake.f k = some true)) (CT : Aside0 (bournelaw14_count.f 5 3 = some ([(⟨0, 0, 10, 0, ([] : List Int), 0⟩ : S42)], 5, 3, 2, 1)))
    (P : Aside0 (admit_Verdict.f k [(⟨0, 0, 10, 0, ([] : List Int), 0⟩ : S42)] 5 3 (1 - d) 1 10 2 1 true 0 0 0 5 0 = some (0, 1400))) (Q : Aside0 (admit_May.f [(⟨0, 0, 10, 0, ([] : List Int), 0⟩ : S42)] 5 3 (1 - d) 1 = some false)) (G : Aside0 (admit_May.f [(⟨0, 0, 10, 0, ([] : List Int), 0⟩ : S42)] 5 3 2 1 = some true)) :
    Calls Try.prog 4 #[.int .i64 a0, .int .i64 a1] w fun e w' => e = .returned (.bool true) ∧ Below w.heap.size w w' := by
  have HC := Aside0.mk hc
  clear hc
  go_enter Try.func4, Try.ntmps4
  go_wp2_with fail
  refine (bournelaw14_awake.calls k true _ A.out).mono ?_
  rintro e w1 ⟨rfl, hb1⟩
  have HB := Aside0.mk hb1
  clear hb1
  go_wp2_with fail
  rw [hd.out]
  refine (bournelaw14_count.calls 5 3 [(⟨0, 0, 10, 0, ([] : List Int), 0⟩ : S42)] 5 3 2 1 _ CT.out).mono ?_
  rintro e w2 ⟨v, rfl, hs, hb⟩
  obtain ⟨g, cap, rfl, hg1, hg2, cells, hg3⟩ := Kd.S_form hs Nat.zero_lt_one
  clear hg1 hg2 hg3
  have HS := Aside0.mk (Kd.S_lower hs HB.out.size)
  have HB2 := Aside0.mk (below_step HB.out hb)
  clear hs hb HB
  go_upto_region 7 with (fail)
  have X3 := Aside0.mk (Cx.new (late := 5) (room := 3) (series := 2) (sources := 1) (show Kd.S k42 42 w2 w.heap.size (fun _ => True) (.slice (some ⟨g, 0, none⟩) 1 cap) [(⟨0, 0, 10, 0, ([] : List Int), 0⟩ : S42)] from HS.out) HB2.out)
  clear HS HB2
  (try simp only [List.length_cons, List.length_nil, Nat.zero_add])
  generalize w2.heap.size = gb at *
  generalize w2.alloc _ = w3 at *
  have b0 : w3.cell? ⟨gb, 0, none⟩ = some (.slice (some ⟨g, 0, none⟩) 1 cap) := blk_cell X3.out.b 0
  have b1 : w3.cell? ⟨gb, 1, none⟩ = some (.int .i64 5) := blk_cell X3.out.b 1
  have b2 : w3.cell? ⟨gb, 2, none⟩ = some (.int .i64 3) := blk_cell X3.out.b 2
  have b3 : w3.cell? ⟨gb, 3, none⟩ = some (.int .i64 2) := blk_cell X3.out.b 3
  have b4 : w3.cell? ⟨gb, 4, none⟩ = some (.int .i64 1) := blk_cell X3.out.b 4
  have f0 := blk_frozen X3.out.b 0
  have f1 := blk_frozen X3.out.b 1
  have f2 := blk_frozen X3.out.b 2
  have f3 := blk_frozen X3.out.b 3
  have f4 := blk_frozen X3.out.b 4
  have hc := HC.out
  go_wp2_with fail
  clear hc f0 f1 f2 f3 f4 b0 b1 b2 b3 b4
  have X5 := Aside0.mk (X3.out.set 5 3 (1 - d) 1 3 (1 - d) rfl)
  clear X3
  generalize w3.setCell _ _ = w5 at *
  have R5 := Aside0.mk (Kd.S_reads' X5.out.q)
  refine (admit_Verdict.calls k (some ⟨g, 0, none⟩) cap [(⟨0, 0, 10, 0, ([] : List Int), 0⟩ : S42)] 5 3 (1 - d) 1 10 2 1 true 0 0 0 5 0 0 1400 _ R5.out.2.2 R5.out.2.1 P.out).mono ?_
  rintro e w6 ⟨rfl, hb⟩
  have X6 := Aside0.mk (X5.out.step hb)
  clear hb X5 R5
  have b0 : w6.cell? ⟨gb, 0, none⟩ = some (.slice (some ⟨g, 0, none⟩) 1 cap) := blk_cell X6.out.b 0
  have b1 : w6.cell? ⟨gb, 1, none⟩ = some (.int .i64 5) := blk_cell X6.out.b 1
  have b2 : w6.cell? ⟨gb, 2, none⟩ = some (.int .i64 3) := blk_cell X6.out.b 2
  have b3 : w6.cell? ⟨gb, 3, none⟩ = some (.int .i64 (1 - d)) := blk_cell X6.out.b 3
  have b4 : w6.cell? ⟨gb, 4, none⟩ = some (.int .i64 1) := blk_cell X6.out.b 4
  go_wp2_with fail
  clear b0 b1 b2 b3 b4
  have R6 := Aside0.mk (Kd.S_reads' X6.out.q)
  refine (admit_May.calls (some ⟨g, 0, none⟩) cap [(⟨0, 0, 10, 0, ([] : List Int), 0⟩ : S42)] 5 3 (1 - d) 1 false _ R6.out.2.2 R6.out.2.1 Q.out).mono ?_
  rintro e w7 ⟨rfl, hb⟩
  have HB7 := Aside0.mk (below_step X6.out.below hb)
  clear hb X6 R6
  go_wp2_with fail
  refine (num_calls 1400 _).mono ?_
  rintro e w8 ⟨rfl, ⟨nd, rfl⟩⟩
  go_wp2_with fail
  refine (bournelaw14_count.calls 5 3 [(⟨0, 0, 10, 0, ([] : List Int), 0⟩ : S42)] 5 3 2 1 _ CT.out).mono ?_
  rintro e w9 ⟨v, rfl, hs, hb⟩
  obtain ⟨A9, c9, rfl, hl9, hr9⟩ := Kd.S_reads hs
  have R9 := Aside0.mk hr9
  have L9 := Aside0.mk hl9
  have HB9 := Aside0.mk (below_step (pw_below_drewN HB7.out _) hb)
  clear hb hs hl9 hr9 HB7
  go_wp2_with fail
  refine (admit_May.calls A9 c9 [(⟨0, 0, 10, 0, ([] : List Int), 0⟩ : S42)] 5 3 2 1 true _ R9.out L9.out G.out).mono ?_
  rintro e w10 ⟨rfl, hb⟩
  have HB10 := Aside0.mk (below_step HB9.out hb)
  clear hb
  go_wp2_with fail
  go_ret
  exact ⟨rfl, HB10.out⟩
set_option maxHeartbeats 4000000 in
set_option maxRecDepth 100000 in
theorem way8 (k : Nat) (a0 a1 d : Int) (w : World) (hc : Int.tmod (IntKind.u64.wrap a0) 15 = 8) (hd : Aside0 (wrap64 (1 + (Go.bits .and .i64 a1 1023)) = d)) (d1 : 1 ≤ d) (d2 : d ≤ 1024)
    (A : Aside0 (bournelaw14_awake.f k = some true)) (CT : Aside0 (bournelaw14_count.f 5 3 = some ([(⟨0, 0, 10, 0, ([] : List Int), 0⟩ : S42)], 5, 3, 2, 1)))
    (P : Aside0 (admit_Verdict.f k [(⟨0, 0, 10, 0, ([] : List Int), 0⟩ : S42)] 5 3 (64 + d) 1 10 2 1 true 0 0 0 5 0 = some (0, 1400))) (Q : Aside0 (admit_May.f [(⟨0, 0, 10, 0, ([] : List Int), 0⟩ : S42)] 5 3 (64 + d) 1 = some false)) (G : Aside0 (admit_May.f [(⟨0, 0, 10, 0, ([] : List Int), 0⟩ : S42)] 5 3 2 1 = some true)) :
    Calls Try.prog 4 #[.int .i64 a0, .int .i64 a1] w fun e w' => e = .returned (.bool true) ∧ Below w.heap.size w w' := by
  have HC := Aside0.mk hc
  clear hc
  go_enter Try.func4, Try.ntmps4
  go_wp2_with fail
  refine (bournelaw14_awake.calls k true _ A.out).mono ?_
  rintro e w1 ⟨rfl, hb1⟩
  have HB := Aside0.mk hb1
  clear hb1
  go_wp2_with fail
  rw [hd.out]
  refine (bournelaw14_count.calls 5 3 [(⟨0, 0, 10, 0, ([] : List Int), 0⟩ : S42)] 5 3 2 1 _ CT.out).mono ?_
  rintro e w2 ⟨v, rfl, hs, hb⟩
  obtain ⟨g, cap, rfl, hg1, hg2, cells, hg3⟩ := Kd.S_form hs Nat.zero_lt_one
  clear hg1 hg2 hg3
  have HS := Aside0.mk (Kd.S_lower hs HB.out.size)
  have HB2 := Aside0.mk (below_step HB.out hb)
  clear hs hb HB
  go_upto_region 7 with (fail)
  have X3 := Aside0.mk (Cx.new (late := 5) (room := 3) (series := 2) (sources := 1) (show Kd.S k42 42 w2 w.heap.size (fun _ => True) (.slice (some ⟨g, 0, none⟩) 1 cap) [(⟨0, 0, 10, 0, ([] : List Int), 0⟩ : S42)] from HS.out) HB2.out)
  clear HS HB2
  (try simp only [List.length_cons, List.length_nil, Nat.zero_add])
  generalize w2.heap.size = gb at *
  generalize w2.alloc _ = w3 at *
  have b0 : w3.cell? ⟨gb, 0, none⟩ = some (.slice (some ⟨g, 0, none⟩) 1 cap) := blk_cell X3.out.b 0
  have b1 : w3.cell? ⟨gb, 1, none⟩ = some (.int .i64 5) := blk_cell X3.out.b 1
  have b2 : w3.cell? ⟨gb, 2, none⟩ = some (.int .i64 3) := blk_cell X3.out.b 2
  have b3 : w3.cell? ⟨gb, 3, none⟩ = some (.int .i64 2) := blk_cell X3.out.b 3
  have b4 : w3.cell? ⟨gb, 4, none⟩ = some (.int .i64 1) := blk_cell X3.out.b 4
  have f0 := blk_frozen X3.out.b 0
  have f1 := blk_frozen X3.out.b 1
  have f2 := blk_frozen X3.out.b 2
  have f3 := blk_frozen X3.out.b 3
  have f4 := blk_frozen X3.out.b 4
  have hc := HC.out
  go_wp2_with fail
  clear hc f0 f1 f2 f3 f4 b0 b1 b2 b3 b4
  have X5 := Aside0.mk (X3.out.set 5 3 (64 + d) 1 3 (64 + d) rfl)
  clear X3
  generalize w3.setCell _ _ = w5 at *
  have R5 := Aside0.mk (Kd.S_reads' X5.out.q)
  refine (admit_Verdict.calls k (some ⟨g, 0, none⟩) cap [(⟨0, 0, 10, 0, ([] : List Int), 0⟩ : S42)] 5 3 (64 + d) 1 10 2 1 true 0 0 0 5 0 0 1400 _ R5.out.2.2 R5.out.2.1 P.out).mono ?_
  rintro e w6 ⟨rfl, hb⟩
  have X6 := Aside0.mk (X5.out.step hb)
  clear hb X5 R5
  have b0 : w6.cell? ⟨gb, 0, none⟩ = some (.slice (some ⟨g, 0, none⟩) 1 cap) := blk_cell X6.out.b 0
  have b1 : w6.cell? ⟨gb, 1, none⟩ = some (.int .i64 5) := blk_cell X6.out.b 1
  have b2 : w6.cell? ⟨gb, 2, none⟩ = some (.int .i64 3) := blk_cell X6.out.b 2
  have b3 : w6.cell? ⟨gb, 3, none⟩ = some (.int .i64 (64 + d)) := blk_cell X6.out.b 3
  have b4 : w6.cell? ⟨gb, 4, none⟩ = some (.int .i64 1) := blk_cell X6.out.b 4
  go_wp2_with fail
  clear b0 b1 b2 b3 b4
  have R6 := Aside0.mk (Kd.S_reads' X6.out.q)
  refine (admit_May.calls (some ⟨g, 0, none⟩) cap [(⟨0, 0, 10, 0, ([] : List Int), 0⟩ : S42)] 5 3 (64 + d) 1 false _ R6.out.2.2 R6.out.2.1 Q.out).mono ?_
  rintro e w7 ⟨rfl, hb⟩
  have HB7 := Aside0.mk (below_step X6.out.below hb)
  clear hb X6 R6
  go_wp2_with fail
  refine (num_calls 1400 _).mono ?_
  rintro e w8 ⟨rfl, ⟨nd, rfl⟩⟩
  go_wp2_with fail
  refine (bournelaw14_count.calls 5 3 [(⟨0, 0, 10, 0, ([] : List Int), 0⟩ : S42)] 5 3 2 1 _ CT.out).mono ?_
  rintro e w9 ⟨v, rfl, hs, hb⟩
  obtain ⟨A9, c9, rfl, hl9, hr9⟩ := Kd.S_reads hs
  have R9 := Aside0.mk hr9
  have L9 := Aside0.mk hl9
  have HB9 := Aside0.mk (below_step (pw_below_drewN HB7.out _) hb)
  clear hb hs hl9 hr9 HB7
  go_wp2_with fail
  refine (admit_May.calls A9 c9 [(⟨0, 0, 10, 0, ([] : List Int), 0⟩ : S42)] 5 3 2 1 true _ R9.out L9.out G.out).mono ?_
  rintro e w10 ⟨rfl, hb⟩
  have HB10 := Aside0.mk (below_step HB9.out hb)
  clear hb
  go_wp2_with fail
  go_ret
  exact ⟨rfl, HB10.out⟩
set_option maxHeartbeats 4000000 in
set_option maxRecDepth 100000 in
theorem way9 (k : Nat) (a0 a1 d : Int) (w : World) (hc : Int.tmod (IntKind.u64.wrap a0) 15 = 9) (hd : Aside0 (wrap64 (1 + (Go.bits .and .i64 a1 1023)) = d)) (d1 : 1 ≤ d) (d2 : d ≤ 1024)
    (A : Aside0 (bournelaw14_awake.f k = some true)) (CT : Aside0 (bournelaw14_count.f 5 3 = some ([(⟨0, 0, 10, 0, ([] : List Int), 0⟩ : S42)], 5, 3, 2, 1)))
    (P : Aside0 (admit_Verdict.f k [(⟨0, 0, 10, 0, ([] : List Int), 0⟩ : S42)] 5 3 2 (1 - d) 10 2 1 true 0 0 0 5 0 = some (0, 1400))) (Q : Aside0 (admit_May.f [(⟨0, 0, 10, 0, ([] : List Int), 0⟩ : S42)] 5 3 2 (1 - d) = some false)) (G : Aside0 (admit_May.f [(⟨0, 0, 10, 0, ([] : List Int), 0⟩ : S42)] 5 3 2 1 = some true)) :
    Calls Try.prog 4 #[.int .i64 a0, .int .i64 a1] w fun e w' => e = .returned (.bool true) ∧ Below w.heap.size w w' := by
  have HC := Aside0.mk hc
  clear hc
  go_enter Try.func4, Try.ntmps4
  go_wp2_with fail
  refine (bournelaw14_awake.calls k true _ A.out).mono ?_
  rintro e w1 ⟨rfl, hb1⟩
  have HB := Aside0.mk hb1
  clear hb1
  go_wp2_with fail
  rw [hd.out]
  refine (bournelaw14_count.calls 5 3 [(⟨0, 0, 10, 0, ([] : List Int), 0⟩ : S42)] 5 3 2 1 _ CT.out).mono ?_
  rintro e w2 ⟨v, rfl, hs, hb⟩
  obtain ⟨g, cap, rfl, hg1, hg2, cells, hg3⟩ := Kd.S_form hs Nat.zero_lt_one
  clear hg1 hg2 hg3
  have HS := Aside0.mk (Kd.S_lower hs HB.out.size)
  have HB2 := Aside0.mk (below_step HB.out hb)
  clear hs hb HB
  go_upto_region 7 with (fail)
  have X3 := Aside0.mk (Cx.new (late := 5) (room := 3) (series := 2) (sources := 1) (show Kd.S k42 42 w2 w.heap.size (fun _ => True) (.slice (some ⟨g, 0, none⟩) 1 cap) [(⟨0, 0, 10, 0, ([] : List Int), 0⟩ : S42)] from HS.out) HB2.out)
  clear HS HB2
  (try simp only [List.length_cons, List.length_nil, Nat.zero_add])
  generalize w2.heap.size = gb at *
  generalize w2.alloc _ = w3 at *
  have b0 : w3.cell? ⟨gb, 0, none⟩ = some (.slice (some ⟨g, 0, none⟩) 1 cap) := blk_cell X3.out.b 0
  have b1 : w3.cell? ⟨gb, 1, none⟩ = some (.int .i64 5) := blk_cell X3.out.b 1
  have b2 : w3.cell? ⟨gb, 2, none⟩ = some (.int .i64 3) := blk_cell X3.out.b 2
  have b3 : w3.cell? ⟨gb, 3, none⟩ = some (.int .i64 2) := blk_cell X3.out.b 3
  have b4 : w3.cell? ⟨gb, 4, none⟩ = some (.int .i64 1) := blk_cell X3.out.b 4
  have f0 := blk_frozen X3.out.b 0
  have f1 := blk_frozen X3.out.b 1
  have f2 := blk_frozen X3.out.b 2
  have f3 := blk_frozen X3.out.b 3
  have f4 := blk_frozen X3.out.b 4
  have hc := HC.out
  go_wp2_with fail
  clear hc f0 f1 f2 f3 f4 b0 b1 b2 b3 b4
  have X5 := Aside0.mk (X3.out.set 5 3 2 (1 - d) 4 (1 - d) rfl)
  clear X3
  generalize w3.setCell _ _ = w5 at *
  have R5 := Aside0.mk (Kd.S_reads' X5.out.q)
  refine (admit_Verdict.calls k (some ⟨g, 0, none⟩) cap [(⟨0, 0, 10, 0, ([] : List Int), 0⟩ : S42)] 5 3 2 (1 - d) 10 2 1 true 0 0 0 5 0 0 1400 _ R5.out.2.2 R5.out.2.1 P.out).mono ?_
  rintro e w6 ⟨rfl, hb⟩
  have X6 := Aside0.mk (X5.out.step hb)
  clear hb X5 R5
  have b0 : w6.cell? ⟨gb, 0, none⟩ = some (.slice (some ⟨g, 0, none⟩) 1 cap) := blk_cell X6.out.b 0
  have b1 : w6.cell? ⟨gb, 1, none⟩ = some (.int .i64 5) := blk_cell X6.out.b 1
  have b2 : w6.cell? ⟨gb, 2, none⟩ = some (.int .i64 3) := blk_cell X6.out.b 2
  have b3 : w6.cell? ⟨gb, 3, none⟩ = some (.int .i64 2) := blk_cell X6.out.b 3
  have b4 : w6.cell? ⟨gb, 4, none⟩ = some (.int .i64 (1 - d)) := blk_cell X6.out.b 4
  go_wp2_with fail
  clear b0 b1 b2 b3 b4
  have R6 := Aside0.mk (Kd.S_reads' X6.out.q)
  refine (admit_May.calls (some ⟨g, 0, none⟩) cap [(⟨0, 0, 10, 0, ([] : List Int), 0⟩ : S42)] 5 3 2 (1 - d) false _ R6.out.2.2 R6.out.2.1 Q.out).mono ?_
  rintro e w7 ⟨rfl, hb⟩
  have HB7 := Aside0.mk (below_step X6.out.below hb)
  clear hb X6 R6
  go_wp2_with fail
  refine (num_calls 1400 _).mono ?_
  rintro e w8 ⟨rfl, ⟨nd, rfl⟩⟩
  go_wp2_with fail
  refine (bournelaw14_count.calls 5 3 [(⟨0, 0, 10, 0, ([] : List Int), 0⟩ : S42)] 5 3 2 1 _ CT.out).mono ?_
  rintro e w9 ⟨v, rfl, hs, hb⟩
  obtain ⟨A9, c9, rfl, hl9, hr9⟩ := Kd.S_reads hs
  have R9 := Aside0.mk hr9
  have L9 := Aside0.mk hl9
  have HB9 := Aside0.mk (below_step (pw_below_drewN HB7.out _) hb)
  clear hb hs hl9 hr9 HB7
  go_wp2_with fail
  refine (admit_May.calls A9 c9 [(⟨0, 0, 10, 0, ([] : List Int), 0⟩ : S42)] 5 3 2 1 true _ R9.out L9.out G.out).mono ?_
  rintro e w10 ⟨rfl, hb⟩
  have HB10 := Aside0.mk (below_step HB9.out hb)
  clear hb
  go_wp2_with fail
  go_ret
  exact ⟨rfl, HB10.out⟩
set_option maxHeartbeats 4000000 in
set_option maxRecDepth 100000 in
theorem way10 (k : Nat) (a0 a1 d : Int) (w : World) (hc : Int.tmod (IntKind.u64.wrap a0) 15 = 10) (hd : Aside0 (wrap64 (1 + (Go.bits .and .i64 a1 1023)) = d)) (d1 : 1 ≤ d) (d2 : d ≤ 1024)
    (A : Aside0 (bournelaw14_awake.f k = some true)) (CT : Aside0 (bournelaw14_count.f 5 3 = some ([(⟨0, 0, 10, 0, ([] : List Int), 0⟩ : S42)], 5, 3, 2, 1)))
    (P : Aside0 (admit_Verdict.f k [(⟨0, 0, 10, 0, ([] : List Int), 0⟩ : S42)] 5 3 2 (8 + d) 10 2 1 true 0 0 0 5 0 = some (0, 1400))) (Q : Aside0 (admit_May.f [(⟨0, 0, 10, 0, ([] : List Int), 0⟩ : S42)] 5 3 2 (8 + d) = some false)) (G : Aside0 (admit_May.f [(⟨0, 0, 10, 0, ([] : List Int), 0⟩ : S42)] 5 3 2 1 = some true)) :
    Calls Try.prog 4 #[.int .i64 a0, .int .i64 a1] w fun e w' => e = .returned (.bool true) ∧ Below w.heap.size w w' := by
  have HC := Aside0.mk hc
  clear hc
  go_enter Try.func4, Try.ntmps4
  go_wp2_with fail
  refine (bournelaw14_awake.calls k true _ A.out).mono ?_
  rintro e w1 ⟨rfl, hb1⟩
  have HB := Aside0.mk hb1
  clear hb1
  go_wp2_with fail
  rw [hd.out]
  refine (bournelaw14_count.calls 5 3 [(⟨0, 0, 10, 0, ([] : List Int), 0⟩ : S42)] 5 3 2 1 _ CT.out).mono ?_
  rintro e w2 ⟨v, rfl, hs, hb⟩
  obtain ⟨g, cap, rfl, hg1, hg2, cells, hg3⟩ := Kd.S_form hs Nat.zero_lt_one
  clear hg1 hg2 hg3
  have HS := Aside0.mk (Kd.S_lower hs HB.out.size)
  have HB2 := Aside0.mk (below_step HB.out hb)
  clear hs hb HB
  go_upto_region 7 with (fail)
  have X3 := Aside0.mk (Cx.new (late := 5) (room := 3) (series := 2) (sources := 1) (show Kd.S k42 42 w2 w.heap.size (fun _ => True) (.slice (some ⟨g, 0, none⟩) 1 cap) [(⟨0, 0, 10, 0, ([] : List Int), 0⟩ : S42)] from HS.out) HB2.out)
  clear HS HB2
  (try simp only [List.length_cons, List.length_nil, Nat.zero_add])
  generalize w2.heap.size = gb at *
  generalize w2.alloc _ = w3 at *
  have b0 : w3.cell? ⟨gb, 0, none⟩ = some (.slice (some ⟨g, 0, none⟩) 1 cap) := blk_cell X3.out.b 0
  have b1 : w3.cell? ⟨gb, 1, none⟩ = some (.int .i64 5) := blk_cell X3.out.b 1
  have b2 : w3.cell? ⟨gb, 2, none⟩ = some (.int .i64 3) := blk_cell X3.out.b 2
  have b3 : w3.cell? ⟨gb, 3, none⟩ = some (.int .i64 2) := blk_cell X3.out.b 3
  have b4 : w3.cell? ⟨gb, 4, none⟩ = some (.int .i64 1) := blk_cell X3.out.b 4
  have f0 := blk_frozen X3.out.b 0
  have f1 := blk_frozen X3.out.b 1
  have f2 := blk_frozen X3.out.b 2
  have f3 := blk_frozen X3.out.b 3
  have f4 := blk_frozen X3.out.b 4
  have hc := HC.out
  go_wp2_with fail
  clear hc f0 f1 f2 f3 f4 b0 b1 b2 b3 b4
  have X5 := Aside0.mk (X3.out.set 5 3 2 (8 + d) 4 (8 + d) rfl)
  clear X3
  generalize w3.setCell _ _ = w5 at *
  have R5 := Aside0.mk (Kd.S_reads' X5.out.q)
  refine (admit_Verdict.calls k (some ⟨g, 0, none⟩) cap [(⟨0, 0, 10, 0, ([] : List Int), 0⟩ : S42)] 5 3 2 (8 + d) 10 2 1 true 0 0 0 5 0 0 1400 _ R5.out.2.2 R5.out.2.1 P.out).mono ?_
  rintro e w6 ⟨rfl, hb⟩
  have X6 := Aside0.mk (X5.out.step hb)
  clear hb X5 R5
  have b0 : w6.cell? ⟨gb, 0, none⟩ = some (.slice (some ⟨g, 0, none⟩) 1 cap) := blk_cell X6.out.b 0
  have b1 : w6.cell? ⟨gb, 1, none⟩ = some (.int .i64 5) := blk_cell X6.out.b 1
  have b2 : w6.cell? ⟨gb, 2, none⟩ = some (.int .i64 3) := blk_cell X6.out.b 2
  have b3 : w6.cell? ⟨gb, 3, none⟩ = some (.int .i64 2) := blk_cell X6.out.b 3
  have b4 : w6.cell? ⟨gb, 4, none⟩ = some (.int .i64 (8 + d)) := blk_cell X6.out.b 4
  go_wp2_with fail
  clear b0 b1 b2 b3 b4
  have R6 := Aside0.mk (Kd.S_reads' X6.out.q)
  refine (admit_May.calls (some ⟨g, 0, none⟩) cap [(⟨0, 0, 10, 0, ([] : List Int), 0⟩ : S42)] 5 3 2 (8 + d) false _ R6.out.2.2 R6.out.2.1 Q.out).mono ?_
  rintro e w7 ⟨rfl, hb⟩
  have HB7 := Aside0.mk (below_step X6.out.below hb)
  clear hb X6 R6
  go_wp2_with fail
  refine (num_calls 1400 _).mono ?_
  rintro e w8 ⟨rfl, ⟨nd, rfl⟩⟩
  go_wp2_with fail
  refine (bournelaw14_count.calls 5 3 [(⟨0, 0, 10, 0, ([] : List Int), 0⟩ : S42)] 5 3 2 1 _ CT.out).mono ?_
  rintro e w9 ⟨v, rfl, hs, hb⟩
  obtain ⟨A9, c9, rfl, hl9, hr9⟩ := Kd.S_reads hs
  have R9 := Aside0.mk hr9
  have L9 := Aside0.mk hl9
  have HB9 := Aside0.mk (below_step (pw_below_drewN HB7.out _) hb)
  clear hb hs hl9 hr9 HB7
  go_wp2_with fail
  refine (admit_May.calls A9 c9 [(⟨0, 0, 10, 0, ([] : List Int), 0⟩ : S42)] 5 3 2 1 true _ R9.out L9.out G.out).mono ?_
  rintro e w10 ⟨rfl, hb⟩
  have HB10 := Aside0.mk (below_step HB9.out hb)
  clear hb
  go_wp2_with fail
  go_ret
  exact ⟨rfl, HB10.out⟩
set_option maxHeartbeats 4000000 in
set_option maxRecDepth 100000 in
theorem way11 (k : Nat) (a0 a1 d : Int) (w : World) (hc : Int.tmod (IntKind.u64.wrap a0) 15 = 11) (hd : Aside0 (wrap64 (1 + (Go.bits .and .i64 a1 1023)) = d)) (d1 : 1 ≤ d) (d2 : d ≤ 1024)
    (A : Aside0 (bournelaw14_awake.f k = some true)) (CT : Aside0 (bournelaw14_count.f 5 3 = some ([(⟨0, 0, 10, 0, ([] : List Int), 0⟩ : S42)], 5, 3, 2, 1)))
    (P : Aside0 (admit_Verdict.f k [(⟨0, 0, 10, 0, ([] : List Int), 0⟩ : S42)] 5 3 2 1 (-4398046511104 - d) 2 1 true 0 0 0 5 0 = some (0, 1400))) (Q : Aside0 (admit_May.f [(⟨0, 0, 10, 0, ([] : List Int), 0⟩ : S42)] 5 3 2 1 = some true)) (G : Aside0 (admit_May.f [(⟨0, 0, 10, 0, ([] : List Int), 0⟩ : S42)] 5 3 2 1 = some true)) :
    Calls Try.prog 4 #[.int .i64 a0, .int .i64 a1] w fun e w' => e = .returned (.bool true) ∧ Below w.heap.size w w' := by
  have HC := Aside0.mk hc
  clear hc
  go_enter Try.func4, Try.ntmps4
  go_wp2_with fail
  refine (bournelaw14_awake.calls k true _ A.out).mono ?_
  rintro e w1 ⟨rfl, hb1⟩
  have HB := Aside0.mk hb1
  clear hb1
  go_wp2_with fail
  rw [hd.out]
  refine (bournelaw14_count.calls 5 3 [(⟨0, 0, 10, 0, ([] : List Int), 0⟩ : S42)] 5 3 2 1 _ CT.out).mono ?_
  rintro e w2 ⟨v, rfl, hs, hb⟩
  obtain ⟨g, cap, rfl, hg1, hg2, cells, hg3⟩ := Kd.S_form hs Nat.zero_lt_one
  clear hg1 hg2 hg3
  have HS := Aside0.mk (Kd.S_lower hs HB.out.size)
  have HB2 := Aside0.mk (below_step HB.out hb)
  clear hs hb HB
  go_upto_region 7 with (fail)
  have X3 := Aside0.mk (Cx.new (late := 5) (room := 3) (series := 2) (sources := 1) (show Kd.S k42 42 w2 w.heap.size (fun _ => True) (.slice (some ⟨g, 0, none⟩) 1 cap) [(⟨0, 0, 10, 0, ([] : List Int), 0⟩ : S42)] from HS.out) HB2.out)
  clear HS HB2
  (try simp only [List.length_cons, List.length_nil, Nat.zero_add])
  generalize w2.heap.size = gb at *
  generalize w2.alloc _ = w3 at *
  have b0 : w3.cell? ⟨gb, 0, none⟩ = some (.slice (some ⟨g, 0, none⟩) 1 cap) := blk_cell X3.out.b 0
  have b1 : w3.cell? ⟨gb, 1, none⟩ = some (.int .i64 5) := blk_cell X3.out.b 1
  have b2 : w3.cell? ⟨gb, 2, none⟩ = some (.int .i64 3) := blk_cell X3.out.b 2
  have b3 : w3.cell? ⟨gb, 3, none⟩ = some (.int .i64 2) := blk_cell X3.out.b 3
  have b4 : w3.cell? ⟨gb, 4, none⟩ = some (.int .i64 1) := blk_cell X3.out.b 4
  have f0 := blk_frozen X3.out.b 0
  have f1 := blk_frozen X3.out.b 1
  have f2 := blk_frozen X3.out.b 2
  have f3 := blk_frozen X3.out.b 3
  have f4 := blk_frozen X3.out.b 4
  have hc := HC.out
  go_wp2_with fail
  clear hc f0 f1 f2 f3 f4 b0 b1 b2 b3 b4
  have X5 := X3
  clear X3
  have R5 := Aside0.mk (Kd.S_reads' X5.out.q)
  refine (admit_Verdict.calls k (some ⟨g, 0, none⟩) cap [(⟨0, 0, 10, 0, ([] : List Int), 0⟩ : S42)] 5 3 2 1 (-4398046511104 - d) 2 1 true 0 0 0 5 0 0 1400 _ R5.out.2.2 R5.out.2.1 P.out).mono ?_
  rintro e w6 ⟨rfl, hb⟩
  have X6 := Aside0.mk (X5.out.step hb)
  clear hb X5 R5
  have b0 : w6.cell? ⟨gb, 0, none⟩ = some (.slice (some ⟨g, 0, none⟩) 1 cap) := blk_cell X6.out.b 0
  have b1 : w6.cell? ⟨gb, 1, none⟩ = some (.int .i64 5) := blk_cell X6.out.b 1
  have b2 : w6.cell? ⟨gb, 2, none⟩ = some (.int .i64 3) := blk_cell X6.out.b 2
  have b3 : w6.cell? ⟨gb, 3, none⟩ = some (.int .i64 2) := blk_cell X6.out.b 3
  have b4 : w6.cell? ⟨gb, 4, none⟩ = some (.int .i64 1) := blk_cell X6.out.b 4
  go_wp2_with fail
  clear b0 b1 b2 b3 b4
  have R6 := Aside0.mk (Kd.S_reads' X6.out.q)
  refine (admit_May.calls (some ⟨g, 0, none⟩) cap [(⟨0, 0, 10, 0, ([] : List Int), 0⟩ : S42)] 5 3 2 1 true _ R6.out.2.2 R6.out.2.1 Q.out).mono ?_
  rintro e w7 ⟨rfl, hb⟩
  have HB7 := Aside0.mk (below_step X6.out.below hb)
  clear hb X6 R6
  go_wp2_with fail
  refine (num_calls 1400 _).mono ?_
  rintro e w8 ⟨rfl, ⟨nd, rfl⟩⟩
  go_wp2_with fail
  refine (bournelaw14_count.calls 5 3 [(⟨0, 0, 10, 0, ([] : List Int), 0⟩ : S42)] 5 3 2 1 _ CT.out).mono ?_
  rintro e w9 ⟨v, rfl, hs, hb⟩
  obtain ⟨A9, c9, rfl, hl9, hr9⟩ := Kd.S_reads hs
  have R9 := Aside0.mk hr9
  have L9 := Aside0.mk hl9
  have HB9 := Aside0.mk (below_step (pw_below_drewN HB7.out _) hb)
  clear hb hs hl9 hr9 HB7
  go_wp2_with fail
  refine (admit_May.calls A9 c9 [(⟨0, 0, 10, 0, ([] : List Int), 0⟩ : S42)] 5 3 2 1 true _ R9.out L9.out G.out).mono ?_
  rintro e w10 ⟨rfl, hb⟩
  have HB10 := Aside0.mk (below_step HB9.out hb)
  clear hb
  go_wp2_with fail
  go_ret
  exact ⟨rfl, HB10.out⟩
set_option maxHeartbeats 4000000 in
set_option maxRecDepth 100000 in
theorem way12 (k : Nat) (a0 a1 d : Int) (w : World) (hc : Int.tmod (IntKind.u64.wrap a0) 15 = 12) (hd : Aside0 (wrap64 (1 + (Go.bits .and .i64 a1 1023)) = d)) (d1 : 1 ≤ d) (d2 : d ≤ 1024)
    (A : Aside0 (bournelaw14_awake.f k = some true)) (CT : Aside0 (bournelaw14_count.f 5 3 = some ([(⟨0, 0, 10, 0, ([] : List Int), 0⟩ : S42)], 5, 3, 2, 1)))
    (P : Aside0 (admit_Verdict.f k [(⟨0, 0, 10, 0, ([] : List Int), 0⟩ : S42)] 5 3 2 1 (4398046511104 + d) 2 1 true 0 0 0 5 0 = some (0, 1400))) (Q : Aside0 (admit_May.f [(⟨0, 0, 10, 0, ([] : List Int), 0⟩ : S42)] 5 3 2 1 = some true)) (G : Aside0 (admit_May.f [(⟨0, 0, 10, 0, ([] : List Int), 0⟩ : S42)] 5 3 2 1 = some true)) :
    Calls Try.prog 4 #[.int .i64 a0, .int .i64 a1] w fun e w' => e = .returned (.bool true) ∧ Below w.heap.size w w' := by
  have HC := Aside0.mk hc
  clear hc
  go_enter Try.func4, Try.ntmps4
  go_wp2_with fail
  refine (bournelaw14_awake.calls k true _ A.out).mono ?_
  rintro e w1 ⟨rfl, hb1⟩
  have HB := Aside0.mk hb1
  clear hb1
  go_wp2_with fail
  rw [hd.out]
  refine (bournelaw14_count.calls 5 3 [(⟨0, 0, 10, 0, ([] : List Int), 0⟩ : S42)] 5 3 2 1 _ CT.out).mono ?_
  rintro e w2 ⟨v, rfl, hs, hb⟩
  obtain ⟨g, cap, rfl, hg1, hg2, cells, hg3⟩ := Kd.S_form hs Nat.zero_lt_one
  clear hg1 hg2 hg3
  have HS := Aside0.mk (Kd.S_lower hs HB.out.size)
  have HB2 := Aside0.mk (below_step HB.out hb)
  clear hs hb HB
  go_upto_region 7 with (fail)
  have X3 := Aside0.mk (Cx.new (late := 5) (room := 3) (series := 2) (sources := 1) (show Kd.S k42 42 w2 w.heap.size (fun _ => True) (.slice (some ⟨g, 0, none⟩) 1 cap) [(⟨0, 0, 10, 0, ([] : List Int), 0⟩ : S42)] from HS.out) HB2.out)
  clear HS HB2
  (try simp only [List.length_cons, List.length_nil, Nat.zero_add])
  generalize w2.heap.size = gb at *
  generalize w2.alloc _ = w3 at *
  have b0 : w3.cell? ⟨gb, 0, none⟩ = some (.slice (some ⟨g, 0, none⟩) 1 cap) := blk_cell X3.out.b 0
  have b1 : w3.cell? ⟨gb, 1, none⟩ = some (.int .i64 5) := blk_cell X3.out.b 1
  have b2 : w3.cell? ⟨gb, 2, none⟩ = some (.int .i64 3) := blk_cell X3.out.b 2
  have b3 : w3.cell? ⟨gb, 3, none⟩ = some (.int .i64 2) := blk_cell X3.out.b 3
  have b4 : w3.cell? ⟨gb, 4, none⟩ = some (.int .i64 1) := blk_cell X3.out.b 4
  have f0 := blk_frozen X3.out.b 0
  have f1 := blk_frozen X3.out.b 1
  have f2 := blk_frozen X3.out.b 2
  have f3 := blk_frozen X3.out.b 3
  have f4 := blk_frozen X3.out.b 4
  have hc := HC.out
  go_wp2_with fail
  clear hc f0 f1 f2 f3 f4 b0 b1 b2 b3 b4
  have X5 := X3
  clear X3
  have R5 := Aside0.mk (Kd.S_reads' X5.out.q)
  refine (admit_Verdict.calls k (some ⟨g, 0, none⟩) cap [(⟨0, 0, 10, 0, ([] : List Int), 0⟩ : S42)] 5 3 2 1 (4398046511104 + d) 2 1 true 0 0 0 5 0 0 1400 _ R5.out.2.2 R5.out.2.1 P.out).mono ?_
  rintro e w6 ⟨rfl, hb⟩
  have X6 := Aside0.mk (X5.out.step hb)
  clear hb X5 R5
  have b0 : w6.cell? ⟨gb, 0, none⟩ = some (.slice (some ⟨g, 0, none⟩) 1 cap) := blk_cell X6.out.b 0
  have b1 : w6.cell? ⟨gb, 1, none⟩ = some (.int .i64 5) := blk_cell X6.out.b 1
  have b2 : w6.cell? ⟨gb, 2, none⟩ = some (.int .i64 3) := blk_cell X6.out.b 2
  have b3 : w6.cell? ⟨gb, 3, none⟩ = some (.int .i64 2) := blk_cell X6.out.b 3
  have b4 : w6.cell? ⟨gb, 4, none⟩ = some (.int .i64 1) := blk_cell X6.out.b 4
  go_wp2_with fail
  clear b0 b1 b2 b3 b4
  have R6 := Aside0.mk (Kd.S_reads' X6.out.q)
  refine (admit_May.calls (some ⟨g, 0, none⟩) cap [(⟨0, 0, 10, 0, ([] : List Int), 0⟩ : S42)] 5 3 2 1 true _ R6.out.2.2 R6.out.2.1 Q.out).mono ?_
  rintro e w7 ⟨rfl, hb⟩
  have HB7 := Aside0.mk (below_step X6.out.below hb)
  clear hb X6 R6
  go_wp2_with fail
  refine (num_calls 1400 _).mono ?_
  rintro e w8 ⟨rfl, ⟨nd, rfl⟩⟩
  go_wp2_with fail
  refine (bournelaw14_count.calls 5 3 [(⟨0, 0, 10, 0, ([] : List Int), 0⟩ : S42)] 5 3 2 1 _ CT.out).mono ?_
  rintro e w9 ⟨v, rfl, hs, hb⟩
  obtain ⟨A9, c9, rfl, hl9, hr9⟩ := Kd.S_reads hs
  have R9 := Aside0.mk hr9
  have L9 := Aside0.mk hl9
  have HB9 := Aside0.mk (below_step (pw_below_drewN HB7.out _) hb)
  clear hb hs hl9 hr9 HB7
  go_wp2_with fail
  refine (admit_May.calls A9 c9 [(⟨0, 0, 10, 0, ([] : List Int), 0⟩ : S42)] 5 3 2 1 true _ R9.out L9.out G.out).mono ?_
  rintro e w10 ⟨rfl, hb⟩
  have HB10 := Aside0.mk (below_step HB9.out hb)
  clear hb
  go_wp2_with fail
  go_ret
  exact ⟨rfl, HB10.out⟩
set_option maxHeartbeats 4000000 in
set_option maxRecDepth 100000 in
theorem way13 (k : Nat) (a0 a1 d : Int) (w : World) (hc : Int.tmod (IntKind.u64.wrap a0) 15 = 13) (hd : Aside0 (wrap64 (1 + (Go.bits .and .i64 a1 1023)) = d)) (d1 : 1 ≤ d) (d2 : d ≤ 1024)
    (A : Aside0 (bournelaw14_awake.f k = some true)) (CT : Aside0 (bournelaw14_count.f 5 3 = some ([(⟨0, 0, 10, 0, ([] : List Int), 0⟩ : S42)], 5, 3, 2, 1)))
    (P : Aside0 (admit_Verdict.f k [(⟨0, 0, 10, 0, ([] : List Int), 0⟩ : S42)] 5 3 2 1 10 (-d) 1 true 0 0 0 5 0 = some (0, 1400))) (Q : Aside0 (admit_May.f [(⟨0, 0, 10, 0, ([] : List Int), 0⟩ : S42)] 5 3 2 1 = some true)) (G : Aside0 (admit_May.f [(⟨0, 0, 10, 0, ([] : List Int), 0⟩ : S42)] 5 3 2 1 = some true)) :
    Calls Try.prog 4 #[.int .i64 a0, .int .i64 a1] w fun e w' => e = .returned (.bool true) ∧ Below w.heap.size w w' := by
  have HC := Aside0.mk hc
  clear hc
  go_enter Try.func4, Try.ntmps4
  go_wp2_with fail
  refine (bournelaw14_awake.calls k true _ A.out).mono ?_
  rintro e w1 ⟨rfl, hb1⟩
  have HB := Aside0.mk hb1
  clear hb1
  go_wp2_with fail
  rw [hd.out]
  refine (bournelaw14_count.calls 5 3 [(⟨0, 0, 10, 0, ([] : List Int), 0⟩ : S42)] 5 3 2 1 _ CT.out).mono ?_
  rintro e w2 ⟨v, rfl, hs, hb⟩
  obtain ⟨g, cap, rfl, hg1, hg2, cells, hg3⟩ := Kd.S_form hs Nat.zero_lt_one
  clear hg1 hg2 hg3
  have HS := Aside0.mk (Kd.S_lower hs HB.out.size)
  have HB2 := Aside0.mk (below_step HB.out hb)
  clear hs hb HB
  go_upto_region 7 with (fail)
  have X3 := Aside0.mk (Cx.new (late := 5) (room := 3) (series := 2) (sources := 1) (show Kd.S k42 42 w2 w.heap.size (fun _ => True) (.slice (some ⟨g, 0, none⟩) 1 cap) [(⟨0, 0, 10, 0, ([] : List Int), 0⟩ : S42)] from HS.out) HB2.out)
  clear HS HB2
  (try simp only [List.length_cons, List.length_nil, Nat.zero_add])
  generalize w2.heap.size = gb at *
  generalize w2.alloc _ = w3 at *
  have b0 : w3.cell? ⟨gb, 0, none⟩ = some (.slice (some ⟨g, 0, none⟩) 1 cap) := blk_cell X3.out.b 0
  have b1 : w3.cell? ⟨gb, 1, none⟩ = some (.int .i64 5) := blk_cell X3.out.b 1
  have b2 : w3.cell? ⟨gb, 2, none⟩ = some (.int .i64 3) := blk_cell X3.out.b 2
  have b3 : w3.cell? ⟨gb, 3, none⟩ = some (.int .i64 2) := blk_cell X3.out.b 3
  have b4 : w3.cell? ⟨gb, 4, none⟩ = some (.int .i64 1) := blk_cell X3.out.b 4
  have f0 := blk_frozen X3.out.b 0
  have f1 := blk_frozen X3.out.b 1
  have f2 := blk_frozen X3.out.b 2
  have f3 := blk_frozen X3.out.b 3
  have f4 := blk_frozen X3.out.b 4
  have hc := HC.out
  go_wp2_with fail
  clear hc f0 f1 f2 f3 f4 b0 b1 b2 b3 b4
  have X5 := X3
  clear X3
  have R5 := Aside0.mk (Kd.S_reads' X5.out.q)
  refine (admit_Verdict.calls k (some ⟨g, 0, none⟩) cap [(⟨0, 0, 10, 0, ([] : List Int), 0⟩ : S42)] 5 3 2 1 10 (-d) 1 true 0 0 0 5 0 0 1400 _ R5.out.2.2 R5.out.2.1 P.out).mono ?_
  rintro e w6 ⟨rfl, hb⟩
  have X6 := Aside0.mk (X5.out.step hb)
  clear hb X5 R5
  have b0 : w6.cell? ⟨gb, 0, none⟩ = some (.slice (some ⟨g, 0, none⟩) 1 cap) := blk_cell X6.out.b 0
  have b1 : w6.cell? ⟨gb, 1, none⟩ = some (.int .i64 5) := blk_cell X6.out.b 1
  have b2 : w6.cell? ⟨gb, 2, none⟩ = some (.int .i64 3) := blk_cell X6.out.b 2
  have b3 : w6.cell? ⟨gb, 3, none⟩ = some (.int .i64 2) := blk_cell X6.out.b 3
  have b4 : w6.cell? ⟨gb, 4, none⟩ = some (.int .i64 1) := blk_cell X6.out.b 4
  go_wp2_with fail
  clear b0 b1 b2 b3 b4
  have R6 := Aside0.mk (Kd.S_reads' X6.out.q)
  refine (admit_May.calls (some ⟨g, 0, none⟩) cap [(⟨0, 0, 10, 0, ([] : List Int), 0⟩ : S42)] 5 3 2 1 true _ R6.out.2.2 R6.out.2.1 Q.out).mono ?_
  rintro e w7 ⟨rfl, hb⟩
  have HB7 := Aside0.mk (below_step X6.out.below hb)
  clear hb X6 R6
  go_wp2_with fail
  refine (num_calls 1400 _).mono ?_
  rintro e w8 ⟨rfl, ⟨nd, rfl⟩⟩
  go_wp2_with fail
  refine (bournelaw14_count.calls 5 3 [(⟨0, 0, 10, 0, ([] : List Int), 0⟩ : S42)] 5 3 2 1 _ CT.out).mono ?_
  rintro e w9 ⟨v, rfl, hs, hb⟩
  obtain ⟨A9, c9, rfl, hl9, hr9⟩ := Kd.S_reads hs
  have R9 := Aside0.mk hr9
  have L9 := Aside0.mk hl9
  have HB9 := Aside0.mk (below_step (pw_below_drewN HB7.out _) hb)
  clear hb hs hl9 hr9 HB7
  go_wp2_with fail
  refine (admit_May.calls A9 c9 [(⟨0, 0, 10, 0, ([] : List Int), 0⟩ : S42)] 5 3 2 1 true _ R9.out L9.out G.out).mono ?_
  rintro e w10 ⟨rfl, hb⟩
  have HB10 := Aside0.mk (below_step HB9.out hb)
  clear hb
  go_wp2_with fail
  go_ret
  exact ⟨rfl, HB10.out⟩
set_option maxHeartbeats 4000000 in
set_option maxRecDepth 100000 in
theorem way14 (k : Nat) (a0 a1 d : Int) (w : World) (hc : Int.tmod (IntKind.u64.wrap a0) 15 = 14) (hd : Aside0 (wrap64 (1 + (Go.bits .and .i64 a1 1023)) = d)) (d1 : 1 ≤ d) (d2 : d ≤ 1024)
    (A : Aside0 (bournelaw14_awake.f k = some true)) (CT : Aside0 (bournelaw14_count.f 5 3 = some ([(⟨0, 0, 10, 0, ([] : List Int), 0⟩ : S42)], 5, 3, 2, 1)))
    (P : Aside0 (admit_Verdict.f k [(⟨0, 0, 10, 0, ([] : List Int), 0⟩ : S42)] 5 3 2 1 10 2 (-d) true 0 0 0 5 0 = some (0, 1400))) (Q : Aside0 (admit_May.f [(⟨0, 0, 10, 0, ([] : List Int), 0⟩ : S42)] 5 3 2 1 = some true)) (G : Aside0 (admit_May.f [(⟨0, 0, 10, 0, ([] : List Int), 0⟩ : S42)] 5 3 2 1 = some true)) :
    Calls Try.prog 4 #[.int .i64 a0, .int .i64 a1] w fun e w' => e = .returned (.bool true) ∧ Below w.heap.size w w' := by
  have HC := Aside0.mk hc
  clear hc
  go_enter Try.func4, Try.ntmps4
  go_wp2_with fail
  refine (bournelaw14_awake.calls k true _ A.out).mono ?_
  rintro e w1 ⟨rfl, hb1⟩
  have HB := Aside0.mk hb1
  clear hb1
  go_wp2_with fail
  rw [hd.out]
  refine (bournelaw14_count.calls 5 3 [(⟨0, 0, 10, 0, ([] : List Int), 0⟩ : S42)] 5 3 2 1 _ CT.out).mono ?_
  rintro e w2 ⟨v, rfl, hs, hb⟩
  obtain ⟨g, cap, rfl, hg1, hg2, cells, hg3⟩ := Kd.S_form hs Nat.zero_lt_one
  clear hg1 hg2 hg3
  have HS := Aside0.mk (Kd.S_lower hs HB.out.size)
  have HB2 := Aside0.mk (below_step HB.out hb)
  clear hs hb HB
  go_upto_region 7 with (fail)
  have X3 := Aside0.mk (Cx.new (late := 5) (room := 3) (series := 2) (sources := 1) (show Kd.S k42 42 w2 w.heap.size (fun _ => True) (.slice (some ⟨g, 0, none⟩) 1 cap) [(⟨0, 0, 10, 0, ([] : List Int), 0⟩ : S42)] from HS.out) HB2.out)
  clear HS HB2
  (try simp only [List.length_cons, List.length_nil, Nat.zero_add])
  generalize w2.heap.size = gb at *
  generalize w2.alloc _ = w3 at *
  have b0 : w3.cell? ⟨gb, 0, none⟩ = some (.slice (some ⟨g, 0, none⟩) 1 cap) := blk_cell X3.out.b 0
  have b1 : w3.cell? ⟨gb, 1, none⟩ = some (.int .i64 5) := blk_cell X3.out.b 1
  have b2 : w3.cell? ⟨gb, 2, none⟩ = some (.int .i64 3) := blk_cell X3.out.b 2
  have b3 : w3.cell? ⟨gb, 3, none⟩ = some (.int .i64 2) := blk_cell X3.out.b 3
  have b4 : w3.cell? ⟨gb, 4, none⟩ = some (.int .i64 1) := blk_cell X3.out.b 4
  have f0 := blk_frozen X3.out.b 0
  have f1 := blk_frozen X3.out.b 1
  have f2 := blk_frozen X3.out.b 2
  have f3 := blk_frozen X3.out.b 3
  have f4 := blk_frozen X3.out.b 4
  have hc := HC.out
  go_wp2_with fail
  clear hc f0 f1 f2 f3 f4 b0 b1 b2 b3 b4
  have X5 := X3
  clear X3
  have R5 := Aside0.mk (Kd.S_reads' X5.out.q)
  refine (admit_Verdict.calls k (some ⟨g, 0, none⟩) cap [(⟨0, 0, 10, 0, ([] : List Int), 0⟩ : S42)] 5 3 2 1 10 2 (-d) true 0 0 0 5 0 0 1400 _ R5.out.2.2 R5.out.2.1 P.out).mono ?_
  rintro e w6 ⟨rfl, hb⟩
  have X6 := Aside0.mk (X5.out.step hb)
  clear hb X5 R5
  have b0 : w6.cell? ⟨gb, 0, none⟩ = some (.slice (some ⟨g, 0, none⟩) 1 cap) := blk_cell X6.out.b 0
  have b1 : w6.cell? ⟨gb, 1, none⟩ = some (.int .i64 5) := blk_cell X6.out.b 1
  have b2 : w6.cell? ⟨gb, 2, none⟩ = some (.int .i64 3) := blk_cell X6.out.b 2
  have b3 : w6.cell? ⟨gb, 3, none⟩ = some (.int .i64 2) := blk_cell X6.out.b 3
  have b4 : w6.cell? ⟨gb, 4, none⟩ = some (.int .i64 1) := blk_cell X6.out.b 4
  go_wp2_with fail
  clear b0 b1 b2 b3 b4
  have R6 := Aside0.mk (Kd.S_reads' X6.out.q)
  refine (admit_May.calls (some ⟨g, 0, none⟩) cap [(⟨0, 0, 10, 0, ([] : List Int), 0⟩ : S42)] 5 3 2 1 true _ R6.out.2.2 R6.out.2.1 Q.out).mono ?_
  rintro e w7 ⟨rfl, hb⟩
  have HB7 := Aside0.mk (below_step X6.out.below hb)
  clear hb X6 R6
  go_wp2_with fail
  refine (num_calls 1400 _).mono ?_
  rintro e w8 ⟨rfl, ⟨nd, rfl⟩⟩
  go_wp2_with fail
  refine (bournelaw14_count.calls 5 3 [(⟨0, 0, 10, 0, ([] : List Int), 0⟩ : S42)] 5 3 2 1 _ CT.out).mono ?_
  rintro e w9 ⟨v, rfl, hs, hb⟩
  obtain ⟨A9, c9, rfl, hl9, hr9⟩ := Kd.S_reads hs
  have R9 := Aside0.mk hr9
  have L9 := Aside0.mk hl9
  have HB9 := Aside0.mk (below_step (pw_below_drewN HB7.out _) hb)
  clear hb hs hl9 hr9 HB7
  go_wp2_with fail
  refine (admit_May.calls A9 c9 [(⟨0, 0, 10, 0, ([] : List Int), 0⟩ : S42)] 5 3 2 1 true _ R9.out L9.out G.out).mono ?_
  rintro e w10 ⟨rfl, hb⟩
  have HB10 := Aside0.mk (below_step HB9.out hb)
  clear hb
  go_wp2_with fail
  go_ret
  exact ⟨rfl, HB10.out⟩

end Go.Proofs.Ytcbckolcmfbjhaa.FormsW
