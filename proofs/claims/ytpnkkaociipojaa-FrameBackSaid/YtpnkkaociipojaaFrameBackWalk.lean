/- The walk of the law FrameBack of folder 8, from what its callees answer. No condition beyond those. -/
import Derived.Test.YtpnkkaociipojaaFrameSumsWalk
namespace Go.Proofs.Ytpnkkaociipojaa.FrameBackW
open Go.RowKit Go.Proofs.Ytpnkkaociipojaa.QFrames Go.Proofs.Ytpnkkaociipojaa.FrameWalk Go.Proofs.Ytpnkkaociipojaa.FrameSumsW Go.Proofs.YtpnkkaociipojaaW.PrintWords Go.Proofs.YtpnkkaociipojaaW.PrintLast Go.Proofs.YtpnkkaociipojaaW.PrintMore
set_option linter.unusedVariables false
set_option linter.unusedSimpArgs false


set_option maxHeartbeats 4000000 in
set_option maxRecDepth 100000 in
/-- Bodies that may not be. -/
theorem back_bad (k : Nat) (s : ByteArray) (a b : Int) (w : World) (hs : (decide ((s.size : Int) < 1) = true) ∨ (decide ((s.size : Int) < 1) = false ∧ decide (60 < (s.size : Int)) = true))
    (A1 : Aside0 (frame_Put.f k s = some ((⟨#[]⟩ : ByteArray), 800)))
    (AW : Aside0 (∀ w : World, Calls Try.prog 15 #[] w fun e w' => e = .returned (.bool true) ∧ Below w.heap.size w w')) :
    Calls Try.prog 4 #[.string s, .int .i64 a, .int .i64 b] w fun e w' => e = .returned (.bool true) ∧ Below w.heap.size w w' := by
  have HB := Aside0.mk (Below.refl w.heap.size w)
  rcases hs with h1 | ⟨h1, h2⟩
  all_goals
    go_enter Try.func4, Try.ntmps4
    go_wp2_with (first
      | (go_at_call 15; (with_reducible refine (AW.out _).mono ?_); rintro e w1 ⟨rfl, hb⟩; have n0_ := Aside0.mk (below_step (by repeat (first | (with_reducible first | exact HB.out | apply below_alloc | apply pw_below_drewN | apply below_drew1) | exact HB.out)) hb); clear HB; have HB := n0_; clear n0_; (try clear hb))
      | (go_at_call 8; (with_reducible refine (frame_Put.calls k s (⟨#[]⟩ : ByteArray) 800 _ A1.out).mono ?_); rintro e w1 ⟨rfl, hb⟩; have n0_ := Aside0.mk (below_step (by repeat (first | (with_reducible first | exact HB.out | apply below_alloc | apply pw_below_drewN | apply below_drew1) | exact HB.out)) hb); clear HB; have HB := n0_; clear n0_; (try clear hb))
      | (go_at_call 12; (with_reducible refine (num_calls 800 _).mono ?_); rintro e w1 ⟨rfl, ⟨nd, rfl⟩⟩))
    go_ret
    exact ⟨by first | rfl | (simp; done), by repeat (first | (with_reducible first | exact HB.out | apply below_alloc | apply pw_below_drewN | apply below_drew1) | exact HB.out)⟩
theorem back_run0 (s : ByteArray) (K c : Nat) (hK : K < s.size) (hc : c < 256) (W : World) (cap : Nat) :
    (convert 36 9 (.slice (some ⟨W.heap.size, 0, none⟩) s.size cap)).run Try.prog ((BW s W).setCell ⟨W.heap.size, K, none⟩ (.int .u8 (c : Int))) = .ok (.string (put1 s K c)) ((BW s W).setCell ⟨W.heap.size, K, none⟩ (.int .u8 (c : Int))) := back_run s K c hK hc W 0 cap
set_option maxHeartbeats 4000000 in
set_option maxRecDepth 100000 in
theorem back_calls (k : Nat) (s f : ByteArray) (a b : Int) (C n K J c : Nat) (x : ByteArray) (y h : Int) (w : World)
    (hs1 : decide ((s.size : Int) < 1) = false) (hs2 : decide (60 < (s.size : Int)) = false)
    (hs3 : ((f.size : Int) != (s.size : Int) + 4) = false) (hsb : (s.size : Int) ≤ 60)
    (hfb : (f.size : Int) ≤ 64) (hfa : 1 ≤ (f.size : Int)) (hs4 : ((f.size : Int) == 0) = false) (hs5 : ((8 * (f.size : Int)) == 0) = false) (hs6 : ¬ (f.size : Int) = 0) (hs7 : ¬ 8 * (f.size : Int) = 0)
    (hC : wrap64 (Int.tmod (IntKind.u64.wrap a) (f.size : Int)) = (C : Int)) (hC1 : (C : Int) ≤ (f.size : Int)) (hC0 : 0 ≤ (C : Int))
    (hn : wrap64 (Int.tmod (IntKind.u64.wrap b) (8 * (f.size : Int))) = (n : Int))
    (hnK : (n : Int) / 8 = (K : Int)) (hnJ : (n : Int) % 8 = (J : Int)) (hKl : K < f.size) (hK0 : 0 ≤ (K : Int)) (hK1 : (K : Int) < (f.size : Int)) (hn0 : 0 ≤ (n : Int))
    (hc : Go.bits .xor .u8 (bt f (K : Int)) (2 ^ J % 256) = (c : Int)) (hc2 : c < 256)
    (A1 : Aside0 (frame_Put.f k s = some (f, 0))) (A2 : Aside0 (frame_Get.f k f 0 = some (s, (f.size : Int), 0)))
    (A3 : Aside0 (frame_Get.f k (f.extract 0 C) 0 = some ((⟨#[]⟩ : ByteArray), 0, 801))) (A4 : Aside0 (frame_Get.f k (put1 f K c) 0 = some (x, y, h)))
    (H : Aside0 ((h == 800) = true ∨ ((h == 800) = false ∧ (h == 801) = true) ∨ ((h == 800) = false ∧ (h == 801) = false ∧ (wrap64 (K : Int) == 1) = true)))
    (AW : Aside0 (∀ w : World, Calls Try.prog 15 #[] w fun e w' => e = .returned (.bool true) ∧ Below w.heap.size w w')) :
    Calls Try.prog 4 #[.string s, .int .i64 a, .int .i64 b] w fun e w' => e = .returned (.bool true) ∧ Below w.heap.size w w' := by
  have HB := Aside0.mk (Below.refl w.heap.size w)
  have hcv := bw_run f
  have hcell : ∀ W : World, (BW f W).cell? ⟨W.heap.size, K, none⟩ = some (.int .u8 (bt f (K : Int))) := fun W => bw_cell f W K hKl
  have hfroz : ∀ W : World, (BW f W).frozen? ⟨W.heap.size, K, none⟩ = false := fun W => bw_frozen f W K hKl
  have hback := back_run0 f K c hKl hc2
  have HBW := Aside0.mk (bw_below f)
  go_enter Try.func4, Try.ntmps4
  go_wp2_with (first
    | (go_at_call 15; (with_reducible refine (AW.out _).mono ?_); rintro e w1 ⟨rfl, hb⟩; have n0_ := Aside0.mk (below_step (by repeat (first | (with_reducible first | exact HB.out | apply below_alloc | apply pw_below_drewN | apply below_drew1) | exact HB.out)) hb); clear HB; have HB := n0_; clear n0_; (try clear hb))
    | (go_at_call 8; (with_reducible refine (frame_Put.calls k s f 0 _ A1.out).mono ?_); rintro e w1 ⟨rfl, hb⟩; have n0_ := Aside0.mk (below_step (by repeat (first | (with_reducible first | exact HB.out | apply below_alloc | apply pw_below_drewN | apply below_drew1) | exact HB.out)) hb); clear HB; have HB := n0_; clear n0_; (try clear hb))
    | (go_at_call 10; (with_reducible refine (frame_Get.calls k f 0 s (f.size : Int) 0 _ A2.out).mono ?_); rintro e w1 ⟨rfl, hb⟩; have n0_ := Aside0.mk (below_step (by repeat (first | (with_reducible first | exact HB.out | apply below_alloc | apply pw_below_drewN | apply below_drew1) | exact HB.out)) hb); clear HB; have HB := n0_; clear n0_; (try clear hb))
    | (go_at_call 10; (with_reducible refine (frame_Get.calls k (f.extract 0 C) 0 (⟨#[]⟩ : ByteArray) 0 801 _ A3.out).mono ?_); rintro e w1 ⟨rfl, hb⟩; have n0_ := Aside0.mk (below_step (by repeat (first | (with_reducible first | exact HB.out | apply below_alloc | apply pw_below_drewN | apply below_drew1) | exact HB.out)) hb); clear HB; have HB := n0_; clear n0_; (try clear hb))
    | (go_at_call 12; (with_reducible refine (num_calls 0 _).mono ?_); rintro e w1 ⟨rfl, ⟨nd, rfl⟩⟩)
    | (go_at_call 12; (with_reducible refine (num_calls 801 _).mono ?_); rintro e w1 ⟨rfl, ⟨nd, rfl⟩⟩))
  have HB2 := Aside0.mk ((below_then HB.out HB.out.size (HBW.out w1)).setCell (show w.heap.size ≤ (⟨w1.heap.size, K, none⟩ : Addr).block from HB.out.size) (.int .u8 (c : Int)))
  clear HBW HB hback hfroz hcell hcv
  generalize hW2 : (BW f w1).setCell ⟨w1.heap.size, K, none⟩ (.int .u8 (c : Int)) = W2 at *
  rw [hn]
  clear hW2 hs1 hs2 hs3 hsb hfb hfa hs4 hs5 hs6 hs7 hC hC1 hC0 hn hnJ hKl hK0 hK1 hc hc2
  refine (frame_Get.calls k (put1 f K c) 0 x y h _ A4.out).mono ?_
  rintro e w4 ⟨rfl, hb⟩
  have HB3 := Aside0.mk (below_step HB2.out hb)
  clear hb HB2
  rcases H.out with h1 | ⟨h1, h2⟩ | ⟨h1, h2, h3⟩
  all_goals
    go_wp2_with (first
      | (go_at_call 12; (with_reducible refine (num_calls 0 _).mono ?_); rintro e w1 ⟨rfl, ⟨nd, rfl⟩⟩)
      | (go_at_call 12; (with_reducible refine (num_calls 801 _).mono ?_); rintro e w1 ⟨rfl, ⟨nd, rfl⟩⟩)
      | (go_at_call 12; (with_reducible refine (num_calls h _).mono ?_); rintro e w1 ⟨rfl, ⟨nd, rfl⟩⟩))
  all_goals
    go_ret
    exact ⟨by first | rfl | (simp only [h3]; done) | (simp [h3]; done), by repeat (first | (with_reducible first | exact HB3.out | apply pw_below_drewN) | exact HB3.out)⟩

end Go.Proofs.Ytpnkkaociipojaa.FrameBackW
