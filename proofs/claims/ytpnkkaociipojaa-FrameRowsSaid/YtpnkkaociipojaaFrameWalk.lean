/- The walks of awake and of the law Frames of folder 8, from what their callees answer. No condition beyond those. -/
import Derived.Test.YtpnkkaociipojaaQFramesx4
namespace Go.Proofs.Ytpnkkaociipojaa.FrameWalk
open Go.RowKit Go.Proofs.Ytpnkkaociipojaa.QFrames Go.Proofs.YtpnkkaociipojaaW.PrintWords Go.Proofs.YtpnkkaociipojaaW.PrintLast Go.Proofs.YtpnkkaociipojaaW.PrintMore
set_option linter.unusedVariables false
set_option linter.unusedSimpArgs false


theorem num_calls (a : Int) (w : World) : Calls Try.prog 12 #[.int .i64 a] w fun e w' => e = .returned (.int .i64 a) ∧ Drawn0 w w' := by
  go_enter Try.func12, Try.ntmps12
  go_wp2
  go_ret
  exact ⟨rfl, by repeat (first | exact Drawn0.refl _ | apply Drawn0.step)⟩
set_option maxHeartbeats 8000000 in
set_option maxRecDepth 100000 in
theorem awake_calls (k : Nat) (s : ByteArray) (w : World) (hs : s.size = 13) (hx : s.extract 0 2 = ⟨#[181, 9]⟩)
    (A1 : Aside0 (frame_Put.f k (⟨#[49, 50, 51, 52, 53, 54, 55, 56, 57]⟩ : ByteArray) = some (s, 0)))
    (A2 : Aside0 (frame_Get.f k ((⟨#[122]⟩ : ByteArray) ++ s ++ (⟨#[113]⟩ : ByteArray)) 1 = some ((⟨#[49, 50, 51, 52, 53, 54, 55, 56, 57]⟩ : ByteArray), 14, 0)))
    (A3 : Aside0 (frame_Get.f k (⟨#[122]⟩ : ByteArray) 0 = some ((⟨#[]⟩ : ByteArray), 0, 800)))
    (A4 : Aside0 (frame_Get.f k (⟨#[181]⟩ : ByteArray) 0 = some ((⟨#[]⟩ : ByteArray), 0, 801)))
    (A5 : Aside0 (frame_Put.f k (⟨#[]⟩ : ByteArray) = some ((⟨#[]⟩ : ByteArray), 800)))
    (A6 : Aside0 (frame_Sum.f k (⟨#[49, 50, 51, 52, 53, 54, 55, 56, 57]⟩ : ByteArray) = some 10673))
    (A7 : Aside0 (frame_Sum.f k (⟨#[]⟩ : ByteArray) = some 65535)) :
    Calls Try.prog 15 #[] w fun e w' => e = .returned (.bool true) ∧ Below w.heap.size w w' := by
  have HB := Aside0.mk (Below.refl w.heap.size w)
  go_enter Try.func15, Try.ntmps15
  go_wp2_with (first
    | (go_at_call 8; (with_reducible refine (frame_Put.calls k (⟨#[49, 50, 51, 52, 53, 54, 55, 56, 57]⟩ : ByteArray) s 0 _ A1.out).mono ?_); rintro e w1 ⟨rfl, hb⟩; have n0_ := Aside0.mk (below_step (by repeat (first | (with_reducible first | exact HB.out | apply below_alloc | apply pw_below_drewN | apply below_drew1) | exact HB.out)) hb); clear HB; have HB := n0_; clear n0_; (try clear hb))
    | (go_at_call 10; (with_reducible refine (frame_Get.calls k ((⟨#[122]⟩ : ByteArray) ++ s ++ (⟨#[113]⟩ : ByteArray)) 1 (⟨#[49, 50, 51, 52, 53, 54, 55, 56, 57]⟩ : ByteArray) 14 0 _ A2.out).mono ?_); rintro e w1 ⟨rfl, hb⟩; have n0_ := Aside0.mk (below_step (by repeat (first | (with_reducible first | exact HB.out | apply below_alloc | apply pw_below_drewN | apply below_drew1) | exact HB.out)) hb); clear HB; have HB := n0_; clear n0_; (try clear hb))
    | (go_at_call 10; (with_reducible refine (frame_Get.calls k (⟨#[122]⟩ : ByteArray) 0 (⟨#[]⟩ : ByteArray) 0 800 _ A3.out).mono ?_); rintro e w1 ⟨rfl, hb⟩; have n0_ := Aside0.mk (below_step (by repeat (first | (with_reducible first | exact HB.out | apply below_alloc | apply pw_below_drewN | apply below_drew1) | exact HB.out)) hb); clear HB; have HB := n0_; clear n0_; (try clear hb))
    | (go_at_call 10; (with_reducible refine (frame_Get.calls k (⟨#[181]⟩ : ByteArray) 0 (⟨#[]⟩ : ByteArray) 0 801 _ A4.out).mono ?_); rintro e w1 ⟨rfl, hb⟩; have n0_ := Aside0.mk (below_step (by repeat (first | (with_reducible first | exact HB.out | apply below_alloc | apply pw_below_drewN | apply below_drew1) | exact HB.out)) hb); clear HB; have HB := n0_; clear n0_; (try clear hb))
    | (go_at_call 8; (with_reducible refine (frame_Put.calls k (⟨#[]⟩ : ByteArray) (⟨#[]⟩ : ByteArray) 800 _ A5.out).mono ?_); rintro e w1 ⟨rfl, hb⟩; have n0_ := Aside0.mk (below_step (by repeat (first | (with_reducible first | exact HB.out | apply below_alloc | apply pw_below_drewN | apply below_drew1) | exact HB.out)) hb); clear HB; have HB := n0_; clear n0_; (try clear hb))
    | (go_at_call 13; (with_reducible refine (frame_Sum.calls k (⟨#[49, 50, 51, 52, 53, 54, 55, 56, 57]⟩ : ByteArray) 10673 _ A6.out).mono ?_); rintro e w1 ⟨rfl, ⟨nd, rfl⟩⟩)
    | (go_at_call 13; (with_reducible refine (frame_Sum.calls k (⟨#[]⟩ : ByteArray) 65535 _ A7.out).mono ?_); rintro e w1 ⟨rfl, ⟨nd, rfl⟩⟩)
    | (go_at_call 12; (with_reducible refine (num_calls 0 _).mono ?_); rintro e w1 ⟨rfl, ⟨nd, rfl⟩⟩)
    | (go_at_call 12; (with_reducible refine (num_calls 800 _).mono ?_); rintro e w1 ⟨rfl, ⟨nd, rfl⟩⟩)
    | (go_at_call 12; (with_reducible refine (num_calls 801 _).mono ?_); rintro e w1 ⟨rfl, ⟨nd, rfl⟩⟩))
  go_ret
  exact ⟨by first | rfl | (simp; done), (by repeat (first | (with_reducible first | exact HB.out | apply below_alloc | apply pw_below_drewN | apply below_drew1) | exact HB.out))⟩
set_option maxHeartbeats 8000000 in
set_option maxRecDepth 100000 in
theorem frames_calls (k : Nat) (s b c : ByteArray) (p e1 q g x : Int) (w : World)
    (AW : ∀ w : World, Calls Try.prog 15 #[] w fun e w' => e = .returned (.bool true) ∧ Below w.heap.size w w')
    (A1 : Aside0 (frame_Put.f k s = some (b, e1))) (A2 : Aside0 (bourneref1_PutFrame.f k s = some (b, e1)))
    (A3 : Aside0 (frame_Get.f k s p = some (c, q, g))) (A4 : Aside0 (bourneref1_GetFrame.f k s p = some (c, q, g)))
    (A5 : Aside0 (frame_Sum.f k s = some x)) (A6 : Aside0 (bourneref1_Sum.f k s = some x)) :
    Calls Try.prog 3 #[.string s, .int .i64 p] w fun e w' => e = .returned (.bool true) ∧ Below w.heap.size w w' := by
  have HB := Aside0.mk (Below.refl w.heap.size w)
  have AWH := Aside0.mk AW
  clear AW
  go_enter Try.func3, Try.ntmps3
  go_wp2_with (first
    | (go_at_call 8; (with_reducible refine (frame_Put.calls k s b e1 _ A1.out).mono ?_); rintro e w1 ⟨rfl, hb⟩; have n0_ := Aside0.mk (below_step (by repeat (first | (with_reducible first | exact HB.out | apply below_alloc | apply pw_below_drewN | apply below_drew1) | exact HB.out)) hb); clear HB; have HB := n0_; clear n0_; (try clear hb))
    | (go_at_call 9; (with_reducible refine (bourneref1_PutFrame.calls k s b e1 _ A2.out).mono ?_); rintro e w1 ⟨rfl, hb⟩; have n0_ := Aside0.mk (below_step (by repeat (first | (with_reducible first | exact HB.out | apply below_alloc | apply pw_below_drewN | apply below_drew1) | exact HB.out)) hb); clear HB; have HB := n0_; clear n0_; (try clear hb))
    | (go_at_call 10; (with_reducible refine (frame_Get.calls k s p c q g _ A3.out).mono ?_); rintro e w1 ⟨rfl, hb⟩; have n0_ := Aside0.mk (below_step (by repeat (first | (with_reducible first | exact HB.out | apply below_alloc | apply pw_below_drewN | apply below_drew1) | exact HB.out)) hb); clear HB; have HB := n0_; clear n0_; (try clear hb))
    | (go_at_call 11; (with_reducible refine (bourneref1_GetFrame.calls k s p c q g _ A4.out).mono ?_); rintro e w1 ⟨rfl, ⟨nd, rfl⟩⟩)
    | (go_at_call 13; (with_reducible refine (frame_Sum.calls k s x _ A5.out).mono ?_); rintro e w1 ⟨rfl, ⟨nd, rfl⟩⟩)
    | (go_at_call 14; (with_reducible refine (bourneref1_Sum.calls k s x _ A6.out).mono ?_); rintro e w1 ⟨rfl, ⟨nd, rfl⟩⟩)
    | (go_at_call 12; (with_reducible refine (num_calls e1 _).mono ?_); rintro e w1 ⟨rfl, ⟨nd, rfl⟩⟩)
    | (go_at_call 12; (with_reducible refine (num_calls g _).mono ?_); rintro e w1 ⟨rfl, ⟨nd, rfl⟩⟩)
    | (go_at_call 15; (with_reducible refine (AWH.out _).mono ?_); rintro e w1 ⟨rfl, hb⟩; have n0_ := Aside0.mk (below_step (by repeat (first | (with_reducible first | exact HB.out | apply below_alloc | apply pw_below_drewN | apply below_drew1) | exact HB.out)) hb); clear HB; have HB := n0_; clear n0_; (try clear hb)))
  go_ret
  exact ⟨by first | rfl | (simp; done), (by repeat (first | (with_reducible first | exact HB.out | apply below_alloc | apply pw_below_drewN | apply below_drew1) | exact HB.out))⟩

end Go.Proofs.Ytpnkkaociipojaa.FrameWalk
