-- Written by a program of this session (wip/myprint.py), over the words of the print
import Derived.Test.YtpnkkaociipojaaQFrameFormsx0
import Derived.Test.YtpnkkaociipojaaQFrameFormsx1
import Derived.Test.YtpnkkaociipojaaQFrameFormsx2
import Derived.Test.YtpnkkaociipojaaFrameAwake
namespace Go.Proofs.Ytpnkkaociipojaa.QFrameForms
open Go.RowKit Go.Proofs.YtpnkkaociipojaaW.PrintWords Go.Proofs.YtpnkkaociipojaaW.PrintLast Go.Proofs.YtpnkkaociipojaaW.PrintMore
attribute [local go_sem] max2_int min2_int max_two min_two max_three min_three max_four min_four   -- for this text's walks alone
set_option linter.unusedVariables false
set_option linter.unusedSimpArgs false

/-! ### bournelaw0_Num: function 12 -/
def bournelaw0_Num.f (a0 : Int) : Option (Int) := some a0
set_option maxHeartbeats 8000000 in
set_option maxRecDepth 100000 in
theorem bournelaw0_Num.calls (a0 : Int) (r : Int) (w : World) (h : bournelaw0_Num.f a0 = some r) :
    Calls Try.prog 12 #[.int .i64 a0] w fun e w' => e = .returned (.int .i64 r) ∧ Drawn0 w w' := by
  have H : (some a0) = some r := h
  clear h
  obtain rfl := Option.some.inj H
  go_enter Try.func12, Try.ntmps12
  go_wp2
  go_ret
  exact ⟨by first | rfl | (simp; done) | (simp [*]; done), by repeat (first | exact Drawn0.refl _ | apply Drawn0.step)⟩

/-! ### bournelaw8_awake: function 15, by a walk of its own -/
def bournelaw8_awake.f (k : Nat) : Option (Bool) := some true
theorem bournelaw8_awake.mono : ∀ k, LeO (bournelaw8_awake.f k) (bournelaw8_awake.f (k + 1)) := fun _ => LeO.refl _
theorem bournelaw8_awake.calls (k : Nat) (r : Bool) (w : World) (h : bournelaw8_awake.f k = some r) :
    Calls Try.prog 15 #[] w fun e w' => e = .returned (.bool r) ∧ Below w.heap.size w w' := by
  obtain rfl := Option.some.inj h
  exact Go.Proofs.Ytpnkkaociipojaa.FrameAwake.awake_all w

end Go.Proofs.Ytpnkkaociipojaa.QFrameForms
