/- The walk of the law FloorEdges, from what its callees answer. No condition beyond those. -/
import Derived.Test.YtkojambbbojchaaPFloorRowsx1
namespace Go.Proofs.Ytkojambbbojchaa.Edges
open Go.RowKit Go.Proofs.Ytkojambbbojchaa.PFloorRows Go.Proofs.YtkojambbbojchaaW.PrintWords Go.Proofs.YtkojambbbojchaaW.PrintLast Go.Proofs.YtkojambbbojchaaW.PrintMore
set_option linter.unusedVariables false
set_option linter.unusedSimpArgs false


set_option maxHeartbeats 8000000 in
set_option maxRecDepth 100000 in
theorem edges_calls (k : Nat) (a0 y p q r s : Int) (w : World) (A : Aside0 (bournelaw3_awake.f k = some true))
    (hy : Aside0 (wrap64 (2 + (Go.bits .and .i64 a0 1099511627775)) = y))
    (h1 : Aside0 (floor_Div.f 9223372036854775807 y = some (p, 0)))
    (h2 : Aside0 (floor_Mod.f 9223372036854775807 y = some (q, 0)))
    (h3 : Aside0 (floor_Div.f (-9223372036854775808) y = some (r, 0)))
    (h4 : Aside0 (floor_Mod.f (-9223372036854775808) y = some (s, 0)))
    (h5 : Aside0 (floor_Div.f (-9223372036854775808) 1 = some (-9223372036854775808, 0)))
    (h6 : Aside0 (floor_Mod.f (-9223372036854775808) 1 = some (0, 0)))
    (h7 : Aside0 (floor_Div.f (-9223372036854775808) 9223372036854775807 = some (-2, 0)))
    (hn : Aside0 (bournelaw0_Num.f 0 = some 0))
    (b1 : Aside0 (wrap64 (wrap64 (p * y) + q) = 9223372036854775807))
    (b2 : decide (0 ≤ q) = true) (b3 : decide (q < y) = true) (b4 : decide (r < 0) = true) (b5 : decide (0 ≤ s) = true) (b6 : decide (s < y) = true)
    (b7 : Aside0 (wrap64 (wrap64 (wrap64 (r + 1) * y) - wrap64 (y - s)) = -9223372036854775808)) :
    Calls Try.prog 8 #[.int .i64 a0] w fun e w' => e = .returned (.bool true) ∧ Drawn0 w w' := by
  have hy' := hy.out
  go_enter Try.func8, Try.ntmps8
  go_wp2_with (first
    | (go_at_call 16; (with_reducible refine (bournelaw3_awake.calls k true _ A.out).mono ?_); rintro e w' ⟨rfl, ⟨nd, rfl⟩⟩)
    | (go_at_call 9; (with_reducible refine (floor_Div.calls 9223372036854775807 y p 0 _ h1.out).mono ?_); rintro e w' ⟨rfl, ⟨nd, rfl⟩⟩)
    | (go_at_call 11; (with_reducible refine (floor_Mod.calls 9223372036854775807 y q 0 _ h2.out).mono ?_); rintro e w' ⟨rfl, ⟨nd, rfl⟩⟩)
    | (go_at_call 9; (with_reducible refine (floor_Div.calls (-9223372036854775808) y r 0 _ h3.out).mono ?_); rintro e w' ⟨rfl, ⟨nd, rfl⟩⟩)
    | (go_at_call 11; (with_reducible refine (floor_Mod.calls (-9223372036854775808) y s 0 _ h4.out).mono ?_); rintro e w' ⟨rfl, ⟨nd, rfl⟩⟩)
    | (go_at_call 9; (with_reducible refine (floor_Div.calls (-9223372036854775808) 1 (-9223372036854775808) 0 _ h5.out).mono ?_); rintro e w' ⟨rfl, ⟨nd, rfl⟩⟩)
    | (go_at_call 11; (with_reducible refine (floor_Mod.calls (-9223372036854775808) 1 0 0 _ h6.out).mono ?_); rintro e w' ⟨rfl, ⟨nd, rfl⟩⟩)
    | (go_at_call 9; (with_reducible refine (floor_Div.calls (-9223372036854775808) 9223372036854775807 (-2) 0 _ h7.out).mono ?_); rintro e w' ⟨rfl, ⟨nd, rfl⟩⟩)
    | (go_at_call 15; (with_reducible refine (bournelaw0_Num.calls 0 0 _ hn.out).mono ?_); rintro e w' ⟨rfl, ⟨nd, rfl⟩⟩))
  all_goals first
    | (exfalso; have h := b1.out; contradiction)
    | (exfalso; have h := b7.out; contradiction)
    | (go_ret; exact ⟨rfl, by repeat (first | exact Drawn0.refl _ | apply Drawn0.step)⟩)

end Go.Proofs.Ytkojambbbojchaa.Edges
