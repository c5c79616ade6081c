-- Written by a program of this session (wip/myprint.py), over the words of the print
import Derived.Test.YticgnaladjmdoaaQSliceFormsx0
import Derived.Test.YticgnaladjmdoaaQSliceFormsx3
import Derived.Test.YticgnaladjmdoaaQSliceFormsx4
namespace Go.Proofs.Yticgnaladjmdoaa.QSliceForms
open Go.RowKit Go.Proofs.YticgnaladjmdoaaW.PrintWords Go.Proofs.YticgnaladjmdoaaW.PrintLast Go.Proofs.YticgnaladjmdoaaW.PrintMore
attribute [local go_sem] max2_int min2_int max_two min_two max_three min_three max_four min_four   -- for this text's walks alone
set_option linter.unusedVariables false
set_option linter.unusedSimpArgs false

/-! ### bournelaw5_SliceForms: function 5 -/
def bournelaw5_SliceForms.j0 : Nat → List (S26) → Int → Int → Int → Int → Int → Int → Int → Int → Int → Int → Option (Bool)
  | 0, _, _, _, _, _, _, _, _, _, _, _ => none
  | k + 1, x8, x9, x11, x13, x156000, x156001, x156002, x156003, x156005, x157000, x157001 => (slice_Cut.f x156000 x156001 x156002 x156003 ([] : List Int) x156005 x157000 x157001).bind fun bt167 => ((bournelaw0_Num.f x9).bind fun t171 => (if t171 = 0 then (if (x8.length : Int) = 5 then ((bournelaw0_Num.f x11).bind fun t172 => (if t172 = 500 then ((bournelaw0_Num.f x13).bind fun t173 => (if t173 = 500 then (if (bt167.1.length : Int) = 0 then ((bournelaw0_Num.f bt167.2).bind fun t174 => (some (t174 == 500))) else (some false)) else (some false))) else (some false))) else (some false)) else (some false)))
def bournelaw5_SliceForms.f (k : Nat) (a0 : Int) (a1 : Int) : Option (Bool) := (bournelaw5_awake.f k).bind fun t154 => (if t154 = true then ((slice_Cut.f 1 0 10 4 ([] : List Int) 0 8 18).bind fun bt157 => ((slice_At.f k 1 0 10 4 ([] : List Int) 0 (wrap64 (1099511627776 + (wrap64 (1 + (Go.bits .and .i64 a1 1023)))))).bind fun bt161 => ((slice_Unit.f k 2 0 5 0 ([] : List Int) 0).bind fun bt165 => (if (Int.tmod (IntKind.u64.wrap (a0)) 7) = 0 then (bournelaw5_SliceForms.j0 k bt157.1 bt157.2 bt161.2.2 bt165.2 1 0 10 4 0 (wrap64 (9 + (Int.tmod (wrap64 (1 + (Go.bits .and .i64 a1 1023))) 3))) 18) else (if (Int.tmod (IntKind.u64.wrap (a0)) 7) = 1 then (bournelaw5_SliceForms.j0 k bt157.1 bt157.2 bt161.2.2 bt165.2 1 0 10 4 0 8 (wrap64 (18 + (wrap64 (1 + (Go.bits .and .i64 a1 1023)))))) else (if (Int.tmod (IntKind.u64.wrap (a0)) 7) = 2 then (bournelaw5_SliceForms.j0 k bt157.1 bt157.2 bt161.2.2 bt165.2 1 0 10 4 0 8 (wrap64 (18 - (wrap64 (1 + (Go.bits .and .i64 a1 1023)))))) else (if (Int.tmod (IntKind.u64.wrap (a0)) 7) = 3 then (bournelaw5_SliceForms.j0 k bt157.1 bt157.2 bt161.2.2 bt165.2 1 0 10 4 0 (wrap64 ((-1099511627788) - (wrap64 (4 * (wrap64 (1 + (Go.bits .and .i64 a1 1023))))))) (wrap64 ((-1099511627778) - (wrap64 (4 * (wrap64 (1 + (Go.bits .and .i64 a1 1023)))))))) else (if (Int.tmod (IntKind.u64.wrap (a0)) 7) = 4 then (bournelaw5_SliceForms.j0 k bt157.1 bt157.2 bt161.2.2 bt165.2 1 0 10 4 0 (wrap64 (1099511627776 + (wrap64 (4 * (wrap64 (1 + (Go.bits .and .i64 a1 1023))))))) (wrap64 (1099511627786 + (wrap64 (4 * (wrap64 (1 + (Go.bits .and .i64 a1 1023)))))))) else (if (Int.tmod (IntKind.u64.wrap (a0)) 7) = 5 then (bournelaw5_SliceForms.j0 k bt157.1 bt157.2 bt161.2.2 bt165.2 1 0 10 0 0 8 18) else (bournelaw5_SliceForms.j0 k bt157.1 bt157.2 bt161.2.2 bt165.2 2 0 10 4 0 8 18)))))))))) else (some false))
theorem bournelaw5_SliceForms.mono_l : ∀ k, (∀ y0 y1 y2 y3 y4 y5 y6 y7 y8 y9 y10, LeO (bournelaw5_SliceForms.j0 k y0 y1 y2 y3 y4 y5 y6 y7 y8 y9 y10) (bournelaw5_SliceForms.j0 (k + 1) y0 y1 y2 y3 y4 y5 y6 y7 y8 y9 y10))
  | 0 => fun _ _ _ _ _ _ _ _ _ _ _ r h => by simp [bournelaw5_SliceForms.j0] at h
  | k + 1 => by
    have ih0 := bournelaw5_SliceForms.mono_l k
    · intro y0 y1 y2 y3 y4 y5 y6 y7 y8 y9 y10
      unfold bournelaw5_SliceForms.j0
      repeat' first
      | (with_reducible exact ih0 _ _ _ _ _ _ _ _ _ _ _)
      | (with_reducible exact bournelaw5_awake.mono _)
      | (with_reducible exact slice_At.mono _ _ _ _ _ _ _ _)
      | (with_reducible exact slice_Unit.mono _ _ _ _ _ _ _)
      | (with_reducible exact LeO.refl _)
      | (with_reducible exact LeO.none _)
      | (with_reducible refine LeO.ite ?_ ?_)
      | (with_reducible refine LeO.bind ?_ (fun _ => ?_))
      | exact ih0 _ _ _ _ _ _ _ _ _ _ _
      | exact bournelaw5_awake.mono _
      | exact slice_At.mono _ _ _ _ _ _ _ _
      | exact slice_Unit.mono _ _ _ _ _ _ _
      | exact LeO.none _
      | refine LeO.ite ?_ ?_
      | refine LeO.bind ?_ (fun _ => ?_)
theorem bournelaw5_SliceForms.mono : ∀ a0 a1 k, LeO (bournelaw5_SliceForms.f k a0 a1) (bournelaw5_SliceForms.f (k + 1) a0 a1) := by
  intro a0 a1 k
  have ih0 := bournelaw5_SliceForms.mono_l k
  unfold bournelaw5_SliceForms.f
  repeat' first
      | (with_reducible exact ih0 _ _ _ _ _ _ _ _ _ _ _)
      | (with_reducible exact bournelaw5_awake.mono _)
      | (with_reducible exact slice_At.mono _ _ _ _ _ _ _ _)
      | (with_reducible exact slice_Unit.mono _ _ _ _ _ _ _)
      | (with_reducible exact LeO.refl _)
      | (with_reducible exact LeO.none _)
      | (with_reducible refine LeO.ite ?_ ?_)
      | (with_reducible refine LeO.bind ?_ (fun _ => ?_))
      | exact ih0 _ _ _ _ _ _ _ _ _ _ _
      | exact bournelaw5_awake.mono _
      | exact slice_At.mono _ _ _ _ _ _ _ _
      | exact slice_Unit.mono _ _ _ _ _ _ _
      | exact LeO.none _
      | refine LeO.ite ?_ ?_
      | refine LeO.bind ?_ (fun _ => ?_)
set_option maxHeartbeats 8000000 in
set_option maxRecDepth 100000 in
theorem bournelaw5_SliceForms.calls (k : Nat) (a0 : Int) (a1 : Int) (r : Bool) (w : World) (h : bournelaw5_SliceForms.f k a0 a1 = some r) (hr_ : r = true := by first | rfl | (apply Aside0.out; with_reducible assumption)) :
    Calls Try.prog 5 #[.int .i64 a0, .int .i64 a1] w fun e w' => e = .returned (.bool r) ∧ Below w.heap.size w w' := by
  have HR_ := Aside0.mk hr_
  clear hr_
  have hu24 := Try.underlying24
  have hu26 := Try.underlying26
  have HB := Aside0.mk (Below.refl w.heap.size w)
  have H : ((bournelaw5_awake.f k).bind fun t154 => (if t154 = true then ((slice_Cut.f 1 0 10 4 ([] : List Int) 0 8 18).bind fun bt157 => ((slice_At.f k 1 0 10 4 ([] : List Int) 0 (wrap64 (1099511627776 + (wrap64 (1 + (Go.bits .and .i64 a1 1023)))))).bind fun bt161 => ((slice_Unit.f k 2 0 5 0 ([] : List Int) 0).bind fun bt165 => (if (Int.tmod (IntKind.u64.wrap (a0)) 7) = 0 then (bournelaw5_SliceForms.j0 k bt157.1 bt157.2 bt161.2.2 bt165.2 1 0 10 4 0 (wrap64 (9 + (Int.tmod (wrap64 (1 + (Go.bits .and .i64 a1 1023))) 3))) 18) else (if (Int.tmod (IntKind.u64.wrap (a0)) 7) = 1 then (bournelaw5_SliceForms.j0 k bt157.1 bt157.2 bt161.2.2 bt165.2 1 0 10 4 0 8 (wrap64 (18 + (wrap64 (1 + (Go.bits .and .i64 a1 1023)))))) else (if (Int.tmod (IntKind.u64.wrap (a0)) 7) = 2 then (bournelaw5_SliceForms.j0 k bt157.1 bt157.2 bt161.2.2 bt165.2 1 0 10 4 0 8 (wrap64 (18 - (wrap64 (1 + (Go.bits .and .i64 a1 1023)))))) else (if (Int.tmod (IntKind.u64.wrap (a0)) 7) = 3 then (bournelaw5_SliceForms.j0 k bt157.1 bt157.2 bt161.2.2 bt165.2 1 0 10 4 0 (wrap64 ((-1099511627788) - (wrap64 (4 * (wrap64 (1 + (Go.bits .and .i64 a1 1023))))))) (wrap64 ((-1099511627778) - (wrap64 (4 * (wrap64 (1 + (Go.bits .and .i64 a1 1023)))))))) else (if (Int.tmod (IntKind.u64.wrap (a0)) 7) = 4 then (bournelaw5_SliceForms.j0 k bt157.1 bt157.2 bt161.2.2 bt165.2 1 0 10 4 0 (wrap64 (1099511627776 + (wrap64 (4 * (wrap64 (1 + (Go.bits .and .i64 a1 1023))))))) (wrap64 (1099511627786 + (wrap64 (4 * (wrap64 (1 + (Go.bits .and .i64 a1 1023)))))))) else (if (Int.tmod (IntKind.u64.wrap (a0)) 7) = 5 then (bournelaw5_SliceForms.j0 k bt157.1 bt157.2 bt161.2.2 bt165.2 1 0 10 0 0 8 18) else (bournelaw5_SliceForms.j0 k bt157.1 bt157.2 bt161.2.2 bt165.2 2 0 10 4 0 8 18)))))))))) else (some false))) = some r := h
  clear h
  replace H := Option.bind_eq_some_iff.mp H
  obtain ⟨t154, A30, H⟩ := H
  replace H : (if t154 = true then ((slice_Cut.f 1 0 10 4 ([] : List Int) 0 8 18).bind fun bt157 => ((slice_At.f k 1 0 10 4 ([] : List Int) 0 (wrap64 (1099511627776 + (wrap64 (1 + (Go.bits .and .i64 a1 1023)))))).bind fun bt161 => ((slice_Unit.f k 2 0 5 0 ([] : List Int) 0).bind fun bt165 => (if (Int.tmod (IntKind.u64.wrap (a0)) 7) = 0 then (bournelaw5_SliceForms.j0 k bt157.1 bt157.2 bt161.2.2 bt165.2 1 0 10 4 0 (wrap64 (9 + (Int.tmod (wrap64 (1 + (Go.bits .and .i64 a1 1023))) 3))) 18) else (if (Int.tmod (IntKind.u64.wrap (a0)) 7) = 1 then (bournelaw5_SliceForms.j0 k bt157.1 bt157.2 bt161.2.2 bt165.2 1 0 10 4 0 8 (wrap64 (18 + (wrap64 (1 + (Go.bits .and .i64 a1 1023)))))) else (if (Int.tmod (IntKind.u64.wrap (a0)) 7) = 2 then (bournelaw5_SliceForms.j0 k bt157.1 bt157.2 bt161.2.2 bt165.2 1 0 10 4 0 8 (wrap64 (18 - (wrap64 (1 + (Go.bits .and .i64 a1 1023)))))) else (if (Int.tmod (IntKind.u64.wrap (a0)) 7) = 3 then (bournelaw5_SliceForms.j0 k bt157.1 bt157.2 bt161.2.2 bt165.2 1 0 10 4 0 (wrap64 ((-1099511627788) - (wrap64 (4 * (wrap64 (1 + (Go.bits .and .i64 a1 1023))))))) (wrap64 ((-1099511627778) - (wrap64 (4 * (wrap64 (1 + (Go.bits .and .i64 a1 1023)))))))) else (if (Int.tmod (IntKind.u64.wrap (a0)) 7) = 4 then (bournelaw5_SliceForms.j0 k bt157.1 bt157.2 bt161.2.2 bt165.2 1 0 10 4 0 (wrap64 (1099511627776 + (wrap64 (4 * (wrap64 (1 + (Go.bits .and .i64 a1 1023))))))) (wrap64 (1099511627786 + (wrap64 (4 * (wrap64 (1 + (Go.bits .and .i64 a1 1023)))))))) else (if (Int.tmod (IntKind.u64.wrap (a0)) 7) = 5 then (bournelaw5_SliceForms.j0 k bt157.1 bt157.2 bt161.2.2 bt165.2 1 0 10 0 0 8 18) else (bournelaw5_SliceForms.j0 k bt157.1 bt157.2 bt161.2.2 bt165.2 2 0 10 4 0 8 18)))))))))) else (some false)) = some r := H
  have A3 := Aside0.mk A30
  clear A30
  by_cases c4 : t154 = true
  · subst c4
    have H1 : ((slice_Cut.f 1 0 10 4 ([] : List Int) 0 8 18).bind fun bt157 => ((slice_At.f k 1 0 10 4 ([] : List Int) 0 (wrap64 (1099511627776 + (wrap64 (1 + (Go.bits .and .i64 a1 1023)))))).bind fun bt161 => ((slice_Unit.f k 2 0 5 0 ([] : List Int) 0).bind fun bt165 => (if (Int.tmod (IntKind.u64.wrap (a0)) 7) = 0 then (bournelaw5_SliceForms.j0 k bt157.1 bt157.2 bt161.2.2 bt165.2 1 0 10 4 0 (wrap64 (9 + (Int.tmod (wrap64 (1 + (Go.bits .and .i64 a1 1023))) 3))) 18) else (if (Int.tmod (IntKind.u64.wrap (a0)) 7) = 1 then (bournelaw5_SliceForms.j0 k bt157.1 bt157.2 bt161.2.2 bt165.2 1 0 10 4 0 8 (wrap64 (18 + (wrap64 (1 + (Go.bits .and .i64 a1 1023)))))) else (if (Int.tmod (IntKind.u64.wrap (a0)) 7) = 2 then (bournelaw5_SliceForms.j0 k bt157.1 bt157.2 bt161.2.2 bt165.2 1 0 10 4 0 8 (wrap64 (18 - (wrap64 (1 + (Go.bits .and .i64 a1 1023)))))) else (if (Int.tmod (IntKind.u64.wrap (a0)) 7) = 3 then (bournelaw5_SliceForms.j0 k bt157.1 bt157.2 bt161.2.2 bt165.2 1 0 10 4 0 (wrap64 ((-1099511627788) - (wrap64 (4 * (wrap64 (1 + (Go.bits .and .i64 a1 1023))))))) (wrap64 ((-1099511627778) - (wrap64 (4 * (wrap64 (1 + (Go.bits .and .i64 a1 1023)))))))) else (if (Int.tmod (IntKind.u64.wrap (a0)) 7) = 4 then (bournelaw5_SliceForms.j0 k bt157.1 bt157.2 bt161.2.2 bt165.2 1 0 10 4 0 (wrap64 (1099511627776 + (wrap64 (4 * (wrap64 (1 + (Go.bits .and .i64 a1 1023))))))) (wrap64 (1099511627786 + (wrap64 (4 * (wrap64 (1 + (Go.bits .and .i64 a1 1023)))))))) else (if (Int.tmod (IntKind.u64.wrap (a0)) 7) = 5 then (bournelaw5_SliceForms.j0 k bt157.1 bt157.2 bt161.2.2 bt165.2 1 0 10 0 0 8 18) else (bournelaw5_SliceForms.j0 k bt157.1 bt157.2 bt161.2.2 bt165.2 2 0 10 4 0 8 18)))))))))) = some r := by rw [if_pos rfl] at H; exact H
    clear H
    have H := H1
    clear H1
    replace H := Option.bind_eq_some_iff.mp H
    obtain ⟨⟨t157, t160⟩, A50, H⟩ := H
    replace H : ((slice_At.f k 1 0 10 4 ([] : List Int) 0 (wrap64 (1099511627776 + (wrap64 (1 + (Go.bits .and .i64 a1 1023)))))).bind fun bt161 => ((slice_Unit.f k 2 0 5 0 ([] : List Int) 0).bind fun bt165 => (if (Int.tmod (IntKind.u64.wrap (a0)) 7) = 0 then (bournelaw5_SliceForms.j0 k t157 t160 bt161.2.2 bt165.2 1 0 10 4 0 (wrap64 (9 + (Int.tmod (wrap64 (1 + (Go.bits .and .i64 a1 1023))) 3))) 18) else (if (Int.tmod (IntKind.u64.wrap (a0)) 7) = 1 then (bournelaw5_SliceForms.j0 k t157 t160 bt161.2.2 bt165.2 1 0 10 4 0 8 (wrap64 (18 + (wrap64 (1 + (Go.bits .and .i64 a1 1023)))))) else (if (Int.tmod (IntKind.u64.wrap (a0)) 7) = 2 then (bournelaw5_SliceForms.j0 k t157 t160 bt161.2.2 bt165.2 1 0 10 4 0 8 (wrap64 (18 - (wrap64 (1 + (Go.bits .and .i64 a1 1023)))))) else (if (Int.tmod (IntKind.u64.wrap (a0)) 7) = 3 then (bournelaw5_SliceForms.j0 k t157 t160 bt161.2.2 bt165.2 1 0 10 4 0 (wrap64 ((-1099511627788) - (wrap64 (4 * (wrap64 (1 + (Go.bits .and .i64 a1 1023))))))) (wrap64 ((-1099511627778) - (wrap64 (4 * (wrap64 (1 + (Go.bits .and .i64 a1 1023)))))))) else (if (Int.tmod (IntKind.u64.wrap (a0)) 7) = 4 then (bournelaw5_SliceForms.j0 k t157 t160 bt161.2.2 bt165.2 1 0 10 4 0 (wrap64 (1099511627776 + (wrap64 (4 * (wrap64 (1 + (Go.bits .and .i64 a1 1023))))))) (wrap64 (1099511627786 + (wrap64 (4 * (wrap64 (1 + (Go.bits .and .i64 a1 1023)))))))) else (if (Int.tmod (IntKind.u64.wrap (a0)) 7) = 5 then (bournelaw5_SliceForms.j0 k t157 t160 bt161.2.2 bt165.2 1 0 10 0 0 8 18) else (bournelaw5_SliceForms.j0 k t157 t160 bt161.2.2 bt165.2 2 0 10 4 0 8 18))))))))) = some r := H
    have A5 := Aside0.mk A50
    clear A50
    replace H := Option.bind_eq_some_iff.mp H
    obtain ⟨⟨t161, t162, t163⟩, A60, H⟩ := H
    replace H : ((slice_Unit.f k 2 0 5 0 ([] : List Int) 0).bind fun bt165 => (if (Int.tmod (IntKind.u64.wrap (a0)) 7) = 0 then (bournelaw5_SliceForms.j0 k t157 t160 t163 bt165.2 1 0 10 4 0 (wrap64 (9 + (Int.tmod (wrap64 (1 + (Go.bits .and .i64 a1 1023))) 3))) 18) else (if (Int.tmod (IntKind.u64.wrap (a0)) 7) = 1 then (bournelaw5_SliceForms.j0 k t157 t160 t163 bt165.2 1 0 10 4 0 8 (wrap64 (18 + (wrap64 (1 + (Go.bits .and .i64 a1 1023)))))) else (if (Int.tmod (IntKind.u64.wrap (a0)) 7) = 2 then (bournelaw5_SliceForms.j0 k t157 t160 t163 bt165.2 1 0 10 4 0 8 (wrap64 (18 - (wrap64 (1 + (Go.bits .and .i64 a1 1023)))))) else (if (Int.tmod (IntKind.u64.wrap (a0)) 7) = 3 then (bournelaw5_SliceForms.j0 k t157 t160 t163 bt165.2 1 0 10 4 0 (wrap64 ((-1099511627788) - (wrap64 (4 * (wrap64 (1 + (Go.bits .and .i64 a1 1023))))))) (wrap64 ((-1099511627778) - (wrap64 (4 * (wrap64 (1 + (Go.bits .and .i64 a1 1023)))))))) else (if (Int.tmod (IntKind.u64.wrap (a0)) 7) = 4 then (bournelaw5_SliceForms.j0 k t157 t160 t163 bt165.2 1 0 10 4 0 (wrap64 (1099511627776 + (wrap64 (4 * (wrap64 (1 + (Go.bits .and .i64 a1 1023))))))) (wrap64 (1099511627786 + (wrap64 (4 * (wrap64 (1 + (Go.bits .and .i64 a1 1023)))))))) else (if (Int.tmod (IntKind.u64.wrap (a0)) 7) = 5 then (bournelaw5_SliceForms.j0 k t157 t160 t163 bt165.2 1 0 10 0 0 8 18) else (bournelaw5_SliceForms.j0 k t157 t160 t163 bt165.2 2 0 10 4 0 8 18)))))))) = some r := H
    have A6 := Aside0.mk A60
    clear A60
    replace H := Option.bind_eq_some_iff.mp H
    obtain ⟨⟨t165, t166⟩, A70, H⟩ := H
    replace H : (if (Int.tmod (IntKind.u64.wrap (a0)) 7) = 0 then (bournelaw5_SliceForms.j0 k t157 t160 t163 t166 1 0 10 4 0 (wrap64 (9 + (Int.tmod (wrap64 (1 + (Go.bits .and .i64 a1 1023))) 3))) 18) else (if (Int.tmod (IntKind.u64.wrap (a0)) 7) = 1 then (bournelaw5_SliceForms.j0 k t157 t160 t163 t166 1 0 10 4 0 8 (wrap64 (18 + (wrap64 (1 + (Go.bits .and .i64 a1 1023)))))) else (if (Int.tmod (IntKind.u64.wrap (a0)) 7) = 2 then (bournelaw5_SliceForms.j0 k t157 t160 t163 t166 1 0 10 4 0 8 (wrap64 (18 - (wrap64 (1 + (Go.bits .and .i64 a1 1023)))))) else (if (Int.tmod (IntKind.u64.wrap (a0)) 7) = 3 then (bournelaw5_SliceForms.j0 k t157 t160 t163 t166 1 0 10 4 0 (wrap64 ((-1099511627788) - (wrap64 (4 * (wrap64 (1 + (Go.bits .and .i64 a1 1023))))))) (wrap64 ((-1099511627778) - (wrap64 (4 * (wrap64 (1 + (Go.bits .and .i64 a1 1023)))))))) else (if (Int.tmod (IntKind.u64.wrap (a0)) 7) = 4 then (bournelaw5_SliceForms.j0 k t157 t160 t163 t166 1 0 10 4 0 (wrap64 (1099511627776 + (wrap64 (4 * (wrap64 (1 + (Go.bits .and .i64 a1 1023))))))) (wrap64 (1099511627786 + (wrap64 (4 * (wrap64 (1 + (Go.bits .and .i64 a1 1023)))))))) else (if (Int.tmod (IntKind.u64.wrap (a0)) 7) = 5 then (bournelaw5_SliceForms.j0 k t157 t160 t163 t166 1 0 10 0 0 8 18) else (bournelaw5_SliceForms.j0 k t157 t160 t163 t166 2 0 10 4 0 8 18))))))) = some r := H
    have A7 := Aside0.mk A70
    clear A70
    have HC8 := Aside0.mk H
    clear H
    go_enter Try.func5, Try.ntmps5
    go_upto_block 0 with (first | ((with_reducible refine gate_callee (f := 15) rfl ?_); refine goesL_ (some 16) rfl rfl Try.func15 (by kernel_rfl) rfl #[] rfl (by (try simp only [List.map_toArray, List.map_cons, List.map_nil]); first | done | rfl | (simp only [List.length_drop, List.length_take]; rfl)) ?_; (with_reducible refine (bournelaw5_awake.calls k  true _ A3.out).mono ?_); rintro e w9 ⟨rfl, hb⟩; refine ⟨_, rfl, ?_⟩; have n0_ := Aside0.mk (below_step (by repeat (first | (with_reducible first | exact HB.out | apply below_alloc | apply pw_below_drewN | apply below_drew1) | exact HB.out)) hb); clear HB; have HB := n0_; clear n0_; (try clear hb); (try clear hb2); (try clear hk); (try clear hi)) | ((with_reducible refine gate_dst (N := 6) rfl ?_); (try (refine gate_guard (by rfl) ?_; dsimp only)); refine box_event ?hg (N := 6) ?hd (cs := #[.int .i64 0, .int .i64 0, .int .i64 0, .int .i64 0, .slice none 0 0, .int .i64 0]) (t := 24) ?hr ?_; (case hd => rfl); (case hg => rfl); (case hr => first | (go_simp; done) | (go_simp; rfl)); intro gb155 hg w10 hbox hb; have n0_ := Aside0.mk (below_step (by repeat (first | (with_reducible first | exact HB.out | apply below_alloc | apply pw_below_drewN | apply below_drew1) | exact HB.out)) hb); have n1_ := Aside0.mk (hbox); have n2_ := Aside0.mk ((by rw [hg]; exact (below_size (by repeat (first | (with_reducible first | exact HB.out | apply below_alloc | apply pw_below_drewN | apply below_drew1) | exact HB.out))) : w.heap.size ≤ gb155)); have n3_ := Aside0.mk ((by rw [hg]; exact (below_size (by repeat (first | (with_reducible first | exact HB.out | apply below_alloc | apply pw_below_drewN | apply below_drew1) | exact HB.out))) : w.heap.size ≤ gb155)); clear HB; have HB := n0_; have BK155 := n1_; have GW155 := n2_; have GE155 := n3_; clear n0_ n1_ n2_ n3_; clear hb hbox hg; have hcz11_0 : w10.cell? ⟨gb155, 0, none⟩ = some (.int .i64 0) := (blk_cell BK155.out 0).trans rfl; have hcz11_1 : w10.cell? ⟨gb155, 1, none⟩ = some (.int .i64 0) := (blk_cell BK155.out 1).trans rfl; have hcz11_2 : w10.cell? ⟨gb155, 2, none⟩ = some (.int .i64 0) := (blk_cell BK155.out 2).trans rfl; have hcz11_3 : w10.cell? ⟨gb155, 3, none⟩ = some (.int .i64 0) := (blk_cell BK155.out 3).trans rfl; have hcz11_4 : w10.cell? ⟨gb155, 4, none⟩ = some (.slice none 0 0) := (blk_cell BK155.out 4).trans rfl; have hcz11_5 : w10.cell? ⟨gb155, 5, none⟩ = some (.int .i64 0) := (blk_cell BK155.out 5).trans rfl; have hfz11_0 := blk_frozen BK155.out 0; have hfz11_1 := blk_frozen BK155.out 1; have hfz11_2 := blk_frozen BK155.out 2; have hfz11_3 := blk_frozen BK155.out 3; have hfz11_4 := blk_frozen BK155.out 4; have hfz11_5 := blk_frozen BK155.out 5) | ((with_reducible refine gate_dst (N := 7) rfl ?_); (try (refine gate_guard (by rfl) ?_; dsimp only)); refine box_event ?hg (N := 7) ?hd (cs := #[.int .i64 0, .int .i64 0]) (t := 26) ?hr ?_; (case hd => rfl); (case hg => rfl); (case hr => first | (go_simp; done) | (go_simp; rfl)); intro gb156 hg w12 hbox hb; have n0_ := Aside0.mk (blk_below (g := gb155) (o := .cells #[.int .i64 1, .int .i64 0, .int .i64 10, .int .i64 4, .slice none 0 0, .int .i64 0] 24 (0, 0)) (by (with_reducible repeat (first | refine blk_drewN ?_ _ | refine blk_drew ?_ | refine blk_alloc ?_ _)); refine blk_put (cs := #[.int .i64 1, .int .i64 0, .int .i64 10, .int .i64 4, .slice none 0 0, .int .i64 0]) ?_ 5 _ rfl; (with_reducible repeat (first | refine blk_drewN ?_ _ | refine blk_drew ?_ | refine blk_alloc ?_ _)); refine blk_put (cs := #[.int .i64 1, .int .i64 0, .int .i64 10, .int .i64 4, .slice none 0 0, .int .i64 0]) ?_ 4 _ rfl; (with_reducible repeat (first | refine blk_drewN ?_ _ | refine blk_drew ?_ | refine blk_alloc ?_ _)); refine blk_put (cs := #[.int .i64 1, .int .i64 0, .int .i64 10, .int .i64 0, .slice none 0 0, .int .i64 0]) ?_ 3 _ rfl; (with_reducible repeat (first | refine blk_drewN ?_ _ | refine blk_drew ?_ | refine blk_alloc ?_ _)); refine blk_put (cs := #[.int .i64 1, .int .i64 0, .int .i64 0, .int .i64 0, .slice none 0 0, .int .i64 0]) ?_ 2 _ rfl; (with_reducible repeat (first | refine blk_drewN ?_ _ | refine blk_drew ?_ | refine blk_alloc ?_ _)); refine blk_put (cs := #[.int .i64 1, .int .i64 0, .int .i64 0, .int .i64 0, .slice none 0 0, .int .i64 0]) ?_ 1 _ rfl; (with_reducible repeat (first | refine blk_drewN ?_ _ | refine blk_drew ?_ | refine blk_alloc ?_ _)); refine blk_put (cs := #[.int .i64 0, .int .i64 0, .int .i64 0, .int .i64 0, .slice none 0 0, .int .i64 0]) ?_ 0 _ rfl; (with_reducible repeat (first | refine blk_drewN ?_ _ | refine blk_drew ?_ | refine blk_alloc ?_ _)); exact BK155.out) hb); have n1_ := Aside0.mk (below_step (by repeat (first | (with_reducible first | exact HB.out | apply below_alloc | apply pw_below_drewN | apply below_drew1 | refine below_set ?_ GE155.out) | exact HB.out)) hb); have n2_ := Aside0.mk (hbox); have n3_ := Aside0.mk ((by rw [hg]; exact (below_size (by repeat (first | (with_reducible first | exact HB.out | apply below_alloc | apply pw_below_drewN | apply below_drew1 | refine below_set ?_ GE155.out) | exact HB.out))) : w.heap.size ≤ gb156)); have n4_ := Aside0.mk ((by rw [hg]; exact (below_size (by repeat (first | (with_reducible first | exact HB.out | apply below_alloc | apply pw_below_drewN | apply below_drew1 | refine below_set ?_ GE155.out) | exact HB.out))) : w.heap.size ≤ gb156)); have n5_ := Aside0.mk ((by rw [hg]; exact Nat.ne_of_lt (blk_lt (g := gb155) (o := .cells #[.int .i64 1, .int .i64 0, .int .i64 10, .int .i64 4, .slice none 0 0, .int .i64 0] 24 (0, 0)) (by (with_reducible repeat (first | refine blk_drewN ?_ _ | refine blk_drew ?_ | refine blk_alloc ?_ _)); refine blk_put (cs := #[.int .i64 1, .int .i64 0, .int .i64 10, .int .i64 4, .slice none 0 0, .int .i64 0]) ?_ 5 _ rfl; (with_reducible repeat (first | refine blk_drewN ?_ _ | refine blk_drew ?_ | refine blk_alloc ?_ _)); refine blk_put (cs := #[.int .i64 1, .int .i64 0, .int .i64 10, .int .i64 4, .slice none 0 0, .int .i64 0]) ?_ 4 _ rfl; (with_reducible repeat (first | refine blk_drewN ?_ _ | refine blk_drew ?_ | refine blk_alloc ?_ _)); refine blk_put (cs := #[.int .i64 1, .int .i64 0, .int .i64 10, .int .i64 0, .slice none 0 0, .int .i64 0]) ?_ 3 _ rfl; (with_reducible repeat (first | refine blk_drewN ?_ _ | refine blk_drew ?_ | refine blk_alloc ?_ _)); refine blk_put (cs := #[.int .i64 1, .int .i64 0, .int .i64 0, .int .i64 0, .slice none 0 0, .int .i64 0]) ?_ 2 _ rfl; (with_reducible repeat (first | refine blk_drewN ?_ _ | refine blk_drew ?_ | refine blk_alloc ?_ _)); refine blk_put (cs := #[.int .i64 1, .int .i64 0, .int .i64 0, .int .i64 0, .slice none 0 0, .int .i64 0]) ?_ 1 _ rfl; (with_reducible repeat (first | refine blk_drewN ?_ _ | refine blk_drew ?_ | refine blk_alloc ?_ _)); refine blk_put (cs := #[.int .i64 0, .int .i64 0, .int .i64 0, .int .i64 0, .slice none 0 0, .int .i64 0]) ?_ 0 _ rfl; (with_reducible repeat (first | refine blk_drewN ?_ _ | refine blk_drew ?_ | refine blk_alloc ?_ _)); exact BK155.out)) : gb155 ≠ gb156)); have n6_ := Aside0.mk ((by rw [hg]; exact Nat.ne_of_gt (blk_lt (g := gb155) (o := .cells #[.int .i64 1, .int .i64 0, .int .i64 10, .int .i64 4, .slice none 0 0, .int .i64 0] 24 (0, 0)) (by (with_reducible repeat (first | refine blk_drewN ?_ _ | refine blk_drew ?_ | refine blk_alloc ?_ _)); refine blk_put (cs := #[.int .i64 1, .int .i64 0, .int .i64 10, .int .i64 4, .slice none 0 0, .int .i64 0]) ?_ 5 _ rfl; (with_reducible repeat (first | refine blk_drewN ?_ _ | refine blk_drew ?_ | refine blk_alloc ?_ _)); refine blk_put (cs := #[.int .i64 1, .int .i64 0, .int .i64 10, .int .i64 4, .slice none 0 0, .int .i64 0]) ?_ 4 _ rfl; (with_reducible repeat (first | refine blk_drewN ?_ _ | refine blk_drew ?_ | refine blk_alloc ?_ _)); refine blk_put (cs := #[.int .i64 1, .int .i64 0, .int .i64 10, .int .i64 0, .slice none 0 0, .int .i64 0]) ?_ 3 _ rfl; (with_reducible repeat (first | refine blk_drewN ?_ _ | refine blk_drew ?_ | refine blk_alloc ?_ _)); refine blk_put (cs := #[.int .i64 1, .int .i64 0, .int .i64 0, .int .i64 0, .slice none 0 0, .int .i64 0]) ?_ 2 _ rfl; (with_reducible repeat (first | refine blk_drewN ?_ _ | refine blk_drew ?_ | refine blk_alloc ?_ _)); refine blk_put (cs := #[.int .i64 1, .int .i64 0, .int .i64 0, .int .i64 0, .slice none 0 0, .int .i64 0]) ?_ 1 _ rfl; (with_reducible repeat (first | refine blk_drewN ?_ _ | refine blk_drew ?_ | refine blk_alloc ?_ _)); refine blk_put (cs := #[.int .i64 0, .int .i64 0, .int .i64 0, .int .i64 0, .slice none 0 0, .int .i64 0]) ?_ 0 _ rfl; (with_reducible repeat (first | refine blk_drewN ?_ _ | refine blk_drew ?_ | refine blk_alloc ?_ _)); exact BK155.out)) : gb156 ≠ gb155)); clear BK155; clear HB; have BK155 := n0_; have HB := n1_; have BK156 := n2_; have GW156 := n3_; have GE156 := n4_; have NB155_156 := n5_; have NB156_155 := n6_; clear n0_ n1_ n2_ n3_ n4_ n5_ n6_; clear hb hbox hg; have hnb13 := NB156_155.out; have hnc13 := NB155_156.out; have hcz14_0 : w12.cell? ⟨gb156, 0, none⟩ = some (.int .i64 0) := (blk_cell BK156.out 0).trans rfl; have hcz14_1 : w12.cell? ⟨gb156, 1, none⟩ = some (.int .i64 0) := (blk_cell BK156.out 1).trans rfl; have hfz14_0 := blk_frozen BK156.out 0; have hfz14_1 := blk_frozen BK156.out 1; have hcz15_0 : w12.cell? ⟨gb155, 0, none⟩ = some (.int .i64 1) := (blk_cell BK155.out 0).trans rfl; have hcz15_1 : w12.cell? ⟨gb155, 1, none⟩ = some (.int .i64 0) := (blk_cell BK155.out 1).trans rfl; have hcz15_2 : w12.cell? ⟨gb155, 2, none⟩ = some (.int .i64 10) := (blk_cell BK155.out 2).trans rfl; have hcz15_3 : w12.cell? ⟨gb155, 3, none⟩ = some (.int .i64 4) := (blk_cell BK155.out 3).trans rfl; have hcz15_4 : w12.cell? ⟨gb155, 4, none⟩ = some (.slice none 0 0) := (blk_cell BK155.out 4).trans rfl; have hcz15_5 : w12.cell? ⟨gb155, 5, none⟩ = some (.int .i64 0) := (blk_cell BK155.out 5).trans rfl; have hfz15_0 := blk_frozen BK155.out 0; have hfz15_1 := blk_frozen BK155.out 1; have hfz15_2 := blk_frozen BK155.out 2; have hfz15_3 := blk_frozen BK155.out 3; have hfz15_4 := blk_frozen BK155.out 4; have hfz15_5 := blk_frozen BK155.out 5) | ((with_reducible refine gate_callee (f := 11) rfl ?_); refine goesL_ (some 26) rfl rfl Try.func11 (by kernel_rfl) rfl #[.agg #[.int .i64 1, .int .i64 0, .int .i64 10, .int .i64 4, .slice none 0 0, .int .i64 0], .agg #[.int .i64 8, .int .i64 18]] rfl (by (try simp only [List.map_toArray, List.map_cons, List.map_nil]); first | done | rfl | (simp only [List.length_drop, List.length_take]; rfl)) ?_; (with_reducible refine (slice_Cut.calls_nil 1 0 10 4 0 8 18 t157 t160 _ A5.out).mono ?_); rintro e w16 ⟨v158, rfl, ho0, hb⟩; refine ⟨_, rfl, ?_⟩; have n0_ := Aside0.mk (Kd.R_lower (Kd.R_newB ho0 (g := gb156) (o := .cells #[.int .i64 8, .int .i64 18] 26 (0, 0)) (by (with_reducible repeat (first | refine blk_drewN ?_ _ | refine blk_drew ?_ | refine blk_alloc ?_ _)); refine blk_put (cs := #[.int .i64 8, .int .i64 0]) ?_ 1 _ rfl; (with_reducible repeat (first | refine blk_drewN ?_ _ | refine blk_drew ?_ | refine blk_alloc ?_ _)); refine blk_put (cs := #[.int .i64 0, .int .i64 0]) ?_ 0 _ rfl; (with_reducible repeat (first | refine blk_drewN ?_ _ | refine blk_drew ?_ | refine blk_alloc ?_ _)); exact BK156.out)) (below_size (by repeat (first | (with_reducible first | exact HB.out | apply below_alloc | apply pw_below_drewN | apply below_drew1 | refine below_set ?_ GE155.out | refine below_set ?_ GE156.out) | exact HB.out)))); have n1_ := Aside0.mk (blk_below (g := gb155) (o := .cells #[.int .i64 1, .int .i64 0, .int .i64 10, .int .i64 4, .slice none 0 0, .int .i64 0] 24 (0, 0)) (by (with_reducible repeat (first | refine blk_drewN ?_ _ | refine blk_drew ?_ | refine blk_alloc ?_ _)); refine blk_far ?_ NB155_156.out _; (with_reducible repeat (first | refine blk_drewN ?_ _ | refine blk_drew ?_ | refine blk_alloc ?_ _)); refine blk_far ?_ NB155_156.out _; (with_reducible repeat (first | refine blk_drewN ?_ _ | refine blk_drew ?_ | refine blk_alloc ?_ _)); exact BK155.out) hb); have n2_ := Aside0.mk (blk_below (g := gb156) (o := .cells #[.int .i64 8, .int .i64 18] 26 (0, 0)) (by (with_reducible repeat (first | refine blk_drewN ?_ _ | refine blk_drew ?_ | refine blk_alloc ?_ _)); refine blk_put (cs := #[.int .i64 8, .int .i64 0]) ?_ 1 _ rfl; (with_reducible repeat (first | refine blk_drewN ?_ _ | refine blk_drew ?_ | refine blk_alloc ?_ _)); refine blk_put (cs := #[.int .i64 0, .int .i64 0]) ?_ 0 _ rfl; (with_reducible repeat (first | refine blk_drewN ?_ _ | refine blk_drew ?_ | refine blk_alloc ?_ _)); exact BK156.out) hb); have n3_ := Aside0.mk (below_step (by repeat (first | (with_reducible first | exact HB.out | apply below_alloc | apply pw_below_drewN | apply below_drew1 | refine below_set ?_ GE155.out | refine below_set ?_ GE156.out) | exact HB.out)) hb); clear BK155; clear BK156; clear HB; have HO159 := n0_; have BK155 := n1_; have BK156 := n2_; have HB := n3_; clear n0_ n1_ n2_ n3_; (try clear hb); (try clear hb2); (try clear hk); (try clear hi); (try clear ho0); have hcz17_0 : w16.cell? ⟨gb155, 0, none⟩ = some (.int .i64 1) := (blk_cell BK155.out 0).trans rfl; have hcz17_1 : w16.cell? ⟨gb155, 1, none⟩ = some (.int .i64 0) := (blk_cell BK155.out 1).trans rfl; have hcz17_2 : w16.cell? ⟨gb155, 2, none⟩ = some (.int .i64 10) := (blk_cell BK155.out 2).trans rfl; have hcz17_3 : w16.cell? ⟨gb155, 3, none⟩ = some (.int .i64 4) := (blk_cell BK155.out 3).trans rfl; have hcz17_4 : w16.cell? ⟨gb155, 4, none⟩ = some (.slice none 0 0) := (blk_cell BK155.out 4).trans rfl; have hcz17_5 : w16.cell? ⟨gb155, 5, none⟩ = some (.int .i64 0) := (blk_cell BK155.out 5).trans rfl; have hfz17_0 := blk_frozen BK155.out 0; have hfz17_1 := blk_frozen BK155.out 1; have hfz17_2 := blk_frozen BK155.out 2; have hfz17_3 := blk_frozen BK155.out 3; have hfz17_4 := blk_frozen BK155.out 4; have hfz17_5 := blk_frozen BK155.out 5) | ((with_reducible refine gate_callee (f := 9) rfl ?_); refine goesL_ (some 33) rfl rfl Try.func9 (by kernel_rfl) rfl #[.agg #[.int .i64 1, .int .i64 0, .int .i64 10, .int .i64 4, .slice none 0 0, .int .i64 0], .int .i64 (wrap64 (1099511627776 + (wrap64 (1 + (Go.bits .and .i64 a1 1023)))))] rfl (by (try simp only [List.map_toArray, List.map_cons, List.map_nil]); first | done | rfl | (simp only [List.length_drop, List.length_take]; rfl)) ?_; (with_reducible refine (slice_At.calls_nil k 1 0 10 4 0 (wrap64 (1099511627776 + (wrap64 (1 + (Go.bits .and .i64 a1 1023))))) t161 t162 t163 _ A6.out).mono ?_); rintro e w18 ⟨rfl, hb⟩; refine ⟨_, rfl, ?_⟩; have n0_ := Aside0.mk (Kd.R_below (by (with_reducible repeat (first | apply Kd.R_alloc | apply Kd.R_drewN | apply Kd.R_drew)); exact HO159.out) hb); have n1_ := Aside0.mk (blk_below (g := gb155) (o := .cells #[.int .i64 1, .int .i64 0, .int .i64 10, .int .i64 4, .slice none 0 0, .int .i64 0] 24 (0, 0)) (by (with_reducible repeat (first | refine blk_drewN ?_ _ | refine blk_drew ?_ | refine blk_alloc ?_ _)); exact BK155.out) hb); have n2_ := Aside0.mk (blk_below (g := gb156) (o := .cells #[.int .i64 8, .int .i64 18] 26 (0, 0)) (by (with_reducible repeat (first | refine blk_drewN ?_ _ | refine blk_drew ?_ | refine blk_alloc ?_ _)); exact BK156.out) hb); have n3_ := Aside0.mk (below_step (by repeat (first | (with_reducible first | exact HB.out | apply below_alloc | apply pw_below_drewN | apply below_drew1 | refine below_set ?_ GE155.out | refine below_set ?_ GE156.out) | exact HB.out)) hb); clear HO159; clear BK155; clear BK156; clear HB; have HO159 := n0_; have BK155 := n1_; have BK156 := n2_; have HB := n3_; clear n0_ n1_ n2_ n3_; (try clear hb); (try clear hb2); (try clear hk); (try clear hi)) | ((with_reducible refine gate_dst (N := 10) rfl ?_); (try (refine gate_guard (by rfl) ?_; dsimp only)); refine box_event ?hg (N := 10) ?hd (cs := #[.int .i64 0, .int .i64 0]) (t := 26) ?hr ?_; (case hd => rfl); (case hg => rfl); (case hr => first | (go_simp; done) | (go_simp; rfl)); intro gb164 hg w19 hbox hb; have n0_ := Aside0.mk (Kd.R_below (Kd.R_elderB (by (with_reducible repeat (first | apply Kd.R_alloc | apply Kd.R_drewN | apply Kd.R_drew)); exact HO159.out) gb164 (Nat.le_of_eq hg.symm)) hb); have n1_ := Aside0.mk (blk_below (g := gb155) (o := .cells #[.int .i64 1, .int .i64 0, .int .i64 10, .int .i64 4, .slice none 0 0, .int .i64 0] 24 (0, 0)) (by (with_reducible repeat (first | refine blk_drewN ?_ _ | refine blk_drew ?_ | refine blk_alloc ?_ _)); exact BK155.out) hb); have n2_ := Aside0.mk (blk_below (g := gb156) (o := .cells #[.int .i64 8, .int .i64 18] 26 (0, 0)) (by (with_reducible repeat (first | refine blk_drewN ?_ _ | refine blk_drew ?_ | refine blk_alloc ?_ _)); exact BK156.out) hb); have n3_ := Aside0.mk (below_step (by repeat (first | (with_reducible first | exact HB.out | apply below_alloc | apply pw_below_drewN | apply below_drew1 | refine below_set ?_ GE155.out | refine below_set ?_ GE156.out) | exact HB.out)) hb); have n4_ := Aside0.mk (hbox); have n5_ := Aside0.mk ((by rw [hg]; exact (below_size (by repeat (first | (with_reducible first | exact HB.out | apply below_alloc | apply pw_below_drewN | apply below_drew1 | refine below_set ?_ GE155.out | refine below_set ?_ GE156.out) | exact HB.out))) : w.heap.size ≤ gb164)); have n6_ := Aside0.mk ((by rw [hg]; exact (below_size (by repeat (first | (with_reducible first | exact HB.out | apply below_alloc | apply pw_below_drewN | apply below_drew1 | refine below_set ?_ GE155.out | refine below_set ?_ GE156.out) | exact HB.out))) : w.heap.size ≤ gb164)); have n7_ := Aside0.mk ((by rw [hg]; exact Nat.ne_of_lt (blk_lt (g := gb155) (o := .cells #[.int .i64 1, .int .i64 0, .int .i64 10, .int .i64 4, .slice none 0 0, .int .i64 0] 24 (0, 0)) (by (with_reducible repeat (first | refine blk_drewN ?_ _ | refine blk_drew ?_ | refine blk_alloc ?_ _)); exact BK155.out)) : gb155 ≠ gb164)); have n8_ := Aside0.mk ((by rw [hg]; exact Nat.ne_of_gt (blk_lt (g := gb155) (o := .cells #[.int .i64 1, .int .i64 0, .int .i64 10, .int .i64 4, .slice none 0 0, .int .i64 0] 24 (0, 0)) (by (with_reducible repeat (first | refine blk_drewN ?_ _ | refine blk_drew ?_ | refine blk_alloc ?_ _)); exact BK155.out)) : gb164 ≠ gb155)); have n9_ := Aside0.mk ((by rw [hg]; exact Nat.ne_of_lt (blk_lt (g := gb156) (o := .cells #[.int .i64 8, .int .i64 18] 26 (0, 0)) (by (with_reducible repeat (first | refine blk_drewN ?_ _ | refine blk_drew ?_ | refine blk_alloc ?_ _)); exact BK156.out)) : gb156 ≠ gb164)); have n10_ := Aside0.mk ((by rw [hg]; exact Nat.ne_of_gt (blk_lt (g := gb156) (o := .cells #[.int .i64 8, .int .i64 18] 26 (0, 0)) (by (with_reducible repeat (first | refine blk_drewN ?_ _ | refine blk_drew ?_ | refine blk_alloc ?_ _)); exact BK156.out)) : gb164 ≠ gb156)); clear HO159; clear BK155; clear BK156; clear HB; have HO159 := n0_; have BK155 := n1_; have BK156 := n2_; have HB := n3_; have BK164 := n4_; have GW164 := n5_; have GE164 := n6_; have NB155_164 := n7_; have NB164_155 := n8_; have NB156_164 := n9_; have NB164_156 := n10_; clear n0_ n1_ n2_ n3_ n4_ n5_ n6_ n7_ n8_ n9_ n10_; clear hb hbox hg; have hnb20 := NB164_155.out; have hnc20 := NB155_164.out; have hnb21 := NB164_156.out; have hnc21 := NB156_164.out; have hcz22_0 : w19.cell? ⟨gb164, 0, none⟩ = some (.int .i64 0) := (blk_cell BK164.out 0).trans rfl; have hcz22_1 : w19.cell? ⟨gb164, 1, none⟩ = some (.int .i64 0) := (blk_cell BK164.out 1).trans rfl; have hfz22_0 := blk_frozen BK164.out 0; have hfz22_1 := blk_frozen BK164.out 1) | ((with_reducible refine gate_callee (f := 7) rfl ?_); refine goesL_ (some 38) rfl rfl Try.func7 (by kernel_rfl) rfl #[.agg #[.int .i64 2, .int .i64 0, .int .i64 5, .int .i64 0, .slice none 0 0, .int .i64 0]] rfl (by (try simp only [List.map_toArray, List.map_cons, List.map_nil]); first | done | rfl | (simp only [List.length_drop, List.length_take]; rfl)) ?_; (with_reducible refine (slice_Unit.calls_nil k 2 0 5 0 0 t165 t166 _ A7.out).mono ?_); rintro e w23 ⟨rfl, hb⟩; refine ⟨_, rfl, ?_⟩; have n0_ := Aside0.mk (Kd.R_below (by (with_reducible repeat (first | apply Kd.R_alloc | apply Kd.R_drewN | apply Kd.R_drew)); exact (Kd.R_mono (Kd.R_far (p := ⟨gb164, 1, none⟩) (Kd.R_far (p := ⟨gb164, 0, none⟩) (Kd.R_mono HO159.out (fun k_ hk => (⟨hk, hk.2⟩ : _ ∧ k_ ≠ gb164))) (fun _ hk => hk.2) (.int .i64 t161)) (fun _ hk => hk.2) (.int .i64 t162)) (fun _ h_ => h_.1))) hb); have n1_ := Aside0.mk (blk_below (g := gb155) (o := .cells #[.int .i64 1, .int .i64 0, .int .i64 10, .int .i64 4, .slice none 0 0, .int .i64 0] 24 (0, 0)) (by (with_reducible repeat (first | refine blk_drewN ?_ _ | refine blk_drew ?_ | refine blk_alloc ?_ _)); refine blk_far ?_ NB155_164.out _; (with_reducible repeat (first | refine blk_drewN ?_ _ | refine blk_drew ?_ | refine blk_alloc ?_ _)); refine blk_far ?_ NB155_164.out _; (with_reducible repeat (first | refine blk_drewN ?_ _ | refine blk_drew ?_ | refine blk_alloc ?_ _)); exact BK155.out) hb); have n2_ := Aside0.mk (blk_below (g := gb156) (o := .cells #[.int .i64 8, .int .i64 18] 26 (0, 0)) (by (with_reducible repeat (first | refine blk_drewN ?_ _ | refine blk_drew ?_ | refine blk_alloc ?_ _)); refine blk_far ?_ NB156_164.out _; (with_reducible repeat (first | refine blk_drewN ?_ _ | refine blk_drew ?_ | refine blk_alloc ?_ _)); refine blk_far ?_ NB156_164.out _; (with_reducible repeat (first | refine blk_drewN ?_ _ | refine blk_drew ?_ | refine blk_alloc ?_ _)); exact BK156.out) hb); have n3_ := Aside0.mk (blk_below (g := gb164) (o := .cells #[.int .i64 t161, .int .i64 t162] 26 (0, 0)) (by (with_reducible repeat (first | refine blk_drewN ?_ _ | refine blk_drew ?_ | refine blk_alloc ?_ _)); refine blk_put (cs := #[.int .i64 t161, .int .i64 0]) ?_ 1 _ rfl; (with_reducible repeat (first | refine blk_drewN ?_ _ | refine blk_drew ?_ | refine blk_alloc ?_ _)); refine blk_put (cs := #[.int .i64 0, .int .i64 0]) ?_ 0 _ rfl; (with_reducible repeat (first | refine blk_drewN ?_ _ | refine blk_drew ?_ | refine blk_alloc ?_ _)); exact BK164.out) hb); have n4_ := Aside0.mk (below_step (by repeat (first | (with_reducible first | exact HB.out | apply below_alloc | apply pw_below_drewN | apply below_drew1 | refine below_set ?_ GE155.out | refine below_set ?_ GE156.out | refine below_set ?_ GE164.out) | exact HB.out)) hb); clear HO159; clear BK155; clear BK156; clear BK164; clear HB; have HO159 := n0_; have BK155 := n1_; have BK156 := n2_; have BK164 := n3_; have HB := n4_; clear n0_ n1_ n2_ n3_ n4_; (try clear hb); (try clear hb2); (try clear hk); (try clear hi)))
    (try simp only [Act.put, List.setIfInBounds_toArray, List.set_cons_zero, List.set_cons_succ])
    go_cut [] (fun wc => ∃ (kq : Nat) (x156000_7 : Int) (x156003_7 : Int) (x157000_7 : Int) (x157001_7 : Int), Aside0 (bournelaw5_SliceForms.j0 kq t157 t160 t163 t166 x156000_7 0 10 x156003_7 0 x157000_7 x157001_7 = some r) ∧ Aside0 (kq ≤ k) ∧ Aside0 (Kd.R k26 26 wc w.heap.size (fun k_ => k_ ≠ gb156 ∧ k_ ≠ gb164) v158 t157) ∧ Aside0 (wc.heap[gb155]? = some (.cells #[.int .i64 x156000_7, .int .i64 0, .int .i64 10, .int .i64 x156003_7, (.slice none 0 0), .int .i64 0] 24 (0, 0))) ∧ Aside0 (wc.heap[gb156]? = some (.cells #[.int .i64 x157000_7, .int .i64 x157001_7] 26 (0, 0))) ∧ Aside0 (wc.heap[gb164]? = some (.cells #[.int .i64 t161, .int .i64 t162] 26 (0, 0))) ∧ Aside0 (Below w.heap.size w wc))
    case first =>
      have H := HC8.out
      clear HC8
      by_cases c24 : (Int.tmod (IntKind.u64.wrap (a0)) 7) = 0
      · rw [if_pos c24] at H
        have c24b0 : ((Int.tmod (IntKind.u64.wrap (a0)) 7) == 0) = true := beq_iff_eq.mpr c24
        have c24b1 : ((Int.tmod (IntKind.u64.wrap (a0)) 7) != 0) = false := bne_eq_false_iff_eq.mpr c24
        clear c24
        (first | rw [c24b0] | (simp only [i64_w, i32_w]; rw [c24b0]) | skip)
        have H' := Aside0.mk H
        clear H
        have hnb25 := NB156_155.out
        have hnc25 := NB155_156.out
        have hnb26 := NB156_164.out
        have hnc26 := NB164_156.out
        have hcz27_0 : w23.cell? ⟨gb156, 0, none⟩ = some (.int .i64 8) := (blk_cell BK156.out 0).trans rfl
        have hcz27_1 : w23.cell? ⟨gb156, 1, none⟩ = some (.int .i64 18) := (blk_cell BK156.out 1).trans rfl
        have hfz27_0 := blk_frozen BK156.out 0
        have hfz27_1 := blk_frozen BK156.out 1
        go_wp2
        go_meet
        case rel => exact ⟨_, (1), (4), (wrap64 (9 + (Int.tmod (wrap64 (1 + (Go.bits .and .i64 a1 1023))) 3))), (18), H', ⟨by first | omega | exact Nat.le_refl _⟩, ⟨by (with_reducible repeat (first | apply Kd.R_alloc | apply Kd.R_drewN | apply Kd.R_drew)); exact Kd.R_mono (Kd.R_far (p := ⟨gb156, 0, none⟩) (Kd.R_mono HO159.out (fun k_ hk => (⟨hk, hk.1.2⟩ : _ ∧ k_ ≠ gb156))) (fun _ hk => hk.2) (.int .i64 (wrap64 (9 + (Int.tmod (wrap64 (1 + (Go.bits .and .i64 a1 1023))) 3))))) (fun _ hk => ⟨hk.1.1.2, hk.1.2⟩)⟩, ⟨by (with_reducible repeat (first | refine blk_drewN ?_ _ | refine blk_drew ?_ | refine blk_alloc ?_ _)); refine blk_far ?_ NB155_156.out _; (with_reducible repeat (first | refine blk_drewN ?_ _ | refine blk_drew ?_ | refine blk_alloc ?_ _)); exact BK155.out⟩, ⟨by (with_reducible repeat (first | refine blk_drewN ?_ _ | refine blk_drew ?_ | refine blk_alloc ?_ _)); refine blk_put (cs := #[.int .i64 8, .int .i64 18]) ?_ 0 _ rfl; (with_reducible repeat (first | refine blk_drewN ?_ _ | refine blk_drew ?_ | refine blk_alloc ?_ _)); exact BK156.out⟩, ⟨by (with_reducible repeat (first | refine blk_drewN ?_ _ | refine blk_drew ?_ | refine blk_alloc ?_ _)); refine blk_far ?_ NB164_156.out _; (with_reducible repeat (first | refine blk_drewN ?_ _ | refine blk_drew ?_ | refine blk_alloc ?_ _)); exact BK164.out⟩, ⟨by repeat (first | (with_reducible first | exact HB.out | apply below_alloc | apply pw_below_drewN | apply below_drew1 | refine below_set ?_ GE155.out | refine below_set ?_ GE156.out | refine below_set ?_ GE164.out) | exact HB.out)⟩⟩
      · rw [if_neg c24] at H
        have c24b0 : ((Int.tmod (IntKind.u64.wrap (a0)) 7) == 0) = false := beq_eq_false_iff_ne.mpr c24
        have c24b1 : ((Int.tmod (IntKind.u64.wrap (a0)) 7) != 0) = true := bne_iff_ne.mpr c24
        (first | rw [c24b0] | (simp only [i64_w, i32_w]; rw [c24b0]) | skip)
        by_cases c28 : (Int.tmod (IntKind.u64.wrap (a0)) 7) = 1
        · rw [if_pos c28] at H
          have c28b0 : ((Int.tmod (IntKind.u64.wrap (a0)) 7) == 1) = true := beq_iff_eq.mpr c28
          have c28b1 : ((Int.tmod (IntKind.u64.wrap (a0)) 7) != 1) = false := bne_eq_false_iff_eq.mpr c28
          clear c28
          have H' := Aside0.mk H
          clear H
          have hnb29 := NB156_155.out
          have hnc29 := NB155_156.out
          have hnb30 := NB156_164.out
          have hnc30 := NB164_156.out
          have hcz31_0 : w23.cell? ⟨gb156, 0, none⟩ = some (.int .i64 8) := (blk_cell BK156.out 0).trans rfl
          have hcz31_1 : w23.cell? ⟨gb156, 1, none⟩ = some (.int .i64 18) := (blk_cell BK156.out 1).trans rfl
          have hfz31_0 := blk_frozen BK156.out 0
          have hfz31_1 := blk_frozen BK156.out 1
          go_wp2
          go_meet
          case rel => exact ⟨_, (1), (4), (8), (wrap64 (18 + (wrap64 (1 + (Go.bits .and .i64 a1 1023))))), H', ⟨by first | omega | exact Nat.le_refl _⟩, ⟨by (with_reducible repeat (first | apply Kd.R_alloc | apply Kd.R_drewN | apply Kd.R_drew)); exact Kd.R_mono (Kd.R_far (p := ⟨gb156, 1, none⟩) (Kd.R_mono HO159.out (fun k_ hk => (⟨hk, hk.1.2⟩ : _ ∧ k_ ≠ gb156))) (fun _ hk => hk.2) (.int .i64 (wrap64 (18 + (wrap64 (1 + (Go.bits .and .i64 a1 1023))))))) (fun _ hk => ⟨hk.1.1.2, hk.1.2⟩)⟩, ⟨by (with_reducible repeat (first | refine blk_drewN ?_ _ | refine blk_drew ?_ | refine blk_alloc ?_ _)); refine blk_far ?_ NB155_156.out _; (with_reducible repeat (first | refine blk_drewN ?_ _ | refine blk_drew ?_ | refine blk_alloc ?_ _)); exact BK155.out⟩, ⟨by (with_reducible repeat (first | refine blk_drewN ?_ _ | refine blk_drew ?_ | refine blk_alloc ?_ _)); refine blk_put (cs := #[.int .i64 8, .int .i64 18]) ?_ 1 _ rfl; (with_reducible repeat (first | refine blk_drewN ?_ _ | refine blk_drew ?_ | refine blk_alloc ?_ _)); exact BK156.out⟩, ⟨by (with_reducible repeat (first | refine blk_drewN ?_ _ | refine blk_drew ?_ | refine blk_alloc ?_ _)); refine blk_far ?_ NB164_156.out _; (with_reducible repeat (first | refine blk_drewN ?_ _ | refine blk_drew ?_ | refine blk_alloc ?_ _)); exact BK164.out⟩, ⟨by repeat (first | (with_reducible first | exact HB.out | apply below_alloc | apply pw_below_drewN | apply below_drew1 | refine below_set ?_ GE155.out | refine below_set ?_ GE156.out | refine below_set ?_ GE164.out) | exact HB.out)⟩⟩
        · rw [if_neg c28] at H
          have c28b0 : ((Int.tmod (IntKind.u64.wrap (a0)) 7) == 1) = false := beq_eq_false_iff_ne.mpr c28
          have c28b1 : ((Int.tmod (IntKind.u64.wrap (a0)) 7) != 1) = true := bne_iff_ne.mpr c28
          by_cases c32 : (Int.tmod (IntKind.u64.wrap (a0)) 7) = 2
          · rw [if_pos c32] at H
            have c32b0 : ((Int.tmod (IntKind.u64.wrap (a0)) 7) == 2) = true := beq_iff_eq.mpr c32
            have c32b1 : ((Int.tmod (IntKind.u64.wrap (a0)) 7) != 2) = false := bne_eq_false_iff_eq.mpr c32
            clear c32
            have H' := Aside0.mk H
            clear H
            have hnb33 := NB156_155.out
            have hnc33 := NB155_156.out
            have hnb34 := NB156_164.out
            have hnc34 := NB164_156.out
            have hcz35_0 : w23.cell? ⟨gb156, 0, none⟩ = some (.int .i64 8) := (blk_cell BK156.out 0).trans rfl
            have hcz35_1 : w23.cell? ⟨gb156, 1, none⟩ = some (.int .i64 18) := (blk_cell BK156.out 1).trans rfl
            have hfz35_0 := blk_frozen BK156.out 0
            have hfz35_1 := blk_frozen BK156.out 1
            go_wp2
            go_meet
            case rel => exact ⟨_, (1), (4), (8), (wrap64 (18 - (wrap64 (1 + (Go.bits .and .i64 a1 1023))))), H', ⟨by first | omega | exact Nat.le_refl _⟩, ⟨by (with_reducible repeat (first | apply Kd.R_alloc | apply Kd.R_drewN | apply Kd.R_drew)); exact Kd.R_mono (Kd.R_far (p := ⟨gb156, 1, none⟩) (Kd.R_mono HO159.out (fun k_ hk => (⟨hk, hk.1.2⟩ : _ ∧ k_ ≠ gb156))) (fun _ hk => hk.2) (.int .i64 (wrap64 (18 - (wrap64 (1 + (Go.bits .and .i64 a1 1023))))))) (fun _ hk => ⟨hk.1.1.2, hk.1.2⟩)⟩, ⟨by (with_reducible repeat (first | refine blk_drewN ?_ _ | refine blk_drew ?_ | refine blk_alloc ?_ _)); refine blk_far ?_ NB155_156.out _; (with_reducible repeat (first | refine blk_drewN ?_ _ | refine blk_drew ?_ | refine blk_alloc ?_ _)); exact BK155.out⟩, ⟨by (with_reducible repeat (first | refine blk_drewN ?_ _ | refine blk_drew ?_ | refine blk_alloc ?_ _)); refine blk_put (cs := #[.int .i64 8, .int .i64 18]) ?_ 1 _ rfl; (with_reducible repeat (first | refine blk_drewN ?_ _ | refine blk_drew ?_ | refine blk_alloc ?_ _)); exact BK156.out⟩, ⟨by (with_reducible repeat (first | refine blk_drewN ?_ _ | refine blk_drew ?_ | refine blk_alloc ?_ _)); refine blk_far ?_ NB164_156.out _; (with_reducible repeat (first | refine blk_drewN ?_ _ | refine blk_drew ?_ | refine blk_alloc ?_ _)); exact BK164.out⟩, ⟨by repeat (first | (with_reducible first | exact HB.out | apply below_alloc | apply pw_below_drewN | apply below_drew1 | refine below_set ?_ GE155.out | refine below_set ?_ GE156.out | refine below_set ?_ GE164.out) | exact HB.out)⟩⟩
          · rw [if_neg c32] at H
            have c32b0 : ((Int.tmod (IntKind.u64.wrap (a0)) 7) == 2) = false := beq_eq_false_iff_ne.mpr c32
            have c32b1 : ((Int.tmod (IntKind.u64.wrap (a0)) 7) != 2) = true := bne_iff_ne.mpr c32
            by_cases c36 : (Int.tmod (IntKind.u64.wrap (a0)) 7) = 3
            · rw [if_pos c36] at H
              have c36b0 : ((Int.tmod (IntKind.u64.wrap (a0)) 7) == 3) = true := beq_iff_eq.mpr c36
              have c36b1 : ((Int.tmod (IntKind.u64.wrap (a0)) 7) != 3) = false := bne_eq_false_iff_eq.mpr c36
              clear c36
              have H' := Aside0.mk H
              clear H
              have hnb37 := NB156_155.out
              have hnc37 := NB155_156.out
              have hnb38 := NB156_164.out
              have hnc38 := NB164_156.out
              have hcz39_0 : w23.cell? ⟨gb156, 0, none⟩ = some (.int .i64 8) := (blk_cell BK156.out 0).trans rfl
              have hcz39_1 : w23.cell? ⟨gb156, 1, none⟩ = some (.int .i64 18) := (blk_cell BK156.out 1).trans rfl
              have hfz39_0 := blk_frozen BK156.out 0
              have hfz39_1 := blk_frozen BK156.out 1
              go_wp2
              go_meet
              case rel => exact ⟨_, (1), (4), (wrap64 ((-1099511627788) - (wrap64 (4 * (wrap64 (1 + (Go.bits .and .i64 a1 1023))))))), (wrap64 ((-1099511627778) - (wrap64 (4 * (wrap64 (1 + (Go.bits .and .i64 a1 1023))))))), H', ⟨by first | omega | exact Nat.le_refl _⟩, ⟨by (with_reducible repeat (first | apply Kd.R_alloc | apply Kd.R_drewN | apply Kd.R_drew)); exact Kd.R_mono (Kd.R_far (p := ⟨gb156, 1, none⟩) (Kd.R_far (p := ⟨gb156, 0, none⟩) (Kd.R_mono HO159.out (fun k_ hk => (⟨hk, hk.1.2⟩ : _ ∧ k_ ≠ gb156))) (fun _ hk => hk.2) (.int .i64 (wrap64 ((-1099511627788) - (wrap64 (4 * (wrap64 (1 + (Go.bits .and .i64 a1 1023))))))))) (fun _ hk => hk.2) (.int .i64 (wrap64 ((-1099511627778) - (wrap64 (4 * (wrap64 (1 + (Go.bits .and .i64 a1 1023))))))))) (fun _ hk => ⟨hk.1.1.2, hk.1.2⟩)⟩, ⟨by (with_reducible repeat (first | refine blk_drewN ?_ _ | refine blk_drew ?_ | refine blk_alloc ?_ _)); refine blk_far ?_ NB155_156.out _; (with_reducible repeat (first | refine blk_drewN ?_ _ | refine blk_drew ?_ | refine blk_alloc ?_ _)); refine blk_far ?_ NB155_156.out _; (with_reducible repeat (first | refine blk_drewN ?_ _ | refine blk_drew ?_ | refine blk_alloc ?_ _)); exact BK155.out⟩, ⟨by (with_reducible repeat (first | refine blk_drewN ?_ _ | refine blk_drew ?_ | refine blk_alloc ?_ _)); refine blk_put (cs := #[.int .i64 (wrap64 ((-1099511627788) - (wrap64 (4 * (wrap64 (1 + (Go.bits .and .i64 a1 1023))))))), .int .i64 18]) ?_ 1 _ rfl; (with_reducible repeat (first | refine blk_drewN ?_ _ | refine blk_drew ?_ | refine blk_alloc ?_ _)); refine blk_put (cs := #[.int .i64 8, .int .i64 18]) ?_ 0 _ rfl; (with_reducible repeat (first | refine blk_drewN ?_ _ | refine blk_drew ?_ | refine blk_alloc ?_ _)); exact BK156.out⟩, ⟨by (with_reducible repeat (first | refine blk_drewN ?_ _ | refine blk_drew ?_ | refine blk_alloc ?_ _)); refine blk_far ?_ NB164_156.out _; (with_reducible repeat (first | refine blk_drewN ?_ _ | refine blk_drew ?_ | refine blk_alloc ?_ _)); refine blk_far ?_ NB164_156.out _; (with_reducible repeat (first | refine blk_drewN ?_ _ | refine blk_drew ?_ | refine blk_alloc ?_ _)); exact BK164.out⟩, ⟨by repeat (first | (with_reducible first | exact HB.out | apply below_alloc | apply pw_below_drewN | apply below_drew1 | refine below_set ?_ GE155.out | refine below_set ?_ GE156.out | refine below_set ?_ GE164.out) | exact HB.out)⟩⟩
            · rw [if_neg c36] at H
              have c36b0 : ((Int.tmod (IntKind.u64.wrap (a0)) 7) == 3) = false := beq_eq_false_iff_ne.mpr c36
              have c36b1 : ((Int.tmod (IntKind.u64.wrap (a0)) 7) != 3) = true := bne_iff_ne.mpr c36
              by_cases c40 : (Int.tmod (IntKind.u64.wrap (a0)) 7) = 4
              · rw [if_pos c40] at H
                have c40b0 : ((Int.tmod (IntKind.u64.wrap (a0)) 7) == 4) = true := beq_iff_eq.mpr c40
                have c40b1 : ((Int.tmod (IntKind.u64.wrap (a0)) 7) != 4) = false := bne_eq_false_iff_eq.mpr c40
                clear c40
                have H' := Aside0.mk H
                clear H
                have hnb41 := NB156_155.out
                have hnc41 := NB155_156.out
                have hnb42 := NB156_164.out
                have hnc42 := NB164_156.out
                have hcz43_0 : w23.cell? ⟨gb156, 0, none⟩ = some (.int .i64 8) := (blk_cell BK156.out 0).trans rfl
                have hcz43_1 : w23.cell? ⟨gb156, 1, none⟩ = some (.int .i64 18) := (blk_cell BK156.out 1).trans rfl
                have hfz43_0 := blk_frozen BK156.out 0
                have hfz43_1 := blk_frozen BK156.out 1
                go_wp2
                go_meet
                case rel => exact ⟨_, (1), (4), (wrap64 (1099511627776 + (wrap64 (4 * (wrap64 (1 + (Go.bits .and .i64 a1 1023))))))), (wrap64 (1099511627786 + (wrap64 (4 * (wrap64 (1 + (Go.bits .and .i64 a1 1023))))))), H', ⟨by first | omega | exact Nat.le_refl _⟩, ⟨by (with_reducible repeat (first | apply Kd.R_alloc | apply Kd.R_drewN | apply Kd.R_drew)); exact Kd.R_mono (Kd.R_far (p := ⟨gb156, 1, none⟩) (Kd.R_far (p := ⟨gb156, 0, none⟩) (Kd.R_mono HO159.out (fun k_ hk => (⟨hk, hk.1.2⟩ : _ ∧ k_ ≠ gb156))) (fun _ hk => hk.2) (.int .i64 (wrap64 (1099511627776 + (wrap64 (4 * (wrap64 (1 + (Go.bits .and .i64 a1 1023))))))))) (fun _ hk => hk.2) (.int .i64 (wrap64 (1099511627786 + (wrap64 (4 * (wrap64 (1 + (Go.bits .and .i64 a1 1023))))))))) (fun _ hk => ⟨hk.1.1.2, hk.1.2⟩)⟩, ⟨by (with_reducible repeat (first | refine blk_drewN ?_ _ | refine blk_drew ?_ | refine blk_alloc ?_ _)); refine blk_far ?_ NB155_156.out _; (with_reducible repeat (first | refine blk_drewN ?_ _ | refine blk_drew ?_ | refine blk_alloc ?_ _)); refine blk_far ?_ NB155_156.out _; (with_reducible repeat (first | refine blk_drewN ?_ _ | refine blk_drew ?_ | refine blk_alloc ?_ _)); exact BK155.out⟩, ⟨by (with_reducible repeat (first | refine blk_drewN ?_ _ | refine blk_drew ?_ | refine blk_alloc ?_ _)); refine blk_put (cs := #[.int .i64 (wrap64 (1099511627776 + (wrap64 (4 * (wrap64 (1 + (Go.bits .and .i64 a1 1023))))))), .int .i64 18]) ?_ 1 _ rfl; (with_reducible repeat (first | refine blk_drewN ?_ _ | refine blk_drew ?_ | refine blk_alloc ?_ _)); refine blk_put (cs := #[.int .i64 8, .int .i64 18]) ?_ 0 _ rfl; (with_reducible repeat (first | refine blk_drewN ?_ _ | refine blk_drew ?_ | refine blk_alloc ?_ _)); exact BK156.out⟩, ⟨by (with_reducible repeat (first | refine blk_drewN ?_ _ | refine blk_drew ?_ | refine blk_alloc ?_ _)); refine blk_far ?_ NB164_156.out _; (with_reducible repeat (first | refine blk_drewN ?_ _ | refine blk_drew ?_ | refine blk_alloc ?_ _)); refine blk_far ?_ NB164_156.out _; (with_reducible repeat (first | refine blk_drewN ?_ _ | refine blk_drew ?_ | refine blk_alloc ?_ _)); exact BK164.out⟩, ⟨by repeat (first | (with_reducible first | exact HB.out | apply below_alloc | apply pw_below_drewN | apply below_drew1 | refine below_set ?_ GE155.out | refine below_set ?_ GE156.out | refine below_set ?_ GE164.out) | exact HB.out)⟩⟩
              · rw [if_neg c40] at H
                have c40b0 : ((Int.tmod (IntKind.u64.wrap (a0)) 7) == 4) = false := beq_eq_false_iff_ne.mpr c40
                have c40b1 : ((Int.tmod (IntKind.u64.wrap (a0)) 7) != 4) = true := bne_iff_ne.mpr c40
                by_cases c44 : (Int.tmod (IntKind.u64.wrap (a0)) 7) = 5
                · rw [if_pos c44] at H
                  have c44b0 : ((Int.tmod (IntKind.u64.wrap (a0)) 7) == 5) = true := beq_iff_eq.mpr c44
                  have c44b1 : ((Int.tmod (IntKind.u64.wrap (a0)) 7) != 5) = false := bne_eq_false_iff_eq.mpr c44
                  clear c44
                  have H' := Aside0.mk H
                  clear H
                  have hnb45 := NB155_156.out
                  have hnc45 := NB156_155.out
                  have hnb46 := NB155_164.out
                  have hnc46 := NB164_155.out
                  have hcz47_0 : w23.cell? ⟨gb155, 0, none⟩ = some (.int .i64 1) := (blk_cell BK155.out 0).trans rfl
                  have hcz47_1 : w23.cell? ⟨gb155, 1, none⟩ = some (.int .i64 0) := (blk_cell BK155.out 1).trans rfl
                  have hcz47_2 : w23.cell? ⟨gb155, 2, none⟩ = some (.int .i64 10) := (blk_cell BK155.out 2).trans rfl
                  have hcz47_3 : w23.cell? ⟨gb155, 3, none⟩ = some (.int .i64 4) := (blk_cell BK155.out 3).trans rfl
                  have hcz47_4 : w23.cell? ⟨gb155, 4, none⟩ = some (.slice none 0 0) := (blk_cell BK155.out 4).trans rfl
                  have hcz47_5 : w23.cell? ⟨gb155, 5, none⟩ = some (.int .i64 0) := (blk_cell BK155.out 5).trans rfl
                  have hfz47_0 := blk_frozen BK155.out 0
                  have hfz47_1 := blk_frozen BK155.out 1
                  have hfz47_2 := blk_frozen BK155.out 2
                  have hfz47_3 := blk_frozen BK155.out 3
                  have hfz47_4 := blk_frozen BK155.out 4
                  have hfz47_5 := blk_frozen BK155.out 5
                  go_wp2
                  go_meet
                  case rel => exact ⟨_, (1), (0), (8), (18), H', ⟨by first | omega | exact Nat.le_refl _⟩, ⟨by (with_reducible repeat (first | apply Kd.R_alloc | apply Kd.R_drewN | apply Kd.R_drew)); exact Kd.R_mono (Kd.R_far (p := ⟨gb155, 3, none⟩) (Kd.R_types HO159.out BK155.out (by decide)) (fun _ hk => hk.2) (.int .i64 0)) (fun _ hk => ⟨hk.1.1.2, hk.1.2⟩)⟩, ⟨by (with_reducible repeat (first | refine blk_drewN ?_ _ | refine blk_drew ?_ | refine blk_alloc ?_ _)); refine blk_put (cs := #[.int .i64 1, .int .i64 0, .int .i64 10, .int .i64 4, .slice none 0 0, .int .i64 0]) ?_ 3 _ rfl; (with_reducible repeat (first | refine blk_drewN ?_ _ | refine blk_drew ?_ | refine blk_alloc ?_ _)); exact BK155.out⟩, ⟨by (with_reducible repeat (first | refine blk_drewN ?_ _ | refine blk_drew ?_ | refine blk_alloc ?_ _)); refine blk_far ?_ NB156_155.out _; (with_reducible repeat (first | refine blk_drewN ?_ _ | refine blk_drew ?_ | refine blk_alloc ?_ _)); exact BK156.out⟩, ⟨by (with_reducible repeat (first | refine blk_drewN ?_ _ | refine blk_drew ?_ | refine blk_alloc ?_ _)); refine blk_far ?_ NB164_155.out _; (with_reducible repeat (first | refine blk_drewN ?_ _ | refine blk_drew ?_ | refine blk_alloc ?_ _)); exact BK164.out⟩, ⟨by repeat (first | (with_reducible first | exact HB.out | apply below_alloc | apply pw_below_drewN | apply below_drew1 | refine below_set ?_ GE155.out | refine below_set ?_ GE156.out | refine below_set ?_ GE164.out) | exact HB.out)⟩⟩
                · rw [if_neg c44] at H
                  have c44b0 : ((Int.tmod (IntKind.u64.wrap (a0)) 7) == 5) = false := beq_eq_false_iff_ne.mpr c44
                  have c44b1 : ((Int.tmod (IntKind.u64.wrap (a0)) 7) != 5) = true := bne_iff_ne.mpr c44
                  have H' := Aside0.mk H
                  clear H
                  have hnb48 := NB155_156.out
                  have hnc48 := NB156_155.out
                  have hnb49 := NB155_164.out
                  have hnc49 := NB164_155.out
                  have hcz50_0 : w23.cell? ⟨gb155, 0, none⟩ = some (.int .i64 1) := (blk_cell BK155.out 0).trans rfl
                  have hcz50_1 : w23.cell? ⟨gb155, 1, none⟩ = some (.int .i64 0) := (blk_cell BK155.out 1).trans rfl
                  have hcz50_2 : w23.cell? ⟨gb155, 2, none⟩ = some (.int .i64 10) := (blk_cell BK155.out 2).trans rfl
                  have hcz50_3 : w23.cell? ⟨gb155, 3, none⟩ = some (.int .i64 4) := (blk_cell BK155.out 3).trans rfl
                  have hcz50_4 : w23.cell? ⟨gb155, 4, none⟩ = some (.slice none 0 0) := (blk_cell BK155.out 4).trans rfl
                  have hcz50_5 : w23.cell? ⟨gb155, 5, none⟩ = some (.int .i64 0) := (blk_cell BK155.out 5).trans rfl
                  have hfz50_0 := blk_frozen BK155.out 0
                  have hfz50_1 := blk_frozen BK155.out 1
                  have hfz50_2 := blk_frozen BK155.out 2
                  have hfz50_3 := blk_frozen BK155.out 3
                  have hfz50_4 := blk_frozen BK155.out 4
                  have hfz50_5 := blk_frozen BK155.out 5
                  go_wp2
                  go_meet
                  case rel => exact ⟨_, (2), (4), (8), (18), H', ⟨by first | omega | exact Nat.le_refl _⟩, ⟨by (with_reducible repeat (first | apply Kd.R_alloc | apply Kd.R_drewN | apply Kd.R_drew)); exact Kd.R_mono (Kd.R_far (p := ⟨gb155, 0, none⟩) (Kd.R_types HO159.out BK155.out (by decide)) (fun _ hk => hk.2) (.int .i64 2)) (fun _ hk => ⟨hk.1.1.2, hk.1.2⟩)⟩, ⟨by (with_reducible repeat (first | refine blk_drewN ?_ _ | refine blk_drew ?_ | refine blk_alloc ?_ _)); refine blk_put (cs := #[.int .i64 1, .int .i64 0, .int .i64 10, .int .i64 4, .slice none 0 0, .int .i64 0]) ?_ 0 _ rfl; (with_reducible repeat (first | refine blk_drewN ?_ _ | refine blk_drew ?_ | refine blk_alloc ?_ _)); exact BK155.out⟩, ⟨by (with_reducible repeat (first | refine blk_drewN ?_ _ | refine blk_drew ?_ | refine blk_alloc ?_ _)); refine blk_far ?_ NB156_155.out _; (with_reducible repeat (first | refine blk_drewN ?_ _ | refine blk_drew ?_ | refine blk_alloc ?_ _)); exact BK156.out⟩, ⟨by (with_reducible repeat (first | refine blk_drewN ?_ _ | refine blk_drew ?_ | refine blk_alloc ?_ _)); refine blk_far ?_ NB164_155.out _; (with_reducible repeat (first | refine blk_drewN ?_ _ | refine blk_drew ?_ | refine blk_alloc ?_ _)); exact BK164.out⟩, ⟨by repeat (first | (with_reducible first | exact HB.out | apply below_alloc | apply pw_below_drewN | apply below_drew1 | refine below_set ?_ GE155.out | refine below_set ?_ GE156.out | refine below_set ?_ GE164.out) | exact HB.out)⟩⟩
    case rest =>
      clear HC8
      try clear c1
      try clear c2
      try clear p2
      try clear c3
      try clear c4
      try clear c5
      try clear p6
      try clear c7
      try clear c9
      try clear c11
      try clear c13
      try clear c15
      try clear c20
      try clear c21
      try clear c24
      try clear c24b0
      try clear c24b1
      try clear c25
      try clear c26
      try clear c28
      try clear c28b0
      try clear c28b1
      try clear c29
      try clear c30
      try clear c32
      try clear c32b0
      try clear c32b1
      try clear c33
      try clear c34
      try clear c36
      try clear c36b0
      try clear c36b1
      try clear c37
      try clear c38
      try clear c40
      try clear c40b0
      try clear c40b1
      try clear c41
      try clear c42
      try clear c44
      try clear c44b0
      try clear c44b1
      try clear c45
      try clear c46
      try clear c48
      try clear c49
      try clear hcz11_0
      try clear hcz11_1
      try clear hcz11_2
      try clear hcz11_3
      try clear hcz11_4
      try clear hcz11_5
      try clear hcz14_0
      try clear hcz14_1
      try clear hcz15_0
      try clear hcz15_1
      try clear hcz15_2
      try clear hcz15_3
      try clear hcz15_4
      try clear hcz15_5
      try clear hcz17_0
      try clear hcz17_1
      try clear hcz17_2
      try clear hcz17_3
      try clear hcz17_4
      try clear hcz17_5
      try clear hcz22_0
      try clear hcz22_1
      try clear hcz27_0
      try clear hcz27_1
      try clear hcz31_0
      try clear hcz31_1
      try clear hcz35_0
      try clear hcz35_1
      try clear hcz39_0
      try clear hcz39_1
      try clear hcz43_0
      try clear hcz43_1
      try clear hcz47_0
      try clear hcz47_1
      try clear hcz47_2
      try clear hcz47_3
      try clear hcz47_4
      try clear hcz47_5
      try clear hcz50_0
      try clear hcz50_1
      try clear hcz50_2
      try clear hcz50_3
      try clear hcz50_4
      try clear hcz50_5
      try clear hfz11_0
      try clear hfz11_1
      try clear hfz11_2
      try clear hfz11_3
      try clear hfz11_4
      try clear hfz11_5
      try clear hfz14_0
      try clear hfz14_1
      try clear hfz15_0
      try clear hfz15_1
      try clear hfz15_2
      try clear hfz15_3
      try clear hfz15_4
      try clear hfz15_5
      try clear hfz17_0
      try clear hfz17_1
      try clear hfz17_2
      try clear hfz17_3
      try clear hfz17_4
      try clear hfz17_5
      try clear hfz22_0
      try clear hfz22_1
      try clear hfz27_0
      try clear hfz27_1
      try clear hfz31_0
      try clear hfz31_1
      try clear hfz35_0
      try clear hfz35_1
      try clear hfz39_0
      try clear hfz39_1
      try clear hfz43_0
      try clear hfz43_1
      try clear hfz47_0
      try clear hfz47_1
      try clear hfz47_2
      try clear hfz47_3
      try clear hfz47_4
      try clear hfz47_5
      try clear hfz50_0
      try clear hfz50_1
      try clear hfz50_2
      try clear hfz50_3
      try clear hfz50_4
      try clear hfz50_5
      obtain ⟨kq, x156000_7, x156003_7, x157000_7, x157001_7, HA, HJ7, HO_8, BK155, BK156, BK164, HB⟩ := hcut
      cases kq with
      | zero => exact absurd HA.out (by simp [bournelaw5_SliceForms.j0])
      | succ kj7 =>
        have H := HA.out
        clear HA
        simp only [bournelaw5_SliceForms.j0] at H
        replace H := Option.bind_eq_some_iff.mp H
        obtain ⟨⟨t167, t170⟩, A510, H⟩ := H
        replace H : ((bournelaw0_Num.f t160).bind fun t171 => (if t171 = 0 then (if (t157.length : Int) = 5 then ((bournelaw0_Num.f t163).bind fun t172 => (if t172 = 500 then ((bournelaw0_Num.f t166).bind fun t173 => (if t173 = 500 then (if (t167.length : Int) = 0 then ((bournelaw0_Num.f t170).bind fun t174 => (some (t174 == 500))) else (some false)) else (some false))) else (some false))) else (some false)) else (some false))) = some r := H
        have A51 := Aside0.mk A510
        clear A510
        replace H := Option.bind_eq_some_iff.mp H
        obtain ⟨t171, A520, H⟩ := H
        replace H : (if t171 = 0 then (if (t157.length : Int) = 5 then ((bournelaw0_Num.f t163).bind fun t172 => (if t172 = 500 then ((bournelaw0_Num.f t166).bind fun t173 => (if t173 = 500 then (if (t167.length : Int) = 0 then ((bournelaw0_Num.f t170).bind fun t174 => (some (t174 == 500))) else (some false)) else (some false))) else (some false))) else (some false)) else (some false)) = some r := H
        have A52 := Aside0.mk A520
        clear A520
        by_cases c53 : t171 = 0
        · rw [if_pos c53] at H
          have c53b0 : (t171 == 0) = true := beq_iff_eq.mpr c53
          have c53b1 : (t171 != 0) = false := bne_eq_false_iff_eq.mpr c53
          clear c53
          by_cases c54 : (t157.length : Int) = 5
          · rw [if_pos c54] at H
            have c54b0 : ((t157.length : Int) == 5) = true := beq_iff_eq.mpr c54
            have c54b1 : ((t157.length : Int) != 5) = false := bne_eq_false_iff_eq.mpr c54
            clear c54
            replace H := Option.bind_eq_some_iff.mp H
            obtain ⟨t172, A550, H⟩ := H
            replace H : (if t172 = 500 then ((bournelaw0_Num.f t166).bind fun t173 => (if t173 = 500 then (if (t167.length : Int) = 0 then ((bournelaw0_Num.f t170).bind fun t174 => (some (t174 == 500))) else (some false)) else (some false))) else (some false)) = some r := H
            have A55 := Aside0.mk A550
            clear A550
            by_cases c56 : t172 = 500
            · rw [if_pos c56] at H
              have c56b0 : (t172 == 500) = true := beq_iff_eq.mpr c56
              have c56b1 : (t172 != 500) = false := bne_eq_false_iff_eq.mpr c56
              clear c56
              replace H := Option.bind_eq_some_iff.mp H
              obtain ⟨t173, A570, H⟩ := H
              replace H : (if t173 = 500 then (if (t167.length : Int) = 0 then ((bournelaw0_Num.f t170).bind fun t174 => (some (t174 == 500))) else (some false)) else (some false)) = some r := H
              have A57 := Aside0.mk A570
              clear A570
              by_cases c58 : t173 = 500
              · rw [if_pos c58] at H
                have c58b0 : (t173 == 500) = true := beq_iff_eq.mpr c58
                have c58b1 : (t173 != 500) = false := bne_eq_false_iff_eq.mpr c58
                clear c58
                by_cases c59 : (t167.length : Int) = 0
                · rw [if_pos c59] at H
                  have c59b0 : ((t167.length : Int) == 0) = true := beq_iff_eq.mpr c59
                  have c59b1 : ((t167.length : Int) != 0) = false := bne_eq_false_iff_eq.mpr c59
                  clear c59
                  replace H := Option.bind_eq_some_iff.mp H
                  obtain ⟨t174, A600, H⟩ := H
                  replace H : (some (t174 == 500)) = some r := H
                  have A60 := Aside0.mk A600
                  clear A600
                  first | exact absurd ((Option.some.inj H).trans HR_.out) (by decide) | skip
                  all_goals
                    obtain rfl := Option.some.inj H
                    have hnb61 := NB155_156.out
                    have hnc61 := NB156_155.out
                    have hnb62 := NB155_164.out
                    have hnc62 := NB164_155.out
                    have hcz63_0 : wc.cell? ⟨gb155, 0, none⟩ = some (.int .i64 x156000_7) := (blk_cell BK155.out 0).trans rfl
                    have hcz63_1 : wc.cell? ⟨gb155, 1, none⟩ = some (.int .i64 0) := (blk_cell BK155.out 1).trans rfl
                    have hcz63_2 : wc.cell? ⟨gb155, 2, none⟩ = some (.int .i64 10) := (blk_cell BK155.out 2).trans rfl
                    have hcz63_3 : wc.cell? ⟨gb155, 3, none⟩ = some (.int .i64 x156003_7) := (blk_cell BK155.out 3).trans rfl
                    have hcz63_4 : wc.cell? ⟨gb155, 4, none⟩ = some (.slice none 0 0) := (blk_cell BK155.out 4).trans rfl
                    have hcz63_5 : wc.cell? ⟨gb155, 5, none⟩ = some (.int .i64 0) := (blk_cell BK155.out 5).trans rfl
                    have hfz63_0 := blk_frozen BK155.out 0
                    have hfz63_1 := blk_frozen BK155.out 1
                    have hfz63_2 := blk_frozen BK155.out 2
                    have hfz63_3 := blk_frozen BK155.out 3
                    have hfz63_4 := blk_frozen BK155.out 4
                    have hfz63_5 := blk_frozen BK155.out 5
                    have hnb64 := NB156_164.out
                    have hnc64 := NB164_156.out
                    have hcz65_0 : wc.cell? ⟨gb156, 0, none⟩ = some (.int .i64 x157000_7) := (blk_cell BK156.out 0).trans rfl
                    have hcz65_1 : wc.cell? ⟨gb156, 1, none⟩ = some (.int .i64 x157001_7) := (blk_cell BK156.out 1).trans rfl
                    have hfz65_0 := blk_frozen BK156.out 0
                    have hfz65_1 := blk_frozen BK156.out 1
                    go_wp2_with (first | ((with_reducible refine gate_callee (f := 11) rfl ?_); refine goesL_ (some 85) rfl rfl Try.func11 (by kernel_rfl) rfl #[.agg #[.int .i64 x156000_7, .int .i64 0, .int .i64 10, .int .i64 x156003_7, .slice none 0 0, .int .i64 0], .agg #[.int .i64 x157000_7, .int .i64 x157001_7]] rfl (by (try simp only [List.map_toArray, List.map_cons, List.map_nil]); first | done | rfl | (simp only [List.length_drop, List.length_take]; rfl)) ?_; (with_reducible refine (slice_Cut.calls_nil x156000_7 0 10 x156003_7 0 x157000_7 x157001_7 t167 t170 _ A51.out).mono ?_); rintro e w66 ⟨v168, rfl, ho0, hb⟩; refine ⟨_, rfl, ?_⟩; have n0_ := Aside0.mk (Kd.R_elder' (by (with_reducible repeat (first | apply Kd.R_alloc | apply Kd.R_drewN | apply Kd.R_drew)); exact HO_8.out) (Kd.R_base ho0) hb); have n1_ := Aside0.mk (Kd.R_lower (Kd.R_newB (Kd.R_newB (Kd.R_new' ho0 (Kd.R_lt (by (with_reducible repeat (first | apply Kd.R_alloc | apply Kd.R_drewN | apply Kd.R_drew)); exact HO_8.out))) (g := gb156) (o := .cells #[.int .i64 x157000_7, .int .i64 x157001_7] 26 (0, 0)) (by (with_reducible repeat (first | refine blk_drewN ?_ _ | refine blk_drew ?_ | refine blk_alloc ?_ _)); exact BK156.out)) (g := gb164) (o := .cells #[.int .i64 t161, .int .i64 t162] 26 (0, 0)) (by (with_reducible repeat (first | refine blk_drewN ?_ _ | refine blk_drew ?_ | refine blk_alloc ?_ _)); exact BK164.out)) (below_size (by repeat (first | (with_reducible first | exact HB.out | apply below_alloc | apply pw_below_drewN | apply below_drew1 | refine below_set ?_ GE155.out | refine below_set ?_ GE156.out | refine below_set ?_ GE164.out) | exact HB.out)))); have n2_ := Aside0.mk (blk_below (g := gb155) (o := .cells #[.int .i64 x156000_7, .int .i64 0, .int .i64 10, .int .i64 x156003_7, .slice none 0 0, .int .i64 0] 24 (0, 0)) (by (with_reducible repeat (first | refine blk_drewN ?_ _ | refine blk_drew ?_ | refine blk_alloc ?_ _)); exact BK155.out) hb); have n3_ := Aside0.mk (blk_below (g := gb156) (o := .cells #[.int .i64 x157000_7, .int .i64 x157001_7] 26 (0, 0)) (by (with_reducible repeat (first | refine blk_drewN ?_ _ | refine blk_drew ?_ | refine blk_alloc ?_ _)); exact BK156.out) hb); have n4_ := Aside0.mk (blk_below (g := gb164) (o := .cells #[.int .i64 t161, .int .i64 t162] 26 (0, 0)) (by (with_reducible repeat (first | refine blk_drewN ?_ _ | refine blk_drew ?_ | refine blk_alloc ?_ _)); exact BK164.out) hb); have n5_ := Aside0.mk (below_step (by repeat (first | (with_reducible first | exact HB.out | apply below_alloc | apply pw_below_drewN | apply below_drew1 | refine below_set ?_ GE155.out | refine below_set ?_ GE156.out | refine below_set ?_ GE164.out) | exact HB.out)) hb); clear HO_8; clear BK155; clear BK156; clear BK164; clear HB; have HO_8 := n0_; have HO169 := n1_; have BK155 := n2_; have BK156 := n3_; have BK164 := n4_; have HB := n5_; clear n0_ n1_ n2_ n3_ n4_ n5_; (try clear hb); (try clear hb2); (try clear hk); (try clear hi); (try clear ho0)) | ((with_reducible refine gate_callee (f := 13) rfl ?_); refine goesL_ (some 89) rfl rfl Try.func13 (by kernel_rfl) rfl #[.int .i64 t160] rfl (by (try simp only [List.map_toArray, List.map_cons, List.map_nil]); first | done | rfl | (simp only [List.length_drop, List.length_take]; rfl)) ?_; (with_reducible refine (bournelaw0_Num.calls t160 t171 _ A52.out).mono ?_); rintro e w' ⟨rfl, ⟨nd, rfl⟩⟩; refine ⟨_, rfl, ?_⟩; obtain ⟨Ao67, co67, eo67⟩ := Kd.R_slice HO_8.out; subst eo67) | (go_at_call 13; (with_reducible refine (bournelaw0_Num.calls t163 t172 _ A55.out).mono ?_); rintro e w' ⟨rfl, ⟨nd, rfl⟩⟩) | (go_at_call 13; (with_reducible refine (bournelaw0_Num.calls t166 t173 _ A57.out).mono ?_); rintro e w' ⟨rfl, ⟨nd, rfl⟩⟩; obtain ⟨Ao68, co68, eo68⟩ := Kd.R_slice HO169.out; subst eo68) | (go_at_call 13; (with_reducible refine (bournelaw0_Num.calls t170 t174 _ A60.out).mono ?_); rintro e w' ⟨rfl, ⟨nd, rfl⟩⟩))
                    go_ret
                    exact ⟨by first | rfl | (simp [errW_none, errW_some] <;> rfl) | (simp [*, errW_none, errW_some] <;> rfl), by repeat (first | (with_reducible first | exact HB.out | apply below_alloc | apply pw_below_drewN | apply below_drew1 | refine below_set ?_ GE155.out | refine below_set ?_ GE156.out | refine below_set ?_ GE164.out) | exact HB.out)⟩
                · rw [if_neg c59] at H
                  have c59b0 : ((t167.length : Int) == 0) = false := beq_eq_false_iff_ne.mpr c59
                  have c59b1 : ((t167.length : Int) != 0) = true := bne_iff_ne.mpr c59
                  have c59b2 : ¬ (t167 = []) := fun h_ => c59 (by rw [h_]; rfl)
                  first | exact absurd ((Option.some.inj H).trans HR_.out) (by decide) | skip
                  all_goals
                    obtain rfl := Option.some.inj H
                    have hnb69 := NB155_156.out
                    have hnc69 := NB156_155.out
                    have hnb70 := NB155_164.out
                    have hnc70 := NB164_155.out
                    have hcz71_0 : wc.cell? ⟨gb155, 0, none⟩ = some (.int .i64 x156000_7) := (blk_cell BK155.out 0).trans rfl
                    have hcz71_1 : wc.cell? ⟨gb155, 1, none⟩ = some (.int .i64 0) := (blk_cell BK155.out 1).trans rfl
                    have hcz71_2 : wc.cell? ⟨gb155, 2, none⟩ = some (.int .i64 10) := (blk_cell BK155.out 2).trans rfl
                    have hcz71_3 : wc.cell? ⟨gb155, 3, none⟩ = some (.int .i64 x156003_7) := (blk_cell BK155.out 3).trans rfl
                    have hcz71_4 : wc.cell? ⟨gb155, 4, none⟩ = some (.slice none 0 0) := (blk_cell BK155.out 4).trans rfl
                    have hcz71_5 : wc.cell? ⟨gb155, 5, none⟩ = some (.int .i64 0) := (blk_cell BK155.out 5).trans rfl
                    have hfz71_0 := blk_frozen BK155.out 0
                    have hfz71_1 := blk_frozen BK155.out 1
                    have hfz71_2 := blk_frozen BK155.out 2
                    have hfz71_3 := blk_frozen BK155.out 3
                    have hfz71_4 := blk_frozen BK155.out 4
                    have hfz71_5 := blk_frozen BK155.out 5
                    have hnb72 := NB156_164.out
                    have hnc72 := NB164_156.out
                    have hcz73_0 : wc.cell? ⟨gb156, 0, none⟩ = some (.int .i64 x157000_7) := (blk_cell BK156.out 0).trans rfl
                    have hcz73_1 : wc.cell? ⟨gb156, 1, none⟩ = some (.int .i64 x157001_7) := (blk_cell BK156.out 1).trans rfl
                    have hfz73_0 := blk_frozen BK156.out 0
                    have hfz73_1 := blk_frozen BK156.out 1
                    go_wp2_with (first | ((with_reducible refine gate_callee (f := 11) rfl ?_); refine goesL_ (some 85) rfl rfl Try.func11 (by kernel_rfl) rfl #[.agg #[.int .i64 x156000_7, .int .i64 0, .int .i64 10, .int .i64 x156003_7, .slice none 0 0, .int .i64 0], .agg #[.int .i64 x157000_7, .int .i64 x157001_7]] rfl (by (try simp only [List.map_toArray, List.map_cons, List.map_nil]); first | done | rfl | (simp only [List.length_drop, List.length_take]; rfl)) ?_; (with_reducible refine (slice_Cut.calls_nil x156000_7 0 10 x156003_7 0 x157000_7 x157001_7 t167 t170 _ A51.out).mono ?_); rintro e w74 ⟨v168, rfl, ho0, hb⟩; refine ⟨_, rfl, ?_⟩; have n0_ := Aside0.mk (Kd.R_elder' (by (with_reducible repeat (first | apply Kd.R_alloc | apply Kd.R_drewN | apply Kd.R_drew)); exact HO_8.out) (Kd.R_base ho0) hb); have n1_ := Aside0.mk (Kd.R_lower (Kd.R_newB (Kd.R_newB (Kd.R_new' ho0 (Kd.R_lt (by (with_reducible repeat (first | apply Kd.R_alloc | apply Kd.R_drewN | apply Kd.R_drew)); exact HO_8.out))) (g := gb156) (o := .cells #[.int .i64 x157000_7, .int .i64 x157001_7] 26 (0, 0)) (by (with_reducible repeat (first | refine blk_drewN ?_ _ | refine blk_drew ?_ | refine blk_alloc ?_ _)); exact BK156.out)) (g := gb164) (o := .cells #[.int .i64 t161, .int .i64 t162] 26 (0, 0)) (by (with_reducible repeat (first | refine blk_drewN ?_ _ | refine blk_drew ?_ | refine blk_alloc ?_ _)); exact BK164.out)) (below_size (by repeat (first | (with_reducible first | exact HB.out | apply below_alloc | apply pw_below_drewN | apply below_drew1 | refine below_set ?_ GE155.out | refine below_set ?_ GE156.out | refine below_set ?_ GE164.out) | exact HB.out)))); have n2_ := Aside0.mk (blk_below (g := gb155) (o := .cells #[.int .i64 x156000_7, .int .i64 0, .int .i64 10, .int .i64 x156003_7, .slice none 0 0, .int .i64 0] 24 (0, 0)) (by (with_reducible repeat (first | refine blk_drewN ?_ _ | refine blk_drew ?_ | refine blk_alloc ?_ _)); exact BK155.out) hb); have n3_ := Aside0.mk (blk_below (g := gb156) (o := .cells #[.int .i64 x157000_7, .int .i64 x157001_7] 26 (0, 0)) (by (with_reducible repeat (first | refine blk_drewN ?_ _ | refine blk_drew ?_ | refine blk_alloc ?_ _)); exact BK156.out) hb); have n4_ := Aside0.mk (blk_below (g := gb164) (o := .cells #[.int .i64 t161, .int .i64 t162] 26 (0, 0)) (by (with_reducible repeat (first | refine blk_drewN ?_ _ | refine blk_drew ?_ | refine blk_alloc ?_ _)); exact BK164.out) hb); have n5_ := Aside0.mk (below_step (by repeat (first | (with_reducible first | exact HB.out | apply below_alloc | apply pw_below_drewN | apply below_drew1 | refine below_set ?_ GE155.out | refine below_set ?_ GE156.out | refine below_set ?_ GE164.out) | exact HB.out)) hb); clear HO_8; clear BK155; clear BK156; clear BK164; clear HB; have HO_8 := n0_; have HO169 := n1_; have BK155 := n2_; have BK156 := n3_; have BK164 := n4_; have HB := n5_; clear n0_ n1_ n2_ n3_ n4_ n5_; (try clear hb); (try clear hb2); (try clear hk); (try clear hi); (try clear ho0)) | ((with_reducible refine gate_callee (f := 13) rfl ?_); refine goesL_ (some 89) rfl rfl Try.func13 (by kernel_rfl) rfl #[.int .i64 t160] rfl (by (try simp only [List.map_toArray, List.map_cons, List.map_nil]); first | done | rfl | (simp only [List.length_drop, List.length_take]; rfl)) ?_; (with_reducible refine (bournelaw0_Num.calls t160 t171 _ A52.out).mono ?_); rintro e w' ⟨rfl, ⟨nd, rfl⟩⟩; refine ⟨_, rfl, ?_⟩; obtain ⟨Ao75, co75, eo75⟩ := Kd.R_slice HO_8.out; subst eo75) | (go_at_call 13; (with_reducible refine (bournelaw0_Num.calls t163 t172 _ A55.out).mono ?_); rintro e w' ⟨rfl, ⟨nd, rfl⟩⟩) | (go_at_call 13; (with_reducible refine (bournelaw0_Num.calls t166 t173 _ A57.out).mono ?_); rintro e w' ⟨rfl, ⟨nd, rfl⟩⟩; obtain ⟨Ao76, co76, eo76⟩ := Kd.R_slice HO169.out; subst eo76))
                    go_ret
                    exact ⟨by first | rfl | (simp [errW_none, errW_some] <;> rfl) | (simp [*, errW_none, errW_some] <;> rfl), by repeat (first | (with_reducible first | exact HB.out | apply below_alloc | apply pw_below_drewN | apply below_drew1 | refine below_set ?_ GE155.out | refine below_set ?_ GE156.out | refine below_set ?_ GE164.out) | exact HB.out)⟩
              · rw [if_neg c58] at H
                have c58b0 : (t173 == 500) = false := beq_eq_false_iff_ne.mpr c58
                have c58b1 : (t173 != 500) = true := bne_iff_ne.mpr c58
                exact absurd ((Option.some.inj H).trans HR_.out) (by decide)
            · rw [if_neg c56] at H
              have c56b0 : (t172 == 500) = false := beq_eq_false_iff_ne.mpr c56
              have c56b1 : (t172 != 500) = true := bne_iff_ne.mpr c56
              first | exact absurd ((Option.some.inj H).trans HR_.out) (by decide) | skip
              all_goals
                obtain rfl := Option.some.inj H
                have hnb84 := NB155_156.out
                have hnc84 := NB156_155.out
                have hnb85 := NB155_164.out
                have hnc85 := NB164_155.out
                have hcz86_0 : wc.cell? ⟨gb155, 0, none⟩ = some (.int .i64 x156000_7) := (blk_cell BK155.out 0).trans rfl
                have hcz86_1 : wc.cell? ⟨gb155, 1, none⟩ = some (.int .i64 0) := (blk_cell BK155.out 1).trans rfl
                have hcz86_2 : wc.cell? ⟨gb155, 2, none⟩ = some (.int .i64 10) := (blk_cell BK155.out 2).trans rfl
                have hcz86_3 : wc.cell? ⟨gb155, 3, none⟩ = some (.int .i64 x156003_7) := (blk_cell BK155.out 3).trans rfl
                have hcz86_4 : wc.cell? ⟨gb155, 4, none⟩ = some (.slice none 0 0) := (blk_cell BK155.out 4).trans rfl
                have hcz86_5 : wc.cell? ⟨gb155, 5, none⟩ = some (.int .i64 0) := (blk_cell BK155.out 5).trans rfl
                have hfz86_0 := blk_frozen BK155.out 0
                have hfz86_1 := blk_frozen BK155.out 1
                have hfz86_2 := blk_frozen BK155.out 2
                have hfz86_3 := blk_frozen BK155.out 3
                have hfz86_4 := blk_frozen BK155.out 4
                have hfz86_5 := blk_frozen BK155.out 5
                have hnb87 := NB156_164.out
                have hnc87 := NB164_156.out
                have hcz88_0 : wc.cell? ⟨gb156, 0, none⟩ = some (.int .i64 x157000_7) := (blk_cell BK156.out 0).trans rfl
                have hcz88_1 : wc.cell? ⟨gb156, 1, none⟩ = some (.int .i64 x157001_7) := (blk_cell BK156.out 1).trans rfl
                have hfz88_0 := blk_frozen BK156.out 0
                have hfz88_1 := blk_frozen BK156.out 1
                go_wp2_with (first | ((with_reducible refine gate_callee (f := 11) rfl ?_); refine goesL_ (some 85) rfl rfl Try.func11 (by kernel_rfl) rfl #[.agg #[.int .i64 x156000_7, .int .i64 0, .int .i64 10, .int .i64 x156003_7, .slice none 0 0, .int .i64 0], .agg #[.int .i64 x157000_7, .int .i64 x157001_7]] rfl (by (try simp only [List.map_toArray, List.map_cons, List.map_nil]); first | done | rfl | (simp only [List.length_drop, List.length_take]; rfl)) ?_; (with_reducible refine (slice_Cut.calls_nil x156000_7 0 10 x156003_7 0 x157000_7 x157001_7 t167 t170 _ A51.out).mono ?_); rintro e w89 ⟨v168, rfl, ho0, hb⟩; refine ⟨_, rfl, ?_⟩; have n0_ := Aside0.mk (Kd.R_elder' (by (with_reducible repeat (first | apply Kd.R_alloc | apply Kd.R_drewN | apply Kd.R_drew)); exact HO_8.out) (Kd.R_base ho0) hb); have n1_ := Aside0.mk (Kd.R_lower (Kd.R_newB (Kd.R_newB (Kd.R_new' ho0 (Kd.R_lt (by (with_reducible repeat (first | apply Kd.R_alloc | apply Kd.R_drewN | apply Kd.R_drew)); exact HO_8.out))) (g := gb156) (o := .cells #[.int .i64 x157000_7, .int .i64 x157001_7] 26 (0, 0)) (by (with_reducible repeat (first | refine blk_drewN ?_ _ | refine blk_drew ?_ | refine blk_alloc ?_ _)); exact BK156.out)) (g := gb164) (o := .cells #[.int .i64 t161, .int .i64 t162] 26 (0, 0)) (by (with_reducible repeat (first | refine blk_drewN ?_ _ | refine blk_drew ?_ | refine blk_alloc ?_ _)); exact BK164.out)) (below_size (by repeat (first | (with_reducible first | exact HB.out | apply below_alloc | apply pw_below_drewN | apply below_drew1 | refine below_set ?_ GE155.out | refine below_set ?_ GE156.out | refine below_set ?_ GE164.out) | exact HB.out)))); have n2_ := Aside0.mk (blk_below (g := gb155) (o := .cells #[.int .i64 x156000_7, .int .i64 0, .int .i64 10, .int .i64 x156003_7, .slice none 0 0, .int .i64 0] 24 (0, 0)) (by (with_reducible repeat (first | refine blk_drewN ?_ _ | refine blk_drew ?_ | refine blk_alloc ?_ _)); exact BK155.out) hb); have n3_ := Aside0.mk (blk_below (g := gb156) (o := .cells #[.int .i64 x157000_7, .int .i64 x157001_7] 26 (0, 0)) (by (with_reducible repeat (first | refine blk_drewN ?_ _ | refine blk_drew ?_ | refine blk_alloc ?_ _)); exact BK156.out) hb); have n4_ := Aside0.mk (blk_below (g := gb164) (o := .cells #[.int .i64 t161, .int .i64 t162] 26 (0, 0)) (by (with_reducible repeat (first | refine blk_drewN ?_ _ | refine blk_drew ?_ | refine blk_alloc ?_ _)); exact BK164.out) hb); have n5_ := Aside0.mk (below_step (by repeat (first | (with_reducible first | exact HB.out | apply below_alloc | apply pw_below_drewN | apply below_drew1 | refine below_set ?_ GE155.out | refine below_set ?_ GE156.out | refine below_set ?_ GE164.out) | exact HB.out)) hb); clear HO_8; clear BK155; clear BK156; clear BK164; clear HB; have HO_8 := n0_; have HO169 := n1_; have BK155 := n2_; have BK156 := n3_; have BK164 := n4_; have HB := n5_; clear n0_ n1_ n2_ n3_ n4_ n5_; (try clear hb); (try clear hb2); (try clear hk); (try clear hi); (try clear ho0)) | ((with_reducible refine gate_callee (f := 13) rfl ?_); refine goesL_ (some 89) rfl rfl Try.func13 (by kernel_rfl) rfl #[.int .i64 t160] rfl (by (try simp only [List.map_toArray, List.map_cons, List.map_nil]); first | done | rfl | (simp only [List.length_drop, List.length_take]; rfl)) ?_; (with_reducible refine (bournelaw0_Num.calls t160 t171 _ A52.out).mono ?_); rintro e w' ⟨rfl, ⟨nd, rfl⟩⟩; refine ⟨_, rfl, ?_⟩; obtain ⟨Ao90, co90, eo90⟩ := Kd.R_slice HO_8.out; subst eo90) | (go_at_call 13; (with_reducible refine (bournelaw0_Num.calls t163 t172 _ A55.out).mono ?_); rintro e w' ⟨rfl, ⟨nd, rfl⟩⟩))
                go_ret
                exact ⟨by first | rfl | (simp [errW_none, errW_some] <;> rfl) | (simp [*, errW_none, errW_some] <;> rfl), by repeat (first | (with_reducible first | exact HB.out | apply below_alloc | apply pw_below_drewN | apply below_drew1 | refine below_set ?_ GE155.out | refine below_set ?_ GE156.out | refine below_set ?_ GE164.out) | exact HB.out)⟩
          · rw [if_neg c54] at H
            have c54b0 : ((t157.length : Int) == 5) = false := beq_eq_false_iff_ne.mpr c54
            have c54b1 : ((t157.length : Int) != 5) = true := bne_iff_ne.mpr c54
            first | exact absurd ((Option.some.inj H).trans HR_.out) (by decide) | skip
            all_goals
              obtain rfl := Option.some.inj H
              have hnb91 := NB155_156.out
              have hnc91 := NB156_155.out
              have hnb92 := NB155_164.out
              have hnc92 := NB164_155.out
              have hcz93_0 : wc.cell? ⟨gb155, 0, none⟩ = some (.int .i64 x156000_7) := (blk_cell BK155.out 0).trans rfl
              have hcz93_1 : wc.cell? ⟨gb155, 1, none⟩ = some (.int .i64 0) := (blk_cell BK155.out 1).trans rfl
              have hcz93_2 : wc.cell? ⟨gb155, 2, none⟩ = some (.int .i64 10) := (blk_cell BK155.out 2).trans rfl
              have hcz93_3 : wc.cell? ⟨gb155, 3, none⟩ = some (.int .i64 x156003_7) := (blk_cell BK155.out 3).trans rfl
              have hcz93_4 : wc.cell? ⟨gb155, 4, none⟩ = some (.slice none 0 0) := (blk_cell BK155.out 4).trans rfl
              have hcz93_5 : wc.cell? ⟨gb155, 5, none⟩ = some (.int .i64 0) := (blk_cell BK155.out 5).trans rfl
              have hfz93_0 := blk_frozen BK155.out 0
              have hfz93_1 := blk_frozen BK155.out 1
              have hfz93_2 := blk_frozen BK155.out 2
              have hfz93_3 := blk_frozen BK155.out 3
              have hfz93_4 := blk_frozen BK155.out 4
              have hfz93_5 := blk_frozen BK155.out 5
              have hnb94 := NB156_164.out
              have hnc94 := NB164_156.out
              have hcz95_0 : wc.cell? ⟨gb156, 0, none⟩ = some (.int .i64 x157000_7) := (blk_cell BK156.out 0).trans rfl
              have hcz95_1 : wc.cell? ⟨gb156, 1, none⟩ = some (.int .i64 x157001_7) := (blk_cell BK156.out 1).trans rfl
              have hfz95_0 := blk_frozen BK156.out 0
              have hfz95_1 := blk_frozen BK156.out 1
              go_wp2_with (first | ((with_reducible refine gate_callee (f := 11) rfl ?_); refine goesL_ (some 85) rfl rfl Try.func11 (by kernel_rfl) rfl #[.agg #[.int .i64 x156000_7, .int .i64 0, .int .i64 10, .int .i64 x156003_7, .slice none 0 0, .int .i64 0], .agg #[.int .i64 x157000_7, .int .i64 x157001_7]] rfl (by (try simp only [List.map_toArray, List.map_cons, List.map_nil]); first | done | rfl | (simp only [List.length_drop, List.length_take]; rfl)) ?_; (with_reducible refine (slice_Cut.calls_nil x156000_7 0 10 x156003_7 0 x157000_7 x157001_7 t167 t170 _ A51.out).mono ?_); rintro e w96 ⟨v168, rfl, ho0, hb⟩; refine ⟨_, rfl, ?_⟩; have n0_ := Aside0.mk (Kd.R_elder' (by (with_reducible repeat (first | apply Kd.R_alloc | apply Kd.R_drewN | apply Kd.R_drew)); exact HO_8.out) (Kd.R_base ho0) hb); have n1_ := Aside0.mk (Kd.R_lower (Kd.R_newB (Kd.R_newB (Kd.R_new' ho0 (Kd.R_lt (by (with_reducible repeat (first | apply Kd.R_alloc | apply Kd.R_drewN | apply Kd.R_drew)); exact HO_8.out))) (g := gb156) (o := .cells #[.int .i64 x157000_7, .int .i64 x157001_7] 26 (0, 0)) (by (with_reducible repeat (first | refine blk_drewN ?_ _ | refine blk_drew ?_ | refine blk_alloc ?_ _)); exact BK156.out)) (g := gb164) (o := .cells #[.int .i64 t161, .int .i64 t162] 26 (0, 0)) (by (with_reducible repeat (first | refine blk_drewN ?_ _ | refine blk_drew ?_ | refine blk_alloc ?_ _)); exact BK164.out)) (below_size (by repeat (first | (with_reducible first | exact HB.out | apply below_alloc | apply pw_below_drewN | apply below_drew1 | refine below_set ?_ GE155.out | refine below_set ?_ GE156.out | refine below_set ?_ GE164.out) | exact HB.out)))); have n2_ := Aside0.mk (blk_below (g := gb155) (o := .cells #[.int .i64 x156000_7, .int .i64 0, .int .i64 10, .int .i64 x156003_7, .slice none 0 0, .int .i64 0] 24 (0, 0)) (by (with_reducible repeat (first | refine blk_drewN ?_ _ | refine blk_drew ?_ | refine blk_alloc ?_ _)); exact BK155.out) hb); have n3_ := Aside0.mk (blk_below (g := gb156) (o := .cells #[.int .i64 x157000_7, .int .i64 x157001_7] 26 (0, 0)) (by (with_reducible repeat (first | refine blk_drewN ?_ _ | refine blk_drew ?_ | refine blk_alloc ?_ _)); exact BK156.out) hb); have n4_ := Aside0.mk (blk_below (g := gb164) (o := .cells #[.int .i64 t161, .int .i64 t162] 26 (0, 0)) (by (with_reducible repeat (first | refine blk_drewN ?_ _ | refine blk_drew ?_ | refine blk_alloc ?_ _)); exact BK164.out) hb); have n5_ := Aside0.mk (below_step (by repeat (first | (with_reducible first | exact HB.out | apply below_alloc | apply pw_below_drewN | apply below_drew1 | refine below_set ?_ GE155.out | refine below_set ?_ GE156.out | refine below_set ?_ GE164.out) | exact HB.out)) hb); clear HO_8; clear BK155; clear BK156; clear BK164; clear HB; have HO_8 := n0_; have HO169 := n1_; have BK155 := n2_; have BK156 := n3_; have BK164 := n4_; have HB := n5_; clear n0_ n1_ n2_ n3_ n4_ n5_; (try clear hb); (try clear hb2); (try clear hk); (try clear hi); (try clear ho0)) | ((with_reducible refine gate_callee (f := 13) rfl ?_); refine goesL_ (some 89) rfl rfl Try.func13 (by kernel_rfl) rfl #[.int .i64 t160] rfl (by (try simp only [List.map_toArray, List.map_cons, List.map_nil]); first | done | rfl | (simp only [List.length_drop, List.length_take]; rfl)) ?_; (with_reducible refine (bournelaw0_Num.calls t160 t171 _ A52.out).mono ?_); rintro e w' ⟨rfl, ⟨nd, rfl⟩⟩; refine ⟨_, rfl, ?_⟩; obtain ⟨Ao97, co97, eo97⟩ := Kd.R_slice HO_8.out; subst eo97))
              go_ret
              exact ⟨by first | rfl | (simp [errW_none, errW_some] <;> rfl) | (simp [*, errW_none, errW_some] <;> rfl), by repeat (first | (with_reducible first | exact HB.out | apply below_alloc | apply pw_below_drewN | apply below_drew1 | refine below_set ?_ GE155.out | refine below_set ?_ GE156.out | refine below_set ?_ GE164.out) | exact HB.out)⟩
        · rw [if_neg c53] at H
          have c53b0 : (t171 == 0) = false := beq_eq_false_iff_ne.mpr c53
          have c53b1 : (t171 != 0) = true := bne_iff_ne.mpr c53
          exact absurd ((Option.some.inj H).trans HR_.out) (by decide)
  · replace c4 := Bool.eq_false_iff.mpr c4
    subst c4
    have H1 : (some false) = some r := by rw [if_neg (show ¬ (false = true) by decide)] at H; exact H
    clear H
    have H := H1
    clear H1
    exact absurd ((Option.some.inj H).trans HR_.out) (by decide)/-- THE ONE PURE STATEMENT of bournelaw5_SliceForms: yours. -/
def bournelaw5_SliceForms.Pure : Prop := ∀ (a0 : Int) (a1 : Int), (Lit.int .i64 a0).wf = true → (Lit.int .i64 a1).wf = true → ∃ k, bournelaw5_SliceForms.f k a0 a1 = some true
theorem bournelaw5_SliceForms.walk (P : bournelaw5_SliceForms.Pure) (a0 : Int) (a1 : Int) (w : World) (w0 : (Lit.int .i64 a0).wf = true) (w1 : (Lit.int .i64 a1).wf = true) :
    Calls Try.prog 5 #[.int .i64 a0, .int .i64 a1] w fun e w' => e = .returned (.bool true) ∧ Below w.heap.size w w' := by
  obtain ⟨k, h⟩ := P a0 a1 w0 w1
  refine (bournelaw5_SliceForms.calls k a0 a1 true w h).mono ?_
  rintro e w' ⟨rfl, hd⟩
  exact ⟨rfl, hd⟩

end Go.Proofs.Yticgnaladjmdoaa.QSliceForms
