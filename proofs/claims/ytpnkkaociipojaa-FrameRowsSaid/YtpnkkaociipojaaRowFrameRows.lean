/- The law FrameRows answers true at every input: the row, over the walk. No condition. -/
import Derived.Test.YtpnkkaociipojaaRows
import Derived.Test.YtpnkkaociipojaaMathFrameRows
import Derived.Test.YtpnkkaociipojaaDeep
import Derived.WalkKit
import Derived.ProofKit
import Derived.OpenShut
import Derived.ShutString
import Derived.ChangeOld
import Derived.Below
import Derived.SizedLaws
namespace Go.Proofs.Ytpnkkaociipojaa.frameRows
open Go.ChangeShapes Go.WideShapes Go.ChangeAt Go.RowKit Go.Proofs.Ytpnkkaociipojaa.Deep Go.Proofs.Ytpnkkaociipojaa.QFrameRows Go.Proofs.YtpnkkaociipojaaW.PrintWords
open Go.ChangeMaps (open_string shut_string)
set_option linter.unusedVariables false
theorem own : ownKnob Try.prog.godebug = none := by kernel_rfl
theorem laidOut : laidOutB Try.prog = true := by kernel_rfl
theorem arg0 {w : World} {x : _} {cs : List Value} (h : Kd.K (Kd.slice 9 Kd.string) w x cs) : ∃ A0 c0, cs = [.slice A0 (x).length c0] ∧ (Kd.string).C w A0 (x).length (x) ∧ (x).length ≤ c0 := by
  obtain ⟨A0, c0, rfl, l0, g0⟩ := h
  exact ⟨A0, c0, rfl, g0, l0⟩
set_option maxHeartbeats 1000000 in
set_option maxRecDepth 100000 in
theorem lifted (os : Os) (started : os.Started) (H : Type) (enc : TypeId × Value → H) :
    ReturnsInHanded {} Try.checked os 6 .any (Rows.frameRowsSpec.pre6 enc Try.prog Try.f6 Rows.frameRowsRow.domain false) (Rows.frameRowsSpec.post enc Try.prog Try.f6 false true false false) := by
  refine returnsInHanded_of_change_sized (C := Try.checked) own started (by kernel_rfl) Try.func6
    (ChangeSpec.witness6 (enc := enc) (C := Try.checked) false ⟨#[], #[.slice none 0 0], []⟩ 8 (by kernel_rfl) (by kernel_rfl) (by kernel_rfl) (by kernel_rfl)) ?_
  intro W base args ds gs before hval0 hW hcnd hsz0 _
  have hsz : (DataW.weightsEach Try.prog (Try.f6.params.toList ++ Rows.frameRowsSpec.plain.varTypes Try.prog) (ds ++ gs)).all (· ≤ reachBytes) = true := hsz0
  have hval : ∀ (j : Nat) t v, Try.f6.params[j]? = some t → args[j]? = some v → Value.okWide Try.prog W .any base t v := hval0
  have hW' := hW
  obtain ⟨p, q, hA0, hV, rfl, hfz, hnd⟩ := hW
  have hA : DataW.TrodAll enc Try.prog W 0 (fun _ => true) true Try.f6.params.toList args.toList ds p := hA0
  rw [Try.params6] at hA hval hsz
  obtain ⟨v0, vs0, d0, ds0, p0, q0, hargs, rfl, rfl, h0, r0⟩ := trodAll_cons hA
  obtain ⟨rfl, rfl, rfl⟩ := trodAll_nil r0
  obtain rfl : args = #[v0] := by cases args; simp_all
  obtain ⟨rfl, rfl⟩ := trodVars_none hV
  have k0 := h0
  have lt0 : ∀ x ∈ p0, x.block < W.heap.size := by obtain ⟨m, hm⟩ := k0; exact DataW.trod_lt m _ _ _ hm
  obtain ⟨x0, hk0, g0⟩ := opens_arg (opens_slice 9 16 Try.underlying38 (by kernel_rfl) (by kernel_rfl) (opens_string Try.underlying9)) hsz (j := 0) (t := 38) rfl rfl h0
  obtain ⟨aa0, len0, cap0, rfl⟩ := okWide_slice Try.underlying38 (hval 0 38 v0 rfl rfl)
  obtain ⟨A0_0, c0_0, e0, gC0_0, gl0_0⟩ := arg0 hk0
  obtain ⟨rfl, rfl, rfl⟩ : A0_0 = aa0 ∧ x0.length = len0 ∧ c0_0 = cap0 := by have z := e0; simp [Value.cells] at z; exact ⟨z.1.symm, z.2.1.symm, z.2.2.symm⟩
  clear hA0 hval0 hsz0 hsz
  refine (Pure.rows_walk A0_0 c0_0 (x0) W gC0_0 gl0_0 g0).mono fun e W' ⟨he, bel⟩ => ?_
  subst he
  exact ⟨_, rfl, _, _, _, [], _, [], hW', trodAll_mk1 (shut_bool Try.underlying4 _), (trodAll_cons_mk (Below.trod laidOut (by kernel_rfl) (of_decide_eq_true (by kernel_rfl)) k0 bel lt0) trodAll_mk0), rfl, bel.frame _, fun h => by cases h⟩
theorem over : Rows.frameRowsRow.holds Try.pinned (OpenSpec.ofChange Rows.frameRowsSpec) :=
  OpenClaim.holds_of_wide 6 Try.f6 rfl rfl rfl rfl rfl rfl rfl ⟨rfl, rfl, rfl, rfl, rfl⟩ rfl rfl rfl rfl rfl (by kernel_rfl) Try.func6 (by kernel_rfl)
    (of_decide_eq_true (by kernel_rfl)) (by unfold Func.isWrapper; first | (rw [if_pos (by decide +kernel)]; kernel_rfl) | (rw [if_neg (by decide +kernel)]; exact ⟨rfl, rfl⟩))
    (fun os started H enc _ => lifted os started H enc)
theorem proved : Rows.FrameRowsSaid := over
#print axioms proved
end Go.Proofs.Ytpnkkaociipojaa.frameRows
namespace Go.Proofs.Ytpnkkaociipojaa
/-- The row, under a short name, for the claim. -/
theorem frameRows_holds : Rows.FrameRowsSaid := frameRows.proved
end Go.Proofs.Ytpnkkaociipojaa
