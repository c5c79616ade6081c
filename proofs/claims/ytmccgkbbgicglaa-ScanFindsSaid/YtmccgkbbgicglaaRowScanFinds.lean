/- The law ScanFinds answers true at every input: the row, over the walk. No condition. -/
import Derived.Test.YtmccgkbbgicglaaRows
import Derived.Test.YtmccgkbbgicglaaScanFindsMath
import Derived.Test.YtmccgkbbgicglaaDeep
import Derived.WalkKit
import Derived.ProofKit
import Derived.OpenShut
import Derived.ShutString
import Derived.ChangeOld
import Derived.Below
import Derived.SizedLaws
namespace Go.Proofs.Ytmccgkbbgicglaa.scanFinds
open Go.ChangeShapes Go.WideShapes Go.ChangeAt Go.RowKit Go.Proofs.Ytmccgkbbgicglaa.Deep Go.Proofs.Ytmccgkbbgicglaa.QScanAll Go.Proofs.YtmccgkbbgicglaaW.PrintWords
open Go.ChangeMaps (open_string shut_string)
set_option linter.unusedVariables false
theorem own : ownKnob Try.prog.godebug = none := by kernel_rfl
theorem laidOut : laidOutB Try.prog = true := by kernel_rfl
theorem arg0 {w : World} {x : _} {cs : List Value} (h : Kd.K (Kd.slice 49 k49) w x cs) : ∃ A0 c0, cs = [.slice A0 (x).length c0] ∧ (k49).C w A0 (x).length (x) ∧ (x).length ≤ c0 := by
  obtain ⟨A0, c0, rfl, l0, g0⟩ := h
  exact ⟨A0, c0, rfl, g0, l0⟩
theorem arg1 {w : World} {x : _} {cs : List Value} (h : Kd.K (Kd.slice 9 Kd.string) w x cs) : ∃ A0 c0, cs = [.slice A0 (x).length c0] ∧ (Kd.string).C w A0 (x).length (x) ∧ (x).length ≤ c0 := by
  obtain ⟨A0, c0, rfl, l0, g0⟩ := h
  exact ⟨A0, c0, rfl, g0, l0⟩
set_option maxHeartbeats 1000000 in
set_option maxRecDepth 100000 in
theorem lifted (os : Os) (started : os.Started) (H : Type) (enc : TypeId × Value → H) :
    ReturnsInHanded {} Try.checked os 5 .any (Rows.scanFindsSpec.pre6 enc Try.prog Try.f5 Rows.scanFindsRow.domain false) (Rows.scanFindsSpec.post enc Try.prog Try.f5 false true false false) := by
  refine returnsInHanded_of_change_sized (C := Try.checked) own started (by kernel_rfl) Try.func5
    (ChangeSpec.witness6 (enc := enc) (C := Try.checked) false ⟨#[], #[.slice none 0 0, .slice none 0 0], []⟩ 8 (by kernel_rfl) (by kernel_rfl) (by kernel_rfl) (by kernel_rfl)) ?_
  intro W base args ds gs before hval0 hW hcnd hsz0 _
  have hsz : (DataW.weightsEach Try.prog (Try.f5.params.toList ++ Rows.scanFindsSpec.plain.varTypes Try.prog) (ds ++ gs)).all (· ≤ reachBytes) = true := hsz0
  have hval : ∀ (j : Nat) t v, Try.f5.params[j]? = some t → args[j]? = some v → Value.okWide Try.prog W .any base t v := hval0
  have hW' := hW
  obtain ⟨p, q, hA0, hV, rfl, hfz, hnd⟩ := hW
  have hA : DataW.TrodAll enc Try.prog W 0 (fun _ => true) true Try.f5.params.toList args.toList ds p := hA0
  rw [Try.params5] at hA hval hsz
  obtain ⟨v0, vs0, d0, ds0, p0, q0, hargs, rfl, rfl, h0, r0⟩ := trodAll_cons hA
  obtain ⟨v1, vs1, d1, ds1, p1, q1, rfl, rfl, rfl, h1, r1⟩ := trodAll_cons r0
  obtain ⟨rfl, rfl, rfl⟩ := trodAll_nil r1
  obtain rfl : args = #[v0, v1] := by cases args; simp_all
  obtain ⟨rfl, rfl⟩ := trodVars_none hV
  have k0 := h0
  have lt0 : ∀ x ∈ p0, x.block < W.heap.size := by obtain ⟨m, hm⟩ := k0; exact DataW.trod_lt m _ _ _ hm
  obtain ⟨x0, hk0, g0⟩ := opens_arg (opens_slice 49 40 Try.underlying34 (by kernel_rfl) (by kernel_rfl) (opens_iso (fun x : S49 => (x.f0, x.f1, x.f2, x.f3, x.f4)) (fun y => ⟨y.1, y.2.1, y.2.2.1, y.2.2.2.1, y.2.2.2.2⟩) (fun _ => rfl) (opens_struct Try.underlying49 (by kernel_rfl) (opensF_cons rfl (by kernel_rfl) (opens_int Try.underlying3) (opensF_cons rfl (by kernel_rfl) (opens_int Try.underlying3) (opensF_cons rfl (by kernel_rfl) (opens_int Try.underlying3) (opensF_cons rfl (by kernel_rfl) (opens_int Try.underlying3) (opensF_last rfl (by kernel_rfl) (opens_int Try.underlying3))))))))) hsz (j := 0) (t := 34) rfl rfl h0
  obtain ⟨aa0, len0, cap0, rfl⟩ := okWide_slice Try.underlying34 (hval 0 34 v0 rfl rfl)
  obtain ⟨A0_0, c0_0, e0, gC0_0, gl0_0⟩ := arg0 hk0
  obtain ⟨rfl, rfl, rfl⟩ : A0_0 = aa0 ∧ x0.length = len0 ∧ c0_0 = cap0 := by have z := e0; simp [Value.cells] at z; exact ⟨z.1.symm, z.2.1.symm, z.2.2.symm⟩
  have k1 := h1
  have lt1 : ∀ x ∈ p1, x.block < W.heap.size := by obtain ⟨m, hm⟩ := k1; exact DataW.trod_lt m _ _ _ hm
  obtain ⟨x1, hk1, g1⟩ := opens_arg (opens_slice 9 16 Try.underlying22 (by kernel_rfl) (by kernel_rfl) (opens_string Try.underlying9)) hsz (j := 1) (t := 22) rfl rfl h1
  obtain ⟨aa1, len1, cap1, rfl⟩ := okWide_slice Try.underlying22 (hval 1 22 v1 rfl rfl)
  obtain ⟨A1_0, c1_0, e1, gC1_0, gl1_0⟩ := arg1 hk1
  obtain ⟨rfl, rfl, rfl⟩ : A1_0 = aa1 ∧ x1.length = len1 ∧ c1_0 = cap1 := by have z := e1; simp [Value.cells] at z; exact ⟨z.1.symm, z.2.1.symm, z.2.2.symm⟩
  clear hA0 hval0 hsz0 hsz
  refine (ScanFindsMath.scanfinds_walk A0_0 c0_0 (x0) A1_0 c1_0 (x1) W gC0_0 gl0_0 g0 gC1_0 gl1_0 g1).mono fun e W' ⟨he, bel⟩ => ?_
  subst he
  exact ⟨_, rfl, _, _, _, [], _, [], hW', trodAll_mk1 (shut_bool Try.underlying4 _), (trodAll_cons_mk (Below.trod laidOut (by kernel_rfl) (of_decide_eq_true (by kernel_rfl)) k0 bel lt0) (trodAll_cons_mk (Below.trod laidOut (by kernel_rfl) (of_decide_eq_true (by kernel_rfl)) k1 bel lt1) trodAll_mk0)), rfl, bel.frame _, fun h => by cases h⟩
theorem over : Rows.scanFindsRow.holds Try.pinned (OpenSpec.ofChange Rows.scanFindsSpec) :=
  OpenClaim.holds_of_wide 5 Try.f5 rfl rfl rfl rfl rfl rfl rfl ⟨rfl, rfl, rfl, rfl, rfl⟩ rfl rfl rfl rfl rfl (by kernel_rfl) Try.func5 (by kernel_rfl)
    (of_decide_eq_true (by kernel_rfl)) (by unfold Func.isWrapper; first | (rw [if_pos (by decide +kernel)]; kernel_rfl) | (rw [if_neg (by decide +kernel)]; exact ⟨rfl, rfl⟩))
    (fun os started H enc _ => lifted os started H enc)
theorem proved : Rows.ScanFindsSaid := over
#print axioms proved
end Go.Proofs.Ytmccgkbbgicglaa.scanFinds
namespace Go.Proofs.Ytmccgkbbgicglaa
/-- The row, under a short name, for the claim. -/
theorem scanFinds_holds : Rows.ScanFindsSaid := scanFinds.proved
end Go.Proofs.Ytmccgkbbgicglaa
