/- The law ScanCuts answers true where what it reads is of bulk at most 1048576: the row, over the walk. -/
import Derived.Test.YtmccgkbbgicglaaRows
import Derived.Test.YtmccgkbbgicglaaScanCutsMath
import Derived.Test.YtmccgkbbgicglaaDeep
import Derived.WalkKit
import Derived.ProofKit
import Derived.OpenShut
import Derived.ShutString
import Derived.ChangeOld
import Derived.Below
import Derived.SizedLaws
import Derived.JoinedCond
import Derived.Deep.CondSized
namespace Go.Proofs.Ytmccgkbbgicglaa.scanCuts
open Go.ChangeShapes Go.WideShapes Go.ChangeAt Go.RowKit Go.Proofs.Ytmccgkbbgicglaa.Deep Go.Proofs.Ytmccgkbbgicglaa.QScanAll Go.Proofs.YtmccgkbbgicglaaW.PrintWords
open Go.ChangeMaps (open_string shut_string)
set_option linter.unusedVariables false
theorem own : ownKnob Try.prog.godebug = none := by kernel_rfl
theorem laidOut : laidOutB Try.prog = true := by kernel_rfl
theorem arg1 {w : World} {x : _} {cs : List Value} (h : Kd.K (Kd.slice 3 (Kd.int .i64)) w x cs) : ∃ A0 c0, cs = [.slice A0 (x).length c0] ∧ (Kd.int .i64).C w A0 (x).length (x) ∧ (x).length ≤ c0 := by
  obtain ⟨A0, c0, rfl, l0, g0⟩ := h
  exact ⟨A0, c0, rfl, g0, l0⟩
set_option maxHeartbeats 1000000 in
set_option maxRecDepth 100000 in
theorem contract (H : Type) (enc : TypeId × Value → H) (W : World) (base : Nat) (args : Array Value) (ds gs : List (DataW H)) (before : List MemPlace)
    (hval0 : ∀ (j : Nat) t v, Try.f4.params[j]? = some t → args[j]? = some v → Value.okWide Try.prog W .any base t v)
    (hW : DataW.Whole enc Try.prog Try.f4.params.toList Rows.scanCutsSpec.vars false W args.toList ds gs before) (hk0 : Rows.uptoSmall H (ds ++ gs) = true)
    (hsz0 : (DataW.weightsEach Try.prog (Try.f4.params.toList ++ Rows.scanCutsSpec.plain.varTypes Try.prog) (ds ++ gs)).all (· ≤ reachBytes) = true) :
    Calls Try.prog 4 args W fun e W' => ∃ v, e = .returned v ∧ Rows.scanCutsSpec.post enc Try.prog Try.f4 false true false false W args v W' := by
  have hsz := hsz0
  have hval := hval0
  have hW' := hW
  obtain ⟨p, q, hA0, hV, rfl, hfz, hnd⟩ := hW
  have hA : DataW.TrodAll enc Try.prog W 0 (fun _ => true) true Try.f4.params.toList args.toList ds p := hA0
  rw [Try.params4] at hA hval hsz
  obtain ⟨v0, vs0, d0, ds0, p0, q0, hargs, rfl, rfl, h0, r0⟩ := trodAll_cons hA
  obtain ⟨v1, vs1, d1, ds1, p1, q1, rfl, rfl, rfl, h1, r1⟩ := trodAll_cons r0
  obtain ⟨rfl, rfl, rfl⟩ := trodAll_nil r1
  obtain rfl : args = #[v0, v1] := by cases args; simp_all
  obtain ⟨rfl, rfl⟩ := trodVars_none hV
  obtain ⟨a0, rfl, rfl, rfl, y0⟩ := open_string Try.underlying9 (hval 0 9 v0 rfl rfl) h0
  have w0 : a0.size ≤ 140737488351232 := by
    have z := sized_string hsz (j := 0) (t := 9) rfl rfl
    rw [Array.length_toList] at z
    exact z
  have k1 := h1
  have lt1 : ∀ x ∈ p1, x.block < W.heap.size := by obtain ⟨m, hm⟩ := k1; exact DataW.trod_lt m _ _ _ hm
  obtain ⟨x1, hk1, g1⟩ := opens_arg (opens_slice 3 8 Try.underlying43 (by kernel_rfl) (by kernel_rfl) (opens_int Try.underlying3)) hsz (j := 1) (t := 43) rfl rfl h1
  obtain ⟨aa1, len1, cap1, rfl⟩ := okWide_slice Try.underlying43 (hval 1 43 v1 rfl rfl)
  obtain ⟨A1_0, c1_0, e1, gC1_0, gl1_0⟩ := arg1 hk1
  obtain ⟨rfl, rfl, rfl⟩ : A1_0 = aa1 ∧ x1.length = len1 ∧ c1_0 = cap1 := by have z := e1; simp [Value.cells] at z; exact ⟨z.1.symm, z.2.1.symm, z.2.2.symm⟩
  have hb := (show Rows.uptoBulkAll _ ≤ 1048576 from of_decide_eq_true hk0)
  simp only [List.append_nil, Rows.uptoBulkAll, Rows.uptoBulk] at hb
  have e0_ : a0.data.toList.length = a0.size := by rw [Array.length_toList]; rfl
  have u0 : a0.size ≤ 1048576 := by omega
  clear hk0 hb
  clear hA0 hval0 hsz0 hsz
  refine (ScanCutsMath.scancuts_walk a0 A1_0 c1_0 (x1) W u0 gC1_0 gl1_0 g1).mono fun e W' ⟨he, bel⟩ => ?_
  subst he
  exact ⟨_, rfl, _, _, _, [], _, [], hW', trodAll_mk1 (shut_bool Try.underlying4 _), (trodAll_cons_mk (shut_string Try.underlying9 y0) (trodAll_cons_mk (Below.trod laidOut (by kernel_rfl) (of_decide_eq_true (by kernel_rfl)) k1 bel lt1) trodAll_mk0)), rfl, bel.frame _, fun h => by cases h⟩
set_option maxRecDepth 100000 in
theorem lifted (os : Os) (started : os.Started) (H : Type) (enc : TypeId × Value → H) (F : Stop.Interp) :
    ReturnsInHanded {} Try.checked os 4 .any ((Rows.OpenSpec.upto Rows.scanCutsSpec).pre6 enc Try.prog Try.f4 Rows.scanCutsUptoRow.domain false) (((Rows.OpenSpec.upto Rows.scanCutsSpec).at F).post enc Try.prog Try.f4 false true false false) := by
  refine returnsInHanded_of_cond_sized (C := Try.checked) (s := (Rows.OpenSpec.upto Rows.scanCutsSpec)) (k := Rows.uptoSmall) rfl own started (by kernel_rfl) Try.func4
    (OpenSpec.witness (enc := enc) (C := Try.checked) (s := (Rows.OpenSpec.upto Rows.scanCutsSpec)) (k := Rows.uptoSmall) rfl false ⟨#[], #[.string ByteArray.empty, .slice none 0 0], []⟩ 8 (by kernel_rfl) (by kernel_rfl) (by kernel_rfl)
      (x := ([.lit (.string []), .nil], [], [])) (by kernel_rfl) rfl (by kernel_rfl)) ?_
  intro W base args ds gs before hval hW _ hk hsz _
  exact contract H enc W base args ds gs before hval hW hk hsz
theorem proved : Rows.ScanCutsUptoSaid :=
  OpenClaim.holds_of_cond 4 Try.f4 rfl rfl rfl rfl rfl rfl rfl ⟨rfl, rfl, rfl, rfl, rfl⟩ rfl rfl rfl rfl rfl (by kernel_rfl) Try.func4 (by kernel_rfl)
    (of_decide_eq_true (by kernel_rfl)) (by unfold Func.isWrapper; first | (rw [if_pos (by decide +kernel)]; kernel_rfl) | (rw [if_neg (by decide +kernel)]; exact ⟨rfl, rfl⟩))
    (fun os started H enc _ F => lifted os started H enc F)
#print axioms proved
end Go.Proofs.Ytmccgkbbgicglaa.scanCuts
namespace Go.Proofs.Ytmccgkbbgicglaa
/-- The row, under a short name, for the claim. -/
theorem scanCuts_holds : Rows.ScanCutsUptoSaid := scanCuts.proved
end Go.Proofs.Ytmccgkbbgicglaa
