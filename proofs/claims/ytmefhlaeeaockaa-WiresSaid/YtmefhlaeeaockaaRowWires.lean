/- The law Wires answers true at every input: the row, over the walk. No condition. -/
import Derived.Test.YtmefhlaeeaockaaRows
import Derived.Test.YtmefhlaeeaockaaMathWires
import Derived.WalkKit
import Derived.ProofKit
import Derived.OpenShut
import Derived.ShutString
import Derived.ChangeOld
import Derived.Below
import Derived.SizedLaws
namespace Go.Proofs.Ytmefhlaeeaockaa.wires
open Go.ChangeShapes Go.WideShapes Go.ChangeAt Go.RowKit
open Go.ChangeMaps (open_string shut_string)
set_option linter.unusedVariables false
theorem own : ownKnob Try.prog.godebug = none := by kernel_rfl
theorem laidOut : laidOutB Try.prog = true := by kernel_rfl
def IsRow (k : IntKind) (w : World) (a : Option Addr) (len cap : Nat) (zs : List Int) : Prop :=
  (a = none ∧ len = 0 ∧ cap = 0 ∧ zs = []) ∨
  ∃ x, a = some x ∧ len ≤ cap ∧ cap ≤ maxLen ∧ zs.length = cap ∧ (∀ i, i < zs.length → w.cell? (x.add i) = some (.int k (zs.getD i 0))) ∧ ∀ n ∈ zs, (Lit.int k n).wf = true
theorem array5 {α : Type} {cs : Array α} (h : cs.size = 5) : ∃ c0 c1 c2 c3 c4, cs = #[c0, c1, c2, c3, c4] := by
  obtain ⟨l⟩ := cs
  match l, h with
  | [c0, c1, c2, c3, c4], _ => exact ⟨c0, c1, c2, c3, c4, rfl⟩
set_option maxHeartbeats 1000000 in
set_option maxRecDepth 100000 in
theorem lifted (os : Os) (started : os.Started) (H : Type) (enc : TypeId × Value → H) :
    ReturnsInHanded {} Try.checked os 3 .any (Rows.wiresSpec.pre6 enc Try.prog Try.f3 Rows.wiresRow.domain false) (Rows.wiresSpec.post enc Try.prog Try.f3 false true false false) := by
  refine returnsInHanded_of_change_sized (C := Try.checked) own started (by kernel_rfl) Try.func3
    (ChangeSpec.witness6 (enc := enc) (C := Try.checked) false ⟨#[], #[.agg #[.int .i64 0, .int .i64 0, .int .i64 0, .int .i64 0, .int .i64 0], .string ByteArray.empty], []⟩ 8 (by kernel_rfl) (by kernel_rfl) (by kernel_rfl) (by kernel_rfl)) ?_
  intro W base args ds gs before hval0 hW hcnd hsz0 _
  have hsz : (DataW.weightsEach Try.prog (Try.f3.params.toList ++ Rows.wiresSpec.plain.varTypes Try.prog) (ds ++ gs)).all (· ≤ reachBytes) = true := hsz0
  have hval : ∀ (j : Nat) t v, Try.f3.params[j]? = some t → args[j]? = some v → Value.okWide Try.prog W .any base t v := hval0
  have hW' := hW
  obtain ⟨p, q, hA0, hV, rfl, hfz, hnd⟩ := hW
  have hA : DataW.TrodAll enc Try.prog W 0 (fun _ => true) true Try.f3.params.toList args.toList ds p := hA0
  rw [Try.params3] at hA hval hsz
  obtain ⟨v0, vs0, d0, ds0, p0, q0, hargs, rfl, rfl, h0, r0⟩ := trodAll_cons hA
  obtain ⟨v1, vs1, d1, ds1, p1, q1, rfl, rfl, rfl, h1, r1⟩ := trodAll_cons r0
  obtain ⟨rfl, rfl, rfl⟩ := trodAll_nil r1
  obtain rfl : args = #[v0, v1] := by cases args; simp_all
  obtain ⟨rfl, rfl⟩ := trodVars_none hV
  have k0 := h0
  have lt0 : ∀ x ∈ p0, x.block < W.heap.size := by obtain ⟨m, hm⟩ := k0; exact DataW.trod_lt m _ _ _ hm
  obtain ⟨cs0, rfl, hz0⟩ := okWide_struct Try.underlying23 (hval 0 23 v0 rfl rfl)
  obtain ⟨c0_0, c0_1, c0_2, c0_3, c0_4, rfl⟩ := array5 (hz0.trans (show Try.prog.cellsOf 23 = 5 by kernel_rfl))
  obtain ⟨fu0, hf0⟩ := h0
  replace hf0 : DataW.trod enc Try.prog W 0 (fun _ => true) true fu0 23 [c0_0, c0_1, c0_2, c0_3, c0_4] = some (d0, p0) := hf0
  obtain ⟨xs0, m0, _, _, _, hl0, hall0⟩ := DataW.trod_struct Try.underlying23 hf0
  obtain ⟨y0_0, hy0_0⟩ : ∃ y, xs0[0]? = some y := ⟨_, List.getElem?_eq_getElem (by rw [hl0]; decide)⟩
  have hg0_0 : DataW.trod enc Try.prog W 0 (fun _ => true) true m0 3 [c0_0] = some y0_0 := by
    have z : DataW.trod enc Try.prog W 0 (fun _ => true) true m0 3 (List.take (Try.prog.cellsOf 3) (List.drop 0 [c0_0, c0_1, c0_2, c0_3, c0_4])) = xs0[0]? := hall0 0 _ rfl
    have hc : Try.prog.cellsOf 3 = 1 := by kernel_rfl
    rw [hy0_0, hc] at z
    exact z
  obtain ⟨y0_1, hy0_1⟩ : ∃ y, xs0[1]? = some y := ⟨_, List.getElem?_eq_getElem (by rw [hl0]; decide)⟩
  have hg0_1 : DataW.trod enc Try.prog W 0 (fun _ => true) true m0 3 [c0_1] = some y0_1 := by
    have z : DataW.trod enc Try.prog W 0 (fun _ => true) true m0 3 (List.take (Try.prog.cellsOf 3) (List.drop 1 [c0_0, c0_1, c0_2, c0_3, c0_4])) = xs0[1]? := hall0 1 _ rfl
    have hc : Try.prog.cellsOf 3 = 1 := by kernel_rfl
    rw [hy0_1, hc] at z
    exact z
  obtain ⟨y0_2, hy0_2⟩ : ∃ y, xs0[2]? = some y := ⟨_, List.getElem?_eq_getElem (by rw [hl0]; decide)⟩
  have hg0_2 : DataW.trod enc Try.prog W 0 (fun _ => true) true m0 3 [c0_2] = some y0_2 := by
    have z : DataW.trod enc Try.prog W 0 (fun _ => true) true m0 3 (List.take (Try.prog.cellsOf 3) (List.drop 2 [c0_0, c0_1, c0_2, c0_3, c0_4])) = xs0[2]? := hall0 2 _ rfl
    have hc : Try.prog.cellsOf 3 = 1 := by kernel_rfl
    rw [hy0_2, hc] at z
    exact z
  obtain ⟨y0_3, hy0_3⟩ : ∃ y, xs0[3]? = some y := ⟨_, List.getElem?_eq_getElem (by rw [hl0]; decide)⟩
  have hg0_3 : DataW.trod enc Try.prog W 0 (fun _ => true) true m0 3 [c0_3] = some y0_3 := by
    have z : DataW.trod enc Try.prog W 0 (fun _ => true) true m0 3 (List.take (Try.prog.cellsOf 3) (List.drop 3 [c0_0, c0_1, c0_2, c0_3, c0_4])) = xs0[3]? := hall0 3 _ rfl
    have hc : Try.prog.cellsOf 3 = 1 := by kernel_rfl
    rw [hy0_3, hc] at z
    exact z
  obtain ⟨y0_4, hy0_4⟩ : ∃ y, xs0[4]? = some y := ⟨_, List.getElem?_eq_getElem (by rw [hl0]; decide)⟩
  have hg0_4 : DataW.trod enc Try.prog W 0 (fun _ => true) true m0 3 [c0_4] = some y0_4 := by
    have z : DataW.trod enc Try.prog W 0 (fun _ => true) true m0 3 (List.take (Try.prog.cellsOf 3) (List.drop 4 [c0_0, c0_1, c0_2, c0_3, c0_4])) = xs0[4]? := hall0 4 _ rfl
    have hc : Try.prog.cellsOf 3 = 1 := by kernel_rfl
    rw [hy0_4, hc] at z
    exact z
  obtain ⟨b0_0, e0_0, _, w0_0⟩ := DataW.trod_int Try.underlying3 hg0_0
  obtain rfl : c0_0 = .int .i64 b0_0 := by simpa using e0_0
  obtain ⟨b0_1, e0_1, _, w0_1⟩ := DataW.trod_int Try.underlying3 hg0_1
  obtain rfl : c0_1 = .int .i64 b0_1 := by simpa using e0_1
  obtain ⟨b0_2, e0_2, _, w0_2⟩ := DataW.trod_int Try.underlying3 hg0_2
  obtain rfl : c0_2 = .int .i64 b0_2 := by simpa using e0_2
  obtain ⟨b0_3, e0_3, _, w0_3⟩ := DataW.trod_int Try.underlying3 hg0_3
  obtain rfl : c0_3 = .int .i64 b0_3 := by simpa using e0_3
  obtain ⟨b0_4, e0_4, _, w0_4⟩ := DataW.trod_int Try.underlying3 hg0_4
  obtain rfl : c0_4 = .int .i64 b0_4 := by simpa using e0_4
  obtain ⟨a1, rfl, rfl, rfl, y1⟩ := open_string Try.underlying9 (hval 1 9 v1 rfl rfl) h1
  have w1 : a1.size ≤ 140737488351232 := by
    have z := sized_string hsz (j := 1) (t := 9) rfl rfl
    rw [Array.length_toList] at z
    exact z
  clear hA0 hval0 hsz0 hsz
  refine (Pure.wires_walk b0_0 b0_1 b0_2 b0_3 b0_4 a1 W w0_0 w0_1 w0_2 w0_3 w0_4 w1).mono fun e W' ⟨he, bel⟩ => ?_
  subst he
  exact ⟨_, rfl, _, _, _, [], _, [], hW', trodAll_mk1 (shut_bool Try.underlying4 _), (trodAll_cons_mk (Below.trod laidOut (by kernel_rfl) (of_decide_eq_true (by kernel_rfl)) k0 bel lt0) (trodAll_cons_mk (shut_string Try.underlying9 y1) trodAll_mk0)), rfl, bel.frame _, fun h => by cases h⟩
theorem over : Rows.wiresRow.holds Try.pinned (OpenSpec.ofChange Rows.wiresSpec) :=
  OpenClaim.holds_of_wide 3 Try.f3 rfl rfl rfl rfl rfl rfl rfl ⟨rfl, rfl, rfl, rfl, rfl⟩ rfl rfl rfl rfl rfl (by kernel_rfl) Try.func3 (by kernel_rfl)
    (of_decide_eq_true (by kernel_rfl)) (by unfold Func.isWrapper; first | (rw [if_pos (by decide +kernel)]; kernel_rfl) | (rw [if_neg (by decide +kernel)]; exact ⟨rfl, rfl⟩))
    (fun os started H enc _ => lifted os started H enc)
theorem proved : Rows.WiresSaid := over
#print axioms proved
end Go.Proofs.Ytmefhlaeeaockaa.wires
namespace Go.Proofs.Ytmefhlaeeaockaa
/-- The row, under a short name, for the claim. -/
theorem wires_holds : Rows.WiresSaid := wires.proved
end Go.Proofs.Ytmefhlaeeaockaa
