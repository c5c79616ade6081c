/-
  No cell of these rows narrows 'for every input' (looked for: loops, veiled, ifaces, maps, wideKeys, modest, calm, conditions, laid).
  DERIVED. THE GIVEN ROWS OF THIS SEAT. 4 by the template 'for every input the law returns true; each argument reads behind the call as it read before'; 0 by the template 'total and deterministic' (their statements: YticgnaladjmdoaaTotals.lean).
  GIVEN WITH THE SEED: the statements are not yours to turn. If you find one false, say at which input.
  Laid BY PROGRAM, IN A SANDBOX (cutbox-rows.mjs): the forced cells as the released guide's own fill.sh prints them over the translation 2f66597a9cae41db… (all of the seat's roots in one cut). By AI agents, Wed Nov 11 2026. No macro, syntax, notation, axiom, sorry.
-/
import Derived.Test.YticgnaladjmdoaaChecked
import GoSem.Claim
import GoSem.ClaimJoined
import GoSem.ClaimMapViews
import Derived.JoinedTies
import Derived.KernelRfl
namespace Go.Proofs.Yticgnaladjmdoaa
/- THE CELL 'sum', in the pinned program and in every row, IS THE sha256 OF THE DUMP (.gsa) THAT YticgnaladjmdoaaProg.lean LOADS. Nothing in Lean hashes anything: it is a label: what it is worth is what the hold of that sum in a sandbox is worth. -/
noncomputable def Try.pinned : Pinned := { name := "yticgnaladjmdoaa", sum := "2f66597a9cae41db33c092099ffe565ccf2f10f12d079734f64e7b5365186780", checked := Try.checked }
namespace Rows
def none {H : Type} : Left H := { results := [], args := [] }

/-- 'bournelaw5.Slices': WHATEVER THE INPUT: true; the input reads as it did. -/
def slicesSpec : ChangeSpec := { name := "slices", fn := fun _ => fun
  | [d1, d2, d3] => { results := [.lit (.bool true)], args := [d1, d2, d3] }
  | _ => none }
def slicesRow : OpenClaim := { program := "yticgnaladjmdoaa", sum := "2f66597a9cae41db33c092099ffe565ccf2f10f12d079734f64e7b5365186780", func := "bourne/bournelaw5.Slices", spec := "slices", apart := false }
def SlicesSaid : Prop := slicesRow.holds Try.pinned (OpenSpec.ofChange slicesSpec)

/-- ITS FALSE NEIGHBOUR: 'it returns false'. Refute it at one input. -/
def slicesWrong : ChangeSpec := { name := "slices", fn := fun _ => fun
  | [d1, d2, d3] => { results := [.lit (.bool false)], args := [d1, d2, d3] }
  | _ => none }
def SlicesWrongFalsely : Prop := slicesRow.holds Try.pinned (OpenSpec.ofChange slicesWrong)

/-- 'bournelaw5.SliceWhole': WHATEVER THE INPUT: true; the input reads as it did. -/
def sliceWholeSpec : ChangeSpec := { name := "sliceWhole", fn := fun _ => fun
  | [d1, d2] => { results := [.lit (.bool true)], args := [d1, d2] }
  | _ => none }
def sliceWholeRow : OpenClaim := { program := "yticgnaladjmdoaa", sum := "2f66597a9cae41db33c092099ffe565ccf2f10f12d079734f64e7b5365186780", func := "bourne/bournelaw5.SliceWhole", spec := "sliceWhole", apart := false }
def SliceWholeSaid : Prop := sliceWholeRow.holds Try.pinned (OpenSpec.ofChange sliceWholeSpec)

/-- ITS FALSE NEIGHBOUR: 'it returns false'. Refute it at one input. -/
def sliceWholeWrong : ChangeSpec := { name := "sliceWhole", fn := fun _ => fun
  | [d1, d2] => { results := [.lit (.bool false)], args := [d1, d2] }
  | _ => none }
def SliceWholeWrongFalsely : Prop := sliceWholeRow.holds Try.pinned (OpenSpec.ofChange sliceWholeWrong)

/-- 'bournelaw5.SliceForms': WHATEVER THE INPUT: true; the input reads as it did. -/
def sliceFormsSpec : ChangeSpec := { name := "sliceForms", fn := fun _ => fun
  | [d1, d2] => { results := [.lit (.bool true)], args := [d1, d2] }
  | _ => none }
def sliceFormsRow : OpenClaim := { program := "yticgnaladjmdoaa", sum := "2f66597a9cae41db33c092099ffe565ccf2f10f12d079734f64e7b5365186780", func := "bourne/bournelaw5.SliceForms", spec := "sliceForms", apart := false }
def SliceFormsSaid : Prop := sliceFormsRow.holds Try.pinned (OpenSpec.ofChange sliceFormsSpec)

/-- ITS FALSE NEIGHBOUR: 'it returns false'. Refute it at one input. -/
def sliceFormsWrong : ChangeSpec := { name := "sliceForms", fn := fun _ => fun
  | [d1, d2] => { results := [.lit (.bool false)], args := [d1, d2] }
  | _ => none }
def SliceFormsWrongFalsely : Prop := sliceFormsRow.holds Try.pinned (OpenSpec.ofChange sliceFormsWrong)

/-- 'bournelaw5.SliceRows': WHATEVER THE INPUT: true; the input reads as it did. -/
def sliceRowsSpec : ChangeSpec := { name := "sliceRows", fn := fun _ => fun
  | [d1, d2] => { results := [.lit (.bool true)], args := [d1, d2] }
  | _ => none }
def sliceRowsRow : OpenClaim := { program := "yticgnaladjmdoaa", sum := "2f66597a9cae41db33c092099ffe565ccf2f10f12d079734f64e7b5365186780", func := "bourne/bournelaw5.SliceRows", spec := "sliceRows", apart := false }
def SliceRowsSaid : Prop := sliceRowsRow.holds Try.pinned (OpenSpec.ofChange sliceRowsSpec)

/-- ITS FALSE NEIGHBOUR: 'it returns false'. Refute it at one input. -/
def sliceRowsWrong : ChangeSpec := { name := "sliceRows", fn := fun _ => fun
  | [d1, d2] => { results := [.lit (.bool false)], args := [d1, d2] }
  | _ => none }
def SliceRowsWrongFalsely : Prop := sliceRowsRow.holds Try.pinned (OpenSpec.ofChange sliceRowsWrong)

/- THE SECOND FORM. 'bulk': how many values and letters a reading holds, each counted each time it is reached (what is shared counts as often as it is met; a slice's spare places count too). A statement '..UptoSaid' is the law's where the arguments, and the package variables that the reading takes, are together of bulk at most 1048576: NARROWER than '..Said'. Prove '..Said' where nothing that the law and all that it calls make is longer than what came in: it says more and counts as full. Else prove '..UptoSaid'. A law counts once. -/
mutual
def uptoBulk {H : Type} : DataW H → Nat
  | .lit (.string bytes) => bytes.length + 1
  | .lit _ => 1
  | .nil => 1
  | .ptr d => uptoBulk d + 1
  | .slice elems spare => uptoBulkAll elems + uptoBulkAll spare + 1
  | .agg parts => uptoBulkAll parts + 1
  | .iface _ d => uptoBulk d + 1
  | .map entries => uptoBulkEntries entries + 1
  | .held _ => 1
def uptoBulkAll {H : Type} : List (DataW H) → Nat
  | [] => 0
  | d :: r => uptoBulk d + uptoBulkAll r
def uptoBulkEntries {H : Type} : List (Lit × DataW H) → Nat
  | [] => 0
  | x :: r => uptoBulkEntry x + uptoBulkEntries r
def uptoBulkEntry {H : Type} : Lit × DataW H → Nat
  | (.string bytes, d) => bytes.length + uptoBulk d + 1
  | (_, d) => uptoBulk d + 1
 end
def uptoSmall : (H : Type) → List (DataW H) → Bool := fun _ ds => decide (uptoBulkAll ds ≤ 1048576)
def OpenSpec.upto (s : _root_.Go.ChangeSpec) : _root_.Go.OpenSpec := { _root_.Go.OpenSpec.ofChange s with cond := some uptoSmall }

/-- 'bournelaw5.Slices', WHERE WHAT IT READS IS OF BULK AT MOST 1048576: true; the input reads as it did. -/
def slicesUptoRow : OpenClaim := { program := "yticgnaladjmdoaa", sum := "2f66597a9cae41db33c092099ffe565ccf2f10f12d079734f64e7b5365186780", func := "bourne/bournelaw5.Slices", spec := "slices", apart := false, narrowed := true }
def SlicesUptoSaid : Prop := slicesUptoRow.holds Try.pinned (OpenSpec.upto slicesSpec)

/-- 'bournelaw5.SliceWhole', WHERE WHAT IT READS IS OF BULK AT MOST 1048576: true; the input reads as it did. -/
def sliceWholeUptoRow : OpenClaim := { program := "yticgnaladjmdoaa", sum := "2f66597a9cae41db33c092099ffe565ccf2f10f12d079734f64e7b5365186780", func := "bourne/bournelaw5.SliceWhole", spec := "sliceWhole", apart := false, narrowed := true }
def SliceWholeUptoSaid : Prop := sliceWholeUptoRow.holds Try.pinned (OpenSpec.upto sliceWholeSpec)

/-- 'bournelaw5.SliceForms', WHERE WHAT IT READS IS OF BULK AT MOST 1048576: true; the input reads as it did. -/
def sliceFormsUptoRow : OpenClaim := { program := "yticgnaladjmdoaa", sum := "2f66597a9cae41db33c092099ffe565ccf2f10f12d079734f64e7b5365186780", func := "bourne/bournelaw5.SliceForms", spec := "sliceForms", apart := false, narrowed := true }
def SliceFormsUptoSaid : Prop := sliceFormsUptoRow.holds Try.pinned (OpenSpec.upto sliceFormsSpec)

/-- 'bournelaw5.SliceRows', WHERE WHAT IT READS IS OF BULK AT MOST 1048576: true; the input reads as it did. -/
def sliceRowsUptoRow : OpenClaim := { program := "yticgnaladjmdoaa", sum := "2f66597a9cae41db33c092099ffe565ccf2f10f12d079734f64e7b5365186780", func := "bourne/bournelaw5.SliceRows", spec := "sliceRows", apart := false, narrowed := true }
def SliceRowsUptoSaid : Prop := sliceRowsUptoRow.holds Try.pinned (OpenSpec.upto sliceRowsSpec)

end Rows
end Go.Proofs.Yticgnaladjmdoaa
