/-
  No cell of these rows narrows 'for every input' (looked for: loops, veiled, ifaces, maps, wideKeys, modest, calm, conditions, laid).
  DERIVED. THE GIVEN ROWS OF THIS SEAT. 6 by the template 'for every input the law returns true; each argument reads behind the call as it read before'; 0 by the template 'total and deterministic' (their statements: YtejgmbpcnabgjaaTotals.lean).
  GIVEN WITH THE SEED: the statements are not yours to turn. If you find one false, say at which input.
  Laid BY PROGRAM, IN A SANDBOX (cutbox-rows.mjs): the forced cells as the released guide's own fill.sh prints them over the translation 55db6ad02163159c… (all of the seat's roots in one cut). By AI agents, Wed Nov 11 2026. No macro, syntax, notation, axiom, sorry.
-/
import Derived.Test.YtejgmbpcnabgjaaChecked
import GoSem.Claim
import GoSem.ClaimJoined
import GoSem.ClaimMapViews
import Derived.JoinedTies
import Derived.KernelRfl
namespace Go.Proofs.Ytejgmbpcnabgjaa
/- THE CELL 'sum', in the pinned program and in every row, IS THE sha256 OF THE DUMP (.gsa) THAT YtejgmbpcnabgjaaProg.lean LOADS. Nothing in Lean hashes anything: it is a label: what it is worth is what the hold of that sum in a sandbox is worth. -/
noncomputable def Try.pinned : Pinned := { name := "ytejgmbpcnabgjaa", sum := "55db6ad02163159c4d20b746d8af7fd0694f4f1026d780ee56142215658fd164", checked := Try.checked }
namespace Rows
def none {H : Type} : Left H := { results := [], args := [] }

/-- 'bournelaw4.Windows': WHATEVER THE INPUT: true; the input reads as it did. -/
def windowsSpec : ChangeSpec := { name := "windows", fn := fun _ => fun
  | [d1, d2] => { results := [.lit (.bool true)], args := [d1, d2] }
  | _ => none }
def windowsRow : OpenClaim := { program := "ytejgmbpcnabgjaa", sum := "55db6ad02163159c4d20b746d8af7fd0694f4f1026d780ee56142215658fd164", func := "bourne/bournelaw4.Windows", spec := "windows", apart := false }
def WindowsSaid : Prop := windowsRow.holds Try.pinned (OpenSpec.ofChange windowsSpec)

/-- ITS FALSE NEIGHBOUR: 'it returns false'. Refute it at one input. -/
def windowsWrong : ChangeSpec := { name := "windows", fn := fun _ => fun
  | [d1, d2] => { results := [.lit (.bool false)], args := [d1, d2] }
  | _ => none }
def WindowsWrongFalsely : Prop := windowsRow.holds Try.pinned (OpenSpec.ofChange windowsWrong)

/-- 'bournelaw4.WindowAll': WHATEVER THE INPUT: true; the input reads as it did. -/
def windowAllSpec : ChangeSpec := { name := "windowAll", fn := fun _ => fun
  | [d1, d2, d3] => { results := [.lit (.bool true)], args := [d1, d2, d3] }
  | _ => none }
def windowAllRow : OpenClaim := { program := "ytejgmbpcnabgjaa", sum := "55db6ad02163159c4d20b746d8af7fd0694f4f1026d780ee56142215658fd164", func := "bourne/bournelaw4.WindowAll", spec := "windowAll", apart := false }
def WindowAllSaid : Prop := windowAllRow.holds Try.pinned (OpenSpec.ofChange windowAllSpec)

/-- ITS FALSE NEIGHBOUR: 'it returns false'. Refute it at one input. -/
def windowAllWrong : ChangeSpec := { name := "windowAll", fn := fun _ => fun
  | [d1, d2, d3] => { results := [.lit (.bool false)], args := [d1, d2, d3] }
  | _ => none }
def WindowAllWrongFalsely : Prop := windowAllRow.holds Try.pinned (OpenSpec.ofChange windowAllWrong)

/-- 'bournelaw4.WindowForms': WHATEVER THE INPUT: true; the input reads as it did. -/
def windowFormsSpec : ChangeSpec := { name := "windowForms", fn := fun _ => fun
  | [d1, d2] => { results := [.lit (.bool true)], args := [d1, d2] }
  | _ => none }
def windowFormsRow : OpenClaim := { program := "ytejgmbpcnabgjaa", sum := "55db6ad02163159c4d20b746d8af7fd0694f4f1026d780ee56142215658fd164", func := "bourne/bournelaw4.WindowForms", spec := "windowForms", apart := false }
def WindowFormsSaid : Prop := windowFormsRow.holds Try.pinned (OpenSpec.ofChange windowFormsSpec)

/-- ITS FALSE NEIGHBOUR: 'it returns false'. Refute it at one input. -/
def windowFormsWrong : ChangeSpec := { name := "windowForms", fn := fun _ => fun
  | [d1, d2] => { results := [.lit (.bool false)], args := [d1, d2] }
  | _ => none }
def WindowFormsWrongFalsely : Prop := windowFormsRow.holds Try.pinned (OpenSpec.ofChange windowFormsWrong)

/-- 'bournelaw4.WindowTimes': WHATEVER THE INPUT: true; the input reads as it did. -/
def windowTimesSpec : ChangeSpec := { name := "windowTimes", fn := fun _ => fun
  | [d1, d2] => { results := [.lit (.bool true)], args := [d1, d2] }
  | _ => none }
def windowTimesRow : OpenClaim := { program := "ytejgmbpcnabgjaa", sum := "55db6ad02163159c4d20b746d8af7fd0694f4f1026d780ee56142215658fd164", func := "bourne/bournelaw4.WindowTimes", spec := "windowTimes", apart := false }
def WindowTimesSaid : Prop := windowTimesRow.holds Try.pinned (OpenSpec.ofChange windowTimesSpec)

/-- ITS FALSE NEIGHBOUR: 'it returns false'. Refute it at one input. -/
def windowTimesWrong : ChangeSpec := { name := "windowTimes", fn := fun _ => fun
  | [d1, d2] => { results := [.lit (.bool false)], args := [d1, d2] }
  | _ => none }
def WindowTimesWrongFalsely : Prop := windowTimesRow.holds Try.pinned (OpenSpec.ofChange windowTimesWrong)

/-- 'bournelaw4.WindowMoves': WHATEVER THE INPUT: true; the input reads as it did. -/
def windowMovesSpec : ChangeSpec := { name := "windowMoves", fn := fun _ => fun
  | [d1, d2, d3] => { results := [.lit (.bool true)], args := [d1, d2, d3] }
  | _ => none }
def windowMovesRow : OpenClaim := { program := "ytejgmbpcnabgjaa", sum := "55db6ad02163159c4d20b746d8af7fd0694f4f1026d780ee56142215658fd164", func := "bourne/bournelaw4.WindowMoves", spec := "windowMoves", apart := false }
def WindowMovesSaid : Prop := windowMovesRow.holds Try.pinned (OpenSpec.ofChange windowMovesSpec)

/-- ITS FALSE NEIGHBOUR: 'it returns false'. Refute it at one input. -/
def windowMovesWrong : ChangeSpec := { name := "windowMoves", fn := fun _ => fun
  | [d1, d2, d3] => { results := [.lit (.bool false)], args := [d1, d2, d3] }
  | _ => none }
def WindowMovesWrongFalsely : Prop := windowMovesRow.holds Try.pinned (OpenSpec.ofChange windowMovesWrong)

/-- 'bournelaw4.WindowMany': WHATEVER THE INPUT: true; the input reads as it did. -/
def windowManySpec : ChangeSpec := { name := "windowMany", fn := fun _ => fun
  | [d1, d2, d3] => { results := [.lit (.bool true)], args := [d1, d2, d3] }
  | _ => none }
def windowManyRow : OpenClaim := { program := "ytejgmbpcnabgjaa", sum := "55db6ad02163159c4d20b746d8af7fd0694f4f1026d780ee56142215658fd164", func := "bourne/bournelaw4.WindowMany", spec := "windowMany", apart := false }
def WindowManySaid : Prop := windowManyRow.holds Try.pinned (OpenSpec.ofChange windowManySpec)

/-- ITS FALSE NEIGHBOUR: 'it returns false'. Refute it at one input. -/
def windowManyWrong : ChangeSpec := { name := "windowMany", fn := fun _ => fun
  | [d1, d2, d3] => { results := [.lit (.bool false)], args := [d1, d2, d3] }
  | _ => none }
def WindowManyWrongFalsely : Prop := windowManyRow.holds Try.pinned (OpenSpec.ofChange windowManyWrong)

/- THE SECOND FORM. 'bulk': how many values and letters a reading holds, each counted each time it is reached (what is shared counts as often as it is met; a slice's spare places count too). A statement '..UptoSaid' is the law's where the arguments, and the package variables that the reading takes, are together of bulk at most 1048576: NARROWER than '..Said'. Prove '..Said' where nothing that the law and all that it calls make is longer than what came in: it says more and counts as full. Else prove '..UptoSaid'. A law counts once. -/
mutual
def uptoBulk {H : Type} : DataW H → Nat
  | .lit (.string bytes) => bytes.length + 1
  | .lit _ => 1
  | .nil => 1
  | .ptr d => uptoBulk d + 1
  | .slice elems spare => uptoBulkAll elems + uptoBulkAll spare + 1
  | .agg parts => uptoBulkAll parts + 1
  | .iface _ d => uptoBulk d + 1
  | .map entries => uptoBulkEntries entries + 1
  | .held _ => 1
def uptoBulkAll {H : Type} : List (DataW H) → Nat
  | [] => 0
  | d :: r => uptoBulk d + uptoBulkAll r
def uptoBulkEntries {H : Type} : List (Lit × DataW H) → Nat
  | [] => 0
  | x :: r => uptoBulkEntry x + uptoBulkEntries r
def uptoBulkEntry {H : Type} : Lit × DataW H → Nat
  | (.string bytes, d) => bytes.length + uptoBulk d + 1
  | (_, d) => uptoBulk d + 1
 end
def uptoSmall : (H : Type) → List (DataW H) → Bool := fun _ ds => decide (uptoBulkAll ds ≤ 1048576)
def OpenSpec.upto (s : _root_.Go.ChangeSpec) : _root_.Go.OpenSpec := { _root_.Go.OpenSpec.ofChange s with cond := some uptoSmall }

/-- 'bournelaw4.Windows', WHERE WHAT IT READS IS OF BULK AT MOST 1048576: true; the input reads as it did. -/
def windowsUptoRow : OpenClaim := { program := "ytejgmbpcnabgjaa", sum := "55db6ad02163159c4d20b746d8af7fd0694f4f1026d780ee56142215658fd164", func := "bourne/bournelaw4.Windows", spec := "windows", apart := false, narrowed := true }
def WindowsUptoSaid : Prop := windowsUptoRow.holds Try.pinned (OpenSpec.upto windowsSpec)

/-- 'bournelaw4.WindowAll', WHERE WHAT IT READS IS OF BULK AT MOST 1048576: true; the input reads as it did. -/
def windowAllUptoRow : OpenClaim := { program := "ytejgmbpcnabgjaa", sum := "55db6ad02163159c4d20b746d8af7fd0694f4f1026d780ee56142215658fd164", func := "bourne/bournelaw4.WindowAll", spec := "windowAll", apart := false, narrowed := true }
def WindowAllUptoSaid : Prop := windowAllUptoRow.holds Try.pinned (OpenSpec.upto windowAllSpec)

/-- 'bournelaw4.WindowForms', WHERE WHAT IT READS IS OF BULK AT MOST 1048576: true; the input reads as it did. -/
def windowFormsUptoRow : OpenClaim := { program := "ytejgmbpcnabgjaa", sum := "55db6ad02163159c4d20b746d8af7fd0694f4f1026d780ee56142215658fd164", func := "bourne/bournelaw4.WindowForms", spec := "windowForms", apart := false, narrowed := true }
def WindowFormsUptoSaid : Prop := windowFormsUptoRow.holds Try.pinned (OpenSpec.upto windowFormsSpec)

/-- 'bournelaw4.WindowTimes', WHERE WHAT IT READS IS OF BULK AT MOST 1048576: true; the input reads as it did. -/
def windowTimesUptoRow : OpenClaim := { program := "ytejgmbpcnabgjaa", sum := "55db6ad02163159c4d20b746d8af7fd0694f4f1026d780ee56142215658fd164", func := "bourne/bournelaw4.WindowTimes", spec := "windowTimes", apart := false, narrowed := true }
def WindowTimesUptoSaid : Prop := windowTimesUptoRow.holds Try.pinned (OpenSpec.upto windowTimesSpec)

/-- 'bournelaw4.WindowMoves', WHERE WHAT IT READS IS OF BULK AT MOST 1048576: true; the input reads as it did. -/
def windowMovesUptoRow : OpenClaim := { program := "ytejgmbpcnabgjaa", sum := "55db6ad02163159c4d20b746d8af7fd0694f4f1026d780ee56142215658fd164", func := "bourne/bournelaw4.WindowMoves", spec := "windowMoves", apart := false, narrowed := true }
def WindowMovesUptoSaid : Prop := windowMovesUptoRow.holds Try.pinned (OpenSpec.upto windowMovesSpec)

/-- 'bournelaw4.WindowMany', WHERE WHAT IT READS IS OF BULK AT MOST 1048576: true; the input reads as it did. -/
def windowManyUptoRow : OpenClaim := { program := "ytejgmbpcnabgjaa", sum := "55db6ad02163159c4d20b746d8af7fd0694f4f1026d780ee56142215658fd164", func := "bourne/bournelaw4.WindowMany", spec := "windowMany", apart := false, narrowed := true }
def WindowManyUptoSaid : Prop := windowManyUptoRow.holds Try.pinned (OpenSpec.upto windowManySpec)

end Rows
end Go.Proofs.Ytejgmbpcnabgjaa
