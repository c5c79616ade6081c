/-
  No cell of these rows narrows 'for every input' (looked for: loops, veiled, ifaces, maps, wideKeys, modest, calm, conditions, laid).
  DERIVED. THE GIVEN ROWS OF THIS SEAT. 6 by the template 'for every input the law returns true; each argument reads behind the call as it read before'; 0 by the template 'total and deterministic' (their statements: YtmccgkbbgicglaaTotals.lean).
  GIVEN WITH THE SEED: the statements are not yours to turn. If you find one false, say at which input.
  Laid BY PROGRAM, IN A SANDBOX (cutbox-rows.mjs): the forced cells as the released guide's own fill.sh prints them over the translation 6a3b98a34dfea76e… (all of the seat's roots in one cut). By AI agents, Wed Nov 11 2026. No macro, syntax, notation, axiom, sorry.
-/
import Derived.Test.YtmccgkbbgicglaaChecked
import GoSem.Claim
import GoSem.ClaimJoined
import GoSem.ClaimMapViews
import Derived.JoinedTies
import Derived.KernelRfl
namespace Go.Proofs.Ytmccgkbbgicglaa
/- THE CELL 'sum', in the pinned program and in every row, IS THE sha256 OF THE DUMP (.gsa) THAT YtmccgkbbgicglaaProg.lean LOADS. Nothing in Lean hashes anything: it is a label: what it is worth is what the hold of that sum in a sandbox is worth. -/
noncomputable def Try.pinned : Pinned := { name := "ytmccgkbbgicglaa", sum := "6a3b98a34dfea76e885cda71ccde808a080f0f46f42b77f23d46b23a538a42f3", checked := Try.checked }
namespace Rows
def none {H : Type} : Left H := { results := [], args := [] }

/-- 'bournelaw11.Scans': WHATEVER THE INPUT: true; the input reads as it did. -/
def scansSpec : ChangeSpec := { name := "scans", fn := fun _ => fun
  | [d1, d2, d3, d4] => { results := [.lit (.bool true)], args := [d1, d2, d3, d4] }
  | _ => none }
def scansRow : OpenClaim := { program := "ytmccgkbbgicglaa", sum := "6a3b98a34dfea76e885cda71ccde808a080f0f46f42b77f23d46b23a538a42f3", func := "bourne/bournelaw11.Scans", spec := "scans", apart := false }
def ScansSaid : Prop := scansRow.holds Try.pinned (OpenSpec.ofChange scansSpec)

/-- ITS FALSE NEIGHBOUR: 'it returns false'. Refute it at one input. -/
def scansWrong : ChangeSpec := { name := "scans", fn := fun _ => fun
  | [d1, d2, d3, d4] => { results := [.lit (.bool false)], args := [d1, d2, d3, d4] }
  | _ => none }
def ScansWrongFalsely : Prop := scansRow.holds Try.pinned (OpenSpec.ofChange scansWrong)

/-- 'bournelaw11.ScanCuts': WHATEVER THE INPUT: true; the input reads as it did. -/
def scanCutsSpec : ChangeSpec := { name := "scanCuts", fn := fun _ => fun
  | [d1, d2] => { results := [.lit (.bool true)], args := [d1, d2] }
  | _ => none }
def scanCutsRow : OpenClaim := { program := "ytmccgkbbgicglaa", sum := "6a3b98a34dfea76e885cda71ccde808a080f0f46f42b77f23d46b23a538a42f3", func := "bourne/bournelaw11.ScanCuts", spec := "scanCuts", apart := false }
def ScanCutsSaid : Prop := scanCutsRow.holds Try.pinned (OpenSpec.ofChange scanCutsSpec)

/-- ITS FALSE NEIGHBOUR: 'it returns false'. Refute it at one input. -/
def scanCutsWrong : ChangeSpec := { name := "scanCuts", fn := fun _ => fun
  | [d1, d2] => { results := [.lit (.bool false)], args := [d1, d2] }
  | _ => none }
def ScanCutsWrongFalsely : Prop := scanCutsRow.holds Try.pinned (OpenSpec.ofChange scanCutsWrong)

/-- 'bournelaw11.ScanFinds': WHATEVER THE INPUT: true; the input reads as it did. -/
def scanFindsSpec : ChangeSpec := { name := "scanFinds", fn := fun _ => fun
  | [d1, d2] => { results := [.lit (.bool true)], args := [d1, d2] }
  | _ => none }
def scanFindsRow : OpenClaim := { program := "ytmccgkbbgicglaa", sum := "6a3b98a34dfea76e885cda71ccde808a080f0f46f42b77f23d46b23a538a42f3", func := "bourne/bournelaw11.ScanFinds", spec := "scanFinds", apart := false }
def ScanFindsSaid : Prop := scanFindsRow.holds Try.pinned (OpenSpec.ofChange scanFindsSpec)

/-- ITS FALSE NEIGHBOUR: 'it returns false'. Refute it at one input. -/
def scanFindsWrong : ChangeSpec := { name := "scanFinds", fn := fun _ => fun
  | [d1, d2] => { results := [.lit (.bool false)], args := [d1, d2] }
  | _ => none }
def ScanFindsWrongFalsely : Prop := scanFindsRow.holds Try.pinned (OpenSpec.ofChange scanFindsWrong)

/-- 'bournelaw11.ScanLoads': WHATEVER THE INPUT: true; the input reads as it did. -/
def scanLoadsSpec : ChangeSpec := { name := "scanLoads", fn := fun _ => fun
  | [d1, d2, d3] => { results := [.lit (.bool true)], args := [d1, d2, d3] }
  | _ => none }
def scanLoadsRow : OpenClaim := { program := "ytmccgkbbgicglaa", sum := "6a3b98a34dfea76e885cda71ccde808a080f0f46f42b77f23d46b23a538a42f3", func := "bourne/bournelaw11.ScanLoads", spec := "scanLoads", apart := false }
def ScanLoadsSaid : Prop := scanLoadsRow.holds Try.pinned (OpenSpec.ofChange scanLoadsSpec)

/-- ITS FALSE NEIGHBOUR: 'it returns false'. Refute it at one input. -/
def scanLoadsWrong : ChangeSpec := { name := "scanLoads", fn := fun _ => fun
  | [d1, d2, d3] => { results := [.lit (.bool false)], args := [d1, d2, d3] }
  | _ => none }
def ScanLoadsWrongFalsely : Prop := scanLoadsRow.holds Try.pinned (OpenSpec.ofChange scanLoadsWrong)

/-- 'bournelaw11.ScanFalse': WHATEVER THE INPUT: true; the input reads as it did. -/
def scanFalseSpec : ChangeSpec := { name := "scanFalse", fn := fun _ => fun
  | [d1, d2] => { results := [.lit (.bool true)], args := [d1, d2] }
  | _ => none }
def scanFalseRow : OpenClaim := { program := "ytmccgkbbgicglaa", sum := "6a3b98a34dfea76e885cda71ccde808a080f0f46f42b77f23d46b23a538a42f3", func := "bourne/bournelaw11.ScanFalse", spec := "scanFalse", apart := false }
def ScanFalseSaid : Prop := scanFalseRow.holds Try.pinned (OpenSpec.ofChange scanFalseSpec)

/-- ITS FALSE NEIGHBOUR: 'it returns false'. Refute it at one input. -/
def scanFalseWrong : ChangeSpec := { name := "scanFalse", fn := fun _ => fun
  | [d1, d2] => { results := [.lit (.bool false)], args := [d1, d2] }
  | _ => none }
def ScanFalseWrongFalsely : Prop := scanFalseRow.holds Try.pinned (OpenSpec.ofChange scanFalseWrong)

/-- 'bournelaw11.ScanCut': WHATEVER THE INPUT: true; the input reads as it did. -/
def scanCutSpec : ChangeSpec := { name := "scanCut", fn := fun _ => fun
  | [d1, d2] => { results := [.lit (.bool true)], args := [d1, d2] }
  | _ => none }
def scanCutRow : OpenClaim := { program := "ytmccgkbbgicglaa", sum := "6a3b98a34dfea76e885cda71ccde808a080f0f46f42b77f23d46b23a538a42f3", func := "bourne/bournelaw11.ScanCut", spec := "scanCut", apart := false }
def ScanCutSaid : Prop := scanCutRow.holds Try.pinned (OpenSpec.ofChange scanCutSpec)

/-- ITS FALSE NEIGHBOUR: 'it returns false'. Refute it at one input. -/
def scanCutWrong : ChangeSpec := { name := "scanCut", fn := fun _ => fun
  | [d1, d2] => { results := [.lit (.bool false)], args := [d1, d2] }
  | _ => none }
def ScanCutWrongFalsely : Prop := scanCutRow.holds Try.pinned (OpenSpec.ofChange scanCutWrong)

/- THE SECOND FORM. 'bulk': how many values and letters a reading holds, each counted each time it is reached (what is shared counts as often as it is met; a slice's spare places count too). A statement '..UptoSaid' is the law's where the arguments, and the package variables that the reading takes, are together of bulk at most 1048576: NARROWER than '..Said'. Prove '..Said' where nothing that the law and all that it calls make is longer than what came in: it says more and counts as full. Else prove '..UptoSaid'. A law counts once. -/
mutual
def uptoBulk {H : Type} : DataW H → Nat
  | .lit (.string bytes) => bytes.length + 1
  | .lit _ => 1
  | .nil => 1
  | .ptr d => uptoBulk d + 1
  | .slice elems spare => uptoBulkAll elems + uptoBulkAll spare + 1
  | .agg parts => uptoBulkAll parts + 1
  | .iface _ d => uptoBulk d + 1
  | .map entries => uptoBulkEntries entries + 1
  | .held _ => 1
def uptoBulkAll {H : Type} : List (DataW H) → Nat
  | [] => 0
  | d :: r => uptoBulk d + uptoBulkAll r
def uptoBulkEntries {H : Type} : List (Lit × DataW H) → Nat
  | [] => 0
  | x :: r => uptoBulkEntry x + uptoBulkEntries r
def uptoBulkEntry {H : Type} : Lit × DataW H → Nat
  | (.string bytes, d) => bytes.length + uptoBulk d + 1
  | (_, d) => uptoBulk d + 1
 end
def uptoSmall : (H : Type) → List (DataW H) → Bool := fun _ ds => decide (uptoBulkAll ds ≤ 1048576)
def OpenSpec.upto (s : _root_.Go.ChangeSpec) : _root_.Go.OpenSpec := { _root_.Go.OpenSpec.ofChange s with cond := some uptoSmall }

/-- 'bournelaw11.Scans', WHERE WHAT IT READS IS OF BULK AT MOST 1048576: true; the input reads as it did. -/
def scansUptoRow : OpenClaim := { program := "ytmccgkbbgicglaa", sum := "6a3b98a34dfea76e885cda71ccde808a080f0f46f42b77f23d46b23a538a42f3", func := "bourne/bournelaw11.Scans", spec := "scans", apart := false, narrowed := true }
def ScansUptoSaid : Prop := scansUptoRow.holds Try.pinned (OpenSpec.upto scansSpec)

/-- 'bournelaw11.ScanCuts', WHERE WHAT IT READS IS OF BULK AT MOST 1048576: true; the input reads as it did. -/
def scanCutsUptoRow : OpenClaim := { program := "ytmccgkbbgicglaa", sum := "6a3b98a34dfea76e885cda71ccde808a080f0f46f42b77f23d46b23a538a42f3", func := "bourne/bournelaw11.ScanCuts", spec := "scanCuts", apart := false, narrowed := true }
def ScanCutsUptoSaid : Prop := scanCutsUptoRow.holds Try.pinned (OpenSpec.upto scanCutsSpec)

/-- 'bournelaw11.ScanFinds', WHERE WHAT IT READS IS OF BULK AT MOST 1048576: true; the input reads as it did. -/
def scanFindsUptoRow : OpenClaim := { program := "ytmccgkbbgicglaa", sum := "6a3b98a34dfea76e885cda71ccde808a080f0f46f42b77f23d46b23a538a42f3", func := "bourne/bournelaw11.ScanFinds", spec := "scanFinds", apart := false, narrowed := true }
def ScanFindsUptoSaid : Prop := scanFindsUptoRow.holds Try.pinned (OpenSpec.upto scanFindsSpec)

/-- 'bournelaw11.ScanLoads', WHERE WHAT IT READS IS OF BULK AT MOST 1048576: true; the input reads as it did. -/
def scanLoadsUptoRow : OpenClaim := { program := "ytmccgkbbgicglaa", sum := "6a3b98a34dfea76e885cda71ccde808a080f0f46f42b77f23d46b23a538a42f3", func := "bourne/bournelaw11.ScanLoads", spec := "scanLoads", apart := false, narrowed := true }
def ScanLoadsUptoSaid : Prop := scanLoadsUptoRow.holds Try.pinned (OpenSpec.upto scanLoadsSpec)

/-- 'bournelaw11.ScanFalse', WHERE WHAT IT READS IS OF BULK AT MOST 1048576: true; the input reads as it did. -/
def scanFalseUptoRow : OpenClaim := { program := "ytmccgkbbgicglaa", sum := "6a3b98a34dfea76e885cda71ccde808a080f0f46f42b77f23d46b23a538a42f3", func := "bourne/bournelaw11.ScanFalse", spec := "scanFalse", apart := false, narrowed := true }
def ScanFalseUptoSaid : Prop := scanFalseUptoRow.holds Try.pinned (OpenSpec.upto scanFalseSpec)

/-- 'bournelaw11.ScanCut', WHERE WHAT IT READS IS OF BULK AT MOST 1048576: true; the input reads as it did. -/
def scanCutUptoRow : OpenClaim := { program := "ytmccgkbbgicglaa", sum := "6a3b98a34dfea76e885cda71ccde808a080f0f46f42b77f23d46b23a538a42f3", func := "bourne/bournelaw11.ScanCut", spec := "scanCut", apart := false, narrowed := true }
def ScanCutUptoSaid : Prop := scanCutUptoRow.holds Try.pinned (OpenSpec.upto scanCutSpec)

end Rows
end Go.Proofs.Ytmccgkbbgicglaa
