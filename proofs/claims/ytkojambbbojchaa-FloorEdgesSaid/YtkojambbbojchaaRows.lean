/-
  No cell of these rows narrows 'for every input' (looked for: loops, veiled, ifaces, maps, wideKeys, modest, calm, conditions, laid).
  DERIVED. THE GIVEN ROWS OF THIS SEAT. 6 by the template 'for every input the law returns true; each argument reads behind the call as it read before'; 0 by the template 'total and deterministic' (their statements: YtkojambbbojchaaTotals.lean).
  GIVEN WITH THE SEED: the statements are not yours to turn. If you find one false, say at which input.
  Laid BY PROGRAM, IN A SANDBOX (cutbox-rows.mjs): the forced cells as the released guide's own fill.sh prints them over the translation 8feebf6a2c7d8f9e… (all of the seat's roots in one cut). By AI agents, Wed Nov 11 2026. No macro, syntax, notation, axiom, sorry.
-/
import Derived.Test.YtkojambbbojchaaChecked
import GoSem.Claim
import GoSem.ClaimJoined
import GoSem.ClaimMapViews
import Derived.JoinedTies
import Derived.KernelRfl
namespace Go.Proofs.Ytkojambbbojchaa
/- THE CELL 'sum', in the pinned program and in every row, IS THE sha256 OF THE DUMP (.gsa) THAT YtkojambbbojchaaProg.lean LOADS. Nothing in Lean hashes anything: it is a label: what it is worth is what the hold of that sum in a sandbox is worth. -/
noncomputable def Try.pinned : Pinned := { name := "ytkojambbbojchaa", sum := "8feebf6a2c7d8f9e3b8781bf87b5124af882230fcf7d3f4b761a0d3cc86e10fb", checked := Try.checked }
namespace Rows
def none {H : Type} : Left H := { results := [], args := [] }

/-- 'bournelaw3.Floors': WHATEVER THE INPUT: true; the input reads as it did. -/
def floorsSpec : ChangeSpec := { name := "floors", fn := fun _ => fun
  | [d1, d2] => { results := [.lit (.bool true)], args := [d1, d2] }
  | _ => none }
def floorsRow : OpenClaim := { program := "ytkojambbbojchaa", sum := "8feebf6a2c7d8f9e3b8781bf87b5124af882230fcf7d3f4b761a0d3cc86e10fb", func := "bourne/bournelaw3.Floors", spec := "floors", apart := false }
def FloorsSaid : Prop := floorsRow.holds Try.pinned (OpenSpec.ofChange floorsSpec)

/-- ITS FALSE NEIGHBOUR: 'it returns false'. Refute it at one input. -/
def floorsWrong : ChangeSpec := { name := "floors", fn := fun _ => fun
  | [d1, d2] => { results := [.lit (.bool false)], args := [d1, d2] }
  | _ => none }
def FloorsWrongFalsely : Prop := floorsRow.holds Try.pinned (OpenSpec.ofChange floorsWrong)

/-- 'bournelaw3.FloorParts': WHATEVER THE INPUT: true; the input reads as it did. -/
def floorPartsSpec : ChangeSpec := { name := "floorParts", fn := fun _ => fun
  | [d1, d2] => { results := [.lit (.bool true)], args := [d1, d2] }
  | _ => none }
def floorPartsRow : OpenClaim := { program := "ytkojambbbojchaa", sum := "8feebf6a2c7d8f9e3b8781bf87b5124af882230fcf7d3f4b761a0d3cc86e10fb", func := "bourne/bournelaw3.FloorParts", spec := "floorParts", apart := false }
def FloorPartsSaid : Prop := floorPartsRow.holds Try.pinned (OpenSpec.ofChange floorPartsSpec)

/-- ITS FALSE NEIGHBOUR: 'it returns false'. Refute it at one input. -/
def floorPartsWrong : ChangeSpec := { name := "floorParts", fn := fun _ => fun
  | [d1, d2] => { results := [.lit (.bool false)], args := [d1, d2] }
  | _ => none }
def FloorPartsWrongFalsely : Prop := floorPartsRow.holds Try.pinned (OpenSpec.ofChange floorPartsWrong)

/-- 'bournelaw3.FloorGcds': WHATEVER THE INPUT: true; the input reads as it did. -/
def floorGcdsSpec : ChangeSpec := { name := "floorGcds", fn := fun _ => fun
  | [d1, d2, d3] => { results := [.lit (.bool true)], args := [d1, d2, d3] }
  | _ => none }
def floorGcdsRow : OpenClaim := { program := "ytkojambbbojchaa", sum := "8feebf6a2c7d8f9e3b8781bf87b5124af882230fcf7d3f4b761a0d3cc86e10fb", func := "bourne/bournelaw3.FloorGcds", spec := "floorGcds", apart := false }
def FloorGcdsSaid : Prop := floorGcdsRow.holds Try.pinned (OpenSpec.ofChange floorGcdsSpec)

/-- ITS FALSE NEIGHBOUR: 'it returns false'. Refute it at one input. -/
def floorGcdsWrong : ChangeSpec := { name := "floorGcds", fn := fun _ => fun
  | [d1, d2, d3] => { results := [.lit (.bool false)], args := [d1, d2, d3] }
  | _ => none }
def FloorGcdsWrongFalsely : Prop := floorGcdsRow.holds Try.pinned (OpenSpec.ofChange floorGcdsWrong)

/-- 'bournelaw3.FloorForms': WHATEVER THE INPUT: true; the input reads as it did. -/
def floorFormsSpec : ChangeSpec := { name := "floorForms", fn := fun _ => fun
  | [d1, d2] => { results := [.lit (.bool true)], args := [d1, d2] }
  | _ => none }
def floorFormsRow : OpenClaim := { program := "ytkojambbbojchaa", sum := "8feebf6a2c7d8f9e3b8781bf87b5124af882230fcf7d3f4b761a0d3cc86e10fb", func := "bourne/bournelaw3.FloorForms", spec := "floorForms", apart := false }
def FloorFormsSaid : Prop := floorFormsRow.holds Try.pinned (OpenSpec.ofChange floorFormsSpec)

/-- ITS FALSE NEIGHBOUR: 'it returns false'. Refute it at one input. -/
def floorFormsWrong : ChangeSpec := { name := "floorForms", fn := fun _ => fun
  | [d1, d2] => { results := [.lit (.bool false)], args := [d1, d2] }
  | _ => none }
def FloorFormsWrongFalsely : Prop := floorFormsRow.holds Try.pinned (OpenSpec.ofChange floorFormsWrong)

/-- 'bournelaw3.FloorRows': WHATEVER THE INPUT: true; the input reads as it did. -/
def floorRowsSpec : ChangeSpec := { name := "floorRows", fn := fun _ => fun
  | [d1, d2, d3] => { results := [.lit (.bool true)], args := [d1, d2, d3] }
  | _ => none }
def floorRowsRow : OpenClaim := { program := "ytkojambbbojchaa", sum := "8feebf6a2c7d8f9e3b8781bf87b5124af882230fcf7d3f4b761a0d3cc86e10fb", func := "bourne/bournelaw3.FloorRows", spec := "floorRows", apart := false }
def FloorRowsSaid : Prop := floorRowsRow.holds Try.pinned (OpenSpec.ofChange floorRowsSpec)

/-- ITS FALSE NEIGHBOUR: 'it returns false'. Refute it at one input. -/
def floorRowsWrong : ChangeSpec := { name := "floorRows", fn := fun _ => fun
  | [d1, d2, d3] => { results := [.lit (.bool false)], args := [d1, d2, d3] }
  | _ => none }
def FloorRowsWrongFalsely : Prop := floorRowsRow.holds Try.pinned (OpenSpec.ofChange floorRowsWrong)

/-- 'bournelaw3.FloorEdges': WHATEVER THE INPUT: true; the input reads as it did. -/
def floorEdgesSpec : ChangeSpec := { name := "floorEdges", fn := fun _ => fun
  | [d] => { results := [.lit (.bool true)], args := [d] }
  | _ => none }
def floorEdgesRow : OpenClaim := { program := "ytkojambbbojchaa", sum := "8feebf6a2c7d8f9e3b8781bf87b5124af882230fcf7d3f4b761a0d3cc86e10fb", func := "bourne/bournelaw3.FloorEdges", spec := "floorEdges", apart := false }
def FloorEdgesSaid : Prop := floorEdgesRow.holds Try.pinned (OpenSpec.ofChange floorEdgesSpec)

/-- ITS FALSE NEIGHBOUR: 'it returns false'. Refute it at one input. -/
def floorEdgesWrong : ChangeSpec := { name := "floorEdges", fn := fun _ => fun
  | [d] => { results := [.lit (.bool false)], args := [d] }
  | _ => none }
def FloorEdgesWrongFalsely : Prop := floorEdgesRow.holds Try.pinned (OpenSpec.ofChange floorEdgesWrong)

/- THE SECOND FORM. 'bulk': how many values and letters a reading holds, each counted each time it is reached (what is shared counts as often as it is met; a slice's spare places count too). A statement '..UptoSaid' is the law's where the arguments, and the package variables that the reading takes, are together of bulk at most 1048576: NARROWER than '..Said'. Prove '..Said' where nothing that the law and all that it calls make is longer than what came in: it says more and counts as full. Else prove '..UptoSaid'. A law counts once. -/
mutual
def uptoBulk {H : Type} : DataW H → Nat
  | .lit (.string bytes) => bytes.length + 1
  | .lit _ => 1
  | .nil => 1
  | .ptr d => uptoBulk d + 1
  | .slice elems spare => uptoBulkAll elems + uptoBulkAll spare + 1
  | .agg parts => uptoBulkAll parts + 1
  | .iface _ d => uptoBulk d + 1
  | .map entries => uptoBulkEntries entries + 1
  | .held _ => 1
def uptoBulkAll {H : Type} : List (DataW H) → Nat
  | [] => 0
  | d :: r => uptoBulk d + uptoBulkAll r
def uptoBulkEntries {H : Type} : List (Lit × DataW H) → Nat
  | [] => 0
  | x :: r => uptoBulkEntry x + uptoBulkEntries r
def uptoBulkEntry {H : Type} : Lit × DataW H → Nat
  | (.string bytes, d) => bytes.length + uptoBulk d + 1
  | (_, d) => uptoBulk d + 1
 end
def uptoSmall : (H : Type) → List (DataW H) → Bool := fun _ ds => decide (uptoBulkAll ds ≤ 1048576)
def OpenSpec.upto (s : _root_.Go.ChangeSpec) : _root_.Go.OpenSpec := { _root_.Go.OpenSpec.ofChange s with cond := some uptoSmall }

/-- 'bournelaw3.Floors', WHERE WHAT IT READS IS OF BULK AT MOST 1048576: true; the input reads as it did. -/
def floorsUptoRow : OpenClaim := { program := "ytkojambbbojchaa", sum := "8feebf6a2c7d8f9e3b8781bf87b5124af882230fcf7d3f4b761a0d3cc86e10fb", func := "bourne/bournelaw3.Floors", spec := "floors", apart := false, narrowed := true }
def FloorsUptoSaid : Prop := floorsUptoRow.holds Try.pinned (OpenSpec.upto floorsSpec)

/-- 'bournelaw3.FloorParts', WHERE WHAT IT READS IS OF BULK AT MOST 1048576: true; the input reads as it did. -/
def floorPartsUptoRow : OpenClaim := { program := "ytkojambbbojchaa", sum := "8feebf6a2c7d8f9e3b8781bf87b5124af882230fcf7d3f4b761a0d3cc86e10fb", func := "bourne/bournelaw3.FloorParts", spec := "floorParts", apart := false, narrowed := true }
def FloorPartsUptoSaid : Prop := floorPartsUptoRow.holds Try.pinned (OpenSpec.upto floorPartsSpec)

/-- 'bournelaw3.FloorGcds', WHERE WHAT IT READS IS OF BULK AT MOST 1048576: true; the input reads as it did. -/
def floorGcdsUptoRow : OpenClaim := { program := "ytkojambbbojchaa", sum := "8feebf6a2c7d8f9e3b8781bf87b5124af882230fcf7d3f4b761a0d3cc86e10fb", func := "bourne/bournelaw3.FloorGcds", spec := "floorGcds", apart := false, narrowed := true }
def FloorGcdsUptoSaid : Prop := floorGcdsUptoRow.holds Try.pinned (OpenSpec.upto floorGcdsSpec)

/-- 'bournelaw3.FloorForms', WHERE WHAT IT READS IS OF BULK AT MOST 1048576: true; the input reads as it did. -/
def floorFormsUptoRow : OpenClaim := { program := "ytkojambbbojchaa", sum := "8feebf6a2c7d8f9e3b8781bf87b5124af882230fcf7d3f4b761a0d3cc86e10fb", func := "bourne/bournelaw3.FloorForms", spec := "floorForms", apart := false, narrowed := true }
def FloorFormsUptoSaid : Prop := floorFormsUptoRow.holds Try.pinned (OpenSpec.upto floorFormsSpec)

/-- 'bournelaw3.FloorRows', WHERE WHAT IT READS IS OF BULK AT MOST 1048576: true; the input reads as it did. -/
def floorRowsUptoRow : OpenClaim := { program := "ytkojambbbojchaa", sum := "8feebf6a2c7d8f9e3b8781bf87b5124af882230fcf7d3f4b761a0d3cc86e10fb", func := "bourne/bournelaw3.FloorRows", spec := "floorRows", apart := false, narrowed := true }
def FloorRowsUptoSaid : Prop := floorRowsUptoRow.holds Try.pinned (OpenSpec.upto floorRowsSpec)

/-- 'bournelaw3.FloorEdges', WHERE WHAT IT READS IS OF BULK AT MOST 1048576: true; the input reads as it did. -/
def floorEdgesUptoRow : OpenClaim := { program := "ytkojambbbojchaa", sum := "8feebf6a2c7d8f9e3b8781bf87b5124af882230fcf7d3f4b761a0d3cc86e10fb", func := "bourne/bournelaw3.FloorEdges", spec := "floorEdges", apart := false, narrowed := true }
def FloorEdgesUptoSaid : Prop := floorEdgesUptoRow.holds Try.pinned (OpenSpec.upto floorEdgesSpec)

end Rows
end Go.Proofs.Ytkojambbbojchaa
