/-
  No cell of these rows narrows 'for every input' (looked for: loops, veiled, ifaces, maps, wideKeys, modest, calm, conditions, laid).
  DERIVED. THE GIVEN ROWS OF THIS SEAT. 3 by the template 'for every input the law returns true; each argument reads behind the call as it read before'; 0 by the template 'total and deterministic' (their statements: YtklegkmaiaegpaaTotals.lean).
  GIVEN WITH THE SEED: the statements are not yours to turn. If you find one false, say at which input.
  Laid BY PROGRAM, IN A SANDBOX (cutbox-rows.mjs): the forced cells as the released guide's own fill.sh prints them over the translation b817a34b4aec8738… (all of the seat's roots in one cut). By AI agents, Wed Nov 11 2026. No macro, syntax, notation, axiom, sorry.
-/
import Derived.Test.YtklegkmaiaegpaaChecked
import GoSem.Claim
import GoSem.ClaimJoined
import GoSem.ClaimMapViews
import Derived.JoinedTies
import Derived.KernelRfl
namespace Go.Proofs.Ytklegkmaiaegpaa
/- THE CELL 'sum', in the pinned program and in every row, IS THE sha256 OF THE DUMP (.gsa) THAT YtklegkmaiaegpaaProg.lean LOADS. Nothing in Lean hashes anything: it is a label: what it is worth is what the hold of that sum in a sandbox is worth. -/
noncomputable def Try.pinned : Pinned := { name := "ytklegkmaiaegpaa", sum := "b817a34b4aec8738d851f1a189efc876565b89f2883f2aeb03a2d70d8a1adbd0", checked := Try.checked }
namespace Rows
def none {H : Type} : Left H := { results := [], args := [] }

/-- 'bournelaw16.Slacks': WHATEVER THE INPUT: true; the input reads as it did. -/
def slacksSpec : ChangeSpec := { name := "slacks", fn := fun _ => fun
  | [d1, d2, d3] => { results := [.lit (.bool true)], args := [d1, d2, d3] }
  | _ => none }
def slacksRow : OpenClaim := { program := "ytklegkmaiaegpaa", sum := "b817a34b4aec8738d851f1a189efc876565b89f2883f2aeb03a2d70d8a1adbd0", func := "bourne/bournelaw16.Slacks", spec := "slacks", apart := false }
def SlacksSaid : Prop := slacksRow.holds Try.pinned (OpenSpec.ofChange slacksSpec)

/-- ITS FALSE NEIGHBOUR: 'it returns false'. Refute it at one input. -/
def slacksWrong : ChangeSpec := { name := "slacks", fn := fun _ => fun
  | [d1, d2, d3] => { results := [.lit (.bool false)], args := [d1, d2, d3] }
  | _ => none }
def SlacksWrongFalsely : Prop := slacksRow.holds Try.pinned (OpenSpec.ofChange slacksWrong)

/-- 'bournelaw16.SlackMost': WHATEVER THE INPUT: true; the input reads as it did. -/
def slackMostSpec : ChangeSpec := { name := "slackMost", fn := fun _ => fun
  | [d1, d2] => { results := [.lit (.bool true)], args := [d1, d2] }
  | _ => none }
def slackMostRow : OpenClaim := { program := "ytklegkmaiaegpaa", sum := "b817a34b4aec8738d851f1a189efc876565b89f2883f2aeb03a2d70d8a1adbd0", func := "bourne/bournelaw16.SlackMost", spec := "slackMost", apart := false }
def SlackMostSaid : Prop := slackMostRow.holds Try.pinned (OpenSpec.ofChange slackMostSpec)

/-- ITS FALSE NEIGHBOUR: 'it returns false'. Refute it at one input. -/
def slackMostWrong : ChangeSpec := { name := "slackMost", fn := fun _ => fun
  | [d1, d2] => { results := [.lit (.bool false)], args := [d1, d2] }
  | _ => none }
def SlackMostWrongFalsely : Prop := slackMostRow.holds Try.pinned (OpenSpec.ofChange slackMostWrong)

/-- 'bournelaw16.SlackForms': WHATEVER THE INPUT: true; the input reads as it did. -/
def slackFormsSpec : ChangeSpec := { name := "slackForms", fn := fun _ => fun
  | [d1, d2, d3] => { results := [.lit (.bool true)], args := [d1, d2, d3] }
  | _ => none }
def slackFormsRow : OpenClaim := { program := "ytklegkmaiaegpaa", sum := "b817a34b4aec8738d851f1a189efc876565b89f2883f2aeb03a2d70d8a1adbd0", func := "bourne/bournelaw16.SlackForms", spec := "slackForms", apart := false }
def SlackFormsSaid : Prop := slackFormsRow.holds Try.pinned (OpenSpec.ofChange slackFormsSpec)

/-- ITS FALSE NEIGHBOUR: 'it returns false'. Refute it at one input. -/
def slackFormsWrong : ChangeSpec := { name := "slackForms", fn := fun _ => fun
  | [d1, d2, d3] => { results := [.lit (.bool false)], args := [d1, d2, d3] }
  | _ => none }
def SlackFormsWrongFalsely : Prop := slackFormsRow.holds Try.pinned (OpenSpec.ofChange slackFormsWrong)

/- THE SECOND FORM. 'bulk': how many values and letters a reading holds, each counted each time it is reached (what is shared counts as often as it is met; a slice's spare places count too). A statement '..UptoSaid' is the law's where the arguments, and the package variables that the reading takes, are together of bulk at most 1048576: NARROWER than '..Said'. Prove '..Said' where nothing that the law and all that it calls make is longer than what came in: it says more and counts as full. Else prove '..UptoSaid'. A law counts once. -/
mutual
def uptoBulk {H : Type} : DataW H → Nat
  | .lit (.string bytes) => bytes.length + 1
  | .lit _ => 1
  | .nil => 1
  | .ptr d => uptoBulk d + 1
  | .slice elems spare => uptoBulkAll elems + uptoBulkAll spare + 1
  | .agg parts => uptoBulkAll parts + 1
  | .iface _ d => uptoBulk d + 1
  | .map entries => uptoBulkEntries entries + 1
  | .held _ => 1
def uptoBulkAll {H : Type} : List (DataW H) → Nat
  | [] => 0
  | d :: r => uptoBulk d + uptoBulkAll r
def uptoBulkEntries {H : Type} : List (Lit × DataW H) → Nat
  | [] => 0
  | x :: r => uptoBulkEntry x + uptoBulkEntries r
def uptoBulkEntry {H : Type} : Lit × DataW H → Nat
  | (.string bytes, d) => bytes.length + uptoBulk d + 1
  | (_, d) => uptoBulk d + 1
 end
def uptoSmall : (H : Type) → List (DataW H) → Bool := fun _ ds => decide (uptoBulkAll ds ≤ 1048576)
def OpenSpec.upto (s : _root_.Go.ChangeSpec) : _root_.Go.OpenSpec := { _root_.Go.OpenSpec.ofChange s with cond := some uptoSmall }

/-- 'bournelaw16.Slacks', WHERE WHAT IT READS IS OF BULK AT MOST 1048576: true; the input reads as it did. -/
def slacksUptoRow : OpenClaim := { program := "ytklegkmaiaegpaa", sum := "b817a34b4aec8738d851f1a189efc876565b89f2883f2aeb03a2d70d8a1adbd0", func := "bourne/bournelaw16.Slacks", spec := "slacks", apart := false, narrowed := true }
def SlacksUptoSaid : Prop := slacksUptoRow.holds Try.pinned (OpenSpec.upto slacksSpec)

/-- 'bournelaw16.SlackMost', WHERE WHAT IT READS IS OF BULK AT MOST 1048576: true; the input reads as it did. -/
def slackMostUptoRow : OpenClaim := { program := "ytklegkmaiaegpaa", sum := "b817a34b4aec8738d851f1a189efc876565b89f2883f2aeb03a2d70d8a1adbd0", func := "bourne/bournelaw16.SlackMost", spec := "slackMost", apart := false, narrowed := true }
def SlackMostUptoSaid : Prop := slackMostUptoRow.holds Try.pinned (OpenSpec.upto slackMostSpec)

/-- 'bournelaw16.SlackForms', WHERE WHAT IT READS IS OF BULK AT MOST 1048576: true; the input reads as it did. -/
def slackFormsUptoRow : OpenClaim := { program := "ytklegkmaiaegpaa", sum := "b817a34b4aec8738d851f1a189efc876565b89f2883f2aeb03a2d70d8a1adbd0", func := "bourne/bournelaw16.SlackForms", spec := "slackForms", apart := false, narrowed := true }
def SlackFormsUptoSaid : Prop := slackFormsUptoRow.holds Try.pinned (OpenSpec.upto slackFormsSpec)

end Rows
end Go.Proofs.Ytklegkmaiaegpaa
