/-
  No cell of these rows narrows 'for every input' (looked for: loops, veiled, ifaces, maps, wideKeys, modest, calm, conditions, laid).
  DERIVED. THE GIVEN ROWS OF THIS SEAT. 3 by the template 'for every input the law returns true; each argument reads behind the call as it read before'; 0 by the template 'total and deterministic' (their statements: YtikfpihapdabfaaTotals.lean).
  GIVEN WITH THE SEED: the statements are not yours to turn. If you find one false, say at which input.
  Laid BY PROGRAM, IN A SANDBOX (cutbox-rows.mjs): the forced cells as the released guide's own fill.sh prints them over the translation 2d8dd5857f63529d… (all of the seat's roots in one cut). By AI agents, Wed Nov 11 2026. No macro, syntax, notation, axiom, sorry.
-/
import Derived.Test.YtikfpihapdabfaaChecked
import GoSem.Claim
import GoSem.ClaimJoined
import GoSem.ClaimMapViews
import Derived.JoinedTies
import Derived.KernelRfl
namespace Go.Proofs.Ytikfpihapdabfaa
/- THE CELL 'sum', in the pinned program and in every row, IS THE sha256 OF THE DUMP (.gsa) THAT YtikfpihapdabfaaProg.lean LOADS. Nothing in Lean hashes anything: it is a label: what it is worth is what the hold of that sum in a sandbox is worth. -/
noncomputable def Try.pinned : Pinned := { name := "ytikfpihapdabfaa", sum := "2d8dd5857f63529dca69b8a1c2a1962b88b156a7742cc7bf01a1e3f2e9448595", checked := Try.checked }
namespace Rows
def none {H : Type} : Left H := { results := [], args := [] }

/-- 'bournelaw10.Records': WHATEVER THE INPUT: true; the input reads as it did. -/
def recordsSpec : ChangeSpec := { name := "records", fn := fun _ => fun
  | [d1, d2] => { results := [.lit (.bool true)], args := [d1, d2] }
  | _ => none }
def recordsRow : OpenClaim := { program := "ytikfpihapdabfaa", sum := "2d8dd5857f63529dca69b8a1c2a1962b88b156a7742cc7bf01a1e3f2e9448595", func := "bourne/bournelaw10.Records", spec := "records", unfollowed := true, recurses := true, apart := false }
def RecordsSaid : Prop := recordsRow.holds Try.pinned (OpenSpec.ofChange recordsSpec)

/-- ITS FALSE NEIGHBOUR: 'it returns false'. Refute it at one input. -/
def recordsWrong : ChangeSpec := { name := "records", fn := fun _ => fun
  | [d1, d2] => { results := [.lit (.bool false)], args := [d1, d2] }
  | _ => none }
def RecordsWrongFalsely : Prop := recordsRow.holds Try.pinned (OpenSpec.ofChange recordsWrong)

/-- 'bournelaw10.RecordBack': WHATEVER THE INPUT: true; the input reads as it did. -/
def recordBackSpec : ChangeSpec := { name := "recordBack", fn := fun _ => fun
  | [d1, d2, d3] => { results := [.lit (.bool true)], args := [d1, d2, d3] }
  | _ => none }
def recordBackRow : OpenClaim := { program := "ytikfpihapdabfaa", sum := "2d8dd5857f63529dca69b8a1c2a1962b88b156a7742cc7bf01a1e3f2e9448595", func := "bourne/bournelaw10.RecordBack", spec := "recordBack", unfollowed := true, recurses := true, apart := false }
def RecordBackSaid : Prop := recordBackRow.holds Try.pinned (OpenSpec.ofChange recordBackSpec)

/-- ITS FALSE NEIGHBOUR: 'it returns false'. Refute it at one input. -/
def recordBackWrong : ChangeSpec := { name := "recordBack", fn := fun _ => fun
  | [d1, d2, d3] => { results := [.lit (.bool false)], args := [d1, d2, d3] }
  | _ => none }
def RecordBackWrongFalsely : Prop := recordBackRow.holds Try.pinned (OpenSpec.ofChange recordBackWrong)

/-- 'bournelaw10.RecordForms': WHATEVER THE INPUT: true; the input reads as it did. -/
def recordFormsSpec : ChangeSpec := { name := "recordForms", fn := fun _ => fun
  | [d1, d2] => { results := [.lit (.bool true)], args := [d1, d2] }
  | _ => none }
def recordFormsRow : OpenClaim := { program := "ytikfpihapdabfaa", sum := "2d8dd5857f63529dca69b8a1c2a1962b88b156a7742cc7bf01a1e3f2e9448595", func := "bourne/bournelaw10.RecordForms", spec := "recordForms", unfollowed := true, recurses := true, apart := false }
def RecordFormsSaid : Prop := recordFormsRow.holds Try.pinned (OpenSpec.ofChange recordFormsSpec)

/-- ITS FALSE NEIGHBOUR: 'it returns false'. Refute it at one input. -/
def recordFormsWrong : ChangeSpec := { name := "recordForms", fn := fun _ => fun
  | [d1, d2] => { results := [.lit (.bool false)], args := [d1, d2] }
  | _ => none }
def RecordFormsWrongFalsely : Prop := recordFormsRow.holds Try.pinned (OpenSpec.ofChange recordFormsWrong)

/- THE SECOND FORM. 'bulk': how many values and letters a reading holds, each counted each time it is reached (what is shared counts as often as it is met; a slice's spare places count too). A statement '..UptoSaid' is the law's where the arguments, and the package variables that the reading takes, are together of bulk at most 1048576: NARROWER than '..Said'. Prove '..Said' where nothing that the law and all that it calls make is longer than what came in: it says more and counts as full. Else prove '..UptoSaid'. A law counts once. -/
mutual
def uptoBulk {H : Type} : DataW H → Nat
  | .lit (.string bytes) => bytes.length + 1
  | .lit _ => 1
  | .nil => 1
  | .ptr d => uptoBulk d + 1
  | .slice elems spare => uptoBulkAll elems + uptoBulkAll spare + 1
  | .agg parts => uptoBulkAll parts + 1
  | .iface _ d => uptoBulk d + 1
  | .map entries => uptoBulkEntries entries + 1
  | .held _ => 1
def uptoBulkAll {H : Type} : List (DataW H) → Nat
  | [] => 0
  | d :: r => uptoBulk d + uptoBulkAll r
def uptoBulkEntries {H : Type} : List (Lit × DataW H) → Nat
  | [] => 0
  | x :: r => uptoBulkEntry x + uptoBulkEntries r
def uptoBulkEntry {H : Type} : Lit × DataW H → Nat
  | (.string bytes, d) => bytes.length + uptoBulk d + 1
  | (_, d) => uptoBulk d + 1
 end
def uptoSmall : (H : Type) → List (DataW H) → Bool := fun _ ds => decide (uptoBulkAll ds ≤ 1048576)
def OpenSpec.upto (s : _root_.Go.ChangeSpec) : _root_.Go.OpenSpec := { _root_.Go.OpenSpec.ofChange s with cond := some uptoSmall }

/-- 'bournelaw10.Records', WHERE WHAT IT READS IS OF BULK AT MOST 1048576: true; the input reads as it did. -/
def recordsUptoRow : OpenClaim := { program := "ytikfpihapdabfaa", sum := "2d8dd5857f63529dca69b8a1c2a1962b88b156a7742cc7bf01a1e3f2e9448595", func := "bourne/bournelaw10.Records", spec := "records", unfollowed := true, recurses := true, apart := false, narrowed := true }
def RecordsUptoSaid : Prop := recordsUptoRow.holds Try.pinned (OpenSpec.upto recordsSpec)

/-- 'bournelaw10.RecordBack', WHERE WHAT IT READS IS OF BULK AT MOST 1048576: true; the input reads as it did. -/
def recordBackUptoRow : OpenClaim := { program := "ytikfpihapdabfaa", sum := "2d8dd5857f63529dca69b8a1c2a1962b88b156a7742cc7bf01a1e3f2e9448595", func := "bourne/bournelaw10.RecordBack", spec := "recordBack", unfollowed := true, recurses := true, apart := false, narrowed := true }
def RecordBackUptoSaid : Prop := recordBackUptoRow.holds Try.pinned (OpenSpec.upto recordBackSpec)

/-- 'bournelaw10.RecordForms', WHERE WHAT IT READS IS OF BULK AT MOST 1048576: true; the input reads as it did. -/
def recordFormsUptoRow : OpenClaim := { program := "ytikfpihapdabfaa", sum := "2d8dd5857f63529dca69b8a1c2a1962b88b156a7742cc7bf01a1e3f2e9448595", func := "bourne/bournelaw10.RecordForms", spec := "recordForms", unfollowed := true, recurses := true, apart := false, narrowed := true }
def RecordFormsUptoSaid : Prop := recordFormsUptoRow.holds Try.pinned (OpenSpec.upto recordFormsSpec)

end Rows
end Go.Proofs.Ytikfpihapdabfaa
