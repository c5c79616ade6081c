/-
  No cell of these rows narrows 'for every input' (looked for: loops, veiled, ifaces, maps, wideKeys, modest, calm, conditions, laid).
  DERIVED. THE GIVEN ROWS OF THIS SEAT. 4 by the template 'for every input the law returns true; each argument reads behind the call as it read before'; 0 by the template 'total and deterministic' (their statements: YtcbckolcmfbjhaaTotals.lean).
  GIVEN WITH THE SEED: the statements are not yours to turn. If you find one false, say at which input.
  Laid BY PROGRAM, IN A SANDBOX (cutbox-rows.mjs): the forced cells as the released guide's own fill.sh prints them over the translation 5270799dde6e23e2… (all of the seat's roots in one cut). By AI agents, Wed Nov 11 2026. No macro, syntax, notation, axiom, sorry.
-/
import Derived.Test.YtcbckolcmfbjhaaChecked
import GoSem.Claim
import GoSem.ClaimJoined
import GoSem.ClaimMapViews
import Derived.JoinedTies
import Derived.KernelRfl
namespace Go.Proofs.Ytcbckolcmfbjhaa
/- THE CELL 'sum', in the pinned program and in every row, IS THE sha256 OF THE DUMP (.gsa) THAT YtcbckolcmfbjhaaProg.lean LOADS. Nothing in Lean hashes anything: it is a label: what it is worth is what the hold of that sum in a sandbox is worth. -/
noncomputable def Try.pinned : Pinned := { name := "ytcbckolcmfbjhaa", sum := "5270799dde6e23e2a0eb4da8b1d85c050873520150eb42eff62b89fc9d5ddcb2", checked := Try.checked }
namespace Rows
def none {H : Type} : Left H := { results := [], args := [] }

/-- 'bournelaw14.Admits': WHATEVER THE INPUT: true; the input reads as it did. -/
def admitsSpec : ChangeSpec := { name := "admits", fn := fun _ => fun
  | [d1, d2, d3, d4, d5, d6] => { results := [.lit (.bool true)], args := [d1, d2, d3, d4, d5, d6] }
  | _ => none }
def admitsRow : OpenClaim := { program := "ytcbckolcmfbjhaa", sum := "5270799dde6e23e2a0eb4da8b1d85c050873520150eb42eff62b89fc9d5ddcb2", func := "bourne/bournelaw14.Admits", spec := "admits", unfollowed := true, recurses := true, apart := false }
def AdmitsSaid : Prop := admitsRow.holds Try.pinned (OpenSpec.ofChange admitsSpec)

/-- ITS FALSE NEIGHBOUR: 'it returns false'. Refute it at one input. -/
def admitsWrong : ChangeSpec := { name := "admits", fn := fun _ => fun
  | [d1, d2, d3, d4, d5, d6] => { results := [.lit (.bool false)], args := [d1, d2, d3, d4, d5, d6] }
  | _ => none }
def AdmitsWrongFalsely : Prop := admitsRow.holds Try.pinned (OpenSpec.ofChange admitsWrong)

/-- 'bournelaw14.AdmitForms': WHATEVER THE INPUT: true; the input reads as it did. -/
def admitFormsSpec : ChangeSpec := { name := "admitForms", fn := fun _ => fun
  | [d1, d2] => { results := [.lit (.bool true)], args := [d1, d2] }
  | _ => none }
def admitFormsRow : OpenClaim := { program := "ytcbckolcmfbjhaa", sum := "5270799dde6e23e2a0eb4da8b1d85c050873520150eb42eff62b89fc9d5ddcb2", func := "bourne/bournelaw14.AdmitForms", spec := "admitForms", unfollowed := true, recurses := true, apart := false }
def AdmitFormsSaid : Prop := admitFormsRow.holds Try.pinned (OpenSpec.ofChange admitFormsSpec)

/-- ITS FALSE NEIGHBOUR: 'it returns false'. Refute it at one input. -/
def admitFormsWrong : ChangeSpec := { name := "admitForms", fn := fun _ => fun
  | [d1, d2] => { results := [.lit (.bool false)], args := [d1, d2] }
  | _ => none }
def AdmitFormsWrongFalsely : Prop := admitFormsRow.holds Try.pinned (OpenSpec.ofChange admitFormsWrong)

/-- 'bournelaw14.AdmitSafe': WHATEVER THE INPUT: true; the input reads as it did. -/
def admitSafeSpec : ChangeSpec := { name := "admitSafe", fn := fun _ => fun
  | [d1, d2, d3, d4] => { results := [.lit (.bool true)], args := [d1, d2, d3, d4] }
  | _ => none }
def admitSafeRow : OpenClaim := { program := "ytcbckolcmfbjhaa", sum := "5270799dde6e23e2a0eb4da8b1d85c050873520150eb42eff62b89fc9d5ddcb2", func := "bourne/bournelaw14.AdmitSafe", spec := "admitSafe", unfollowed := true, recurses := true, apart := false }
def AdmitSafeSaid : Prop := admitSafeRow.holds Try.pinned (OpenSpec.ofChange admitSafeSpec)

/-- ITS FALSE NEIGHBOUR: 'it returns false'. Refute it at one input. -/
def admitSafeWrong : ChangeSpec := { name := "admitSafe", fn := fun _ => fun
  | [d1, d2, d3, d4] => { results := [.lit (.bool false)], args := [d1, d2, d3, d4] }
  | _ => none }
def AdmitSafeWrongFalsely : Prop := admitSafeRow.holds Try.pinned (OpenSpec.ofChange admitSafeWrong)

/-- 'bournelaw14.AdmitRows': WHATEVER THE INPUT: true; the input reads as it did. -/
def admitRowsSpec : ChangeSpec := { name := "admitRows", fn := fun _ => fun
  | [d1, d2, d3, d4] => { results := [.lit (.bool true)], args := [d1, d2, d3, d4] }
  | _ => none }
def admitRowsRow : OpenClaim := { program := "ytcbckolcmfbjhaa", sum := "5270799dde6e23e2a0eb4da8b1d85c050873520150eb42eff62b89fc9d5ddcb2", func := "bourne/bournelaw14.AdmitRows", spec := "admitRows", unfollowed := true, recurses := true, apart := false }
def AdmitRowsSaid : Prop := admitRowsRow.holds Try.pinned (OpenSpec.ofChange admitRowsSpec)

/-- ITS FALSE NEIGHBOUR: 'it returns false'. Refute it at one input. -/
def admitRowsWrong : ChangeSpec := { name := "admitRows", fn := fun _ => fun
  | [d1, d2, d3, d4] => { results := [.lit (.bool false)], args := [d1, d2, d3, d4] }
  | _ => none }
def AdmitRowsWrongFalsely : Prop := admitRowsRow.holds Try.pinned (OpenSpec.ofChange admitRowsWrong)

/- THE SECOND FORM. 'bulk': how many values and letters a reading holds, each counted each time it is reached (what is shared counts as often as it is met; a slice's spare places count too). A statement '..UptoSaid' is the law's where the arguments, and the package variables that the reading takes, are together of bulk at most 1048576: NARROWER than '..Said'. Prove '..Said' where nothing that the law and all that it calls make is longer than what came in: it says more and counts as full. Else prove '..UptoSaid'. A law counts once. -/
mutual
def uptoBulk {H : Type} : DataW H → Nat
  | .lit (.string bytes) => bytes.length + 1
  | .lit _ => 1
  | .nil => 1
  | .ptr d => uptoBulk d + 1
  | .slice elems spare => uptoBulkAll elems + uptoBulkAll spare + 1
  | .agg parts => uptoBulkAll parts + 1
  | .iface _ d => uptoBulk d + 1
  | .map entries => uptoBulkEntries entries + 1
  | .held _ => 1
def uptoBulkAll {H : Type} : List (DataW H) → Nat
  | [] => 0
  | d :: r => uptoBulk d + uptoBulkAll r
def uptoBulkEntries {H : Type} : List (Lit × DataW H) → Nat
  | [] => 0
  | x :: r => uptoBulkEntry x + uptoBulkEntries r
def uptoBulkEntry {H : Type} : Lit × DataW H → Nat
  | (.string bytes, d) => bytes.length + uptoBulk d + 1
  | (_, d) => uptoBulk d + 1
 end
def uptoSmall : (H : Type) → List (DataW H) → Bool := fun _ ds => decide (uptoBulkAll ds ≤ 1048576)
def OpenSpec.upto (s : _root_.Go.ChangeSpec) : _root_.Go.OpenSpec := { _root_.Go.OpenSpec.ofChange s with cond := some uptoSmall }

/-- 'bournelaw14.Admits', WHERE WHAT IT READS IS OF BULK AT MOST 1048576: true; the input reads as it did. -/
def admitsUptoRow : OpenClaim := { program := "ytcbckolcmfbjhaa", sum := "5270799dde6e23e2a0eb4da8b1d85c050873520150eb42eff62b89fc9d5ddcb2", func := "bourne/bournelaw14.Admits", spec := "admits", unfollowed := true, recurses := true, apart := false, narrowed := true }
def AdmitsUptoSaid : Prop := admitsUptoRow.holds Try.pinned (OpenSpec.upto admitsSpec)

/-- 'bournelaw14.AdmitForms', WHERE WHAT IT READS IS OF BULK AT MOST 1048576: true; the input reads as it did. -/
def admitFormsUptoRow : OpenClaim := { program := "ytcbckolcmfbjhaa", sum := "5270799dde6e23e2a0eb4da8b1d85c050873520150eb42eff62b89fc9d5ddcb2", func := "bourne/bournelaw14.AdmitForms", spec := "admitForms", unfollowed := true, recurses := true, apart := false, narrowed := true }
def AdmitFormsUptoSaid : Prop := admitFormsUptoRow.holds Try.pinned (OpenSpec.upto admitFormsSpec)

/-- 'bournelaw14.AdmitSafe', WHERE WHAT IT READS IS OF BULK AT MOST 1048576: true; the input reads as it did. -/
def admitSafeUptoRow : OpenClaim := { program := "ytcbckolcmfbjhaa", sum := "5270799dde6e23e2a0eb4da8b1d85c050873520150eb42eff62b89fc9d5ddcb2", func := "bourne/bournelaw14.AdmitSafe", spec := "admitSafe", unfollowed := true, recurses := true, apart := false, narrowed := true }
def AdmitSafeUptoSaid : Prop := admitSafeUptoRow.holds Try.pinned (OpenSpec.upto admitSafeSpec)

/-- 'bournelaw14.AdmitRows', WHERE WHAT IT READS IS OF BULK AT MOST 1048576: true; the input reads as it did. -/
def admitRowsUptoRow : OpenClaim := { program := "ytcbckolcmfbjhaa", sum := "5270799dde6e23e2a0eb4da8b1d85c050873520150eb42eff62b89fc9d5ddcb2", func := "bourne/bournelaw14.AdmitRows", spec := "admitRows", unfollowed := true, recurses := true, apart := false, narrowed := true }
def AdmitRowsUptoSaid : Prop := admitRowsUptoRow.holds Try.pinned (OpenSpec.upto admitRowsSpec)

end Rows
end Go.Proofs.Ytcbckolcmfbjhaa
