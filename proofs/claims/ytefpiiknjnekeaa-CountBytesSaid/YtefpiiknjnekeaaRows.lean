/-
  No cell of these rows narrows 'for every input' (looked for: loops, veiled, ifaces, maps, wideKeys, modest, calm, conditions, laid).
  DERIVED. THE GIVEN ROWS OF THIS SEAT. 3 by the template 'for every input the law returns true; each argument reads behind the call as it read before'; 0 by the template 'total and deterministic' (their statements: YtefpiiknjnekeaaTotals.lean).
  GIVEN WITH THE SEED: the statements are not yours to turn. If you find one false, say at which input.
  Laid BY PROGRAM, IN A SANDBOX (cutbox-rows.mjs): the forced cells as the released guide's own fill.sh prints them over the translation e502ca2082235e1d… (all of the seat's roots in one cut). By AI agents, Wed Nov 11 2026. No macro, syntax, notation, axiom, sorry.
-/
import Derived.Test.YtefpiiknjnekeaaChecked
import GoSem.Claim
import GoSem.ClaimJoined
import GoSem.ClaimMapViews
import Derived.JoinedTies
import Derived.KernelRfl
namespace Go.Proofs.Ytefpiiknjnekeaa
/- THE CELL 'sum', in the pinned program and in every row, IS THE sha256 OF THE DUMP (.gsa) THAT YtefpiiknjnekeaaProg.lean LOADS. Nothing in Lean hashes anything: it is a label: what it is worth is what the hold of that sum in a sandbox is worth. -/
noncomputable def Try.pinned : Pinned := { name := "ytefpiiknjnekeaa", sum := "e502ca2082235e1df0847f0abdc1dddce3a1836f9bce0f9a2176ca9dadb99032", checked := Try.checked }
namespace Rows
def none {H : Type} : Left H := { results := [], args := [] }

/-- 'linkboylaw36.CountNames': WHATEVER THE INPUT: true; the input reads as it did. -/
def countNamesSpec : ChangeSpec := { name := "countNames", fn := fun _ => fun
  | [d1, d2, d3] => { results := [.lit (.bool true)], args := [d1, d2, d3] }
  | _ => none }
def countNamesRow : OpenClaim := { program := "ytefpiiknjnekeaa", sum := "e502ca2082235e1df0847f0abdc1dddce3a1836f9bce0f9a2176ca9dadb99032", func := "linkboy/linkboylaw36.CountNames", spec := "countNames", inPlace := ["internal/abi.NoEscape"], apart := false }
def CountNamesSaid : Prop := countNamesRow.holds Try.pinned (OpenSpec.ofChange countNamesSpec)

/-- ITS FALSE NEIGHBOUR: 'it returns false'. Refute it at one input. -/
def countNamesWrong : ChangeSpec := { name := "countNames", fn := fun _ => fun
  | [d1, d2, d3] => { results := [.lit (.bool false)], args := [d1, d2, d3] }
  | _ => none }
def CountNamesWrongFalsely : Prop := countNamesRow.holds Try.pinned (OpenSpec.ofChange countNamesWrong)

/-- 'linkboylaw36.CountAdds': WHATEVER THE INPUT: true; the input reads as it did. -/
def countAddsSpec : ChangeSpec := { name := "countAdds", fn := fun _ => fun
  | [d1, d2, d3] => { results := [.lit (.bool true)], args := [d1, d2, d3] }
  | _ => none }
def countAddsRow : OpenClaim := { program := "ytefpiiknjnekeaa", sum := "e502ca2082235e1df0847f0abdc1dddce3a1836f9bce0f9a2176ca9dadb99032", func := "linkboy/linkboylaw36.CountAdds", spec := "countAdds", inPlace := ["internal/abi.NoEscape"], apart := false }
def CountAddsSaid : Prop := countAddsRow.holds Try.pinned (OpenSpec.ofChange countAddsSpec)

/-- ITS FALSE NEIGHBOUR: 'it returns false'. Refute it at one input. -/
def countAddsWrong : ChangeSpec := { name := "countAdds", fn := fun _ => fun
  | [d1, d2, d3] => { results := [.lit (.bool false)], args := [d1, d2, d3] }
  | _ => none }
def CountAddsWrongFalsely : Prop := countAddsRow.holds Try.pinned (OpenSpec.ofChange countAddsWrong)

/-- 'linkboylaw36.CountBytes': WHATEVER THE INPUT: true; the input reads as it did. -/
def countBytesSpec : ChangeSpec := { name := "countBytes", fn := fun _ => fun
  | [d1, d2] => { results := [.lit (.bool true)], args := [d1, d2] }
  | _ => none }
def countBytesRow : OpenClaim := { program := "ytefpiiknjnekeaa", sum := "e502ca2082235e1df0847f0abdc1dddce3a1836f9bce0f9a2176ca9dadb99032", func := "linkboy/linkboylaw36.CountBytes", spec := "countBytes", inPlace := ["internal/abi.NoEscape"], apart := false }
def CountBytesSaid : Prop := countBytesRow.holds Try.pinned (OpenSpec.ofChange countBytesSpec)

/-- ITS FALSE NEIGHBOUR: 'it returns false'. Refute it at one input. -/
def countBytesWrong : ChangeSpec := { name := "countBytes", fn := fun _ => fun
  | [d1, d2] => { results := [.lit (.bool false)], args := [d1, d2] }
  | _ => none }
def CountBytesWrongFalsely : Prop := countBytesRow.holds Try.pinned (OpenSpec.ofChange countBytesWrong)

/- THE SECOND FORM. 'bulk': how many values and letters a reading holds, each counted each time it is reached (what is shared counts as often as it is met; a slice's spare places count too). A statement '..UptoSaid' is the law's where the arguments, and the package variables that the reading takes, are together of bulk at most 1048576: NARROWER than '..Said'. Prove '..Said' where nothing that the law and all that it calls make is longer than what came in: it says more and counts as full. Else prove '..UptoSaid'. A law counts once. -/
mutual
def uptoBulk {H : Type} : DataW H → Nat
  | .lit (.string bytes) => bytes.length + 1
  | .lit _ => 1
  | .nil => 1
  | .ptr d => uptoBulk d + 1
  | .slice elems spare => uptoBulkAll elems + uptoBulkAll spare + 1
  | .agg parts => uptoBulkAll parts + 1
  | .iface _ d => uptoBulk d + 1
  | .map entries => uptoBulkEntries entries + 1
  | .held _ => 1
def uptoBulkAll {H : Type} : List (DataW H) → Nat
  | [] => 0
  | d :: r => uptoBulk d + uptoBulkAll r
def uptoBulkEntries {H : Type} : List (Lit × DataW H) → Nat
  | [] => 0
  | x :: r => uptoBulkEntry x + uptoBulkEntries r
def uptoBulkEntry {H : Type} : Lit × DataW H → Nat
  | (.string bytes, d) => bytes.length + uptoBulk d + 1
  | (_, d) => uptoBulk d + 1
 end
def uptoSmall : (H : Type) → List (DataW H) → Bool := fun _ ds => decide (uptoBulkAll ds ≤ 1048576)
def OpenSpec.upto (s : _root_.Go.ChangeSpec) : _root_.Go.OpenSpec := { _root_.Go.OpenSpec.ofChange s with cond := some uptoSmall }

/-- 'linkboylaw36.CountNames', WHERE WHAT IT READS IS OF BULK AT MOST 1048576: true; the input reads as it did. -/
def countNamesUptoRow : OpenClaim := { program := "ytefpiiknjnekeaa", sum := "e502ca2082235e1df0847f0abdc1dddce3a1836f9bce0f9a2176ca9dadb99032", func := "linkboy/linkboylaw36.CountNames", spec := "countNames", inPlace := ["internal/abi.NoEscape"], apart := false, narrowed := true }
def CountNamesUptoSaid : Prop := countNamesUptoRow.holds Try.pinned (OpenSpec.upto countNamesSpec)

/-- 'linkboylaw36.CountAdds', WHERE WHAT IT READS IS OF BULK AT MOST 1048576: true; the input reads as it did. -/
def countAddsUptoRow : OpenClaim := { program := "ytefpiiknjnekeaa", sum := "e502ca2082235e1df0847f0abdc1dddce3a1836f9bce0f9a2176ca9dadb99032", func := "linkboy/linkboylaw36.CountAdds", spec := "countAdds", inPlace := ["internal/abi.NoEscape"], apart := false, narrowed := true }
def CountAddsUptoSaid : Prop := countAddsUptoRow.holds Try.pinned (OpenSpec.upto countAddsSpec)

/-- 'linkboylaw36.CountBytes', WHERE WHAT IT READS IS OF BULK AT MOST 1048576: true; the input reads as it did. -/
def countBytesUptoRow : OpenClaim := { program := "ytefpiiknjnekeaa", sum := "e502ca2082235e1df0847f0abdc1dddce3a1836f9bce0f9a2176ca9dadb99032", func := "linkboy/linkboylaw36.CountBytes", spec := "countBytes", inPlace := ["internal/abi.NoEscape"], apart := false, narrowed := true }
def CountBytesUptoSaid : Prop := countBytesUptoRow.holds Try.pinned (OpenSpec.upto countBytesSpec)

end Rows
end Go.Proofs.Ytefpiiknjnekeaa
