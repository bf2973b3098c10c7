/-
  No cell of these rows narrows 'for every input' (looked for: loops, veiled, ifaces, maps, wideKeys, modest, calm, conditions, laid).
  DERIVED. THE GIVEN ROWS OF THIS SEAT. 3 by the template 'for every input the law returns true; each argument reads behind the call as it read before'; 0 by the template 'total and deterministic' (their statements: YteclcpdpngbgbaaTotals.lean).
  GIVEN WITH THE SEED: the statements are not yours to turn. If you find one false, say at which input.
  Laid BY PROGRAM, IN A SANDBOX (cutbox-rows.mjs): the forced cells as the released guide's own fill.sh prints them over the translation 6a027a7224de0455… (all of the seat's roots in one cut). By AI agents, Wed Nov 11 2026. No macro, syntax, notation, axiom, sorry.
-/
import Derived.Test.YteclcpdpngbgbaaChecked
import GoSem.Claim
import GoSem.ClaimJoined
import GoSem.ClaimMapViews
import Derived.JoinedTies
import Derived.KernelRfl
namespace Go.Proofs.Yteclcpdpngbgbaa
/- THE CELL 'sum', in the pinned program and in every row, IS THE sha256 OF THE DUMP (.gsa) THAT YteclcpdpngbgbaaProg.lean LOADS. Nothing in Lean hashes anything: it is a label: what it is worth is what the hold of that sum in a sandbox is worth. -/
noncomputable def Try.pinned : Pinned := { name := "yteclcpdpngbgbaa", sum := "6a027a7224de0455180275e619f807d37c784bed5d2076aa0326dc096258282f", checked := Try.checked }
namespace Rows
def none {H : Type} : Left H := { results := [], args := [] }

/-- 'linkboylaw19.MaglevFills': WHATEVER THE INPUT: true; the input reads as it did. -/
def maglevFillsSpec : ChangeSpec := { name := "maglevFills", fn := fun _ => fun
  | [d1, d2, d3, d4, d5] => { results := [.lit (.bool true)], args := [d1, d2, d3, d4, d5] }
  | _ => none }
def maglevFillsRow : OpenClaim := { program := "yteclcpdpngbgbaa", sum := "6a027a7224de0455180275e619f807d37c784bed5d2076aa0326dc096258282f", func := "linkboy/linkboylaw19.MaglevFills", spec := "maglevFills", unfollowed := true, recurses := true, apart := false }
def MaglevFillsSaid : Prop := maglevFillsRow.holds Try.pinned (OpenSpec.ofChange maglevFillsSpec)

/-- ITS FALSE NEIGHBOUR: 'it returns false'. Refute it at one input. -/
def maglevFillsWrong : ChangeSpec := { name := "maglevFills", fn := fun _ => fun
  | [d1, d2, d3, d4, d5] => { results := [.lit (.bool false)], args := [d1, d2, d3, d4, d5] }
  | _ => none }
def MaglevFillsWrongFalsely : Prop := maglevFillsRow.holds Try.pinned (OpenSpec.ofChange maglevFillsWrong)

/-- 'linkboylaw19.MaglevShares': WHATEVER THE INPUT: true; the input reads as it did. -/
def maglevSharesSpec : ChangeSpec := { name := "maglevShares", fn := fun _ => fun
  | [d1, d2, d3] => { results := [.lit (.bool true)], args := [d1, d2, d3] }
  | _ => none }
def maglevSharesRow : OpenClaim := { program := "yteclcpdpngbgbaa", sum := "6a027a7224de0455180275e619f807d37c784bed5d2076aa0326dc096258282f", func := "linkboy/linkboylaw19.MaglevShares", spec := "maglevShares", unfollowed := true, recurses := true, apart := false }
def MaglevSharesSaid : Prop := maglevSharesRow.holds Try.pinned (OpenSpec.ofChange maglevSharesSpec)

/-- ITS FALSE NEIGHBOUR: 'it returns false'. Refute it at one input. -/
def maglevSharesWrong : ChangeSpec := { name := "maglevShares", fn := fun _ => fun
  | [d1, d2, d3] => { results := [.lit (.bool false)], args := [d1, d2, d3] }
  | _ => none }
def MaglevSharesWrongFalsely : Prop := maglevSharesRow.holds Try.pinned (OpenSpec.ofChange maglevSharesWrong)

/-- 'linkboylaw19.MaglevParts': WHATEVER THE INPUT: true; the input reads as it did. -/
def maglevPartsSpec : ChangeSpec := { name := "maglevParts", fn := fun _ => fun
  | [d1, d2, d3] => { results := [.lit (.bool true)], args := [d1, d2, d3] }
  | _ => none }
def maglevPartsRow : OpenClaim := { program := "yteclcpdpngbgbaa", sum := "6a027a7224de0455180275e619f807d37c784bed5d2076aa0326dc096258282f", func := "linkboy/linkboylaw19.MaglevParts", spec := "maglevParts", unfollowed := true, recurses := true, apart := false }
def MaglevPartsSaid : Prop := maglevPartsRow.holds Try.pinned (OpenSpec.ofChange maglevPartsSpec)

/-- ITS FALSE NEIGHBOUR: 'it returns false'. Refute it at one input. -/
def maglevPartsWrong : ChangeSpec := { name := "maglevParts", fn := fun _ => fun
  | [d1, d2, d3] => { results := [.lit (.bool false)], args := [d1, d2, d3] }
  | _ => none }
def MaglevPartsWrongFalsely : Prop := maglevPartsRow.holds Try.pinned (OpenSpec.ofChange maglevPartsWrong)

/- THE SECOND FORM. 'bulk': how many values and letters a reading holds, each counted each time it is reached (what is shared counts as often as it is met; a slice's spare places count too). A statement '..UptoSaid' is the law's where the arguments, and the package variables that the reading takes, are together of bulk at most 1048576: NARROWER than '..Said'. Prove '..Said' where nothing that the law and all that it calls make is longer than what came in: it says more and counts as full. Else prove '..UptoSaid'. A law counts once. -/
mutual
def uptoBulk {H : Type} : DataW H → Nat
  | .lit (.string bytes) => bytes.length + 1
  | .lit _ => 1
  | .nil => 1
  | .ptr d => uptoBulk d + 1
  | .slice elems spare => uptoBulkAll elems + uptoBulkAll spare + 1
  | .agg parts => uptoBulkAll parts + 1
  | .iface _ d => uptoBulk d + 1
  | .map entries => uptoBulkEntries entries + 1
  | .held _ => 1
def uptoBulkAll {H : Type} : List (DataW H) → Nat
  | [] => 0
  | d :: r => uptoBulk d + uptoBulkAll r
def uptoBulkEntries {H : Type} : List (Lit × DataW H) → Nat
  | [] => 0
  | x :: r => uptoBulkEntry x + uptoBulkEntries r
def uptoBulkEntry {H : Type} : Lit × DataW H → Nat
  | (.string bytes, d) => bytes.length + uptoBulk d + 1
  | (_, d) => uptoBulk d + 1
 end
def uptoSmall : (H : Type) → List (DataW H) → Bool := fun _ ds => decide (uptoBulkAll ds ≤ 1048576)
def OpenSpec.upto (s : _root_.Go.ChangeSpec) : _root_.Go.OpenSpec := { _root_.Go.OpenSpec.ofChange s with cond := some uptoSmall }

/-- 'linkboylaw19.MaglevFills', WHERE WHAT IT READS IS OF BULK AT MOST 1048576: true; the input reads as it did. -/
def maglevFillsUptoRow : OpenClaim := { program := "yteclcpdpngbgbaa", sum := "6a027a7224de0455180275e619f807d37c784bed5d2076aa0326dc096258282f", func := "linkboy/linkboylaw19.MaglevFills", spec := "maglevFills", unfollowed := true, recurses := true, apart := false, narrowed := true }
def MaglevFillsUptoSaid : Prop := maglevFillsUptoRow.holds Try.pinned (OpenSpec.upto maglevFillsSpec)

/-- 'linkboylaw19.MaglevShares', WHERE WHAT IT READS IS OF BULK AT MOST 1048576: true; the input reads as it did. -/
def maglevSharesUptoRow : OpenClaim := { program := "yteclcpdpngbgbaa", sum := "6a027a7224de0455180275e619f807d37c784bed5d2076aa0326dc096258282f", func := "linkboy/linkboylaw19.MaglevShares", spec := "maglevShares", unfollowed := true, recurses := true, apart := false, narrowed := true }
def MaglevSharesUptoSaid : Prop := maglevSharesUptoRow.holds Try.pinned (OpenSpec.upto maglevSharesSpec)

/-- 'linkboylaw19.MaglevParts', WHERE WHAT IT READS IS OF BULK AT MOST 1048576: true; the input reads as it did. -/
def maglevPartsUptoRow : OpenClaim := { program := "yteclcpdpngbgbaa", sum := "6a027a7224de0455180275e619f807d37c784bed5d2076aa0326dc096258282f", func := "linkboy/linkboylaw19.MaglevParts", spec := "maglevParts", unfollowed := true, recurses := true, apart := false, narrowed := true }
def MaglevPartsUptoSaid : Prop := maglevPartsUptoRow.holds Try.pinned (OpenSpec.upto maglevPartsSpec)

end Rows
end Go.Proofs.Yteclcpdpngbgbaa
