/-
  No cell of these rows narrows 'for every input' (looked for: loops, veiled, ifaces, maps, wideKeys, modest, calm, conditions, laid).
  DERIVED. THE GIVEN ROWS OF THIS SEAT. 3 by the template 'for every input the law returns true; each argument reads behind the call as it read before'; 0 by the template 'total and deterministic' (their statements: YtimdeghcidegcaaTotals.lean).
  GIVEN WITH THE SEED: the statements are not yours to turn. If you find one false, say at which input.
  Laid BY PROGRAM, IN A SANDBOX (cutbox-rows.mjs): the forced cells as the released guide's own fill.sh prints them over the translation cd31d41f36deb94c… (all of the seat's roots in one cut). By AI agents, Wed Nov 11 2026. No macro, syntax, notation, axiom, sorry.
-/
import Derived.Test.YtimdeghcidegcaaChecked
import GoSem.Claim
import GoSem.ClaimJoined
import GoSem.ClaimMapViews
import Derived.JoinedTies
import Derived.KernelRfl
namespace Go.Proofs.Ytimdeghcidegcaa
/- THE CELL 'sum', in the pinned program and in every row, IS THE sha256 OF THE DUMP (.gsa) THAT YtimdeghcidegcaaProg.lean LOADS. Nothing in Lean hashes anything: it is a label: what it is worth is what the hold of that sum in a sandbox is worth. -/
noncomputable def Try.pinned : Pinned := { name := "ytimdeghcidegcaa", sum := "cd31d41f36deb94c6a885de948f8929e031f2de6adefc7f9c20003611155a03c", checked := Try.checked }
namespace Rows
def none {H : Type} : Left H := { results := [], args := [] }

/-- 'linkboylaw20.ScoreNext': WHATEVER THE INPUT: true; the input reads as it did. -/
def scoreNextSpec : ChangeSpec := { name := "scoreNext", fn := fun _ => fun
  | [d1, d2, d3, d4] => { results := [.lit (.bool true)], args := [d1, d2, d3, d4] }
  | _ => none }
def scoreNextRow : OpenClaim := { program := "ytimdeghcidegcaa", sum := "cd31d41f36deb94c6a885de948f8929e031f2de6adefc7f9c20003611155a03c", func := "linkboy/linkboylaw20.ScoreNext", spec := "scoreNext", apart := false }
def ScoreNextSaid : Prop := scoreNextRow.holds Try.pinned (OpenSpec.ofChange scoreNextSpec)

/-- ITS FALSE NEIGHBOUR: 'it returns false'. Refute it at one input. -/
def scoreNextWrong : ChangeSpec := { name := "scoreNext", fn := fun _ => fun
  | [d1, d2, d3, d4] => { results := [.lit (.bool false)], args := [d1, d2, d3, d4] }
  | _ => none }
def ScoreNextWrongFalsely : Prop := scoreNextRow.holds Try.pinned (OpenSpec.ofChange scoreNextWrong)

/-- 'linkboylaw20.ScoreParts': WHATEVER THE INPUT: true; the input reads as it did. -/
def scorePartsSpec : ChangeSpec := { name := "scoreParts", fn := fun _ => fun
  | [d1, d2, d3, d4] => { results := [.lit (.bool true)], args := [d1, d2, d3, d4] }
  | _ => none }
def scorePartsRow : OpenClaim := { program := "ytimdeghcidegcaa", sum := "cd31d41f36deb94c6a885de948f8929e031f2de6adefc7f9c20003611155a03c", func := "linkboy/linkboylaw20.ScoreParts", spec := "scoreParts", apart := false }
def ScorePartsSaid : Prop := scorePartsRow.holds Try.pinned (OpenSpec.ofChange scorePartsSpec)

/-- ITS FALSE NEIGHBOUR: 'it returns false'. Refute it at one input. -/
def scorePartsWrong : ChangeSpec := { name := "scoreParts", fn := fun _ => fun
  | [d1, d2, d3, d4] => { results := [.lit (.bool false)], args := [d1, d2, d3, d4] }
  | _ => none }
def ScorePartsWrongFalsely : Prop := scorePartsRow.holds Try.pinned (OpenSpec.ofChange scorePartsWrong)

/-- 'linkboylaw20.ScoreOf': WHATEVER THE INPUT: true; the input reads as it did. -/
def scoreOfSpec : ChangeSpec := { name := "scoreOf", fn := fun _ => fun
  | [d1, d2, d3] => { results := [.lit (.bool true)], args := [d1, d2, d3] }
  | _ => none }
def scoreOfRow : OpenClaim := { program := "ytimdeghcidegcaa", sum := "cd31d41f36deb94c6a885de948f8929e031f2de6adefc7f9c20003611155a03c", func := "linkboy/linkboylaw20.ScoreOf", spec := "scoreOf", apart := false }
def ScoreOfSaid : Prop := scoreOfRow.holds Try.pinned (OpenSpec.ofChange scoreOfSpec)

/-- ITS FALSE NEIGHBOUR: 'it returns false'. Refute it at one input. -/
def scoreOfWrong : ChangeSpec := { name := "scoreOf", fn := fun _ => fun
  | [d1, d2, d3] => { results := [.lit (.bool false)], args := [d1, d2, d3] }
  | _ => none }
def ScoreOfWrongFalsely : Prop := scoreOfRow.holds Try.pinned (OpenSpec.ofChange scoreOfWrong)

/- THE SECOND FORM. 'bulk': how many values and letters a reading holds, each counted each time it is reached (what is shared counts as often as it is met; a slice's spare places count too). A statement '..UptoSaid' is the law's where the arguments, and the package variables that the reading takes, are together of bulk at most 1048576: NARROWER than '..Said'. Prove '..Said' where nothing that the law and all that it calls make is longer than what came in: it says more and counts as full. Else prove '..UptoSaid'. A law counts once. -/
mutual
def uptoBulk {H : Type} : DataW H → Nat
  | .lit (.string bytes) => bytes.length + 1
  | .lit _ => 1
  | .nil => 1
  | .ptr d => uptoBulk d + 1
  | .slice elems spare => uptoBulkAll elems + uptoBulkAll spare + 1
  | .agg parts => uptoBulkAll parts + 1
  | .iface _ d => uptoBulk d + 1
  | .map entries => uptoBulkEntries entries + 1
  | .held _ => 1
def uptoBulkAll {H : Type} : List (DataW H) → Nat
  | [] => 0
  | d :: r => uptoBulk d + uptoBulkAll r
def uptoBulkEntries {H : Type} : List (Lit × DataW H) → Nat
  | [] => 0
  | x :: r => uptoBulkEntry x + uptoBulkEntries r
def uptoBulkEntry {H : Type} : Lit × DataW H → Nat
  | (.string bytes, d) => bytes.length + uptoBulk d + 1
  | (_, d) => uptoBulk d + 1
 end
def uptoSmall : (H : Type) → List (DataW H) → Bool := fun _ ds => decide (uptoBulkAll ds ≤ 1048576)
def OpenSpec.upto (s : _root_.Go.ChangeSpec) : _root_.Go.OpenSpec := { _root_.Go.OpenSpec.ofChange s with cond := some uptoSmall }

/-- 'linkboylaw20.ScoreNext', WHERE WHAT IT READS IS OF BULK AT MOST 1048576: true; the input reads as it did. -/
def scoreNextUptoRow : OpenClaim := { program := "ytimdeghcidegcaa", sum := "cd31d41f36deb94c6a885de948f8929e031f2de6adefc7f9c20003611155a03c", func := "linkboy/linkboylaw20.ScoreNext", spec := "scoreNext", apart := false, narrowed := true }
def ScoreNextUptoSaid : Prop := scoreNextUptoRow.holds Try.pinned (OpenSpec.upto scoreNextSpec)

/-- 'linkboylaw20.ScoreParts', WHERE WHAT IT READS IS OF BULK AT MOST 1048576: true; the input reads as it did. -/
def scorePartsUptoRow : OpenClaim := { program := "ytimdeghcidegcaa", sum := "cd31d41f36deb94c6a885de948f8929e031f2de6adefc7f9c20003611155a03c", func := "linkboy/linkboylaw20.ScoreParts", spec := "scoreParts", apart := false, narrowed := true }
def ScorePartsUptoSaid : Prop := scorePartsUptoRow.holds Try.pinned (OpenSpec.upto scorePartsSpec)

/-- 'linkboylaw20.ScoreOf', WHERE WHAT IT READS IS OF BULK AT MOST 1048576: true; the input reads as it did. -/
def scoreOfUptoRow : OpenClaim := { program := "ytimdeghcidegcaa", sum := "cd31d41f36deb94c6a885de948f8929e031f2de6adefc7f9c20003611155a03c", func := "linkboy/linkboylaw20.ScoreOf", spec := "scoreOf", apart := false, narrowed := true }
def ScoreOfUptoSaid : Prop := scoreOfUptoRow.holds Try.pinned (OpenSpec.upto scoreOfSpec)

end Rows
end Go.Proofs.Ytimdeghcidegcaa
