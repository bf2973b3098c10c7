/-
  No cell of these rows narrows 'for every input' (looked for: loops, veiled, ifaces, maps, wideKeys, modest, calm, conditions, laid).
  DERIVED. THE GIVEN ROWS OF THIS SEAT. 3 by the template 'for every input the law returns true; each argument reads behind the call as it read before'; 0 by the template 'total and deterministic' (their statements: YtiafefofomdcgaaTotals.lean).
  GIVEN WITH THE SEED: the statements are not yours to turn. If you find one false, say at which input.
  Laid BY PROGRAM, IN A SANDBOX (cutbox-rows.mjs): the forced cells as the released guide's own fill.sh prints them over the translation e094d6a9e1eabff4… (all of the seat's roots in one cut). By AI agents, Wed Nov 11 2026. No macro, syntax, notation, axiom, sorry.
-/
import Derived.Test.YtiafefofomdcgaaChecked
import GoSem.Claim
import GoSem.ClaimJoined
import GoSem.ClaimMapViews
import Derived.JoinedTies
import Derived.KernelRfl
namespace Go.Proofs.Ytiafefofomdcgaa
/- THE CELL 'sum', in the pinned program and in every row, IS THE sha256 OF THE DUMP (.gsa) THAT YtiafefofomdcgaaProg.lean LOADS. Nothing in Lean hashes anything: it is a label: what it is worth is what the hold of that sum in a sandbox is worth. -/
noncomputable def Try.pinned : Pinned := { name := "ytiafefofomdcgaa", sum := "e094d6a9e1eabff4e729eb4dd2aa4c653c7ed5799fcb0c3ab4a7a204660726d0", checked := Try.checked }
namespace Rows
def none {H : Type} : Left H := { results := [], args := [] }

/-- 'linkboylaw34.TagPuts': WHATEVER THE INPUT: true; the input reads as it did. -/
def tagPutsSpec : ChangeSpec := { name := "tagPuts", fn := fun _ => fun
  | [d1, d2] => { results := [.lit (.bool true)], args := [d1, d2] }
  | _ => none }
def tagPutsRow : OpenClaim := { program := "ytiafefofomdcgaa", sum := "e094d6a9e1eabff4e729eb4dd2aa4c653c7ed5799fcb0c3ab4a7a204660726d0", func := "linkboy/linkboylaw34.TagPuts", spec := "tagPuts", apart := false }
def TagPutsSaid : Prop := tagPutsRow.holds Try.pinned (OpenSpec.ofChange tagPutsSpec)

/-- ITS FALSE NEIGHBOUR: 'it returns false'. Refute it at one input. -/
def tagPutsWrong : ChangeSpec := { name := "tagPuts", fn := fun _ => fun
  | [d1, d2] => { results := [.lit (.bool false)], args := [d1, d2] }
  | _ => none }
def TagPutsWrongFalsely : Prop := tagPutsRow.holds Try.pinned (OpenSpec.ofChange tagPutsWrong)

/-- 'linkboylaw34.TagParses': WHATEVER THE INPUT: true; the input reads as it did. -/
def tagParsesSpec : ChangeSpec := { name := "tagParses", fn := fun _ => fun
  | [d1, d2] => { results := [.lit (.bool true)], args := [d1, d2] }
  | _ => none }
def tagParsesRow : OpenClaim := { program := "ytiafefofomdcgaa", sum := "e094d6a9e1eabff4e729eb4dd2aa4c653c7ed5799fcb0c3ab4a7a204660726d0", func := "linkboy/linkboylaw34.TagParses", spec := "tagParses", apart := false }
def TagParsesSaid : Prop := tagParsesRow.holds Try.pinned (OpenSpec.ofChange tagParsesSpec)

/-- ITS FALSE NEIGHBOUR: 'it returns false'. Refute it at one input. -/
def tagParsesWrong : ChangeSpec := { name := "tagParses", fn := fun _ => fun
  | [d1, d2] => { results := [.lit (.bool false)], args := [d1, d2] }
  | _ => none }
def TagParsesWrongFalsely : Prop := tagParsesRow.holds Try.pinned (OpenSpec.ofChange tagParsesWrong)

/-- 'linkboylaw34.TagAnswers': WHATEVER THE INPUT: true; the input reads as it did. -/
def tagAnswersSpec : ChangeSpec := { name := "tagAnswers", fn := fun _ => fun
  | [d1, d2, d3, d4, d5] => { results := [.lit (.bool true)], args := [d1, d2, d3, d4, d5] }
  | _ => none }
def tagAnswersRow : OpenClaim := { program := "ytiafefofomdcgaa", sum := "e094d6a9e1eabff4e729eb4dd2aa4c653c7ed5799fcb0c3ab4a7a204660726d0", func := "linkboy/linkboylaw34.TagAnswers", spec := "tagAnswers", apart := false }
def TagAnswersSaid : Prop := tagAnswersRow.holds Try.pinned (OpenSpec.ofChange tagAnswersSpec)

/-- ITS FALSE NEIGHBOUR: 'it returns false'. Refute it at one input. -/
def tagAnswersWrong : ChangeSpec := { name := "tagAnswers", fn := fun _ => fun
  | [d1, d2, d3, d4, d5] => { results := [.lit (.bool false)], args := [d1, d2, d3, d4, d5] }
  | _ => none }
def TagAnswersWrongFalsely : Prop := tagAnswersRow.holds Try.pinned (OpenSpec.ofChange tagAnswersWrong)

/- THE SECOND FORM. 'bulk': how many values and letters a reading holds, each counted each time it is reached (what is shared counts as often as it is met; a slice's spare places count too). A statement '..UptoSaid' is the law's where the arguments, and the package variables that the reading takes, are together of bulk at most 1048576: NARROWER than '..Said'. Prove '..Said' where nothing that the law and all that it calls make is longer than what came in: it says more and counts as full. Else prove '..UptoSaid'. A law counts once. -/
mutual
def uptoBulk {H : Type} : DataW H → Nat
  | .lit (.string bytes) => bytes.length + 1
  | .lit _ => 1
  | .nil => 1
  | .ptr d => uptoBulk d + 1
  | .slice elems spare => uptoBulkAll elems + uptoBulkAll spare + 1
  | .agg parts => uptoBulkAll parts + 1
  | .iface _ d => uptoBulk d + 1
  | .map entries => uptoBulkEntries entries + 1
  | .held _ => 1
def uptoBulkAll {H : Type} : List (DataW H) → Nat
  | [] => 0
  | d :: r => uptoBulk d + uptoBulkAll r
def uptoBulkEntries {H : Type} : List (Lit × DataW H) → Nat
  | [] => 0
  | x :: r => uptoBulkEntry x + uptoBulkEntries r
def uptoBulkEntry {H : Type} : Lit × DataW H → Nat
  | (.string bytes, d) => bytes.length + uptoBulk d + 1
  | (_, d) => uptoBulk d + 1
 end
def uptoSmall : (H : Type) → List (DataW H) → Bool := fun _ ds => decide (uptoBulkAll ds ≤ 1048576)
def OpenSpec.upto (s : _root_.Go.ChangeSpec) : _root_.Go.OpenSpec := { _root_.Go.OpenSpec.ofChange s with cond := some uptoSmall }

/-- 'linkboylaw34.TagPuts', WHERE WHAT IT READS IS OF BULK AT MOST 1048576: true; the input reads as it did. -/
def tagPutsUptoRow : OpenClaim := { program := "ytiafefofomdcgaa", sum := "e094d6a9e1eabff4e729eb4dd2aa4c653c7ed5799fcb0c3ab4a7a204660726d0", func := "linkboy/linkboylaw34.TagPuts", spec := "tagPuts", apart := false, narrowed := true }
def TagPutsUptoSaid : Prop := tagPutsUptoRow.holds Try.pinned (OpenSpec.upto tagPutsSpec)

/-- 'linkboylaw34.TagParses', WHERE WHAT IT READS IS OF BULK AT MOST 1048576: true; the input reads as it did. -/
def tagParsesUptoRow : OpenClaim := { program := "ytiafefofomdcgaa", sum := "e094d6a9e1eabff4e729eb4dd2aa4c653c7ed5799fcb0c3ab4a7a204660726d0", func := "linkboy/linkboylaw34.TagParses", spec := "tagParses", apart := false, narrowed := true }
def TagParsesUptoSaid : Prop := tagParsesUptoRow.holds Try.pinned (OpenSpec.upto tagParsesSpec)

/-- 'linkboylaw34.TagAnswers', WHERE WHAT IT READS IS OF BULK AT MOST 1048576: true; the input reads as it did. -/
def tagAnswersUptoRow : OpenClaim := { program := "ytiafefofomdcgaa", sum := "e094d6a9e1eabff4e729eb4dd2aa4c653c7ed5799fcb0c3ab4a7a204660726d0", func := "linkboy/linkboylaw34.TagAnswers", spec := "tagAnswers", apart := false, narrowed := true }
def TagAnswersUptoSaid : Prop := tagAnswersUptoRow.holds Try.pinned (OpenSpec.upto tagAnswersSpec)

end Rows
end Go.Proofs.Ytiafefofomdcgaa
