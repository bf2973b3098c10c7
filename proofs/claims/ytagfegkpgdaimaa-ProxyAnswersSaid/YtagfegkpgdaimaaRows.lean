/-
  No cell of these rows narrows 'for every input' (looked for: loops, veiled, ifaces, maps, wideKeys, modest, calm, conditions, laid).
  DERIVED. THE GIVEN ROWS OF THIS SEAT. 3 by the template 'for every input the law returns true; each argument reads behind the call as it read before'; 0 by the template 'total and deterministic' (their statements: YtagfegkpgdaimaaTotals.lean).
  GIVEN WITH THE SEED: the statements are not yours to turn. If you find one false, say at which input.
  Laid BY PROGRAM, IN A SANDBOX (cutbox-rows.mjs): the forced cells as the released guide's own fill.sh prints them over the translation ece40596f5f54ca7… (all of the seat's roots in one cut). By AI agents, Wed Nov 11 2026. No macro, syntax, notation, axiom, sorry.
-/
import Derived.Test.YtagfegkpgdaimaaChecked
import GoSem.Claim
import GoSem.ClaimJoined
import GoSem.ClaimMapViews
import Derived.JoinedTies
import Derived.KernelRfl
namespace Go.Proofs.Ytagfegkpgdaimaa
/- THE CELL 'sum', in the pinned program and in every row, IS THE sha256 OF THE DUMP (.gsa) THAT YtagfegkpgdaimaaProg.lean LOADS. Nothing in Lean hashes anything: it is a label: what it is worth is what the hold of that sum in a sandbox is worth. -/
noncomputable def Try.pinned : Pinned := { name := "ytagfegkpgdaimaa", sum := "ece40596f5f54ca7e835a7b3920c297225292b107931ce76be941e71327a19c4", checked := Try.checked }
namespace Rows
def none {H : Type} : Left H := { results := [], args := [] }

/-- 'linkboylaw38.ProxyOffers': WHATEVER THE INPUT: true; the input reads as it did. -/
def proxyOffersSpec : ChangeSpec := { name := "proxyOffers", fn := fun _ => fun
  | [d1, d2, d3] => { results := [.lit (.bool true)], args := [d1, d2, d3] }
  | _ => none }
def proxyOffersRow : OpenClaim := { program := "ytagfegkpgdaimaa", sum := "ece40596f5f54ca7e835a7b3920c297225292b107931ce76be941e71327a19c4", func := "linkboy/linkboylaw38.ProxyOffers", spec := "proxyOffers", apart := false }
def ProxyOffersSaid : Prop := proxyOffersRow.holds Try.pinned (OpenSpec.ofChange proxyOffersSpec)

/-- ITS FALSE NEIGHBOUR: 'it returns false'. Refute it at one input. -/
def proxyOffersWrong : ChangeSpec := { name := "proxyOffers", fn := fun _ => fun
  | [d1, d2, d3] => { results := [.lit (.bool false)], args := [d1, d2, d3] }
  | _ => none }
def ProxyOffersWrongFalsely : Prop := proxyOffersRow.holds Try.pinned (OpenSpec.ofChange proxyOffersWrong)

/-- 'linkboylaw38.ProxyAnswers': WHATEVER THE INPUT: true; the input reads as it did. -/
def proxyAnswersSpec : ChangeSpec := { name := "proxyAnswers", fn := fun _ => fun
  | [d1, d2, d3, d4] => { results := [.lit (.bool true)], args := [d1, d2, d3, d4] }
  | _ => none }
def proxyAnswersRow : OpenClaim := { program := "ytagfegkpgdaimaa", sum := "ece40596f5f54ca7e835a7b3920c297225292b107931ce76be941e71327a19c4", func := "linkboy/linkboylaw38.ProxyAnswers", spec := "proxyAnswers", apart := false }
def ProxyAnswersSaid : Prop := proxyAnswersRow.holds Try.pinned (OpenSpec.ofChange proxyAnswersSpec)

/-- ITS FALSE NEIGHBOUR: 'it returns false'. Refute it at one input. -/
def proxyAnswersWrong : ChangeSpec := { name := "proxyAnswers", fn := fun _ => fun
  | [d1, d2, d3, d4] => { results := [.lit (.bool false)], args := [d1, d2, d3, d4] }
  | _ => none }
def ProxyAnswersWrongFalsely : Prop := proxyAnswersRow.holds Try.pinned (OpenSpec.ofChange proxyAnswersWrong)

/-- 'linkboylaw38.ProxyJoins': WHATEVER THE INPUT: true; the input reads as it did. -/
def proxyJoinsSpec : ChangeSpec := { name := "proxyJoins", fn := fun _ => fun
  | [d1, d2, d3, d4, d5, d6, d7] => { results := [.lit (.bool true)], args := [d1, d2, d3, d4, d5, d6, d7] }
  | _ => none }
def proxyJoinsRow : OpenClaim := { program := "ytagfegkpgdaimaa", sum := "ece40596f5f54ca7e835a7b3920c297225292b107931ce76be941e71327a19c4", func := "linkboy/linkboylaw38.ProxyJoins", spec := "proxyJoins", apart := false }
def ProxyJoinsSaid : Prop := proxyJoinsRow.holds Try.pinned (OpenSpec.ofChange proxyJoinsSpec)

/-- ITS FALSE NEIGHBOUR: 'it returns false'. Refute it at one input. -/
def proxyJoinsWrong : ChangeSpec := { name := "proxyJoins", fn := fun _ => fun
  | [d1, d2, d3, d4, d5, d6, d7] => { results := [.lit (.bool false)], args := [d1, d2, d3, d4, d5, d6, d7] }
  | _ => none }
def ProxyJoinsWrongFalsely : Prop := proxyJoinsRow.holds Try.pinned (OpenSpec.ofChange proxyJoinsWrong)

/- THE SECOND FORM. 'bulk': how many values and letters a reading holds, each counted each time it is reached (what is shared counts as often as it is met; a slice's spare places count too). A statement '..UptoSaid' is the law's where the arguments, and the package variables that the reading takes, are together of bulk at most 1048576: NARROWER than '..Said'. Prove '..Said' where nothing that the law and all that it calls make is longer than what came in: it says more and counts as full. Else prove '..UptoSaid'. A law counts once. -/
mutual
def uptoBulk {H : Type} : DataW H → Nat
  | .lit (.string bytes) => bytes.length + 1
  | .lit _ => 1
  | .nil => 1
  | .ptr d => uptoBulk d + 1
  | .slice elems spare => uptoBulkAll elems + uptoBulkAll spare + 1
  | .agg parts => uptoBulkAll parts + 1
  | .iface _ d => uptoBulk d + 1
  | .map entries => uptoBulkEntries entries + 1
  | .held _ => 1
def uptoBulkAll {H : Type} : List (DataW H) → Nat
  | [] => 0
  | d :: r => uptoBulk d + uptoBulkAll r
def uptoBulkEntries {H : Type} : List (Lit × DataW H) → Nat
  | [] => 0
  | x :: r => uptoBulkEntry x + uptoBulkEntries r
def uptoBulkEntry {H : Type} : Lit × DataW H → Nat
  | (.string bytes, d) => bytes.length + uptoBulk d + 1
  | (_, d) => uptoBulk d + 1
 end
def uptoSmall : (H : Type) → List (DataW H) → Bool := fun _ ds => decide (uptoBulkAll ds ≤ 1048576)
def OpenSpec.upto (s : _root_.Go.ChangeSpec) : _root_.Go.OpenSpec := { _root_.Go.OpenSpec.ofChange s with cond := some uptoSmall }

/-- 'linkboylaw38.ProxyOffers', WHERE WHAT IT READS IS OF BULK AT MOST 1048576: true; the input reads as it did. -/
def proxyOffersUptoRow : OpenClaim := { program := "ytagfegkpgdaimaa", sum := "ece40596f5f54ca7e835a7b3920c297225292b107931ce76be941e71327a19c4", func := "linkboy/linkboylaw38.ProxyOffers", spec := "proxyOffers", apart := false, narrowed := true }
def ProxyOffersUptoSaid : Prop := proxyOffersUptoRow.holds Try.pinned (OpenSpec.upto proxyOffersSpec)

/-- 'linkboylaw38.ProxyAnswers', WHERE WHAT IT READS IS OF BULK AT MOST 1048576: true; the input reads as it did. -/
def proxyAnswersUptoRow : OpenClaim := { program := "ytagfegkpgdaimaa", sum := "ece40596f5f54ca7e835a7b3920c297225292b107931ce76be941e71327a19c4", func := "linkboy/linkboylaw38.ProxyAnswers", spec := "proxyAnswers", apart := false, narrowed := true }
def ProxyAnswersUptoSaid : Prop := proxyAnswersUptoRow.holds Try.pinned (OpenSpec.upto proxyAnswersSpec)

/-- 'linkboylaw38.ProxyJoins', WHERE WHAT IT READS IS OF BULK AT MOST 1048576: true; the input reads as it did. -/
def proxyJoinsUptoRow : OpenClaim := { program := "ytagfegkpgdaimaa", sum := "ece40596f5f54ca7e835a7b3920c297225292b107931ce76be941e71327a19c4", func := "linkboy/linkboylaw38.ProxyJoins", spec := "proxyJoins", apart := false, narrowed := true }
def ProxyJoinsUptoSaid : Prop := proxyJoinsUptoRow.holds Try.pinned (OpenSpec.upto proxyJoinsSpec)

end Rows
end Go.Proofs.Ytagfegkpgdaimaa
