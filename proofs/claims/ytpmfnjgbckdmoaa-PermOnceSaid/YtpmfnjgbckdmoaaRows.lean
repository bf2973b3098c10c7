/-
  No cell of these rows narrows 'for every input' (looked for: loops, veiled, ifaces, maps, wideKeys, modest, calm, conditions, laid).
  DERIVED. THE GIVEN ROWS OF THIS SEAT. 2 by the template 'for every input the law returns true; each argument reads behind the call as it read before'; 0 by the template 'total and deterministic' (their statements: YtpmfnjgbckdmoaaTotals.lean).
  GIVEN WITH THE SEED: the statements are not yours to turn. If you find one false, say at which input.
  Laid BY PROGRAM, IN A SANDBOX (cutbox-rows.mjs): the forced cells as the released guide's own fill.sh prints them over the translation 93cb7c9ad557f4cf… (all of the seat's roots in one cut). By AI agents, Wed Nov 11 2026. No macro, syntax, notation, axiom, sorry.
-/
import Derived.Test.YtpmfnjgbckdmoaaChecked
import GoSem.Claim
import GoSem.ClaimJoined
import GoSem.ClaimMapViews
import Derived.JoinedTies
import Derived.KernelRfl
namespace Go.Proofs.Ytpmfnjgbckdmoaa
/- THE CELL 'sum', in the pinned program and in every row, IS THE sha256 OF THE DUMP (.gsa) THAT YtpmfnjgbckdmoaaProg.lean LOADS. Nothing in Lean hashes anything: it is a label: what it is worth is what the hold of that sum in a sandbox is worth. -/
noncomputable def Try.pinned : Pinned := { name := "ytpmfnjgbckdmoaa", sum := "93cb7c9ad557f4cf49e7e1f4228ceb4a224c4d670ce6a9c8d76857aa0250c165", checked := Try.checked }
namespace Rows
def none {H : Type} : Left H := { results := [], args := [] }

/-- 'linkboylaw18.PermOnce': WHATEVER THE INPUT: true; the input reads as it did. -/
def permOnceSpec : ChangeSpec := { name := "permOnce", fn := fun _ => fun
  | [d1, d2, d3] => { results := [.lit (.bool true)], args := [d1, d2, d3] }
  | _ => none }
def permOnceRow : OpenClaim := { program := "ytpmfnjgbckdmoaa", sum := "93cb7c9ad557f4cf49e7e1f4228ceb4a224c4d670ce6a9c8d76857aa0250c165", func := "linkboy/linkboylaw18.PermOnce", spec := "permOnce", apart := false }
def PermOnceSaid : Prop := permOnceRow.holds Try.pinned (OpenSpec.ofChange permOnceSpec)

/-- ITS FALSE NEIGHBOUR: 'it returns false'. Refute it at one input. -/
def permOnceWrong : ChangeSpec := { name := "permOnce", fn := fun _ => fun
  | [d1, d2, d3] => { results := [.lit (.bool false)], args := [d1, d2, d3] }
  | _ => none }
def PermOnceWrongFalsely : Prop := permOnceRow.holds Try.pinned (OpenSpec.ofChange permOnceWrong)

/-- 'linkboylaw18.PermRows': WHATEVER THE INPUT: true; the input reads as it did. -/
def permRowsSpec : ChangeSpec := { name := "permRows", fn := fun _ => fun
  | [d1, d2, d3, d4] => { results := [.lit (.bool true)], args := [d1, d2, d3, d4] }
  | _ => none }
def permRowsRow : OpenClaim := { program := "ytpmfnjgbckdmoaa", sum := "93cb7c9ad557f4cf49e7e1f4228ceb4a224c4d670ce6a9c8d76857aa0250c165", func := "linkboy/linkboylaw18.PermRows", spec := "permRows", apart := false }
def PermRowsSaid : Prop := permRowsRow.holds Try.pinned (OpenSpec.ofChange permRowsSpec)

/-- ITS FALSE NEIGHBOUR: 'it returns false'. Refute it at one input. -/
def permRowsWrong : ChangeSpec := { name := "permRows", fn := fun _ => fun
  | [d1, d2, d3, d4] => { results := [.lit (.bool false)], args := [d1, d2, d3, d4] }
  | _ => none }
def PermRowsWrongFalsely : Prop := permRowsRow.holds Try.pinned (OpenSpec.ofChange permRowsWrong)

/- THE SECOND FORM. 'bulk': how many values and letters a reading holds, each counted each time it is reached (what is shared counts as often as it is met; a slice's spare places count too). A statement '..UptoSaid' is the law's where the arguments, and the package variables that the reading takes, are together of bulk at most 1048576: NARROWER than '..Said'. Prove '..Said' where nothing that the law and all that it calls make is longer than what came in: it says more and counts as full. Else prove '..UptoSaid'. A law counts once. -/
mutual
def uptoBulk {H : Type} : DataW H → Nat
  | .lit (.string bytes) => bytes.length + 1
  | .lit _ => 1
  | .nil => 1
  | .ptr d => uptoBulk d + 1
  | .slice elems spare => uptoBulkAll elems + uptoBulkAll spare + 1
  | .agg parts => uptoBulkAll parts + 1
  | .iface _ d => uptoBulk d + 1
  | .map entries => uptoBulkEntries entries + 1
  | .held _ => 1
def uptoBulkAll {H : Type} : List (DataW H) → Nat
  | [] => 0
  | d :: r => uptoBulk d + uptoBulkAll r
def uptoBulkEntries {H : Type} : List (Lit × DataW H) → Nat
  | [] => 0
  | x :: r => uptoBulkEntry x + uptoBulkEntries r
def uptoBulkEntry {H : Type} : Lit × DataW H → Nat
  | (.string bytes, d) => bytes.length + uptoBulk d + 1
  | (_, d) => uptoBulk d + 1
 end
def uptoSmall : (H : Type) → List (DataW H) → Bool := fun _ ds => decide (uptoBulkAll ds ≤ 1048576)
def OpenSpec.upto (s : _root_.Go.ChangeSpec) : _root_.Go.OpenSpec := { _root_.Go.OpenSpec.ofChange s with cond := some uptoSmall }

/-- 'linkboylaw18.PermOnce', WHERE WHAT IT READS IS OF BULK AT MOST 1048576: true; the input reads as it did. -/
def permOnceUptoRow : OpenClaim := { program := "ytpmfnjgbckdmoaa", sum := "93cb7c9ad557f4cf49e7e1f4228ceb4a224c4d670ce6a9c8d76857aa0250c165", func := "linkboy/linkboylaw18.PermOnce", spec := "permOnce", apart := false, narrowed := true }
def PermOnceUptoSaid : Prop := permOnceUptoRow.holds Try.pinned (OpenSpec.upto permOnceSpec)

/-- 'linkboylaw18.PermRows', WHERE WHAT IT READS IS OF BULK AT MOST 1048576: true; the input reads as it did. -/
def permRowsUptoRow : OpenClaim := { program := "ytpmfnjgbckdmoaa", sum := "93cb7c9ad557f4cf49e7e1f4228ceb4a224c4d670ce6a9c8d76857aa0250c165", func := "linkboy/linkboylaw18.PermRows", spec := "permRows", apart := false, narrowed := true }
def PermRowsUptoSaid : Prop := permRowsUptoRow.holds Try.pinned (OpenSpec.upto permRowsSpec)

end Rows
end Go.Proofs.Ytpmfnjgbckdmoaa
