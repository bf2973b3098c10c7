/-
  No cell of these rows narrows 'for every input' (looked for: loops, veiled, ifaces, maps, wideKeys, modest, calm, conditions, laid).
  DERIVED. THE GIVEN ROWS OF THIS SEAT. 3 by the template 'for every input the law returns true; each argument reads behind the call as it read before'; 0 by the template 'total and deterministic' (their statements: YtpobjhmbonojkaaTotals.lean).
  GIVEN WITH THE SEED: the statements are not yours to turn. If you find one false, say at which input.
  Laid BY PROGRAM, IN A SANDBOX (cutbox-rows.mjs): the forced cells as the released guide's own fill.sh prints them over the translation 82d362eb73aef5b6… (all of the seat's roots in one cut). By AI agents, Wed Nov 11 2026. No macro, syntax, notation, axiom, sorry.
-/
import Derived.Test.YtpobjhmbonojkaaChecked
import GoSem.Claim
import GoSem.ClaimJoined
import GoSem.ClaimMapViews
import Derived.JoinedTies
import Derived.KernelRfl
namespace Go.Proofs.Ytpobjhmbonojkaa
/- THE CELL 'sum', in the pinned program and in every row, IS THE sha256 OF THE DUMP (.gsa) THAT YtpobjhmbonojkaaProg.lean LOADS. Nothing in Lean hashes anything: it is a label: what it is worth is what the hold of that sum in a sandbox is worth. -/
noncomputable def Try.pinned : Pinned := { name := "ytpobjhmbonojkaa", sum := "82d362eb73aef5b610326c19cf1f05a412c5ea8643e45a5d100720e3c8a74571", checked := Try.checked }
namespace Rows
def none {H : Type} : Left H := { results := [], args := [] }

/-- 'linkboylaw16.NicOrder': WHATEVER THE INPUT: true; the input reads as it did. -/
def nicOrderSpec : ChangeSpec := { name := "nicOrder", fn := fun _ => fun
  | [d1, d2, d3] => { results := [.lit (.bool true)], args := [d1, d2, d3] }
  | _ => none }
def nicOrderRow : OpenClaim := { program := "ytpobjhmbonojkaa", sum := "82d362eb73aef5b610326c19cf1f05a412c5ea8643e45a5d100720e3c8a74571", func := "linkboy/linkboylaw16.NicOrder", spec := "nicOrder", unfollowed := true, recurses := true, apart := false }
def NicOrderSaid : Prop := nicOrderRow.holds Try.pinned (OpenSpec.ofChange nicOrderSpec)

/-- ITS FALSE NEIGHBOUR: 'it returns false'. Refute it at one input. -/
def nicOrderWrong : ChangeSpec := { name := "nicOrder", fn := fun _ => fun
  | [d1, d2, d3] => { results := [.lit (.bool false)], args := [d1, d2, d3] }
  | _ => none }
def NicOrderWrongFalsely : Prop := nicOrderRow.holds Try.pinned (OpenSpec.ofChange nicOrderWrong)

/-- 'linkboylaw16.NicDoes': WHATEVER THE INPUT: true; the input reads as it did. -/
def nicDoesSpec : ChangeSpec := { name := "nicDoes", fn := fun _ => fun
  | [d1, d2, d3] => { results := [.lit (.bool true)], args := [d1, d2, d3] }
  | _ => none }
def nicDoesRow : OpenClaim := { program := "ytpobjhmbonojkaa", sum := "82d362eb73aef5b610326c19cf1f05a412c5ea8643e45a5d100720e3c8a74571", func := "linkboy/linkboylaw16.NicDoes", spec := "nicDoes", unfollowed := true, recurses := true, apart := false }
def NicDoesSaid : Prop := nicDoesRow.holds Try.pinned (OpenSpec.ofChange nicDoesSpec)

/-- ITS FALSE NEIGHBOUR: 'it returns false'. Refute it at one input. -/
def nicDoesWrong : ChangeSpec := { name := "nicDoes", fn := fun _ => fun
  | [d1, d2, d3] => { results := [.lit (.bool false)], args := [d1, d2, d3] }
  | _ => none }
def NicDoesWrongFalsely : Prop := nicDoesRow.holds Try.pinned (OpenSpec.ofChange nicDoesWrong)

/-- 'linkboylaw16.NicBounds': WHATEVER THE INPUT: true; the input reads as it did. -/
def nicBoundsSpec : ChangeSpec := { name := "nicBounds", fn := fun _ => fun
  | [d1, d2, d3] => { results := [.lit (.bool true)], args := [d1, d2, d3] }
  | _ => none }
def nicBoundsRow : OpenClaim := { program := "ytpobjhmbonojkaa", sum := "82d362eb73aef5b610326c19cf1f05a412c5ea8643e45a5d100720e3c8a74571", func := "linkboy/linkboylaw16.NicBounds", spec := "nicBounds", unfollowed := true, recurses := true, apart := false }
def NicBoundsSaid : Prop := nicBoundsRow.holds Try.pinned (OpenSpec.ofChange nicBoundsSpec)

/-- ITS FALSE NEIGHBOUR: 'it returns false'. Refute it at one input. -/
def nicBoundsWrong : ChangeSpec := { name := "nicBounds", fn := fun _ => fun
  | [d1, d2, d3] => { results := [.lit (.bool false)], args := [d1, d2, d3] }
  | _ => none }
def NicBoundsWrongFalsely : Prop := nicBoundsRow.holds Try.pinned (OpenSpec.ofChange nicBoundsWrong)

/- THE SECOND FORM. 'bulk': how many values and letters a reading holds, each counted each time it is reached (what is shared counts as often as it is met; a slice's spare places count too). A statement '..UptoSaid' is the law's where the arguments, and the package variables that the reading takes, are together of bulk at most 1048576: NARROWER than '..Said'. Prove '..Said' where nothing that the law and all that it calls make is longer than what came in: it says more and counts as full. Else prove '..UptoSaid'. A law counts once. -/
mutual
def uptoBulk {H : Type} : DataW H → Nat
  | .lit (.string bytes) => bytes.length + 1
  | .lit _ => 1
  | .nil => 1
  | .ptr d => uptoBulk d + 1
  | .slice elems spare => uptoBulkAll elems + uptoBulkAll spare + 1
  | .agg parts => uptoBulkAll parts + 1
  | .iface _ d => uptoBulk d + 1
  | .map entries => uptoBulkEntries entries + 1
  | .held _ => 1
def uptoBulkAll {H : Type} : List (DataW H) → Nat
  | [] => 0
  | d :: r => uptoBulk d + uptoBulkAll r
def uptoBulkEntries {H : Type} : List (Lit × DataW H) → Nat
  | [] => 0
  | x :: r => uptoBulkEntry x + uptoBulkEntries r
def uptoBulkEntry {H : Type} : Lit × DataW H → Nat
  | (.string bytes, d) => bytes.length + uptoBulk d + 1
  | (_, d) => uptoBulk d + 1
 end
def uptoSmall : (H : Type) → List (DataW H) → Bool := fun _ ds => decide (uptoBulkAll ds ≤ 1048576)
def OpenSpec.upto (s : _root_.Go.ChangeSpec) : _root_.Go.OpenSpec := { _root_.Go.OpenSpec.ofChange s with cond := some uptoSmall }

/-- 'linkboylaw16.NicOrder', WHERE WHAT IT READS IS OF BULK AT MOST 1048576: true; the input reads as it did. -/
def nicOrderUptoRow : OpenClaim := { program := "ytpobjhmbonojkaa", sum := "82d362eb73aef5b610326c19cf1f05a412c5ea8643e45a5d100720e3c8a74571", func := "linkboy/linkboylaw16.NicOrder", spec := "nicOrder", unfollowed := true, recurses := true, apart := false, narrowed := true }
def NicOrderUptoSaid : Prop := nicOrderUptoRow.holds Try.pinned (OpenSpec.upto nicOrderSpec)

/-- 'linkboylaw16.NicDoes', WHERE WHAT IT READS IS OF BULK AT MOST 1048576: true; the input reads as it did. -/
def nicDoesUptoRow : OpenClaim := { program := "ytpobjhmbonojkaa", sum := "82d362eb73aef5b610326c19cf1f05a412c5ea8643e45a5d100720e3c8a74571", func := "linkboy/linkboylaw16.NicDoes", spec := "nicDoes", unfollowed := true, recurses := true, apart := false, narrowed := true }
def NicDoesUptoSaid : Prop := nicDoesUptoRow.holds Try.pinned (OpenSpec.upto nicDoesSpec)

/-- 'linkboylaw16.NicBounds', WHERE WHAT IT READS IS OF BULK AT MOST 1048576: true; the input reads as it did. -/
def nicBoundsUptoRow : OpenClaim := { program := "ytpobjhmbonojkaa", sum := "82d362eb73aef5b610326c19cf1f05a412c5ea8643e45a5d100720e3c8a74571", func := "linkboy/linkboylaw16.NicBounds", spec := "nicBounds", unfollowed := true, recurses := true, apart := false, narrowed := true }
def NicBoundsUptoSaid : Prop := nicBoundsUptoRow.holds Try.pinned (OpenSpec.upto nicBoundsSpec)

end Rows
end Go.Proofs.Ytpobjhmbonojkaa
