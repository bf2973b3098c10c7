/-
  No cell of these rows narrows 'for every input' (looked for: loops, veiled, ifaces, maps, wideKeys, modest, calm, conditions, laid).
  DERIVED. THE GIVEN ROWS OF THIS SEAT. 3 by the template 'for every input the law returns true; each argument reads behind the call as it read before'; 0 by the template 'total and deterministic' (their statements: YtdnajbdnlcehgaaTotals.lean).
  GIVEN WITH THE SEED: the statements are not yours to turn. If you find one false, say at which input.
  Laid BY PROGRAM, IN A SANDBOX (cutbox-rows.mjs): the forced cells as the released guide's own fill.sh prints them over the translation 69f85b524c3b1893… (all of the seat's roots in one cut). By AI agents, Wed Nov 11 2026. No macro, syntax, notation, axiom, sorry.
-/
import Derived.Test.YtdnajbdnlcehgaaChecked
import GoSem.Claim
import GoSem.ClaimJoined
import GoSem.ClaimMapViews
import Derived.JoinedTies
import Derived.KernelRfl
namespace Go.Proofs.Ytdnajbdnlcehgaa
/- THE CELL 'sum', in the pinned program and in every row, IS THE sha256 OF THE DUMP (.gsa) THAT YtdnajbdnlcehgaaProg.lean LOADS. Nothing in Lean hashes anything: it is a label: what it is worth is what the hold of that sum in a sandbox is worth. -/
noncomputable def Try.pinned : Pinned := { name := "ytdnajbdnlcehgaa", sum := "69f85b524c3b1893c911720a03054372b85e82451229cdb2662f2b1fac307a11", checked := Try.checked }
namespace Rows
def none {H : Type} : Left H := { results := [], args := [] }

/-- 'linkboylaw10.ToptPuts': WHATEVER THE INPUT: true; the input reads as it did. -/
def toptPutsSpec : ChangeSpec := { name := "toptPuts", fn := fun _ => fun
  | [d1, d2] => { results := [.lit (.bool true)], args := [d1, d2] }
  | _ => none }
def toptPutsRow : OpenClaim := { program := "ytdnajbdnlcehgaa", sum := "69f85b524c3b1893c911720a03054372b85e82451229cdb2662f2b1fac307a11", func := "linkboy/linkboylaw10.ToptPuts", spec := "toptPuts", apart := false }
def ToptPutsSaid : Prop := toptPutsRow.holds Try.pinned (OpenSpec.ofChange toptPutsSpec)

/-- ITS FALSE NEIGHBOUR: 'it returns false'. Refute it at one input. -/
def toptPutsWrong : ChangeSpec := { name := "toptPuts", fn := fun _ => fun
  | [d1, d2] => { results := [.lit (.bool false)], args := [d1, d2] }
  | _ => none }
def ToptPutsWrongFalsely : Prop := toptPutsRow.holds Try.pinned (OpenSpec.ofChange toptPutsWrong)

/-- 'linkboylaw10.ToptEnds': WHATEVER THE INPUT: true; the input reads as it did. -/
def toptEndsSpec : ChangeSpec := { name := "toptEnds", fn := fun _ => fun
  | [d1, d2] => { results := [.lit (.bool true)], args := [d1, d2] }
  | _ => none }
def toptEndsRow : OpenClaim := { program := "ytdnajbdnlcehgaa", sum := "69f85b524c3b1893c911720a03054372b85e82451229cdb2662f2b1fac307a11", func := "linkboy/linkboylaw10.ToptEnds", spec := "toptEnds", apart := false }
def ToptEndsSaid : Prop := toptEndsRow.holds Try.pinned (OpenSpec.ofChange toptEndsSpec)

/-- ITS FALSE NEIGHBOUR: 'it returns false'. Refute it at one input. -/
def toptEndsWrong : ChangeSpec := { name := "toptEnds", fn := fun _ => fun
  | [d1, d2] => { results := [.lit (.bool false)], args := [d1, d2] }
  | _ => none }
def ToptEndsWrongFalsely : Prop := toptEndsRow.holds Try.pinned (OpenSpec.ofChange toptEndsWrong)

/-- 'linkboylaw10.ToptReads': WHATEVER THE INPUT: true; the input reads as it did. -/
def toptReadsSpec : ChangeSpec := { name := "toptReads", fn := fun _ => fun
  | [d] => { results := [.lit (.bool true)], args := [d] }
  | _ => none }
def toptReadsRow : OpenClaim := { program := "ytdnajbdnlcehgaa", sum := "69f85b524c3b1893c911720a03054372b85e82451229cdb2662f2b1fac307a11", func := "linkboy/linkboylaw10.ToptReads", spec := "toptReads", apart := false }
def ToptReadsSaid : Prop := toptReadsRow.holds Try.pinned (OpenSpec.ofChange toptReadsSpec)

/-- ITS FALSE NEIGHBOUR: 'it returns false'. Refute it at one input. -/
def toptReadsWrong : ChangeSpec := { name := "toptReads", fn := fun _ => fun
  | [d] => { results := [.lit (.bool false)], args := [d] }
  | _ => none }
def ToptReadsWrongFalsely : Prop := toptReadsRow.holds Try.pinned (OpenSpec.ofChange toptReadsWrong)

/- THE SECOND FORM. 'bulk': how many values and letters a reading holds, each counted each time it is reached (what is shared counts as often as it is met; a slice's spare places count too). A statement '..UptoSaid' is the law's where the arguments, and the package variables that the reading takes, are together of bulk at most 1048576: NARROWER than '..Said'. Prove '..Said' where nothing that the law and all that it calls make is longer than what came in: it says more and counts as full. Else prove '..UptoSaid'. A law counts once. -/
mutual
def uptoBulk {H : Type} : DataW H → Nat
  | .lit (.string bytes) => bytes.length + 1
  | .lit _ => 1
  | .nil => 1
  | .ptr d => uptoBulk d + 1
  | .slice elems spare => uptoBulkAll elems + uptoBulkAll spare + 1
  | .agg parts => uptoBulkAll parts + 1
  | .iface _ d => uptoBulk d + 1
  | .map entries => uptoBulkEntries entries + 1
  | .held _ => 1
def uptoBulkAll {H : Type} : List (DataW H) → Nat
  | [] => 0
  | d :: r => uptoBulk d + uptoBulkAll r
def uptoBulkEntries {H : Type} : List (Lit × DataW H) → Nat
  | [] => 0
  | x :: r => uptoBulkEntry x + uptoBulkEntries r
def uptoBulkEntry {H : Type} : Lit × DataW H → Nat
  | (.string bytes, d) => bytes.length + uptoBulk d + 1
  | (_, d) => uptoBulk d + 1
 end
def uptoSmall : (H : Type) → List (DataW H) → Bool := fun _ ds => decide (uptoBulkAll ds ≤ 1048576)
def OpenSpec.upto (s : _root_.Go.ChangeSpec) : _root_.Go.OpenSpec := { _root_.Go.OpenSpec.ofChange s with cond := some uptoSmall }

/-- 'linkboylaw10.ToptPuts', WHERE WHAT IT READS IS OF BULK AT MOST 1048576: true; the input reads as it did. -/
def toptPutsUptoRow : OpenClaim := { program := "ytdnajbdnlcehgaa", sum := "69f85b524c3b1893c911720a03054372b85e82451229cdb2662f2b1fac307a11", func := "linkboy/linkboylaw10.ToptPuts", spec := "toptPuts", apart := false, narrowed := true }
def ToptPutsUptoSaid : Prop := toptPutsUptoRow.holds Try.pinned (OpenSpec.upto toptPutsSpec)

/-- 'linkboylaw10.ToptEnds', WHERE WHAT IT READS IS OF BULK AT MOST 1048576: true; the input reads as it did. -/
def toptEndsUptoRow : OpenClaim := { program := "ytdnajbdnlcehgaa", sum := "69f85b524c3b1893c911720a03054372b85e82451229cdb2662f2b1fac307a11", func := "linkboy/linkboylaw10.ToptEnds", spec := "toptEnds", apart := false, narrowed := true }
def ToptEndsUptoSaid : Prop := toptEndsUptoRow.holds Try.pinned (OpenSpec.upto toptEndsSpec)

/-- 'linkboylaw10.ToptReads', WHERE WHAT IT READS IS OF BULK AT MOST 1048576: true; the input reads as it did. -/
def toptReadsUptoRow : OpenClaim := { program := "ytdnajbdnlcehgaa", sum := "69f85b524c3b1893c911720a03054372b85e82451229cdb2662f2b1fac307a11", func := "linkboy/linkboylaw10.ToptReads", spec := "toptReads", apart := false, narrowed := true }
def ToptReadsUptoSaid : Prop := toptReadsUptoRow.holds Try.pinned (OpenSpec.upto toptReadsSpec)

end Rows
end Go.Proofs.Ytdnajbdnlcehgaa
