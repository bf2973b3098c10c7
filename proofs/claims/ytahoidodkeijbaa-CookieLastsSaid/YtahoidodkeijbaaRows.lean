/-
  No cell of these rows narrows 'for every input' (looked for: loops, veiled, ifaces, maps, wideKeys, modest, calm, conditions, laid).
  DERIVED. THE GIVEN ROWS OF THIS SEAT. 3 by the template 'for every input the law returns true; each argument reads behind the call as it read before'; 0 by the template 'total and deterministic' (their statements: YtahoidodkeijbaaTotals.lean).
  GIVEN WITH THE SEED: the statements are not yours to turn. If you find one false, say at which input.
  Laid BY PROGRAM, IN A SANDBOX (cutbox-rows.mjs): the forced cells as the released guide's own fill.sh prints them over the translation 40070bff293c6eae… (all of the seat's roots in one cut). By AI agents, Wed Nov 11 2026. No macro, syntax, notation, axiom, sorry.
-/
import Derived.Test.YtahoidodkeijbaaChecked
import GoSem.Claim
import GoSem.ClaimJoined
import GoSem.ClaimMapViews
import Derived.JoinedTies
import Derived.KernelRfl
namespace Go.Proofs.Ytahoidodkeijbaa
/- THE CELL 'sum', in the pinned program and in every row, IS THE sha256 OF THE DUMP (.gsa) THAT YtahoidodkeijbaaProg.lean LOADS. Nothing in Lean hashes anything: it is a label: what it is worth is what the hold of that sum in a sandbox is worth. -/
noncomputable def Try.pinned : Pinned := { name := "ytahoidodkeijbaa", sum := "40070bff293c6eae2ca105249eae3b3d5db12e8703823e9499c9212e1e4fe369", checked := Try.checked }
namespace Rows
def none {H : Type} : Left H := { results := [], args := [] }

/-- 'linkboylaw27.CookieRight': WHATEVER THE INPUT: true; the input reads as it did. -/
def cookieRightSpec : ChangeSpec := { name := "cookieRight", fn := fun _ => fun
  | [d1, d2, d3, d4] => { results := [.lit (.bool true)], args := [d1, d2, d3, d4] }
  | _ => none }
def cookieRightRow : OpenClaim := { program := "ytahoidodkeijbaa", sum := "40070bff293c6eae2ca105249eae3b3d5db12e8703823e9499c9212e1e4fe369", func := "linkboy/linkboylaw27.CookieRight", spec := "cookieRight", apart := false }
def CookieRightSaid : Prop := cookieRightRow.holds Try.pinned (OpenSpec.ofChange cookieRightSpec)

/-- ITS FALSE NEIGHBOUR: 'it returns false'. Refute it at one input. -/
def cookieRightWrong : ChangeSpec := { name := "cookieRight", fn := fun _ => fun
  | [d1, d2, d3, d4] => { results := [.lit (.bool false)], args := [d1, d2, d3, d4] }
  | _ => none }
def CookieRightWrongFalsely : Prop := cookieRightRow.holds Try.pinned (OpenSpec.ofChange cookieRightWrong)

/-- 'linkboylaw27.CookieLasts': WHATEVER THE INPUT: true; the input reads as it did. -/
def cookieLastsSpec : ChangeSpec := { name := "cookieLasts", fn := fun _ => fun
  | [d1, d2, d3, d4, d5] => { results := [.lit (.bool true)], args := [d1, d2, d3, d4, d5] }
  | _ => none }
def cookieLastsRow : OpenClaim := { program := "ytahoidodkeijbaa", sum := "40070bff293c6eae2ca105249eae3b3d5db12e8703823e9499c9212e1e4fe369", func := "linkboy/linkboylaw27.CookieLasts", spec := "cookieLasts", apart := false }
def CookieLastsSaid : Prop := cookieLastsRow.holds Try.pinned (OpenSpec.ofChange cookieLastsSpec)

/-- ITS FALSE NEIGHBOUR: 'it returns false'. Refute it at one input. -/
def cookieLastsWrong : ChangeSpec := { name := "cookieLasts", fn := fun _ => fun
  | [d1, d2, d3, d4, d5] => { results := [.lit (.bool false)], args := [d1, d2, d3, d4, d5] }
  | _ => none }
def CookieLastsWrongFalsely : Prop := cookieLastsRow.holds Try.pinned (OpenSpec.ofChange cookieLastsWrong)

/-- 'linkboylaw27.CookieMakes': WHATEVER THE INPUT: true; the input reads as it did. -/
def cookieMakesSpec : ChangeSpec := { name := "cookieMakes", fn := fun _ => fun
  | [d1, d2, d3, d4, d5, d6] => { results := [.lit (.bool true)], args := [d1, d2, d3, d4, d5, d6] }
  | _ => none }
def cookieMakesRow : OpenClaim := { program := "ytahoidodkeijbaa", sum := "40070bff293c6eae2ca105249eae3b3d5db12e8703823e9499c9212e1e4fe369", func := "linkboy/linkboylaw27.CookieMakes", spec := "cookieMakes", apart := false }
def CookieMakesSaid : Prop := cookieMakesRow.holds Try.pinned (OpenSpec.ofChange cookieMakesSpec)

/-- ITS FALSE NEIGHBOUR: 'it returns false'. Refute it at one input. -/
def cookieMakesWrong : ChangeSpec := { name := "cookieMakes", fn := fun _ => fun
  | [d1, d2, d3, d4, d5, d6] => { results := [.lit (.bool false)], args := [d1, d2, d3, d4, d5, d6] }
  | _ => none }
def CookieMakesWrongFalsely : Prop := cookieMakesRow.holds Try.pinned (OpenSpec.ofChange cookieMakesWrong)

/- THE SECOND FORM. 'bulk': how many values and letters a reading holds, each counted each time it is reached (what is shared counts as often as it is met; a slice's spare places count too). A statement '..UptoSaid' is the law's where the arguments, and the package variables that the reading takes, are together of bulk at most 1048576: NARROWER than '..Said'. Prove '..Said' where nothing that the law and all that it calls make is longer than what came in: it says more and counts as full. Else prove '..UptoSaid'. A law counts once. -/
mutual
def uptoBulk {H : Type} : DataW H → Nat
  | .lit (.string bytes) => bytes.length + 1
  | .lit _ => 1
  | .nil => 1
  | .ptr d => uptoBulk d + 1
  | .slice elems spare => uptoBulkAll elems + uptoBulkAll spare + 1
  | .agg parts => uptoBulkAll parts + 1
  | .iface _ d => uptoBulk d + 1
  | .map entries => uptoBulkEntries entries + 1
  | .held _ => 1
def uptoBulkAll {H : Type} : List (DataW H) → Nat
  | [] => 0
  | d :: r => uptoBulk d + uptoBulkAll r
def uptoBulkEntries {H : Type} : List (Lit × DataW H) → Nat
  | [] => 0
  | x :: r => uptoBulkEntry x + uptoBulkEntries r
def uptoBulkEntry {H : Type} : Lit × DataW H → Nat
  | (.string bytes, d) => bytes.length + uptoBulk d + 1
  | (_, d) => uptoBulk d + 1
 end
def uptoSmall : (H : Type) → List (DataW H) → Bool := fun _ ds => decide (uptoBulkAll ds ≤ 1048576)
def OpenSpec.upto (s : _root_.Go.ChangeSpec) : _root_.Go.OpenSpec := { _root_.Go.OpenSpec.ofChange s with cond := some uptoSmall }

/-- 'linkboylaw27.CookieRight', WHERE WHAT IT READS IS OF BULK AT MOST 1048576: true; the input reads as it did. -/
def cookieRightUptoRow : OpenClaim := { program := "ytahoidodkeijbaa", sum := "40070bff293c6eae2ca105249eae3b3d5db12e8703823e9499c9212e1e4fe369", func := "linkboy/linkboylaw27.CookieRight", spec := "cookieRight", apart := false, narrowed := true }
def CookieRightUptoSaid : Prop := cookieRightUptoRow.holds Try.pinned (OpenSpec.upto cookieRightSpec)

/-- 'linkboylaw27.CookieLasts', WHERE WHAT IT READS IS OF BULK AT MOST 1048576: true; the input reads as it did. -/
def cookieLastsUptoRow : OpenClaim := { program := "ytahoidodkeijbaa", sum := "40070bff293c6eae2ca105249eae3b3d5db12e8703823e9499c9212e1e4fe369", func := "linkboy/linkboylaw27.CookieLasts", spec := "cookieLasts", apart := false, narrowed := true }
def CookieLastsUptoSaid : Prop := cookieLastsUptoRow.holds Try.pinned (OpenSpec.upto cookieLastsSpec)

/-- 'linkboylaw27.CookieMakes', WHERE WHAT IT READS IS OF BULK AT MOST 1048576: true; the input reads as it did. -/
def cookieMakesUptoRow : OpenClaim := { program := "ytahoidodkeijbaa", sum := "40070bff293c6eae2ca105249eae3b3d5db12e8703823e9499c9212e1e4fe369", func := "linkboy/linkboylaw27.CookieMakes", spec := "cookieMakes", apart := false, narrowed := true }
def CookieMakesUptoSaid : Prop := cookieMakesUptoRow.holds Try.pinned (OpenSpec.upto cookieMakesSpec)

end Rows
end Go.Proofs.Ytahoidodkeijbaa
