/- Numbers turned about. No project text. -/
import Derived.Test.YtbdlohjmifgcaaaSep18
set_option linter.unusedSimpArgs false
set_option linter.unusedVariables false
namespace Go.Sep
section
variable {P : Program} {B : World} {h : Own} {M : List Nat} {n : Nat} {e : Env} {d : Option Tmp} {ty : TypeId} {ps : String} {af : Array Edge} {gd : Option (Nat × Bool)}
theorem RV.neg {xt : TypeId} {x : Operand} {k : IntKind} {i : Int} (hx : ev e x = some (.int k i)) : RV P B h M n e ⟨d, .unOp .neg xt x, ty, ps, af, gd⟩ (.int k (k.wrap (0 - i))) := .pure fun a g w => by
  simp [execOp, g.eval hx, Op.unary, Op.intArith]
theorem RV.negK {xt : TypeId} {x : Operand} {k : IntKind} {i : Int} (hx : ev e x = some (.int k i)) (hr : k.min ≤ 0 - i ∧ 0 - i ≤ k.max) : RV P B h M n e ⟨d, .unOp .neg xt x, ty, ps, af, gd⟩ (.int k (-i)) := by
  have := RV.neg (P := P) (B := B) (h := h) (M := M) (n := n) (d := d) (ty := ty) (ps := ps) (af := af) (gd := gd) (xt := xt) hx
  rw [wrap_in hr.1 hr.2] at this
  rwa [show -i = 0 - i by omega]
end
end Go.Sep
