/- Writing a field of an element of a row of structs that was appended to. No project text. -/
import Derived.Test.YtbdlohjmifgcaaaSep15
set_option linter.unusedSimpArgs false
set_option linter.unusedVariables false
namespace Go.Sep
open Go.RowKit
section
variable {P : Program} {B : World} {h : Own} {n : Nat} {e : Env}
variable {M : List Nat} {d : Option Tmp} {ty : TypeId} {ps : String} {af : Array Edge} {gd : Option (Nat × Bool)}
theorem EF.storeRF {α : Type} [Inhabited α] {enc : α → List Value} {l : List α} {i : Int} {fo sz tz c : Nat} (x' : α) {t el : TypeId} {x y : Operand} {A : Option Addr} {v : Value} {vs : List Value} {part H : Own} [us : SizeIs P t tz]
    (hx : ev e x = some (.pointer (some ((adr A (i.toNat * sz)).add fo)))) (hy : ev e y = some v) (hc : v.cells = vs.toArray) (hl : vs.length = tz) (h1 : vs.all (·.oneCell') = true) (hr : Row el sz (.slice A l.length c) l.length (flat enc l) part)
    [tk : TakeO h part H] (hs : ∀ x, (enc x).length = sz) (hi : 0 ≤ i ∧ i < l.length) (hf : fo + vs.length ≤ sz) (hp : putAt (enc (lget l i)) fo vs = enc x') :
    EF P B h n e ⟨none, .store t x y, ty, ps, af, gd⟩ (fun _ h' => ∃ part', Row el sz (.slice A l.length c) l.length (flat enc (lset l i x')) part' ∧ h' = part' ++ H) := by
  refine EF.perm tk.perm ?_
  obtain ⟨hi2, e2⟩ := lget_at hi
  rw [e2] at hp
  generalize hm : l.length = m at hr
  generalize hxs : flat enc l = xs at hr
  cases hr with
  | nil => omega
  | @mk b off _ _ cs _ a1 a2 a3 =>
    rw [← hxs] at a3
    have hfl := flat_len hs l
    rw [hm] at hfl
    have hx' : ev e x = some (.pointer (some ⟨b, off + (i.toNat * sz + fo), none⟩)) := by rw [hx]; simp [adr, Addr.add_lit, Nat.add_assoc]
    have h2 : i.toNat * sz + sz ≤ m * sz := by rw [← Nat.succ_mul]; exact Nat.mul_le_mul_right _ (by omega)
    have h3 : m * sz ≤ c * sz := Nat.mul_le_mul_right _ a1
    have hcs : cs = cs.take off ++ flat enc l ++ cs.drop (off + m * sz) := by
      rw [← a3, List.append_assoc, ← List.drop_drop, List.take_append_drop, List.take_append_drop]
    have hpl : (cs.take off).length = off := by rw [List.length_take]; omega
    have hput : putAt cs (off + (i.toNat * sz + fo)) vs = cs.take off ++ flat enc (lset l i x') ++ cs.drop (off + m * sz) := by
      have h4 := putAt_mid2 vs (cs.take off) (flat enc l) (cs.drop (off + m * sz)) (i.toNat * sz + fo) (by rw [hfl]; omega)
      rw [hpl, ← hcs, flat_put hs l i.toNat hi2 fo vs hf x' hp] at h4
      exact h4
    refine (EF.store (h' := (b, .cells (putAt cs (off + (i.toNat * sz + fo)) vs) el (0, 0)) :: H) hx' hy hc hl h1 .head (by simp only [Nat.ble_eq]; omega)).mono fun _ h' e => ?_
    subst e
    refine ⟨[(b, .cells (putAt cs (off + (i.toNat * sz + fo)) vs) el (0, 0))], ?_, rfl⟩
    have hfl2 : (flat enc (lset l i x')).length = m * sz := by rw [flat_len hs, lset_len, hm]
    rw [hput]
    refine .mk a1 ?_ ?_
    · simp only [List.length_append, hpl, hfl2, List.length_drop]; omega
    · rw [List.append_assoc, List.drop_left' hpl, List.take_left' hfl2]
end
end Go.Sep
namespace Go.Sep
open Go.RowKit
section
variable {P : Program} {B : World} {h : Own} {n : Nat} {e : Env}
variable {M : List Nat} {d : Option Tmp} {ty : TypeId} {ps : String} {af : Array Edge} {gd : Option (Nat × Bool)}
/-- a function with what it holds on to -/
theorem RV.makeFunc {f : FuncId} {cap : List Operand} {vs : List Value} (hv : evs e cap = some vs) : RV P B h M n e ⟨d, .makeFunc (.func f) #[] cap.toArray, ty, ps, af, gd⟩ (.func (.func f) #[] vs.toArray) := .pure fun a g w => by
  have := g.evs hv
  simp [execOp, Instr.makeFunc, this]
end
end Go.Sep
