/- Rearranging what is known of memory. No project text. -/
import Derived.Test.YtjhflpangoddaaaSep8
set_option linter.unusedSimpArgs false
set_option linter.unusedVariables false
namespace Go.Sep
open Go.RowKit
instance (priority := 1900) SubO.nil {h : Own} : SubO [] h := ⟨List.nil_sublist _⟩
theorem perm_in (p pre : Own) (x : Nat × Blk) (r : Own) : (p ++ (pre ++ x :: r)).Perm (pre ++ x :: (p ++ r)) := by
  have h1 : (p ++ (pre ++ x :: r)).Perm (pre ++ (p ++ x :: r)) := by
    rw [← List.append_assoc, ← List.append_assoc]
    exact List.perm_append_comm.append_right _
  exact h1.trans (List.Perm.append_left pre List.perm_middle)
theorem perm_in1 (p pre : Own) (b x : Nat × Blk) (r : Own) : (p ++ (b :: (pre ++ x :: r))).Perm (b :: (pre ++ x :: (p ++ r))) :=
  List.perm_middle.trans ((perm_in p pre x r).cons b)
end Go.Sep
namespace Go.Sep
open Go.RowKit
section
variable {P : Program} {B : World} {f n : Nat} {R : Value → Own → Prop} {k : List Item} {e : Env} {h : Own}
/-- where several ways meet: what lies behind is shown once -/
theorem AK.cut {α : Type} (E : α → Env) (H : α → Own) (Inv : α → Prop) {c : Item} (hrest : ∀ x, Inv x → AK P B f n R k (E x) (H x))
    (hk : (∀ x, Inv x → AK P B f n R k (E x) (H x)) → AK P B f n R (c :: k) e h) : AK P B f n R (c :: k) e h := hk hrest
theorem AK.geOf {b : Nat} {o : Blk} (hm : (b, o) ∈ h) (hk : B.heap.size ≤ b → AK P B f n R k e h) : AK P B f n R k e h :=
  ⟨fun a w g m cs => (hk (m.ge _ hm)).run a w g m cs⟩
variable {M : List Nat} {d : Option Tmp} {ty : TypeId} {ps : String} {af : Array Edge} {gd : Option (Nat × Bool)}
/-- a field of an element of a slice of structs that came in -/
theorem RV.loadSF {α : Type} [Inhabited α] {h0 : Own} {t : TypeId} {x : Operand} {A : Option Addr} {i : Int} {fo sz : Nat} {enc : α → List Value} {l : List α} {len : Nat} {v : Value} [u : AggIs P t false]
    (hx : ev e x = some (.pointer (some ((adr A (i.toNat * sz)).add fo)))) (hs : Src B h0 A len sz (flat enc l)) [s : SubO h0 h] (hl : ∀ x, (enc x).length = sz) (hi : 0 ≤ i ∧ i < l.length) (hf : Nat.blt fo sz = true)
    (hv : nth (enc (lget l i)) fo = some v) (hM : ((adr A (i.toNat * sz)).add fo).block ∉ M) : RV P B h M n e ⟨d, .load t x, ty, ps, af, gd⟩ v := by
  obtain ⟨h2, e2⟩ := lget_at hi
  have hf' : fo < sz := by simpa [Nat.blt_eq] using hf
  have := hs.get (h := h) (k := i.toNat * sz + fo) (v := v) (by rw [← nth_eq, flat_nth hl l _ h2 fo hf', ← e2]; exact hv)
  refine .load hx ?_ hM
  rw [show (adr A (i.toNat * sz)).add fo = adr A (i.toNat * sz + fo) by unfold adr; rw [add_add]]
  exact this
end
end Go.Sep
