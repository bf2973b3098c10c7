/- Rows of structs in blocks of the call's own: reading and writing at an index that is known by a name only. No project text. -/
import Derived.Test.YtbdlohjmifgcaaaSep7
set_option linter.unusedSimpArgs false
set_option linter.unusedVariables false
namespace Go.Sep
open Go.RowKit

def flat {α : Type} (enc : α → List Value) (l : List α) : List Value := l.flatMap enc
def lset {α : Type} (l : List α) (i : Int) (x : α) : List α := l.set i.toNat x
section
variable {α : Type} {enc : α → List Value} {sz : Nat}
theorem flat_len (hs : ∀ x, (enc x).length = sz) (l : List α) : (flat enc l).length = l.length * sz := by
  induction l with
  | nil => simp [flat]
  | cons x r ih => simp only [flat, List.flatMap_cons, List.length_append, List.length_cons] at *; rw [ih, hs, Nat.succ_mul, Nat.add_comm]
theorem flat_split (l : List α) (i : Nat) (hi : i < l.length) : flat enc l = flat enc (l.take i) ++ enc l[i] ++ flat enc (l.drop (i + 1)) := by
  have h1 : l = l.take i ++ l[i] :: l.drop (i + 1) := by rw [← List.drop_eq_getElem_cons hi, List.take_append_drop]
  have h2 : flat enc l = flat enc (l.take i ++ l[i] :: l.drop (i + 1)) := congrArg (flat enc) h1
  rw [h2]
  simp only [flat, List.flatMap_append, List.flatMap_cons, List.append_assoc]
theorem flat_nth (hs : ∀ x, (enc x).length = sz) (l : List α) (i : Nat) (hi : i < l.length) (j : Nat) (hj : j < sz) : nth (flat enc l) (i * sz + j) = nth (enc l[i]) j := by
  have hl : (flat enc (l.take i)).length = i * sz := by rw [flat_len hs, List.length_take]; congr 1; omega
  rw [nth_eq, nth_eq, flat_split l i hi, List.append_assoc, List.getElem?_append_right (by omega), hl, Nat.add_sub_cancel_left, List.getElem?_append_left (by rw [hs]; exact hj)]
theorem setNth_mid (p c r : List Value) (fo : Nat) (v : Value) (h : fo < c.length) : setNth (p ++ c ++ r) (p.length + fo) v = p ++ setNth c fo v ++ r := by
  rw [setNth_eq, setNth_eq, List.append_assoc, List.set_append_right _ _ (by omega), Nat.add_sub_cancel_left, List.set_append_left _ _ h, List.append_assoc]
theorem setNth_len (c : List Value) (i : Nat) (v : Value) : (setNth c i v).length = c.length := by rw [setNth_eq, List.length_set]
theorem putAt_mid2 (vs : List Value) : ∀ (p c r : List Value) (fo : Nat), fo + vs.length ≤ c.length → putAt (p ++ c ++ r) (p.length + fo) vs = p ++ putAt c fo vs ++ r := by
  induction vs with
  | nil => intro p c r fo _; rfl
  | cons v vs ih =>
    intro p c r fo h
    simp only [List.length_cons] at h
    simp only [putAt]
    rw [setNth_mid _ _ _ _ _ (by omega), Nat.add_assoc, ih _ _ _ _ (by rw [setNth_len]; omega)]
theorem flat_put (hs : ∀ x, (enc x).length = sz) (l : List α) (i : Nat) (hi : i < l.length) (fo : Nat) (vs : List Value) (hf : fo + vs.length ≤ sz) (x : α) (hx : putAt (enc l[i]) fo vs = enc x) :
    putAt (flat enc l) (i * sz + fo) vs = flat enc (l.set i x) := by
  have hl : (flat enc (l.take i)).length = i * sz := by rw [flat_len hs, List.length_take]; congr 1; omega
  rw [flat_split l i hi, ← hl, putAt_mid2 _ _ _ _ _ (by rw [hs]; exact hf), hx]
  have h2 : i < (l.set i x).length := by rw [List.length_set]; exact hi
  rw [flat_split (l.set i x) i h2]
  have h3 : (l.set i x).take i = l.take i := by rw [List.take_set, List.set_eq_of_length_le (by rw [List.length_take]; omega)]
  have h4 : (l.set i x).drop (i + 1) = l.drop (i + 1) := by rw [List.drop_set, if_pos (by omega)]
  rw [h3, h4]
  simp
end

theorem lget_at {α : Type} [Inhabited α] {l : List α} {i : Int} (h : 0 ≤ i ∧ i < l.length) : ∃ h2 : i.toNat < l.length, lget l i = l[i.toNat] :=
  ⟨by omega, by simp [lget, List.getD, show i.toNat < l.length by omega]⟩
theorem lset_len {α : Type} (l : List α) (i : Int) (x : α) : (lset l i x).length = l.length := List.length_set
theorem lget_lset {α : Type} [Inhabited α] (l : List α) (i j : Int) (x : α) (hi : 0 ≤ i ∧ i < l.length) (hj : 0 ≤ j) : lget (lset l i x) j = if j = i then x else lget l j := by
  have hi2 : i.toNat < l.length := by omega
  split
  · next h => subst h; simp [lget, lset, List.getD, hi2]
  · next h => simp [lget, lset, List.getD, List.getElem?_set_ne (show i.toNat ≠ j.toNat by omega)]

section
variable {P : Program} {B : World} {h : Own} {M : List Nat} {n : Nat} {e : Env}
variable {d : Option Tmp} {ty : TypeId} {ps : String} {af : Array Edge} {gd : Option (Nat × Bool)}
theorem RV.indexO {t el : TypeId} {x ix : Operand} {b len cap sz : Nat} {k : IntKind} {i : Int} [u : UndIs P t (.slice el)] [hs : SizeIs P el sz] (hx : ev e x = some (.slice (some ⟨b, 0, none⟩) len cap)) (hi : ev e ix = some (.int k i)) (hr : 0 ≤ i ∧ i < len) :
    RV P B h M n e ⟨d, .indexAddr t x ix, ty, ps, af, gd⟩ (.pointer (some ⟨b, i.toNat * sz, none⟩)) :=
  (RV.indexAddr hx hi hr).to (by rw [Addr.add_lit, Nat.zero_add])
theorem RV.loadF {α : Type} [Inhabited α] {enc : α → List Value} {l : List α} {i : Int} {fo sz : Nat} {t : TypeId} {x : Operand} {b : Nat} {bt : TypeId} {fz : Nat × Nat} {v : Value} [u : AggIs P t false]
    (hx : ev e x = some (.pointer (some ⟨b, i.toNat * sz + fo, none⟩))) [a : AtO h b (flat enc l) bt fz] (hs : ∀ x, (enc x).length = sz) (hi : 0 ≤ i ∧ i < l.length) (hf : Nat.blt fo sz = true) (hv : nth (enc (lget l i)) fo = some v) (hM : b ∉ M) :
    RV P B h M n e ⟨d, .load t x, ty, ps, af, gd⟩ v := by
  obtain ⟨h2, e2⟩ := lget_at hi
  refine .load hx (.own a.mem ?_) hM
  have hf' : fo < sz := by simpa [Nat.blt_eq] using hf
  rw [flat_nth hs l _ h2 fo hf', ← e2]; exact hv
theorem RV.loadF0 {α : Type} [Inhabited α] {enc : α → List Value} {l : List α} {i : Int} {sz : Nat} {t : TypeId} {x : Operand} {b : Nat} {bt : TypeId} {fz : Nat × Nat} {v : Value} [u : AggIs P t false]
    (hx : ev e x = some (.pointer (some ⟨b, i.toNat * sz, none⟩))) [a : AtO h b (flat enc l) bt fz] (hs : ∀ x, (enc x).length = sz) (hi : 0 ≤ i ∧ i < l.length) (hf : Nat.blt 0 sz = true) (hv : nth (enc (lget l i)) 0 = some v) (hM : b ∉ M) :
    RV P B h M n e ⟨d, .load t x, ty, ps, af, gd⟩ v := RV.loadF (fo := 0) hx hs hi hf hv hM
theorem RV.loadFA {α : Type} [Inhabited α] {enc : α → List Value} {l : List α} {i : Int} {sz : Nat} {t : TypeId} {x : Operand} {b : Nat} {bt : TypeId} {fz : Nat × Nat} [u : AggIs P t true] [us : SizeIs P t sz]
    (hx : ev e x = some (.pointer (some ⟨b, i.toNat * sz, none⟩))) [a : AtO h b (flat enc l) bt fz] (hs : ∀ x, (enc x).length = sz) (hi : 0 ≤ i ∧ i < l.length) (hM : b ∉ M) :
    RV P B h M n e ⟨d, .load t x, ty, ps, af, gd⟩ (.agg (enc (lget l i)).toArray) := by
  obtain ⟨h2, e2⟩ := lget_at hi
  refine .loadAgg hx (.ownAt a.mem (hs _) ?_) hM
  have hl : (flat enc (l.take i.toNat)).length = i.toNat * sz := by rw [flat_len hs, List.length_take]; congr 1; omega
  rw [flat_split l _ h2, ← hl, List.append_assoc, List.drop_left, e2]
  exact List.take_left' (hs _)
theorem EF.storeF {α : Type} [Inhabited α] {enc : α → List Value} {l : List α} {i : Int} {fo sz tz : Nat} (x' : α) {t : TypeId} {x y : Operand} {b : Nat} {v : Value} {vs : List Value} {bt : TypeId} {h' : Own} [hz : SizeIs P t tz]
    (hx : ev e x = some (.pointer (some ⟨b, i.toNat * sz + fo, none⟩))) (hy : ev e y = some v) (hs : ∀ x, (enc x).length = sz) (hi : 0 ≤ i ∧ i < l.length)
    (hc : v.cells = vs.toArray) (hl : vs.length = tz) (h1 : vs.all (·.oneCell') = true) (hf : fo + vs.length ≤ sz) (hp : putAt (enc (lget l i)) fo vs = enc x')
    [u : UpO h b (flat enc l) bt (flat enc (lset l i x')) h'] :
    EF P B h n e ⟨none, .store t x y, ty, ps, af, gd⟩ (fun _ h2 => h2 = h') := by
  obtain ⟨h2, e2⟩ := lget_at hi
  refine EF.store hx hy hc hl h1 (cs := flat enc l) (bt := bt) ?_ ?_
  · rw [flat_put hs l _ h2 fo vs hf x' (by rw [← e2]; exact hp)]
    exact u.upd
  · rw [Nat.ble_eq, flat_len hs]
    have : (i.toNat + 1) * sz ≤ l.length * sz := Nat.mul_le_mul_right _ h2
    rw [Nat.succ_mul] at this
    omega
theorem EF.storeF0 {α : Type} [Inhabited α] {enc : α → List Value} {l : List α} {i : Int} {sz tz : Nat} (x' : α) {t : TypeId} {x y : Operand} {b : Nat} {v : Value} {vs : List Value} {bt : TypeId} {h' : Own} [hz : SizeIs P t tz]
    (hx : ev e x = some (.pointer (some ⟨b, i.toNat * sz, none⟩))) (hy : ev e y = some v) (hs : ∀ x, (enc x).length = sz) (hi : 0 ≤ i ∧ i < l.length)
    (hc : v.cells = vs.toArray) (hl : vs.length = tz) (h1 : vs.all (·.oneCell') = true) (hf : 0 + vs.length ≤ sz) (hp : putAt (enc (lget l i)) 0 vs = enc x')
    [u : UpO h b (flat enc l) bt (flat enc (lset l i x')) h'] :
    EF P B h n e ⟨none, .store t x y, ty, ps, af, gd⟩ (fun _ h2 => h2 = h') := EF.storeF (fo := 0) x' hx hy hs hi hc hl h1 hf hp
end
end Go.Sep
namespace Go.Sep
open Go.RowKit
section
variable {P : Program} {B : World} {h : Own} {M : List Nat} {n : Nat} {e : Env}
variable {d : Option Tmp} {ty : TypeId} {ps : String} {af : Array Edge} {gd : Option (Nat × Bool)}
theorem RV.eqlP {xt yt te : TypeId} {x y : Operand} {p : Option Addr} [u : UndIs P xt (.pointer te)] (hx : ev e x = some (.pointer p)) (hy : ev e y = some (.pointer none)) :
    RV P B h M n e ⟨d, .binOp .eql xt x y yt, ty, ps, af, gd⟩ (.bool p.isNone) := .pure fun a g w => by
  have h1 : P.underlying xt = some (.pointer (P.pointee xt)) := by unfold Program.pointee; rw [u.eq]
  simp [execOp, g.eval hx, g.eval hy, eqGuard_at_pointer, run_eql_pointer_nil w xt p h1]
theorem RV.neqP {xt yt te : TypeId} {x y : Operand} {p : Option Addr} [u : UndIs P xt (.pointer te)] (hx : ev e x = some (.pointer p)) (hy : ev e y = some (.pointer none)) :
    RV P B h M n e ⟨d, .binOp .neq xt x y yt, ty, ps, af, gd⟩ (.bool (!p.isNone)) := .pure fun a g w => by
  have h1 : P.underlying xt = some (.pointer (P.pointee xt)) := by unfold Program.pointee; rw [u.eq]
  simp [execOp, g.eval hx, g.eval hy, eqGuard_at_pointer, run_neq_pointer_nil w xt p h1]
end
end Go.Sep
