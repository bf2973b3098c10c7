/- Structs compared by !=; arrays compared. No project text. -/
import Derived.Test.YtbdlohjmifgcaaaSep14
import Derived.ChangeKeysEq
set_option linter.unusedSimpArgs false
set_option linter.unusedVariables false
namespace Go.Sep
open Go.RowKit
section
variable {P : Program} {B : World} {h : Own} {n : Nat} {e : Env}
variable {M : List Nat} {d : Option Tmp} {ty : TypeId} {ps : String} {af : Array Edge} {gd : Option (Nat × Bool)}
theorem RV.neqAgg {xt yt : TypeId} {x y : Operand} {xs ys : List Value} {b : Bool} (hx : ev e x = some (.agg xs.toArray)) (hy : ev e y = some (.agg ys.toArray)) (hg : P.eqGuardType P.depth xt = false)
    (hu : P.underlying xt = some (.struct (P.fieldsOf xt))) (hs : P.stoodInHeld xt = false) (hr : ∀ w, (Op.eqFields 9999 xs.toArray ys.toArray (P.fieldsOf xt).toList).run P w = .ok b w) :
    RV P B h M n e ⟨d, .binOp .neq xt x y yt, ty, ps, af, gd⟩ (.bool (!b)) := .pure fun a g w => by
  have h1 := run_eqGuard_agg (P := P) w .neq xt x y xs.toArray ys.toArray hg
  have h2 := run_equalIn_agg (P := P) w 9999 xt xs.toArray ys.toArray hu hs
  have h3 := run_neq_struct (P := P) w xt xs.toArray ys.toArray
  rw [h2, hr] at h3
  simp only [execOp, g.eval hx, g.eval hy, Sem.run_bind, h1, h3, Result.andThen_ok]
  rfl
theorem run_items_self {P : Program} (w : World) {el : TypeId} {k : IntKind} (hu : P.underlying el = some (.int k)) (l : List Int) (ha : ∀ w, (isAgg el).run P w = .ok false w) : ∀ is : List Nat, (∀ i ∈ is, i < l.length) →
    (Op.eqItems 9999 el 1 (l.map (Value.int k)).toArray (l.map (Value.int k)).toArray is).run P w = .ok true w := by
  intro is
  induction is with
  | nil => intro _; simp [Op.eqItems]
  | cons i is ih =>
    intro hi
    have h1 : i < l.length := hi i List.mem_cons_self
    have hp : (part el (l.map (Value.int k)).toArray (i * 1)).run P w = .ok (.int k l[i]) w := by
      simp [part, ha, h1]
    simp only [Op.eqItems, Sem.run_bind, hp, Result.andThen_ok, run_equalIn_int w 9998 el k k l[i] l[i] hu]
    simpa using ih fun j hj => hi j (List.mem_cons_of_mem _ hj)
theorem run_arr_self (w : World) {t el : TypeId} {len : Nat} {k : IntKind} [u : UndIs P t (.array len el)] [ue : UndIs P el (.int k)] [us : SizeIs P el 1] [ua : AggIs P el false] {l : List Int} (hl : l.length = len) :
    (Op.equalIn 10000 t (.agg (l.map (Value.int k)).toArray) (.agg (l.map (Value.int k)).toArray)).run P w = .ok true w := by
  obtain ⟨i, hi⟩ := info_of_underlying ue.eq
  rw [run_equalIn_array w 9999 _ _ u.eq hi, cellsOf_eq (P := P) (e := el) w]
  exact run_items_self w ue.eq l ua.run _ fun j hj => by rw [hl]; exact List.mem_range.1 hj
/-- an array compared with itself -/
theorem RV.eqlArr {t yt el : TypeId} {len : Nat} {k : IntKind} {x y : Operand} {l : List Int} [u : UndIs P t (.array len el)] [ue : UndIs P el (.int k)] [us : SizeIs P el 1] [ua : AggIs P el false]
    (hx : ev e x = some (.agg (l.map (Value.int k)).toArray)) (hy : ev e y = some (.agg (l.map (Value.int k)).toArray)) (hl : l.length = len) (hg : P.eqGuardType P.depth t = false) :
    RV P B h M n e ⟨d, .binOp .eql t x y yt, ty, ps, af, gd⟩ (.bool true) := .pure fun a g w => by
  have h1 := run_eqGuard_agg (P := P) w .eql t x y (l.map (Value.int k)).toArray (l.map (Value.int k)).toArray hg
  have h3 := run_eql_struct (P := P) w t (l.map (Value.int k)).toArray (l.map (Value.int k)).toArray
  rw [run_arr_self (el := el) (k := k) w hl] at h3
  simp only [execOp, g.eval hx, g.eval hy, Sem.run_bind, h1, h3, Result.andThen_ok]
  rfl
theorem RV.neqArr {t yt el : TypeId} {len : Nat} {k : IntKind} {x y : Operand} {l : List Int} [u : UndIs P t (.array len el)] [ue : UndIs P el (.int k)] [us : SizeIs P el 1] [ua : AggIs P el false]
    (hx : ev e x = some (.agg (l.map (Value.int k)).toArray)) (hy : ev e y = some (.agg (l.map (Value.int k)).toArray)) (hl : l.length = len) (hg : P.eqGuardType P.depth t = false) :
    RV P B h M n e ⟨d, .binOp .neq t x y yt, ty, ps, af, gd⟩ (.bool false) := .pure fun a g w => by
  have h1 := run_eqGuard_agg (P := P) w .neq t x y (l.map (Value.int k)).toArray (l.map (Value.int k)).toArray hg
  have h3 := run_neq_struct (P := P) w t (l.map (Value.int k)).toArray (l.map (Value.int k)).toArray
  rw [run_arr_self (el := el) (k := k) w hl] at h3
  simp only [execOp, g.eval hx, g.eval hy, Sem.run_bind, h1, h3, Result.andThen_ok]
  rfl
end
theorem Upd.keep {h h' : Own} {b : Nat} {o o' : Blk} (u : Upd h b o o' h') {x : Nat × Blk} (hx : x ∈ h) (hn : x.1 ∉ [b]) : x ∈ h' := by
  induction u with
  | head =>
    rcases List.mem_cons.1 hx with rfl | hx
    · exact absurd List.mem_cons_self hn
    · exact List.mem_cons_of_mem _ hx
  | tail _ ih =>
    rcases List.mem_cons.1 hx with rfl | hx
    · exact List.mem_cons_self
    · exact List.mem_cons_of_mem _ (ih hx hn)
theorem fresh_ne {B : World} {h : Own} {b c : Nat} {k : Blk} (f : Fresh B h c) (hm : (b, k) ∈ h) : c ∉ [b] := by simpa using (f.2 _ hm).symm
theorem fresh_ne2 {B : World} {h : Own} {b c : Nat} {k : Blk} (f : Fresh B h c) (hm : (b, k) ∈ h) : b ∉ [c] := by simpa using f.2 _ hm
end Go.Sep
