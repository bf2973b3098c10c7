/- Texts that are built; arrays at an index; a builder of texts. No project text. -/
import Derived.Test.YtbdlohjmifgcaaaSep16
import Derived.Lib.AppendStr
import Derived.Lib.UnsafeStr
import Derived.Lib.Builder
import Derived.Laws.Concat
import Derived.Laws.Strings2
import Derived.Laws.Append
set_option linter.unusedSimpArgs false
set_option linter.unusedVariables false
namespace Go.Sep
open Go.RowKit
theorem strL_data (l : List Int) : (strL l).data.toList = l.map (fun n => UInt8.ofNat n.toNat) := by
  have := foldl_push l ByteArray.empty
  simpa [strL] using this
theorem strL_size (l : List Int) : (strL l).size = l.length := by
  show (strL l).data.size = _
  rw [← Array.length_toList, strL_data, List.length_map]
theorem strL_app (l m : List Int) : strL (l ++ m) = strL l ++ strL m := by
  apply ByteArray.ext
  apply Array.ext'
  rw [ByteArray.data_append, Array.toList_append, strL_data, strL_data, strL_data, List.map_append]
theorem u8_nat {x : Int} (h : 0 ≤ x ∧ x ≤ 255) : ((UInt8.ofNat x.toNat).toNat : Int) = x := by
  simp only [UInt8.toNat_ofNat']
  omega
theorem strL_cells {l : List Int} (h : ∀ x ∈ l, 0 ≤ x ∧ x ≤ 255) : Lib.strCells (strL l) = l.map (fun x => Value.int .u8 x) := by
  rw [Lib.strCells, strL_data, List.map_map]
  refine List.map_congr_left fun x hx => ?_
  show Value.int .u8 ((UInt8.ofNat x.toNat).toNat : Nat) = .int .u8 x
  rw [u8_nat (h x hx)]
section
variable {P : Program} {B : World} {h : Own} {n : Nat} {e : Env}
variable {M : List Nat} {d : Option Tmp} {ty : TypeId} {ps : String} {af : Array Edge} {gd : Option (Nat × Bool)}
theorem RV.addStr {xt yt : TypeId} {x y : Operand} {a b : List Int} (hx : ev e x = some (.string (strL a))) (hy : ev e y = some (.string (strL b))) (hl : a.length + b.length ≤ 8388608) :
    RV P B h M n e ⟨d, .binOp .add xt x y yt, ty, ps, af, gd⟩ (.string (strL (a ++ b))) := .pure fun a' g w => by
  have h1 := run_string_add_sum (P := P) w (strL a) (strL b) (by rw [strL_size, strL_size]; omega)
  rw [strL_app]
  simp [execOp, g.eval hx, g.eval hy, eqGuard, binOp_string_add, h1]
theorem RV.neqStr {xt yt : TypeId} {x y : Operand} {a b : ByteArray} [u : UndIs P xt .string] (hx : ev e x = some (.string a)) (hy : ev e y = some (.string b)) :
    RV P B h M n e ⟨d, .binOp .neq xt x y yt, ty, ps, af, gd⟩ (.bool !(a.toList == b.toList)) := .pure fun a' g w => by
  have _ := u.eq
  simp [execOp, g.eval hx, g.eval hy, eqGuard_at_string, binOp_string_neq]
theorem RV.indexStr {t : TypeId} {x ix : Operand} {l : List Int} {k : IntKind} {i : Int} [u : UndIs P t .string] (hx : ev e x = some (.string (strL l))) (hi : ev e ix = some (.int k i)) (hb : ∀ x ∈ l, 0 ≤ x ∧ x ≤ 255) (hr : 0 ≤ i ∧ i < l.length) :
    RV P B h M n e ⟨d, .index t x ix, ty, ps, af, gd⟩ (.int .u8 (lget l i)) := .pure fun a' g w => by
  have h1 := run_index_string (P := P) w t (strL l) k i u.eq
  have h2 : 0 ≤ i ∧ i < (strL l).size := by rw [strL_size]; exact hr
  have h3 : i.toNat < l.length := by omega
  have h4 : ((strL l)[i.toNat]'(by omega)) = UInt8.ofNat (l[i.toNat]).toNat := by
    show (strL l).data[i.toNat]'_ = _
    rw [← Array.getElem_toList]
    simp only [strL_data, List.getElem_map]
  rw [dif_pos h2, h4, u8_nat (hb _ (List.getElem_mem h3))] at h1
  have h5 : lget l i = l[i.toNat] := by simp [lget, List.getD, h3]
  rw [h5]
  simp [execOp, g.eval hx, g.eval hi, h1]
theorem strL_extract (l : List Int) (a b : Nat) : (strL l).extract a b = strL ((l.drop a).take (b - a)) := by
  apply ByteArray.ext
  apply Array.ext'
  rw [strL_data, ByteArray.data_extract, Array.toList_extract, List.extract_eq_take_drop, strL_data, List.map_take, List.map_drop]
theorem RV.sliceStr {t : TypeId} {x lo hi : Operand} {l : List Int} {k k' : IntKind} {i j : Int} [u : UndIs P t .string] (hx : ev e x = some (.string (strL l))) (hl : ev e lo = some (.int k i)) (hh : ev e hi = some (.int k' j)) (hr : 0 ≤ i ∧ i ≤ j ∧ j ≤ l.length) :
    RV P B h M n e ⟨d, .slice t x (some lo) (some hi) none, ty, ps, af, gd⟩ (.string (strL ((l.drop i.toNat).take (j.toNat - i.toNat)))) := .pure fun a' g w => by
  have h1 := run_slice_string (P := P) w t (strL l) k k' i j u.eq hr.1 hr.2.1 (by rw [strL_size]; exact hr.2.2)
  rw [strL_extract] at h1
  simp [execOp, g.eval hx, g.eval hl, g.eval hh, Instr.sliceAt, u.run, h1]
/-! ### a row of bytes that begins its block -/
inductive Row0 (el : Nat) : List Int → Value → Own → Prop where
  | nil : Row0 el [] (.slice none 0 0) []
  | mk {b cap : Nat} {cs : List Value} {xs : List Int} : xs ≠ [] → xs.length ≤ cap → cap ≤ cs.length → cs.take xs.length = xs.map (fun x => Value.int .u8 x) → Row0 el xs (.slice (some ⟨b, 0, none⟩) xs.length cap) [(b, .cells cs el (0, 0))]
/-- bytes of a text behind it -/
theorem EF.appendStr {bt st el bytes : TypeId} {s x : Operand} {sv : Value} {xs ys : List Int} {part H : Own} [u : UndIs P bt (.slice el)] [us : UndIs P st .string] [hi : ElemIs P el 1 bytes (.int .u8 0)] [hsz : SizeIs P el 1]
    (hs : ev e s = some sv) (hx : ev e x = some (.string (strL ys))) (hr : Row0 el xs sv part) [tk : TakeO h part H] (hy0 : ys ≠ []) (hyb : ∀ x ∈ ys, 0 ≤ x ∧ x ≤ 255) (hb : bytes = 1) (hl : xs.length + ys.length ≤ 8388608) :
    EF P B h n e ⟨d, .call { callee := .builtin .append, args := #[s, x], argTypes := #[bt, st] }, ty, ps, af, gd⟩ (fun v h' => ∃ part', Row0 el (xs ++ ys) v part' ∧ h' = part' ++ H) :=
  .of_run fun a w g mm => by
    have mp := mm.perm tk.perm
    obtain ⟨i, hii, hi1, hi2, hi3⟩ := hi.ex
    subst hb
    have hsize := strL_size ys
    have hyl : 0 < ys.length := List.length_pos_iff.2 hy0
    have ex : ∀ (v : Value) (w' : World), (Builtin.append_ #[bt, st] ty #[sv, .string (strL ys)]).run P w = .ok v w' → (execOp a.eval ⟨d, .call { callee := .builtin .append, args := #[s, x], argTypes := #[bt, st] }, ty, ps, af, gd⟩).run P w = .ok (.value v) w' := by
      intro v w' hv
      simp [execOp, resolve, invoke, builtin, g.eval hs, g.eval hx, hv]
    have hcells := strL_cells hyb
    have hne : xs ++ ys ≠ [] := by simp [hy0]
    have grown : ∀ (old : Nat), old < xs.length + ys.length → Row0 el (xs ++ ys) (.slice (some ⟨w.heap.size, 0, none⟩) (xs.length + ys.length) (grownCap w (xs.length + ys.length) old el))
        [(w.heap.size, .cells ((xs.map (fun x => Value.int .u8 x)) ++ (ys.map (fun x => Value.int .u8 x)) ++ (Builtin.zeroCells (Value.int .u8 0).cells (grownCap w (xs.length + ys.length) old el - (xs.length + ys.length))).toList) el (0, 0))] := fun old hlt => by
      have hge := grownCap_ge w (xs.length + ys.length) old el
      have e1 : xs.length + ys.length = (xs ++ ys).length := by simp
      rw [e1] at hge ⊢
      refine .mk hne hge ?_ ?_
      · have : (Builtin.zeroCells (Value.int .u8 0).cells (grownCap w (xs ++ ys).length old el - (xs ++ ys).length)).toList.length = grownCap w (xs ++ ys).length old el - (xs ++ ys).length := by rw [Array.length_toList, size_zeroCells]; simp [Value.cells]
        simp only [List.length_append, List.length_map, this]
        simp only [List.length_append] at *; omega
      · rw [← List.map_append, List.take_left' (by rw [List.length_map])]
    cases hr with
    | nil =>
      have hr2 := run_append_nil_string (P := P) w bt st ty el i (.int .u8 0) u.eq us.eq hii hi3 (strL ys) (by rw [hsize]; omega) (by rw [hsize]; omega) (by rw [hsize, hi2]; omega)
      rw [hsize] at hr2
      have gr := grown 0 (by simp; omega)
      simp only [List.length_nil, Nat.zero_add, List.map_nil, List.nil_append] at gr
      have hd : Array.map (fun b : UInt8 => Value.int IntKind.u8 (b.toNat : Int)) (strL ys).data = (ys.map (fun x => Value.int .u8 x)).toArray := by
        apply Array.ext'
        rw [Array.toList_map]
        exact hcells
      rw [hd] at hr2
      refine ⟨_, _, _, ex _ _ hr2, ?_, _, by simpa using gr, rfl⟩
      have := mp.drew.alloc (.cells ((ys.map (fun x => Value.int .u8 x)) ++ (Builtin.zeroCells (Value.int .u8 0).cells (grownCap w ys.length 0 el - ys.length)).toList) el (0, 0))
      rw [Blk.toObj, toArray_app] at this
      exact this
    | @mk b cap cs _ a0 a1 a2 a3 =>
      have hblk := mp.at_ (b, Blk.cells cs el (0, 0)) (by simp)
      by_cases hroom : xs.length + ys.length ≤ cap
      · have hr2 := Lib.run_append_room_string (P := P) w bt st ty el i u.eq us.eq hii hi1 b xs.length cap cs.toArray hblk (strL ys) (by rw [hsize]; exact hroom) (by rw [hsize, List.size_toArray]; omega)
        rw [hsize, hcells] at hr2
        have e1 : xs.length + ys.length = (xs ++ ys).length := by simp
        refine ⟨_, _, _, ex _ _ hr2, setRow_models mp .head, [(b, .cells (cs.take xs.length ++ ys.map (fun x => Value.int .u8 x) ++ cs.drop (xs.length + ys.length)) el (0, 0))], ?_, by simp⟩
        rw [e1]
        refine .mk hne (by rw [← e1]; exact hroom) ?_ ?_
        · simp only [List.length_append, List.length_take, List.length_map, List.length_drop]; omega
        · rw [a3, ← List.map_append, List.take_left' (by rw [List.length_map])]
      · have holds : ∀ j v, (xs.map (fun x => Value.int .u8 x))[j]? = some v → w.cell? ((⟨b, 0, none⟩ : Addr).add j) = some v := fun j v hv => by
          rw [← a3] at hv
          have hj : cs[j]? = some v := by
            rw [List.getElem?_take] at hv
            split at hv
            · exact hv
            · cases hv
          rw [Addr.add_lit, Nat.zero_add]
          simp [World.cell?, hblk, Blk.toObj, hj]
        have hr2 := Lib.run_append_grow_string (P := P) w bt st ty el i (.int .u8 0) u.eq us.eq hii hi3 ⟨b, 0, none⟩ xs.length cap (xs.map (fun x => Value.int .u8 x)) (by rw [hi1]; simp) holds (strL ys) (by rw [hsize]; omega) (by rw [hsize]; omega) (by rw [hsize]; exact growslice_fits (by omega) (by rw [hi2]; omega))
        rw [hsize, hcells] at hr2
        refine ⟨_, _, _, ex _ _ hr2, ?_, _, grown cap (by omega), rfl⟩
        have := (mp.drew.sub (h' := H) (by simp)).alloc (.cells ((xs.map (fun x => Value.int .u8 x)) ++ (ys.map (fun x => Value.int .u8 x)) ++ (Builtin.zeroCells (Value.int .u8 0).cells (grownCap w (xs.length + ys.length) cap el - (xs.length + ys.length))).toList) el (0, 0))
        rw [Blk.toObj, toArray_app, ← List.append_toArray] at this
        exact this
end
end Go.Sep
