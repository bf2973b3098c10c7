/- Arrays in blocks and in arguments; pointers to anything; builders. No project text. -/
import Derived.Test.YtbdlohjmifgcaaaSep17
import Derived.OpenShut
set_option linter.unusedSimpArgs false
set_option linter.unusedVariables false
namespace Go.Sep
open Go.RowKit Go.WideShapes
section
variable {P : Program} {w : World} {t : TypeId}
def intOf : Value → Int
  | .int _ a => a
  | _ => 0
theorem Dec.arr {n : Nat} {e : TypeId} {k : IntKind} [u : UndIs P t (.array n e)] [ue : UndIs P e (.int k)] [us : SizeIs P e 1] (ht : P.cellsOf t = n) : Dec P w t (fun l : List Int => l.map (Value.int k)) (fun l => l.length = n ∧ ∀ x ∈ l, k.min ≤ x ∧ x ≤ k.max) := fun H en base fuel cs x h => by
  obtain ⟨xs, m, _, _, hl, hxl, hf⟩ := DataW.trod_array u.eq h
  have hce : P.cellsOf e = 1 := cellsOf_eq w
  rw [ht] at hl
  have key : ∀ i : Nat, i < n → ∃ a, cs[i]? = some (Value.int k a) ∧ k.min ≤ a ∧ a ≤ k.max := fun i hi => by
    have h1 := hf i hi
    rw [hce, Nat.mul_one, List.getElem?_eq_getElem (by omega)] at h1
    obtain ⟨a, ha, hp⟩ := (Dec.int (P := P) (w := w) (t := e) (k := k)) _ _ _ _ _ _ h1
    have h2 : ((cs.drop i).take 1)[0]? = some (Value.int k a) := by rw [ha]; rfl
    rw [List.getElem?_take, if_pos (by omega), List.getElem?_drop, Nat.add_zero] at h2
    exact ⟨a, h2, hp⟩
  refine ⟨cs.map intOf, ?_, by rw [List.length_map, hl], fun x hx => ?_⟩
  · apply List.ext_getElem?
    intro i
    show cs[i]? = ((cs.map intOf).map (Value.int k))[i]?
    rw [List.map_map, List.getElem?_map]
    rcases Nat.lt_or_ge i n with hi | hi
    · obtain ⟨a, ha, _⟩ := key i hi
      rw [ha]; rfl
    · rw [List.getElem?_eq_none (by omega)]; rfl
  · obtain ⟨v, hv, rfl⟩ := List.mem_map.1 hx
    obtain ⟨i, hi, rfl⟩ := List.getElem_of_mem hv
    obtain ⟨a, ha, hb⟩ := key i (by omega)
    rw [List.getElem?_eq_getElem hi] at ha
    injection ha with ha
    rw [ha]; exact hb
theorem Dec.argT {H : Type} {en : TypeId × Value → H} {n : Nat} {e : TypeId} {k : IntKind} {v : Value} {d : DataW H} {ps : List MemPlace} {base b0 : Nat} {r : Reach} [u : UndIs P t (.array n e)] [ue : UndIs P e (.int k)] [us : SizeIs P e 1]
    (hval : Value.okWide P w r b0 t v) (ht : DataW.Trod en P w base (fun _ => true) true t v d ps) (hs : P.cellsOf t = n) : ∃ l : List Int, v = .agg (l.map (Value.int k)).toArray ∧ l.length = n ∧ ∀ x ∈ l, k.min ≤ x ∧ x ≤ k.max := by
  have hc : ∃ cs, v = .agg cs := by
    simp only [Value.okWide, u.eq] at hval
    obtain ⟨cs, h1, _⟩ := hval
    exact ⟨cs, h1⟩
  obtain ⟨cs, rfl⟩ := hc
  obtain ⟨fuel, h⟩ := ht
  obtain ⟨a, ha, hp⟩ := (Dec.arr (n := n) (e := e) (k := k) hs) _ _ _ _ _ _ h
  have ha : (Value.agg cs).cells.toList = a.map (Value.int k) := ha
  refine ⟨a, ?_, hp⟩
  rw [← ha]
  simp [Value.cells]
end
section
variable {P : Program} {B : World} {h : Own} {n : Nat} {e : Env}
variable {M : List Nat} {d : Option Tmp} {ty : TypeId} {ps : String} {af : Array Edge} {gd : Option (Nat × Bool)}
theorem RV.loadArr {α : Type} {f : α → Value} {l : List α} {t : TypeId} {x : Operand} {b sz : Nat} {bt : TypeId} {fz : Nat × Nat} [u : AggIs P t true] [us : SizeIs P t sz] (hx : ev e x = some (.pointer (some ⟨b, 0, none⟩))) [i : AtO h b (l.map f) bt fz] (hl : l.length = sz) (hM : b ∉ M) :
    RV P B h M n e ⟨d, .load t x, ty, ps, af, gd⟩ (.agg (l.map f).toArray) := RV.loadAgg hx (RdN.own' i.mem (by rw [List.length_map, hl])) hM
theorem RV.loadAt {α : Type} [Inhabited α] {f : α → Value} {l : List α} {t : TypeId} {x : Operand} {b : Nat} {i : Int} {bt : TypeId} {fz : Nat × Nat} [u : AggIs P t false] (hx : ev e x = some (.pointer (some ⟨b, 0 + i.toNat * 1, none⟩))) [a : AtO h b (l.map f) bt fz] (hi : 0 ≤ i ∧ i < l.length) (hM : b ∉ M) :
    RV P B h M n e ⟨d, .load t x, ty, ps, af, gd⟩ (f (lget l i)) := by
  obtain ⟨h2, e2⟩ := lget_at hi
  refine RV.load hx (.own a.mem ?_) hM
  rw [nth_eq, Nat.zero_add, Nat.mul_one, List.getElem?_map, List.getElem?_eq_getElem h2, e2]; rfl
theorem EF.storeAt {α : Type} {f : α → Value} {l : List α} (x' : α) {t : TypeId} {x y : Operand} {b : Nat} {i : Int} {bt : TypeId} {h' : Own} [hs : SizeIs P t 1] (hx : ev e x = some (.pointer (some ⟨b, 0 + i.toNat * 1, none⟩))) (hy : ev e y = some (f x')) (hi : 0 ≤ i ∧ i < l.length)
    (hc : (f x').cells = [f x'].toArray) (h1 : (f x').oneCell' = true) [u : UpO h b (l.map f) bt ((lset l i x').map f) h'] : EF P B h n e ⟨none, .store t x y, ty, ps, af, gd⟩ (fun _ h2 => h2 = h') := by
  refine EF.store hx hy hc rfl (by simp [h1]) (cs := l.map f) (bt := bt) ?_ (by rw [Nat.ble_eq, List.length_map]; simp only [List.length_singleton]; omega)
  have e1 : putAt (l.map f) (0 + i.toNat * 1) [f x'] = (lset l i x').map f := by
    rw [putAt_one, Nat.zero_add, Nat.mul_one, lset, List.map_set]
  rw [e1]; exact u.upd
/-- the whole of a block, written over -/
theorem EF.storeArr {α : Type} {f : α → Value} {l : List α} {t : TypeId} {x y : Operand} {b sz : Nat} {cs : List Value} {bt : TypeId} {h' : Own} [hs : SizeIs P t sz] (hx : ev e x = some (.pointer (some ⟨b, 0, none⟩))) (hy : ev e y = some (.agg (l.map f).toArray)) (hl : l.length = sz) (h1 : ∀ a, (f a).oneCell' = true)
    [a : AtO h b cs bt (0, 0)] (hcs : cs.length = sz) [u : UpO h b cs bt (l.map f) h'] : EF P B h n e ⟨none, .store t x y, ty, ps, af, gd⟩ (fun _ h2 => h2 = h') := by
  refine EF.store hx hy rfl (by rw [List.length_map, hl]) (by rw [List.all_eq_true]; intro v hv; obtain ⟨a, _, rfl⟩ := List.mem_map.1 hv; exact h1 a) (cs := cs) (bt := bt) ?_ (by rw [Nat.ble_eq, List.length_map, hl, hcs]; omega)
  have e1 : putAt cs 0 (l.map f) = l.map f := by
    rw [putAt_eq _ _ _ (by rw [List.length_map, hl, hcs]; omega), List.length_map, hl, List.take_zero, List.drop_eq_nil_of_le (by omega)]; simp
  rw [e1]; exact u.upd
theorem Res.arr {α : Type} {f : α → Value} {l : List α} {t : Tmp} {b : Nat} {ty : TypeId} {sz : Nat} {bt : TypeId} {fz : Nat × Nat} {r : List ResultVar} {vs : List Value} [ua : AggIs P ty true] [us : SizeIs P ty sz] (hl : lk e t = some (.pointer (some ⟨b, 0, none⟩))) [i : AtO h b (l.map f) bt fz] (hs : l.length = sz) (hr : Res P B h e r vs) :
    Res P B h e (.cell t ty :: r) (.agg (l.map f).toArray :: vs) := Res.agg hl (RdN.own' i.mem (by rw [List.length_map, hs])) hr
/-- an array of which every part stands, in order, a cell each -/
theorem RV.buildArrSeq {t el len : Nat} {parts : List (Nat × Operand)} (vals : List Value) {z z1 : Value} {zs : List Value} [u : UndIs P t (.array len el)] [hs : SizeIs P el 1] [hz : ZeroIs P t z zs]
    (hv : evp e parts = some (enumP 0 vals)) (hl : Nat.beq vals.length len = true) (hzs : zs = zerosL len [z1]) (ho : vals.all oneV = true) :
    RV P B h M n e ⟨d, .build t parts.toArray, ty, ps, af, gd⟩ (.agg vals.toArray) := by
  have e1 := Nat.eq_of_beq_eq_true hl
  have h1 := fills_seq z1 vals ho []
  rw [e1] at h1
  subst hzs
  exact RV.buildArr hv h1
/-! ### pointers -/
theorem shape_at {b : Nat} {cs : List Value} {bt : TypeId} {fz : Nat × Nat} {w : World} (hw : Held B h M w) (hm : (b, Blk.cells cs bt fz) ∈ h) (hM : b ∉ M) : w.shape? b = some (bt, cs.length) := by
  have := hw.2 _ hm hM
  simp [World.shape?, this, Blk.toObj]
theorem RV.toUnsafe {src dst t : TypeId} {j : TypeInfo} {x : Operand} {b : Nat} {cs : List Value} {bt : TypeId} {fz : Nat × Nat} [us : UndIs P src (.pointer t)] [ud : UndIs P dst .unsafePointer] (ht : P.info? t = some j) (hj : j.size ≠ 0) (hx : ev e x = some (.pointer (some ⟨b, 0, none⟩))) [i : AtO h b cs bt fz] (hl : 0 < cs.length) (hM : b ∉ M) :
    RV P B h M n e ⟨d, .convert src dst x, ty, ps, af, gd⟩ (.pointer (some ⟨b, 0, none⟩)) := ⟨fun a g w hw => by
  have h1 := Lib.run_to_unsafe (P := P) w ⟨b, 0, none⟩ us.eq ud.eq ht hj (shape_at hw i.mem hM) hl
  simp [execOp, g.eval hx, h1]⟩
theorem RV.fromUnsafe {src dst t : TypeId} {j : TypeInfo} {x : Operand} {b : Nat} {cs : List Value} {bt : TypeId} {fz : Nat × Nat} [us : UndIs P src .unsafePointer] [ud : UndIs P dst (.pointer t)] (ht : P.info? t = some j) (hx : ev e x = some (.pointer (some ⟨b, 0, none⟩))) [i : AtO h b cs bt fz] (hl : liesAt P P.depth bt (cs.length / P.cellsOf bt) 0 t 1 = true) (hM : b ∉ M) :
    RV P B h M n e ⟨d, .convert src dst x, ty, ps, af, gd⟩ (.pointer (some ⟨b, 0, none⟩)) := ⟨fun a g w hw => by
  have h1 := Lib.run_from_unsafe (P := P) w ⟨b, 0, none⟩ us.eq ud.eq ht (shape_at hw i.mem hM) hl
  simp [execOp, g.eval hx, h1]⟩
/-- a function of the machine's own -/
theorem EF.callX {f : FuncId} {fn : Func} {ex : Array Value → Sem Value} {args : List Operand} {ats : Array TypeId} {vs : List Value} {v : Value} (hf : P.funcs[f]? = some fn) (hname : (fn.name == "runtime.NumGoroutine") = false) (hb : fn.body.isNone = true) (hn : Extern.findNext fn = none) (he : Extern.find fn = some ex)
    (hv : evs e args = some vs) (hr : ∀ w, (ex vs.toArray).run P w = .ok v w) : EF P B h n e ⟨d, .call { callee := .value (.func f), args := args.toArray, argTypes := ats }, ty, ps, af, gd⟩ (fun v' h' => v' = v ∧ h' = h) :=
  .of_run fun a w g mm => by
    have h1 := run_callFunc_extern (P := P) hf hname hb hn he vs.toArray w
    rw [hr w] at h1
    refine ⟨v, w, h, ?_, mm, rfl, rfl⟩
    have h2 : List.map a.eval args = vs := g.evs hv
    simp [execOp, resolve, Deferred.ofValue, Act.eval, invoke, h2, h1]
theorem RV.neqPs {xt yt te : TypeId} {j : TypeInfo} {x y : Operand} {p : Addr} [u : UndIs P xt (.pointer te)] (ht : P.info? te = some j) (hx : ev e x = some (.pointer (some p))) (hy : ev e y = some (.pointer (some p))) :
    RV P B h M n e ⟨d, .binOp .neq xt x y yt, ty, ps, af, gd⟩ (.bool false) := .pure fun a g w => by
  have h1 : P.underlying xt = some (.pointer (P.pointee xt)) := by unfold Program.pointee; rw [u.eq]
  have h2 := Lib.run_neq_ptr_same (P := P) w p u.eq ht
  simp [execOp, g.eval hx, g.eval hy, eqGuard_at_pointer, h2]
/-! ### a text out of the bytes of a row -/
theorem RV.sliceData {t : TypeId} {x : Operand} {A : Option Addr} {m c : Nat} (hx : ev e x = some (.slice A m c)) (hc : A.isSome = true → c ≠ 0) :
    RV P B h M n e ⟨d, .call { callee := .builtin .unsafeSliceData, args := #[x], argTypes := #[t] }, ty, ps, af, gd⟩ (.pointer A) := .pure fun a g w => by
  cases A with
  | none =>
    have h1 := Lib.run_unsafeSliceData_nil (P := P) w #[t] ty m c
    simp [execOp, resolve, invoke, builtin, g.eval hx, h1]
  | some ad =>
    have h1 := Lib.run_unsafeSliceData_row (P := P) w #[t] ty ad m c (hc rfl)
    simp [execOp, resolve, invoke, builtin, g.eval hx, h1]
theorem freeze_models {w : World} {b : Nat} {k : Blk} (m : Models B ((b, k) :: h) w) (n : Nat) : Models B h (w.freeze ⟨b, 0, none⟩ n) := by
  have hge := m.ge (b, k) List.mem_cons_self
  have hnd := m.nodup
  simp only [List.map_cons, List.nodup_cons] at hnd
  refine ⟨Lib.below_freeze m.below hge n, hnd.2, fun p hp => m.ge p (List.mem_cons_of_mem _ hp), fun p hp => ?_⟩
  have h1 := m.at_ p (List.mem_cons_of_mem _ hp)
  have hne : b ≠ p.1 := fun e => hnd.1 (List.mem_map.2 ⟨p, hp, e.symm⟩)
  unfold World.freeze
  split
  · exact h1
  · simp only [Array.getElem?_modify]
    rw [if_neg hne]; exact h1
theorem EF.unsafeString {pt it el : TypeId} {x y : Operand} {xs : List Int} {A : Option Addr} {c : Nat} {part H : Own} [up : UndIs P pt (.pointer el)] [hsz : SizeIs P el 1] (hx : ev e x = some (.pointer A)) (hy : ev e y = some (.int .i64 xs.length)) (hr : Row0 el xs (.slice A xs.length c) part)
    [tk : TakeO h part H] (hb : ∀ x ∈ xs, 0 ≤ x ∧ x ≤ 255) (hl : xs.length ≤ 8388608) :
    EF P B h n e ⟨d, .call { callee := .builtin .unsafeString, args := #[x, y], argTypes := #[pt, it] }, ty, ps, af, gd⟩ (fun v h' => v = .string (strL xs) ∧ h' = H) :=
  .of_run fun a w g mm => by
    have mp := mm.perm tk.perm
    have hce : P.cellsOf el = 1 := cellsOf_eq w
    have ex : ∀ (v : Value) (w' : World), (Builtin.unsafeString_ #[pt, it] ty #[.pointer A, .int .i64 xs.length]).run P w = .ok v w' → (execOp a.eval ⟨d, .call { callee := .builtin .unsafeString, args := #[x, y], argTypes := #[pt, it] }, ty, ps, af, gd⟩).run P w = .ok (.value v) w' := by
      intro v w' hv
      simp [execOp, resolve, invoke, builtin, g.eval hx, g.eval hy, hv]
    generalize hn : xs.length = nn at *
    cases hr with
    | nil =>
      have h1 := Lib.run_unsafeString_none (P := P) w pt it ty none
      exact ⟨_, w, _, ex _ _ h1, mp, rfl, rfl⟩
    | @mk b cap cs _ a0 a1 a2 a3 =>
      have hblk := mp.at_ (b, Blk.cells cs el (0, 0)) (by simp)
      have hls : xs.map (fun n => UInt8.ofNat n.toNat) ≠ [] := by simpa using a0
      have hlen : (xs.map (fun n => UInt8.ofNat n.toNat)).length = xs.length := List.length_map _
      have h1 := Lib.run_unsafeString_row (P := P) w pt it ty el up.eq hce b cs.length (by simp [World.shape?, hblk, Blk.toObj]) (xs.map (fun n => UInt8.ofNat n.toNat)) hls (by rw [hlen]; omega) (by rw [hlen]; omega) (fun j x hj => by
        rw [Addr.add_lit, Nat.zero_add]
        rw [List.getElem?_map] at hj
        obtain ⟨y, hy1, rfl⟩ := Option.map_eq_some_iff.1 hj
        have hjl : j < xs.length := by
          rcases Nat.lt_or_ge j xs.length with h' | h'
          · exact h'
          · rw [List.getElem?_eq_none h'] at hy1; cases hy1
        have h3 : cs[j]? = some (Value.int .u8 y) := by
          have : (cs.take xs.length)[j]? = some (Value.int .u8 y) := by rw [a3, List.getElem?_map, hy1]; rfl
          rw [List.getElem?_take, if_pos hjl] at this
          exact this
        rw [u8_nat (hb y (List.mem_of_getElem? hy1))]
        simp [World.cell?, hblk, Blk.toObj, h3])
      rw [hlen] at h1
      have hstr : (⟨(xs.map (fun n => UInt8.ofNat n.toNat)).toArray⟩ : ByteArray) = strL xs := by
        apply ByteArray.ext
        apply Array.ext'
        rw [strL_data]
      rw [hstr] at h1
      exact ⟨_, _, _, ex _ _ h1, freeze_models mp _, rfl, rfl⟩
end
end Go.Sep
namespace Go.Sep
theorem row0_cap {el c m : Nat} {xs : List Int} {A : Option Addr} {p : Own} (hr : Row0 el xs (.slice A m c) p) : A.isSome = true → c ≠ 0 := by
  intro h
  cases hr with
  | nil => cases h
  | mk a0 a1 a2 a3 => have := List.length_pos_iff.2 a0; omega
theorem row0_val {el : Nat} {xs : List Int} {v : Value} {p : Own} (hr : Row0 el xs v p) : ∃ A c, v = .slice A xs.length c := by
  cases hr with
  | nil => exact ⟨none, 0, rfl⟩
  | mk a0 a1 a2 a3 => exact ⟨_, _, rfl⟩
end Go.Sep
namespace Go.Sep
open Go.RowKit
section
variable {P : Program} {B : World} {h : Own} {n : Nat} {e : Env}
variable {M : List Nat} {d : Option Tmp} {ty : TypeId} {ps : String} {af : Array Edge} {gd : Option (Nat × Bool)}
theorem RV.sliceArr {t el len sz : Nat} {x : Operand} {b : Nat} [u : UndIs P t (.array len el)] [us : SizeIs P el sz] (hx : ev e x = some (.pointer (some ⟨b, 0, none⟩))) :
    RV P B h M n e ⟨d, .slice t x none none none, ty, ps, af, gd⟩ (.slice (some ⟨b, 0, none⟩) len len) := .pure fun a g w => by
  simp [execOp, g.eval hx, Instr.sliceAt, u.run, us.run, Instr.sureAddr, Instr.sliceBounds, Instr.sliceBound, Addr.add_lit]
end
end Go.Sep
namespace Go.Sep
theorem src_arr {B : World} {h : Own} {b t : Nat} {f : Int → Value} {l : List Int} {n : Nat} (hn : l.length = n) [a : AtO h b (l.map f) t (0, 0)] : Src B h (some ⟨b, 0, none⟩) l.length 1 (l.map f) := by
  have := Src.of_new (B := B) a.mem l.length 1 (by rw [List.length_map]; omega)
  rwa [List.take_of_length_le (by rw [List.length_map]; omega)] at this
end Go.Sep
namespace Go.Sep
open Go.RowKit Go.WideShapes
theorem Dec.argX {P : Program} {w : World} {t : TypeId} {v : Value} {b0 : Nat} {r : Reach} [u : UndIs P t .string] (hval : Value.okWide P w r b0 t v) : ∃ s : ByteArray, v = .string s := by
  cases v <;> simp_all [Value.okWide, u.eq, Cell.okWide, Cell.ok]
end Go.Sep
