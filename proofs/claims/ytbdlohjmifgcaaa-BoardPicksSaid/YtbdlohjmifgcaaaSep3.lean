/- The operations, one by one. No project text. -/
import Derived.Test.YtbdlohjmifgcaaaSep2
set_option linter.unusedSimpArgs false
set_option linter.unusedVariables false
namespace Go.Sep
open Go.RowKit

/-! ### what the program's tables say of a type, a function -/
class SizeIs (P : Program) (t : TypeId) (s : outParam Nat) : Prop where run : ∀ w, (sizeOf t).run P w = .ok s w
class UndIs (P : Program) (t : TypeId) (d : outParam TypeDesc) : Prop where eq : P.underlying t = some d
class AggIs (P : Program) (t : TypeId) (b : outParam Bool) : Prop where run : ∀ w, (isAgg t).run P w = .ok b w
class ZeroIs (P : Program) (t : TypeId) (z : outParam Value) (zs : outParam (List Value)) : Prop where
  run : ∀ w, (zeroValue t).run P w = .ok z w
  cells : z.cells = zs.toArray
/-- an element's size in cells and bytes, and its zero -/
class ElemIs (P : Program) (t : TypeId) (sz bytes : outParam Nat) (z : outParam Value) : Prop where ex : ∃ i, P.info? t = some i ∧ i.size = sz ∧ i.bytes = bytes ∧ i.zero = some z
/-- field i of a struct: its place in cells, its type -/
class FieldIs (P : Program) (s : TypeId) (i : Nat) (off : outParam Nat) (ft : outParam TypeId) : Prop where
  ex : ∃ (fs : Array Field) (fl : Field) (sz : Nat), P.underlying s = some (.struct fs) ∧ fs[i]? = some fl ∧ fl.offset = off ∧ fl.type = ft ∧ (∀ w, (sizeOf fl.type).run P w = .ok sz w) ∧ sz ≠ 0
class CallIs (P : Program) (f : FuncId) : Prop where run : ∀ args w, (callFunc f args).run P w = .ok (.enter f args) w

theorem UndIs.run {P : Program} {t : TypeId} {d : TypeDesc} [h : UndIs P t d] (w : World) : (underlying t).run P w = .ok d w := run_underlying h.eq w

section
variable {P : Program} {B : World} {h : Own} {M : List Nat} {n : Nat} {e : Env}
variable {d : Option Tmp} {ty : TypeId} {ps : String} {af : Array Edge} {gd : Option (Nat × Bool)}

theorem RV.pure {o : Oper} {v : Value} (hv : ∀ a, Agree n e a → ∀ w, (execOp a.eval o).run P w = .ok (.value v) w) : RV P B h M n e o v := ⟨fun a g w _ => hv a g w⟩

theorem RV.move {x : Operand} {v : Value} (hx : ev e x = some v) : RV P B h M n e ⟨d, .move x, ty, ps, af, gd⟩ v := .pure fun a g w => by simp [execOp, g.eval hx]
theorem RV.assign {x : Operand} {v : Value} (hx : ev e x = some v) : RV P B h M n e ⟨d, .assign x, ty, ps, af, gd⟩ v := .pure fun a g w => by simp [execOp, g.eval hx]
theorem RV.pickT {c x y : Operand} {v : Value} (hc : ev e c = some (.bool true)) (hx : ev e x = some v) : RV P B h M n e ⟨d, .pick c x y, ty, ps, af, gd⟩ v := .pure fun a g w => by simp [execOp, g.eval hc, g.eval hx, asBool]
theorem RV.pickF {c x y : Operand} {v : Value} (hc : ev e c = some (.bool false)) (hy : ev e y = some v) : RV P B h M n e ⟨d, .pick c x y, ty, ps, af, gd⟩ v := .pure fun a g w => by simp [execOp, g.eval hc, g.eval hy, asBool]

/-- two integers: what binOp makes of them -/
theorem RV.bin {op : BinOp} {xt yt : TypeId} {x y : Operand} {k : IntKind} {i j : Int} {v : Value} (hx : ev e x = some (.int k i)) (hy : ev e y = some (.int k j))
    (hv : ∀ w, (Go.binOp op xt (.int k i) (.int k j)).run P w = .ok v w) : RV P B h M n e ⟨d, .binOp op xt x y yt, ty, ps, af, gd⟩ v := .pure fun a g w => by
  simp [execOp, g.eval hx, g.eval hy, eqGuard_at_int, hv w]

theorem wrap_in {k : IntKind} {i : Int} (h1 : k.min ≤ i) (h2 : i ≤ k.max) : k.wrap i = i := by
  cases k <;> simp only [IntKind.wrap, IntKind.min, IntKind.max, IntKind.bits, IntKind.signed] at * <;> simp at * <;> omega

theorem kb : IntKind.i8.min = -128 ∧ IntKind.i8.max = 127 ∧ IntKind.i16.min = -32768 ∧ IntKind.i16.max = 32767 ∧ IntKind.i32.min = -2147483648 ∧ IntKind.i32.max = 2147483647 ∧
    IntKind.i64.min = -9223372036854775808 ∧ IntKind.i64.max = 9223372036854775807 ∧ IntKind.u8.min = 0 ∧ IntKind.u8.max = 255 ∧ IntKind.u16.min = 0 ∧ IntKind.u16.max = 65535 ∧
    IntKind.u32.min = 0 ∧ IntKind.u32.max = 4294967295 ∧ IntKind.u64.min = 0 ∧ IntKind.u64.max = 18446744073709551615 := ⟨rfl, rfl, rfl, rfl, rfl, rfl, rfl, rfl, rfl, rfl, rfl, rfl, rfl, rfl, rfl, rfl⟩

theorem RV.add {xt yt : TypeId} {x y : Operand} {k : IntKind} {i j : Int} (hx : ev e x = some (.int k i)) (hy : ev e y = some (.int k j)) :
    RV P B h M n e ⟨d, .binOp .add xt x y yt, ty, ps, af, gd⟩ (.int k (k.wrap (i + j))) := .bin hx hy fun w => by simp [binOp_add, Op.intArith]
theorem RV.sub {xt yt : TypeId} {x y : Operand} {k : IntKind} {i j : Int} (hx : ev e x = some (.int k i)) (hy : ev e y = some (.int k j)) :
    RV P B h M n e ⟨d, .binOp .sub xt x y yt, ty, ps, af, gd⟩ (.int k (k.wrap (i - j))) := .bin hx hy fun w => by simp [binOp_sub, Op.intArith]
theorem RV.mul {xt yt : TypeId} {x y : Operand} {k : IntKind} {i j : Int} (hx : ev e x = some (.int k i)) (hy : ev e y = some (.int k j)) :
    RV P B h M n e ⟨d, .binOp .mul xt x y yt, ty, ps, af, gd⟩ (.int k (k.wrap (i * j))) := .bin hx hy fun w => by simp [binOp_mul, Op.intArith]
theorem RV.addIn {xt yt : TypeId} {x y : Operand} {i j : Int} (hx : ev e x = some (.int .i64 i)) (hy : ev e y = some (.int .i64 j)) (hr : -9223372036854775808 ≤ i + j ∧ i + j ≤ 9223372036854775807) :
    RV P B h M n e ⟨d, .binOp .add xt x y yt, ty, ps, af, gd⟩ (.int .i64 (i + j)) := by
  have := RV.add (P := P) (B := B) (h := h) (M := M) (n := n) (d := d) (ty := ty) (ps := ps) (af := af) (gd := gd) (xt := xt) (yt := yt) hx hy
  rwa [wrap_in (k := .i64) hr.1 hr.2] at this
theorem RV.subIn {xt yt : TypeId} {x y : Operand} {i j : Int} (hx : ev e x = some (.int .i64 i)) (hy : ev e y = some (.int .i64 j)) (hr : -9223372036854775808 ≤ i - j ∧ i - j ≤ 9223372036854775807) :
    RV P B h M n e ⟨d, .binOp .sub xt x y yt, ty, ps, af, gd⟩ (.int .i64 (i - j)) := by
  have := RV.sub (P := P) (B := B) (h := h) (M := M) (n := n) (d := d) (ty := ty) (ps := ps) (af := af) (gd := gd) (xt := xt) (yt := yt) hx hy
  rwa [wrap_in (k := .i64) hr.1 hr.2] at this
theorem RV.mulIn {xt yt : TypeId} {x y : Operand} {i j : Int} (hx : ev e x = some (.int .i64 i)) (hy : ev e y = some (.int .i64 j)) (hr : -9223372036854775808 ≤ i * j ∧ i * j ≤ 9223372036854775807) :
    RV P B h M n e ⟨d, .binOp .mul xt x y yt, ty, ps, af, gd⟩ (.int .i64 (i * j)) := by
  have := RV.mul (P := P) (B := B) (h := h) (M := M) (n := n) (d := d) (ty := ty) (ps := ps) (af := af) (gd := gd) (xt := xt) (yt := yt) hx hy
  rwa [wrap_in (k := .i64) hr.1 hr.2] at this
theorem RV.quo {xt yt : TypeId} {x y : Operand} {k : IntKind} {i j : Int} (hx : ev e x = some (.int k i)) (hy : ev e y = some (.int k j)) (hj : j ≠ 0) :
    RV P B h M n e ⟨d, .binOp .quo xt x y yt, ty, ps, af, gd⟩ (.int k (k.wrap (i.tdiv j))) := .bin hx hy fun w => by simp [binOp_quo, Op.intDiv, hj]
theorem RV.rem {xt yt : TypeId} {x y : Operand} {k : IntKind} {i j : Int} (hx : ev e x = some (.int k i)) (hy : ev e y = some (.int k j)) (hj : j ≠ 0) :
    RV P B h M n e ⟨d, .binOp .rem xt x y yt, ty, ps, af, gd⟩ (.int k (i.tmod j)) := .bin hx hy fun w => by simp [binOp_rem, Op.intDiv, hj]
/-- both not below 0: Lean's own / and % -/
theorem RV.quoIn {xt yt : TypeId} {x y : Operand} {k : IntKind} {i j : Int} (hx : ev e x = some (.int k i)) (hy : ev e y = some (.int k j)) (hr : 0 ≤ i ∧ 0 < j ∧ i ≤ k.max) :
    RV P B h M n e ⟨d, .binOp .quo xt x y yt, ty, ps, af, gd⟩ (.int k (i / j)) := by
  have := RV.quo (P := P) (B := B) (h := h) (M := M) (n := n) (d := d) (ty := ty) (ps := ps) (af := af) (gd := gd) (xt := xt) (yt := yt) hx hy (by omega)
  rw [Int.tdiv_eq_ediv_of_nonneg hr.1] at this
  have h1 : 0 ≤ i / j := Int.ediv_nonneg hr.1 (by omega)
  have h2 : i / j ≤ i := Int.ediv_le_self _ hr.1
  rwa [wrap_in (k := k) (by cases k <;> simp [IntKind.min, IntKind.signed, IntKind.bits] <;> omega) (by omega)] at this
theorem RV.remIn {xt yt : TypeId} {x y : Operand} {k : IntKind} {i j : Int} (hx : ev e x = some (.int k i)) (hy : ev e y = some (.int k j)) (hr : 0 ≤ i ∧ 0 < j) :
    RV P B h M n e ⟨d, .binOp .rem xt x y yt, ty, ps, af, gd⟩ (.int k (i % j)) := by
  have := RV.rem (P := P) (B := B) (h := h) (M := M) (n := n) (d := d) (ty := ty) (ps := ps) (af := af) (gd := gd) (xt := xt) (yt := yt) hx hy (by omega)
  rwa [Int.tmod_eq_emod_of_nonneg hr.1] at this
theorem RV.eql {xt yt : TypeId} {x y : Operand} {k : IntKind} {i j : Int} (hx : ev e x = some (.int k i)) (hy : ev e y = some (.int k j)) :
    RV P B h M n e ⟨d, .binOp .eql xt x y yt, ty, ps, af, gd⟩ (.bool (decide (i = j))) := .bin hx hy fun w => by simp [binOp_eql]; rfl
theorem RV.neq {xt yt : TypeId} {x y : Operand} {k : IntKind} {i j : Int} (hx : ev e x = some (.int k i)) (hy : ev e y = some (.int k j)) :
    RV P B h M n e ⟨d, .binOp .neq xt x y yt, ty, ps, af, gd⟩ (.bool (decide (i ≠ j))) := .bin hx hy fun w => by
      have : (i != j) = decide (i ≠ j) := by by_cases hij : i = j <;> simp [hij]
      simp only [binOp_neq, this]; rfl
theorem RV.lss {xt yt : TypeId} {x y : Operand} {k : IntKind} {i j : Int} (hx : ev e x = some (.int k i)) (hy : ev e y = some (.int k j)) :
    RV P B h M n e ⟨d, .binOp .lss xt x y yt, ty, ps, af, gd⟩ (.bool (decide (i < j))) := .bin hx hy fun w => by simp [binOp_lss]
theorem RV.leq {xt yt : TypeId} {x y : Operand} {k : IntKind} {i j : Int} (hx : ev e x = some (.int k i)) (hy : ev e y = some (.int k j)) :
    RV P B h M n e ⟨d, .binOp .leq xt x y yt, ty, ps, af, gd⟩ (.bool (decide (i ≤ j))) := .bin hx hy fun w => by simp [binOp_leq]
theorem RV.gtr {xt yt : TypeId} {x y : Operand} {k : IntKind} {i j : Int} (hx : ev e x = some (.int k i)) (hy : ev e y = some (.int k j)) :
    RV P B h M n e ⟨d, .binOp .gtr xt x y yt, ty, ps, af, gd⟩ (.bool (decide (j < i))) := .bin hx hy fun w => by simp [binOp_gtr]
theorem RV.geq {xt yt : TypeId} {x y : Operand} {k : IntKind} {i j : Int} (hx : ev e x = some (.int k i)) (hy : ev e y = some (.int k j)) :
    RV P B h M n e ⟨d, .binOp .geq xt x y yt, ty, ps, af, gd⟩ (.bool (decide (j ≤ i))) := .bin hx hy fun w => by simp [binOp_geq]
theorem RV.eqlB {xt yt : TypeId} {x y : Operand} {i j : Bool} [u : UndIs P xt .bool] (hx : ev e x = some (.bool i)) (hy : ev e y = some (.bool j)) :
    RV P B h M n e ⟨d, .binOp .eql xt x y yt, ty, ps, af, gd⟩ (.bool (i == j)) := .pure fun a g w => by
  simp [execOp, g.eval hx, g.eval hy, eqGuard_at_bool, run_eql_bool w xt i j u.eq]
theorem RV.neqB {xt yt : TypeId} {x y : Operand} {i j : Bool} [u : UndIs P xt .bool] (hx : ev e x = some (.bool i)) (hy : ev e y = some (.bool j)) :
    RV P B h M n e ⟨d, .binOp .neq xt x y yt, ty, ps, af, gd⟩ (.bool (!(i == j))) := .pure fun a g w => by
  simp [execOp, g.eval hx, g.eval hy, eqGuard_at_bool, run_neq_bool w xt i j u.eq]
theorem RV.not {xt : TypeId} {x : Operand} {i : Bool} (hx : ev e x = some (.bool i)) : RV P B h M n e ⟨d, .unOp .not xt x, ty, ps, af, gd⟩ (.bool (!i)) := .pure fun a g w => by
  simp [execOp, g.eval hx, Op.unary]
theorem RV.conv {src dst : TypeId} {x : Operand} {k k' : IntKind} {sd : TypeDesc} {i : Int} [us : UndIs P src sd] [u : UndIs P dst (.int k)] (hx : ev e x = some (.int k' i)) :
    RV P B h M n e ⟨d, .convert src dst x, ty, ps, af, gd⟩ (.int k (k.wrap i)) := .pure fun a g w => by
  simp [execOp, g.eval hx, convert, us.run, u.run, Conv.intToInt]
theorem RV.convIn {src dst : TypeId} {x : Operand} {k k' : IntKind} {sd : TypeDesc} {i : Int} [us : UndIs P src sd] [u : UndIs P dst (.int k)] (hx : ev e x = some (.int k' i)) (hr : k.min ≤ i ∧ i ≤ k.max) :
    RV P B h M n e ⟨d, .convert src dst x, ty, ps, af, gd⟩ (.int k i) := by
  have := RV.conv (P := P) (B := B) (h := h) (M := M) (n := n) (d := d) (ty := ty) (ps := ps) (af := af) (gd := gd) (src := src) (dst := dst) hx
  rwa [wrap_in hr.1 hr.2] at this

/-! ### addresses -/
theorem RV.fieldAddr {s ft : TypeId} {x : Operand} {i : Nat} {b off fo : Nat} [u : FieldIs P s i fo ft] (hx : ev e x = some (.pointer (some ⟨b, off, none⟩))) :
    RV P B h M n e ⟨d, .fieldAddr s x i, ty, ps, af, gd⟩ (.pointer (some ⟨b, off + fo, none⟩)) := .pure fun a g w => by
  obtain ⟨fs, fl, sz, h1, h2, rfl, h4, h5, h6⟩ := u.ex
  simp [execOp, g.eval hx, Instr.fieldAt, run_underlying h1, h2, Instr.sureAddr, fieldPlace, h5, h6, Addr.add_lit]
theorem RV.fieldAddrA {s ft : TypeId} {x : Operand} {i fo : Nat} {ad : Addr} [u : FieldIs P s i fo ft] (hx : ev e x = some (.pointer (some ad))) :
    RV P B h M n e ⟨d, .fieldAddr s x i, ty, ps, af, gd⟩ (.pointer (some (ad.add fo))) := .pure fun a g w => by
  obtain ⟨fs, fl, sz, h1, h2, rfl, h4, h5, h6⟩ := u.ex
  simp [execOp, g.eval hx, Instr.fieldAt, run_underlying h1, h2, Instr.sureAddr, fieldPlace, h5, h6]
theorem RV.field {s ft : TypeId} {x : Operand} {i fo : Nat} {cs : List Value} {v : Value} [u : FieldIs P s i fo ft] [ua : AggIs P ft false] (hx : ev e x = some (.agg cs.toArray)) (hv : nth cs fo = some v) :
    RV P B h M n e ⟨d, .field s x i, ty, ps, af, gd⟩ v := .pure fun a g w => by
  obtain ⟨fs, fl, sz, h1, h2, rfl, rfl, h5, h6⟩ := u.ex
  rw [nth_eq] at hv
  simp [execOp, g.eval hx, Instr.field, run_underlying h1, h2, asAgg, part, ua.run, hv]
theorem RV.fieldAgg {s ft : TypeId} {x : Operand} {i fo fz : Nat} {cs : List Value} [u : FieldIs P s i fo ft] [ua : AggIs P ft true] [us : SizeIs P ft fz] (hx : ev e x = some (.agg cs.toArray)) :
    RV P B h M n e ⟨d, .field s x i, ty, ps, af, gd⟩ (.agg ((cs.drop fo).take fz).toArray) := .pure fun a g w => by
  obtain ⟨fs, fl, sz, h1, h2, rfl, rfl, h5, h6⟩ := u.ex
  simp [execOp, g.eval hx, Instr.field, run_underlying h1, h2, asAgg, part, ua.run, us.run]
theorem RV.indexAddr {t el : TypeId} {x ix : Operand} {ad : Addr} {len cap sz : Nat} {k : IntKind} {i : Int} [u : UndIs P t (.slice el)] [hs : SizeIs P el sz] (hx : ev e x = some (.slice (some ad) len cap)) (hi : ev e ix = some (.int k i)) (hr : 0 ≤ i ∧ i < len) :
    RV P B h M n e ⟨d, .indexAddr t x ix, ty, ps, af, gd⟩ (.pointer (some (ad.add (i.toNat * sz)))) := .pure fun a g w => by
  simp [execOp, g.eval hx, g.eval hi, Instr.indexAt, asIntOf, u.run, hs.run, hr]
theorem RV.extract {x : Operand} {vs : List Value} {i : Nat} {v : Value} (hx : ev e x = some (.tuple vs.toArray)) (hv : nth vs i = some v) : RV P B h M n e ⟨d, .extract x i, ty, ps, af, gd⟩ v := .pure fun a g w => by
  rw [nth_eq] at hv
  simp [execOp, g.eval hx, Instr.extract, hv]

/-! ### loads -/
theorem RV.load {t : TypeId} {x : Operand} {ad : Addr} {v : Value} [u : AggIs P t false] (hx : ev e x = some (.pointer (some ad))) (hr : Rd B h ad v) (hM : ad.block ∉ M) :
    RV P B h M n e ⟨d, .load t x, ty, ps, af, gd⟩ v := ⟨fun a g w hw => by
  simp [execOp, g.eval hx, Instr.loadAt, Instr.sureAddr, loadVar, u.run, hw.cell hr hM]⟩

/-- so many cells from an address on -/
inductive RdN (B : World) (h : Own) : Addr → Nat → List Value → Prop where
  | mk {ad : Addr} {vs : List Value} : (∀ (i : Nat) (v : Value), vs[i]? = some v → Rd B h (ad.add i) v) → RdN B h ad vs.length vs

theorem add_block (a : Addr) (n : Nat) : (a.add n).block = a.block := by unfold Addr.add; split <;> rfl

theorem run_loadCellsFrom {w : World} (ad : Addr) : ∀ (vs : List Value) (i : Nat) (acc : Array Value), (∀ (j : Nat) (v : Value), vs[j]? = some v → w.cell? (ad.add (i + j)) = some v) →
    (loadCellsFrom ad i vs.length acc).run P w = .ok (acc ++ vs.toArray) w := by
  intro vs
  induction vs with
  | nil => intro i acc _; simp [loadCellsFrom]
  | cons v r ih =>
    intro i acc hc
    have h0 := hc 0 v (by simp)
    simp only [List.length_cons, loadCellsFrom, Sem.run_bind, load, Sem.run, Nat.add_zero] at *
    simp only [h0, Result.andThen_ok]
    rw [ih (i + 1) (acc.push v) fun j u hu => by have := hc (j + 1) u (by simpa using hu); rwa [show i + (j + 1) = i + 1 + j by omega] at this]
    simp

theorem RdN.run {w : World} {ad : Addr} {sz : Nat} {vs : List Value} (hw : Held B h M w) (hr : RdN B h ad sz vs) (hM : ad.block ∉ M) : (loadCells ad sz).run P w = .ok vs.toArray w := by
  cases hr with
  | mk hc =>
    have := run_loadCellsFrom (P := P) (w := w) ad vs 0 #[] fun j v hv => by
      rw [Nat.zero_add]
      exact hw.cell (hc j v hv) (by rw [add_block]; exact hM)
    simpa [loadCells] using this

theorem RV.loadAgg {t : TypeId} {x : Operand} {ad : Addr} {sz : Nat} {vs : List Value} [u : AggIs P t true] [us : SizeIs P t sz] (hx : ev e x = some (.pointer (some ad))) (hr : RdN B h ad sz vs) (hM : ad.block ∉ M) :
    RV P B h M n e ⟨d, .load t x, ty, ps, af, gd⟩ (.agg vs.toArray) := ⟨fun a g w hw => by
  simp [execOp, g.eval hx, Instr.loadAt, Instr.sureAddr, loadVar, u.run, us.run, hr.run hw hM]⟩

/-- from an own block: the whole of it -/
theorem RdN.own {b : Nat} {cs : List Value} {t : TypeId} {fz : Nat × Nat} (hm : (b, Blk.cells cs t fz) ∈ h) : RdN B h ⟨b, 0, none⟩ cs.length cs :=
  .mk fun i v hv => by rw [Addr.add_lit, Nat.zero_add]; exact .own hm (by rw [nth_eq]; exact hv)

theorem RdN.own' {b sz : Nat} {cs : List Value} {t : TypeId} {fz : Nat × Nat} (hm : (b, Blk.cells cs t fz) ∈ h) (hl : cs.length = sz) : RdN B h ⟨b, 0, none⟩ sz cs := by subst hl; exact .own hm

theorem RdN.ownAt {b off sz : Nat} {cs vs : List Value} {t : TypeId} {fz : Nat × Nat} (hm : (b, Blk.cells cs t fz) ∈ h) (hl : vs.length = sz) (hv : (cs.drop off).take sz = vs) : RdN B h ⟨b, off, none⟩ sz vs := by
  subst hl
  exact .mk fun i v hi => by
    rw [Addr.add_lit]
    refine .own hm ?_
    rw [nth_eq]
    rw [← hv] at hi
    rw [List.getElem?_take] at hi
    split at hi
    · rwa [List.getElem?_drop] at hi
    · cases hi

theorem Res.agg {t : Tmp} {p : Addr} {ty : TypeId} {sz : Nat} {cs : List Value} {r : List ResultVar} {vs : List Value} [ua : AggIs P ty true] [us : SizeIs P ty sz] (hl : lk e t = some (.pointer (some p))) (hr : RdN B h p sz cs)
    (hk : Res P B h e r vs) : Res P B h e (.cell t ty :: r) (.agg cs.toArray :: vs) :=
  .cell hl (fun w m => by simp [loadVar, ua.run, us.run, hr.run (m.held []) List.not_mem_nil]) hk
theorem Res.one {t : Tmp} {p : Addr} {ty : TypeId} {v : Value} {r : List ResultVar} {vs : List Value} [ua : AggIs P ty false] (hl : lk e t = some (.pointer (some p))) (hr : Rd B h p v)
    (hk : Res P B h e r vs) : Res P B h e (.cell t ty :: r) (v :: vs) :=
  .cell hl (fun w m => by simp [loadVar, ua.run, load, Sem.run, (m.held []).cell hr List.not_mem_nil]) hk

theorem RV.loadO {t : TypeId} {x : Operand} {b off : Nat} {cs : List Value} {bt : TypeId} {fz : Nat × Nat} {v : Value} [u : AggIs P t false] (hx : ev e x = some (.pointer (some ⟨b, off, none⟩))) [i : AtO h b cs bt fz] (hv : nth cs off = some v) (hM : b ∉ M) :
    RV P B h M n e ⟨d, .load t x, ty, ps, af, gd⟩ v := .load hx (.own i.mem hv) hM
theorem RV.loadAggO {t : TypeId} {x : Operand} {b sz : Nat} {cs : List Value} {bt : TypeId} {fz : Nat × Nat} [u : AggIs P t true] [us : SizeIs P t sz] (hx : ev e x = some (.pointer (some ⟨b, 0, none⟩))) [i : AtO h b cs bt fz] (hl : Nat.beq cs.length sz = true) (hM : b ∉ M) :
    RV P B h M n e ⟨d, .load t x, ty, ps, af, gd⟩ (.agg cs.toArray) := .loadAgg hx (.own' i.mem (Nat.eq_of_beq_eq_true hl)) hM
theorem Res.aggO {t : Tmp} {b : Nat} {ty : TypeId} {sz : Nat} {cs : List Value} {bt : TypeId} {fz : Nat × Nat} {r : List ResultVar} {vs : List Value} [ua : AggIs P ty true] [us : SizeIs P ty sz] (hl : lk e t = some (.pointer (some ⟨b, 0, none⟩))) [i : AtO h b cs bt fz] (hs : Nat.beq cs.length sz = true)
    (hk : Res P B h e r vs) : Res P B h e (.cell t ty :: r) (.agg cs.toArray :: vs) := .agg hl (.own' i.mem (Nat.eq_of_beq_eq_true hs)) hk
theorem Res.oneO {t : Tmp} {b off : Nat} {ty : TypeId} {cs : List Value} {bt : TypeId} {fz : Nat × Nat} {v : Value} {r : List ResultVar} {vs : List Value} [ua : AggIs P ty false] (hl : lk e t = some (.pointer (some ⟨b, off, none⟩))) [i : AtO h b cs bt fz] (hv : nth cs off = some v)
    (hk : Res P B h e r vs) : Res P B h e (.cell t ty :: r) (v :: vs) := .one hl (.own i.mem hv) hk
theorem RV.pick {c x y : Operand} {t : Bool} {u v : Value} (hc : ev e c = some (.bool t)) (hx : ev e x = some u) (hy : ev e y = some v) : RV P B h M n e ⟨d, .pick c x y, ty, ps, af, gd⟩ (if t = true then u else v) := .pure fun a g w => by simp [execOp, g.eval hc, g.eval hx, g.eval hy, asBool]
theorem RV.addK {xt yt : TypeId} {x y : Operand} {k : IntKind} {i j : Int} (hx : ev e x = some (.int k i)) (hy : ev e y = some (.int k j)) (hr : k.min ≤ i + j ∧ i + j ≤ k.max) :
    RV P B h M n e ⟨d, .binOp .add xt x y yt, ty, ps, af, gd⟩ (.int k (i + j)) := by
  have := RV.add (P := P) (B := B) (h := h) (M := M) (n := n) (d := d) (ty := ty) (ps := ps) (af := af) (gd := gd) (xt := xt) (yt := yt) hx hy
  rwa [wrap_in hr.1 hr.2] at this
theorem RV.subK {xt yt : TypeId} {x y : Operand} {k : IntKind} {i j : Int} (hx : ev e x = some (.int k i)) (hy : ev e y = some (.int k j)) (hr : k.min ≤ i - j ∧ i - j ≤ k.max) :
    RV P B h M n e ⟨d, .binOp .sub xt x y yt, ty, ps, af, gd⟩ (.int k (i - j)) := by
  have := RV.sub (P := P) (B := B) (h := h) (M := M) (n := n) (d := d) (ty := ty) (ps := ps) (af := af) (gd := gd) (xt := xt) (yt := yt) hx hy
  rwa [wrap_in hr.1 hr.2] at this
theorem RV.mulK {xt yt : TypeId} {x y : Operand} {k : IntKind} {i j : Int} (hx : ev e x = some (.int k i)) (hy : ev e y = some (.int k j)) (hr : k.min ≤ i * j ∧ i * j ≤ k.max) :
    RV P B h M n e ⟨d, .binOp .mul xt x y yt, ty, ps, af, gd⟩ (.int k (i * j)) := by
  have := RV.mul (P := P) (B := B) (h := h) (M := M) (n := n) (d := d) (ty := ty) (ps := ps) (af := af) (gd := gd) (xt := xt) (yt := yt) hx hy
  rwa [wrap_in hr.1 hr.2] at this

/-! ### builtins -/
theorem RV.lenS {bt : TypeId} {x : Operand} {el : TypeId} {A : Option Addr} {len cap : Nat} [u : UndIs P bt (.slice el)] (hx : ev e x = some (.slice A len cap)) :
    RV P B h M n e ⟨d, .call { callee := .builtin .len, args := #[x], argTypes := #[bt] }, ty, ps, af, gd⟩ (.int .i64 len) := .pure fun a g w => by
  simp [execOp, resolve, invoke, builtin, g.eval hx, Builtin.len_, u.run, goInt]
theorem RV.lenStr {bt : TypeId} {x : Operand} {s : ByteArray} [u : UndIs P bt .string] (hx : ev e x = some (.string s)) :
    RV P B h M n e ⟨d, .call { callee := .builtin .len, args := #[x], argTypes := #[bt] }, ty, ps, af, gd⟩ (.int .i64 s.size) := .pure fun a g w => by
  simp [execOp, resolve, invoke, builtin, g.eval hx, Builtin.len_, u.run, goInt]
theorem RV.min2 {ats : Array TypeId} {x y : Operand} {k k' : IntKind} {i j : Int} (hx : ev e x = some (.int k i)) (hy : ev e y = some (.int k' j)) :
    RV P B h M n e ⟨d, .call { callee := .builtin .min, args := #[x, y], argTypes := ats }, ty, ps, af, gd⟩ (.int k (min i j)) := .pure fun a g w => by
  have : (if j < i then j else i) = min i j := by omega
  simp [execOp, resolve, invoke, builtin, g.eval hx, g.eval hy, run_min_int2, this]
theorem RV.max2 {ats : Array TypeId} {x y : Operand} {k k' : IntKind} {i j : Int} (hx : ev e x = some (.int k i)) (hy : ev e y = some (.int k' j)) :
    RV P B h M n e ⟨d, .call { callee := .builtin .max, args := #[x, y], argTypes := ats }, ty, ps, af, gd⟩ (.int k (max i j)) := .pure fun a g w => by
  have : (if i < j then j else i) = max i j := by omega
  simp [execOp, resolve, invoke, builtin, g.eval hx, g.eval hy, run_max_int2, this]

/-! ### slices of slices -/
theorem RV.sliceHi {t el : TypeId} {x hi : Operand} {A : Option Addr} {len cap : Nat} {k : IntKind} {j : Int} {sz : Nat} [u : UndIs P t (.slice el)] [us : SizeIs P el sz] (hx : ev e x = some (.slice A len cap)) (hh : ev e hi = some (.int k j)) (hr : 0 ≤ j ∧ j ≤ cap) :
    RV P B h M n e ⟨d, .slice t x none (some hi) none, ty, ps, af, gd⟩ (.slice A j.toNat cap) := .pure fun a g w => by
  cases A <;> simp [execOp, g.eval hx, g.eval hh, Instr.sliceAt, Instr.slice, u.run, us.run, Instr.sliceBounds, Instr.sliceBound, asIntOf, hr, Addr.add_zero']

end
end Go.Sep
