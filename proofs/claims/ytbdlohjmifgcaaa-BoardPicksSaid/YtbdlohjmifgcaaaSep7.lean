/- More operators: bits, shifts, arrays, nil checks, conversions between bytes and strings. No project text. -/
import Derived.Test.YtbdlohjmifgcaaaSep6
set_option linter.unusedSimpArgs false
set_option linter.unusedVariables false
namespace Go.Sep
open Go.RowKit

section
variable {P : Program} {B : World} {h : Own} {M : List Nat} {n : Nat} {e : Env}
variable {d : Option Tmp} {ty : TypeId} {ps : String} {af : Array Edge} {gd : Option (Nat × Bool)}

theorem RV.and {xt yt : TypeId} {x y : Operand} {k : IntKind} {i j : Int} (hx : ev e x = some (.int k i)) (hy : ev e y = some (.int k j)) :
    RV P B h M n e ⟨d, .binOp .and xt x y yt, ty, ps, af, gd⟩ (.int k (bits .and k i j)) := .bin hx hy fun w => by simp [binOp_and, intBits_and]
theorem RV.or {xt yt : TypeId} {x y : Operand} {k : IntKind} {i j : Int} (hx : ev e x = some (.int k i)) (hy : ev e y = some (.int k j)) :
    RV P B h M n e ⟨d, .binOp .or xt x y yt, ty, ps, af, gd⟩ (.int k (bits .or k i j)) := .bin hx hy fun w => by simp [binOp_or, intBits_or]
theorem RV.xor {xt yt : TypeId} {x y : Operand} {k : IntKind} {i j : Int} (hx : ev e x = some (.int k i)) (hy : ev e y = some (.int k j)) :
    RV P B h M n e ⟨d, .binOp .xor xt x y yt, ty, ps, af, gd⟩ (.int k (bits .xor k i j)) := .bin hx hy fun w => by simp [binOp_xor, intBits_xor]

theorem RV.shl {xt yt : TypeId} {x y : Operand} {k yk : IntKind} {i j : Int} (hx : ev e x = some (.int k i)) (hy : ev e y = some (.int yk j)) (hj : 0 ≤ j) :
    RV P B h M n e ⟨d, .binOp .shl xt x y yt, ty, ps, af, gd⟩ (.int k (k.wrap (i * 2 ^ (min j.toNat k.bits)))) := .pure fun a g w => by
  have : ¬ j < 0 := by omega
  simp [execOp, g.eval hx, g.eval hy, eqGuard_at_int, binOp_shl, Op.shift, this]
theorem RV.shr {xt yt : TypeId} {x y : Operand} {k yk : IntKind} {i j : Int} (hx : ev e x = some (.int k i)) (hy : ev e y = some (.int yk j)) (hj : 0 ≤ j) :
    RV P B h M n e ⟨d, .binOp .shr xt x y yt, ty, ps, af, gd⟩ (.int k (i.fdiv (2 ^ (min j.toNat k.bits)))) := .pure fun a g w => by
  have : ¬ j < 0 := by omega
  simp [execOp, g.eval hx, g.eval hy, eqGuard_at_int, binOp_shr, Op.shift, this]

theorem RV.nilCheck {x : Operand} {ad : Addr} (hx : ev e x = some (.pointer (some ad))) :
    RV P B h M n e ⟨d, .nilCheck x, ty, ps, af, gd⟩ (.pointer (some ad)) := .pure fun a g w => by
  simp [execOp, g.eval hx]

theorem RV.indexAddrL {t el len : Nat} {x ix : Operand} {b off sz : Nat} {k : IntKind} {i : Int} [u : UndIs P t (.array len el)] [hs : SizeIs P el sz] (hx : ev e x = some (.pointer (some ⟨b, off, none⟩))) (hi : ev e ix = some (.int k i)) (hr : 0 ≤ i ∧ i < len) :
    RV P B h M n e ⟨d, .indexAddr t x ix, ty, ps, af, gd⟩ (.pointer (some ⟨b, off + i.toNat * sz, none⟩)) := .pure fun a g w => by
  simp [execOp, g.eval hx, g.eval hi, Instr.indexAt, Instr.sureAddr, asIntOf, u.run, hs.run, hr, Addr.add_lit]

theorem RV.indexArr {t el len : Nat} {x ix : Operand} {k : IntKind} {i : Int} {cs : List Value} {v : Value} [u : UndIs P t (.array len el)] [ua : AggIs P el false] [hs : SizeIs P el 1] (hx : ev e x = some (.agg cs.toArray)) (hi : ev e ix = some (.int k i)) (hr : 0 ≤ i ∧ i < len) (hv : nth cs i.toNat = some v) :
    RV P B h M n e ⟨d, .index t x ix, ty, ps, af, gd⟩ v := .pure fun a g w => by
  rw [nth_eq] at hv
  simp [execOp, g.eval hx, g.eval hi, Instr.index, asIntOf, u.run, hs.run, hr, part, ua.run, hv]
end

/-! ### how bits of numbers without a sign come out -/
theorem wrap_nat {x : Nat} (hx : x < 18446744073709551616) : IntKind.u64.wrap (x : Int) = x := wrap_in (k := .u64) (by simp only [kb]; omega) (by simp only [kb]; omega)
theorem bitsU (i j : Nat) (hi : i < 18446744073709551616) (hj : j < 18446744073709551616) :
    bits .or .u64 i j = ((i ||| j : Nat) : Int) ∧ bits .and .u64 i j = ((i &&& j : Nat) : Int) ∧ bits .xor .u64 i j = ((i ^^^ j : Nat) : Int) := by
  have e1 : (BitVec.ofInt 64 (i : Int)).toNat = i := by rw [BitVec.ofInt_natCast, BitVec.toNat_ofNat]; exact Nat.mod_eq_of_lt hi
  have e2 : (BitVec.ofInt 64 (j : Int)).toNat = j := by rw [BitVec.ofInt_natCast, BitVec.toNat_ofNat]; exact Nat.mod_eq_of_lt hj
  refine ⟨?_, ?_, ?_⟩
  · change IntKind.u64.wrap (((BitVec.ofInt 64 (i : Int) ||| BitVec.ofInt 64 (j : Int)).toNat : Nat) : Int) = _
    rw [BitVec.toNat_or, e1, e2]; exact wrap_nat (Nat.or_lt_two_pow (n := 64) hi hj)
  · change IntKind.u64.wrap (((BitVec.ofInt 64 (i : Int) &&& BitVec.ofInt 64 (j : Int)).toNat : Nat) : Int) = _
    rw [BitVec.toNat_and, e1, e2]; exact wrap_nat (Nat.and_lt_two_pow (n := 64) _ hj)
  · change IntKind.u64.wrap (((BitVec.ofInt 64 (i : Int) ^^^ BitVec.ofInt 64 (j : Int)).toNat : Nat) : Int) = _
    rw [BitVec.toNat_xor, e1, e2]; exact wrap_nat (Nat.xor_lt_two_pow (n := 64) hi hj)
end Go.Sep
namespace Go.Sep
open Go.RowKit
section
variable {P : Program} {B : World} {h : Own} {M : List Nat} {n : Nat} {e : Env}
variable {d : Option Tmp} {ty : TypeId} {ps : String} {af : Array Edge} {gd : Option (Nat × Bool)}
theorem RV.to {o : Oper} {v v' : Value} (r : RV P B h M n e o v) (he : v = v') : RV P B h M n e o v' := he ▸ r
theorem RV.buildArr {t el len sz : Nat} {parts : List (Nat × Operand)} {vs : List (Nat × Value)} {z : Value} {zs cs : List Value} [u : UndIs P t (.array len el)] [hs : SizeIs P el sz] [hz : ZeroIs P t z zs] (hv : evp e parts = some vs) (hf : Fills (placeS sz) zs vs cs) :
    RV P B h M n e ⟨d, .build t parts.toArray, ty, ps, af, gd⟩ (.agg cs.toArray) := .pure fun a g w => by
  have h3 := hf.fill
  have e1 : (fun i => some (i * sz, sz)) = placeS sz := rfl
  simp only [execOp, Instr.build, Sem.run_bind, hz.run, Result.andThen_ok, u.run, hs.run, e1, hz.cells]
  rw [show (Array.map (fun x : Nat × Operand => (x.1, a.eval x.2)) parts.toArray).toList = vs by simpa using g.evp hv]
  simp [h3]
end
end Go.Sep
namespace Go.Sep
open Go.RowKit
/-! ### composite slices whose parts all stand, in order, a cell each -/
def oneV : Value → Bool
  | .agg _ => false
  | _ => true
theorem oneV_cells {v : Value} (h : oneV v = true) : v.cells = [v].toArray := by cases v <;> first | rfl | cases h
def enumP : Nat → List Value → List (Nat × Value)
  | _, [] => []
  | i, v :: r => (i, v) :: enumP (i + 1) r
theorem putAt_mid (pre : List Value) (x y : Value) (r : List Value) : putAt (pre ++ x :: r) pre.length [y] = pre ++ y :: r := by
  rw [putAt_eq _ _ _ (by simp)]
  simp
theorem fills_seq (z : Value) (vals : List Value) (hv : vals.all oneV = true) : ∀ pre : List Value, Fills (placeS 1) (pre ++ zerosL vals.length [z]) (enumP pre.length vals) (pre ++ vals) := by
  induction vals with
  | nil => intro pre; simpa [zerosL, enumP] using Fills.nil
  | cons v r ih =>
    intro pre
    simp only [List.all_cons, Bool.and_eq_true] at hv
    have h := ih hv.2 (pre ++ [v])
    simp only [List.length_append, List.length_cons, List.length_nil, List.append_assoc, List.cons_append, List.nil_append, Nat.zero_add] at h
    refine Fills.cons (off := pre.length) (sz := 1) (vs := [v]) (by simp [placeS]) (oneV_cells hv.1) rfl (by simp [Nat.ble_eq, zerosL]) ?_
    rw [show pre ++ zerosL (v :: r).length [z] = pre ++ z :: zerosL r.length [z] from rfl, putAt_mid]
    exact h
section
variable {P : Program} {B : World} {h : Own} {M : List Nat} {n : Nat} {e : Env}
variable {d : Option Tmp} {ty : TypeId} {ps : String} {af : Array Edge} {gd : Option (Nat × Bool)}
theorem EF.buildSeq {t el len : Nat} {parts : List (Nat × Operand)} (vals : List Value) {z z1 : Value} [u : UndIs P t (.slice el)] [hs : SizeIs P el 1] [hz : ZeroIs P el z [z1]]
    (hv : evp e parts = some (enumP 0 vals)) (hl : Nat.beq vals.length len = true) (hb : Nat.ble len 16777216 = true) (ho : vals.all oneV = true) :
    EF P B h n e ⟨d, .buildSlice t len parts.toArray, ty, ps, af, gd⟩ (NewRow B h el len vals) := by
  have e1 := Nat.eq_of_beq_eq_true hl
  have h1 := fills_seq z1 vals ho []
  rw [e1] at h1
  exact EF.buildSlice (sz := 1) hv rfl (by rw [Nat.mul_one]; exact hb) h1
end
end Go.Sep
namespace Go.Sep
theorem Wants.undef {n : Nat} {ops : Array Oper} {e : Env} {o : Oper} {j d : Nat} {want : Bool} (hg : o.guard = .some (j, want)) (hd : ((ops[j]?).bind (·.dst)) = .some d) (hl : lk e d = .some Go.undef) : Wants n ops e o false :=
  ⟨fun a g => by
    have := g.at_ _ _ hl
    cases want <;> simp [Region.wanted, hg, yielded, hd, this, Go.undef]⟩
end Go.Sep
