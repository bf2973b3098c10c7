/- Composite values; make; slices of slices, of arrays, of strings; more operators. No project text. -/
import Derived.Test.YtbdlohjmifgcaaaSep4
set_option linter.unusedSimpArgs false
set_option linter.unusedVariables false
namespace Go.Sep
open Go.RowKit

section
variable {P : Program} {B : World} {h : Own} {M : List Nat} {n : Nat} {e : Env}
variable {d : Option Tmp} {ty : TypeId} {ps : String} {af : Array Edge} {gd : Option (Nat × Bool)}

theorem foldl_put (vs : List Value) : ∀ (off : Nat) (j : Nat) (cs : Array Value), (vs.zipIdx j).foldl (fun cs (x : Value × Nat) => cs.setIfInBounds (off + x.2) x.1) cs = (putAt cs.toList (off + j) vs).toArray := by
  induction vs with
  | nil => intro off j cs; simp [putAt]
  | cons v r ih =>
    intro off j cs
    simp only [List.zipIdx_cons, List.foldl_cons, putAt]
    rw [ih, setNth_eq]
    simp [Nat.add_assoc]

theorem fill_cons {place : Nat → Option (Nat × Nat)} {cells : Array Value} {i off sz : Nat} {v : Value} {vs : List Value} {r : List (Nat × Value)} (hp : place i = some (off, sz)) (hc : v.cells = vs.toArray) (hl : vs.length = sz) (hb : off + vs.length ≤ cells.size) :
    Instr.fill place cells ((i, v) :: r) = Instr.fill place (putAt cells.toList off vs).toArray r := by
  subst hl
  have h1 : ¬ (v.cells.size ≠ vs.length ∨ off + v.cells.size > cells.size) := by simp [hc]; omega
  simp only [Instr.fill, hp]
  rw [if_neg (by simpa using h1)]
  congr 1
  rw [hc]
  have := foldl_put vs off 0 cells
  simp only [Nat.add_zero] at this
  rw [← this]
  rw [Array.zipIdx_toArray, List.foldl_toArray]

/-- parts laid into cells, one by one: each at its place -/
inductive Fills (place : Nat → Option (Nat × Nat)) : List Value → List (Nat × Value) → List Value → Prop where
  | nil {cs : List Value} : Fills place cs [] cs
  | cons {cs cs' vs : List Value} {i off sz : Nat} {v : Value} {r : List (Nat × Value)} : place i = some (off, sz) → v.cells = vs.toArray → Nat.beq vs.length sz = true → Nat.ble (off + vs.length) cs.length = true → Fills place (putAt cs off vs) r cs' → Fills place cs ((i, v) :: r) cs'

theorem Fills.fill {place : Nat → Option (Nat × Nat)} {cs cs' : List Value} {parts : List (Nat × Value)} (f : Fills place cs parts cs') : Instr.fill place cs.toArray parts = some cs'.toArray := by
  induction f with
  | nil => rfl
  | cons h1 h2 h3 h4 _ ih =>
    rw [fill_cons h1 h2 (Nat.eq_of_beq_eq_true h3) (by simpa using Nat.le_of_ble_eq_true h4)]
    exact ih

def evp (e : Env) : List (Nat × Operand) → Option (List (Nat × Value))
  | [] => some []
  | (i, x) :: r => match ev e x, evp e r with
    | some v, some vs => some ((i, v) :: vs)
    | _, _ => none

theorem Agree.evp {a : Act} (g : Agree n e a) : ∀ {xs : List (Nat × Operand)} {vs : List (Nat × Value)}, Sep.evp e xs = some vs → xs.map (fun p => (p.1, a.eval p.2)) = vs := by
  intro xs
  induction xs with
  | nil => intro vs h; simp [Sep.evp] at h; subst h; rfl
  | cons x r ih =>
    intro vs h
    simp only [Sep.evp] at h
    cases hx : ev e x.2 with
    | none => simp [hx] at h
    | some v =>
      cases hr : Sep.evp e r with
      | none => simp [hx, hr] at h
      | some us => simp [hx, hr] at h; subst h; simp [g.eval hx, ih hr]

/-- a struct's fields: places and sizes -/
class PlacesIs (P : Program) (s : TypeId) (pl : outParam (List (Nat × Nat))) : Prop where
  ex : ∃ fs : Array Field, P.underlying s = some (.struct fs) ∧ ∀ w, (fs.mapM fun (f : Field) => do pure (f.offset, ← sizeOf f.type)).run P w = .ok pl.toArray w

def nthP : List (Nat × Nat) → Nat → Option (Nat × Nat)
  | [], _ => none
  | v :: _, 0 => some v
  | _ :: r, n + 1 => nthP r n
theorem nthP_eq (l : List (Nat × Nat)) (n : Nat) : nthP l n = l[n]? := by
  induction l generalizing n with
  | nil => simp [nthP]
  | cons v r ih => cases n <;> simp [nthP, ih]

theorem RV.build {t : TypeId} {parts : List (Nat × Operand)} {vs : List (Nat × Value)} {z : Value} {zs cs : List Value} {pl : List (Nat × Nat)} [hz : ZeroIs P t z zs] [hp : PlacesIs P t pl] (hv : evp e parts = some vs) (hf : Fills (nthP pl) zs vs cs) :
    RV P B h M n e ⟨d, .build t parts.toArray, ty, ps, af, gd⟩ (.agg cs.toArray) := .pure fun a g w => by
  obtain ⟨fs, h1, h2⟩ := hp.ex
  have h3 := hf.fill
  have e1 : (fun x => pl.toArray[x]?) = nthP pl := by funext x; rw [nthP_eq]; simp
  simp only [execOp, Instr.build, Sem.run_bind, hz.run, Result.andThen_ok, run_underlying h1, h2, e1, hz.cells]
  rw [show (Array.map (fun x : Nat × Operand => (x.1, a.eval x.2)) parts.toArray).toList = vs by simpa using g.evp hv]
  simp [h3]

/-- so many zeros -/
def zerosL : Nat → List Value → List Value
  | 0, _ => []
  | k + 1, zs => zs ++ zerosL k zs

theorem zerosL_length (k : Nat) (zs : List Value) : (zerosL k zs).length = k * zs.length := by
  induction k with
  | zero => simp [zerosL]
  | succ k ih => simp [zerosL, ih, Nat.add_mul, Nat.add_comm]

theorem zerosL_get (k : Nat) (zs : List Value) (i : Nat) (hi : i < k * zs.length) : (zerosL k zs)[i]? = zs[i % zs.length]? := by
  induction k generalizing i with
  | zero => simp at hi
  | succ k ih =>
    simp only [zerosL]
    rw [Nat.add_mul, Nat.one_mul] at hi
    by_cases h1 : i < zs.length
    · rw [List.getElem?_append_left h1, Nat.mod_eq_of_lt h1]
    · have e1 : i % zs.length = (i - zs.length) % zs.length := Nat.mod_eq_sub_mod (by omega)
      rw [List.getElem?_append_right (by omega), ih _ (by omega), e1]

theorem zeros_eq (k : Nat) (z : Array Value) (zs : List Value) (hz : z = zs.toArray) : ((Array.range (k * zs.length)).map (fun i => z[i % z.size]!)) = (zerosL k zs).toArray := by
  subst hz
  apply Array.ext_getElem?
  intro i
  by_cases hi : i < k * zs.length
  · have h0 : 0 < zs.length := by rcases Nat.eq_zero_or_pos zs.length with h | h; · rw [h] at hi; simp at hi
                                  · exact h
    have h1 : i % zs.length < zs.length := Nat.mod_lt _ h0
    simp only [List.getElem?_toArray]
    rw [zerosL_get k zs i hi]
    simp [hi, h1]
  · rw [Array.getElem?_eq_none (by simpa using hi)]
    simp only [List.getElem?_toArray]
    rw [List.getElem?_eq_none (by rw [zerosL_length]; omega)]

/-- v is a slice over a new row of its own -/
def NewRow (B : World) (h : Own) (el len : Nat) (cs : List Value) (v : Value) (h' : Own) : Prop := ∃ b, Fresh B h b ∧ v = .slice (some ⟨b, 0, none⟩) len len ∧ h' = (b, .cells cs el (0, 0)) :: h

def placeS (sz i : Nat) : Option (Nat × Nat) := some (i * sz, sz)

theorem EF.buildSlice {t el len sz : Nat} {parts : List (Nat × Operand)} {vs : List (Nat × Value)} {z : Value} {zs cs : List Value} [u : UndIs P t (.slice el)] [hs : SizeIs P el sz] [hz : ZeroIs P el z zs]
    (hv : evp e parts = some vs) (hl : Nat.beq zs.length sz = true) (hb : Nat.ble (len * sz) 16777216 = true) (hf : Fills (placeS sz) (zerosL len zs) vs cs) :
    EF P B h n e ⟨d, .buildSlice t len parts.toArray, ty, ps, af, gd⟩ (NewRow B h el len cs) :=
  .of_run fun a w g m => by
    have hl := Nat.eq_of_beq_eq_true hl
    have hb := Nat.le_of_ble_eq_true hb
    subst hl
    have hf := hf.fill
    have e2 : (fun i => some (i * zs.length, zs.length)) = placeS zs.length := rfl
    have hb' : ¬ 16777216 < len * zs.length := by omega
    refine ⟨.slice (some ⟨w.heap.size, 0, none⟩) len len, w.alloc (.cells cs.toArray el), (w.heap.size, .cells cs el (0, 0)) :: h, ?_, m.alloc (.cells cs el (0, 0)), _, m.fresh, rfl, rfl⟩
    have hp : (Array.map (fun x : Nat × Operand => (x.1, a.eval x.2)) parts.toArray).toList = vs := by simpa using g.evp hv
    by_cases h0 : len * zs.length = 0
    · have e3 : zerosL len zs = [] := List.eq_nil_of_length_eq_zero (by rw [zerosL_length]; exact h0)
      rw [e3] at hf
      simp only [execOp, Instr.buildSlice, Sem.run_bind, u.run, hs.run, Result.andThen_ok, h0]
      simp only [hp, e2]
      have e4 : Array.map (fun (x : Nat) => (default : Value)) (Array.range 0) = #[] := by simp
      simp [e4, hf, newRow, newObj]
      rfl
    · have e3 := zeros_eq len z.cells zs hz.cells
      simp only [execOp, Instr.buildSlice, Sem.run_bind, u.run, hs.run, Result.andThen_ok, hp, e2]
      simp [h0, hb', hz.run, e3, hf, newRow]

theorem EF.makeSlice {t el sz bytes : Nat} {x y : Operand} {z : Value} {zs : List Value} {k k' : IntKind} {len cap : Int} [u : UndIs P t (.slice el)] [hs : SizeIs P el sz] [hz : ZeroIs P el z zs] [hi : ElemIs P el sz bytes z]
    (hx : ev e x = some (.int k len)) (hy : ev e y = some (.int k' cap)) (hl : Nat.beq zs.length sz = true) (hr : 0 ≤ len ∧ len ≤ cap) (hb : (bytes : Int) * cap ≤ 281474976710656) (hm : cap ≤ 9223372036854775807) :
    EF P B h n e ⟨d, .makeSlice t x y, ty, ps, af, gd⟩ (fun v h' => ∃ b, Fresh B h b ∧ v = .slice (some ⟨b, 0, none⟩) len.toNat cap.toNat ∧ h' = (b, .cells (zerosL cap.toNat zs) el (0, 0)) :: h) :=
  .of_run fun a w g m => by
    have hl := Nat.eq_of_beq_eq_true hl
    subst hl
    obtain ⟨i, i1, i2, i3, i4⟩ := hi.ex
    have hrun := run_make (P := P) w t el i z u.eq i1 i4 k k' len cap hr.1 hr.2 (by rw [i3]; exact hb) hm
    have e3 : madeCells z.cells (cap.toNat * i.size) = (zerosL cap.toNat zs).toArray := by
      rw [i2]; exact zeros_eq cap.toNat z.cells zs hz.cells
    rw [e3] at hrun
    refine ⟨_, _, (w.heap.size, .cells (zerosL cap.toNat zs) el (0, 0)) :: h, ?_, m.alloc (.cells (zerosL cap.toNat zs) el (0, 0)), _, m.fresh, rfl, rfl⟩
    simp only [execOp, g.eval hx, g.eval hy, Sem.run_bind, hrun, Result.andThen_ok, Sem.run_pure]
    rfl
/-- == and != of structs: what the type's own equation gives -/
theorem RV.binAgg {op : BinOp} {xt yt : TypeId} {x y : Operand} {xs ys : List Value} {v : Value} (hx : ev e x = some (.agg xs.toArray)) (hy : ev e y = some (.agg ys.toArray)) (hg : P.eqGuardType P.depth xt = false)
    (hv : ∀ w, (Go.binOp op xt (.agg xs.toArray) (.agg ys.toArray)).run P w = .ok v w) : RV P B h M n e ⟨d, .binOp op xt x y yt, ty, ps, af, gd⟩ v := .pure fun a g w => by
  simp only [execOp, g.eval hx, g.eval hy, Sem.run_bind, run_eqGuard_agg w op xt x y _ _ hg, Result.andThen_ok, hv w, Sem.run_pure]

theorem Row.slice {el sz m : Nat} {v : Value} {xs : List Value} {part : Own} (r : Row el sz v m xs part) : ∃ A c, v = .slice A m c ∧ m ≤ c ∧ ∀ (B : World) (h0 : Own), (∀ x ∈ part, x ∈ h0) → Src B h0 A m sz xs := by
  have hr := r
  cases r with
  | nil => exact ⟨none, 0, rfl, by omega, fun B h0 hp => hr.src hp⟩
  | mk h1 h2 h3 => exact ⟨_, _, rfl, h1, fun B h0 hp => hr.src hp⟩

theorem Row.new {b el sz : Nat} {cs : List Value} {k : Nat} (hk : cs.length = k * sz) : Row el sz (.slice (some ⟨b, 0, none⟩) k k) k cs [(b, .cells cs el (0, 0))] :=
  .mk (Nat.le_refl _) (by omega) (by rw [List.drop_zero, ← hk, List.take_length])

/-! ### slices -/
def cutA (A : Option Addr) (k : Nat) : Option Addr := A.map (·.add k)

/-- x[lo:hi] of a slice; lo below the capacity -/
theorem RV.sliceLH {t el : TypeId} {x lo hi : Operand} {A : Option Addr} {len cap : Nat} {k k' : IntKind} {i j : Int} {sz : Nat} [u : UndIs P t (.slice el)] [us : SizeIs P el sz]
    (hx : ev e x = some (.slice A len cap)) (hl : ev e lo = some (.int k i)) (hh : ev e hi = some (.int k' j)) (hr : 0 ≤ i ∧ i ≤ j ∧ j ≤ cap) :
    RV P B h M n e ⟨d, .slice t x (some lo) (some hi) none, ty, ps, af, gd⟩ (.slice (if (cap : Int) = i then A else cutA A (i.toNat * sz)) (j - i).toNat (cap - i).toNat) := .pure fun a g w => by
  have h1 : 0 ≤ j := by omega
  have h2 : (cap = i.toNat) = ((cap : Int) = i) := by apply propext; omega
  have h3 : j.toNat - i.toNat = (j - i).toNat := by omega
  have h4 : cap - i.toNat = ((cap : Int) - i).toNat := by omega
  simp [execOp, g.eval hx, g.eval hl, g.eval hh, Instr.sliceAt, Instr.slice, u.run, us.run, Instr.sliceBounds, Instr.sliceBound, asIntOf, hr, h1, h2, h3, h4, cutA]
  intro hlt
  omega

theorem RV.sliceL {t el : TypeId} {x lo : Operand} {A : Option Addr} {len cap : Nat} {k : IntKind} {i : Int} {sz : Nat} [u : UndIs P t (.slice el)] [us : SizeIs P el sz]
    (hx : ev e x = some (.slice A len cap)) (hl : ev e lo = some (.int k i)) (hr : 0 ≤ i ∧ i ≤ len) (hc : i ≤ cap) :
    RV P B h M n e ⟨d, .slice t x (some lo) none none, ty, ps, af, gd⟩ (.slice (if (cap : Int) = i then A else cutA A (i.toNat * sz)) (len - i).toNat (cap - i).toNat) := .pure fun a g w => by
  have h2 : (cap = i.toNat) = ((cap : Int) = i) := by apply propext; omega
  have h3 : len - i.toNat = ((len : Int) - i).toNat := by omega
  have h4 : cap - i.toNat = ((cap : Int) - i).toNat := by omega
  simp [execOp, g.eval hx, g.eval hl, Instr.sliceAt, Instr.slice, u.run, us.run, Instr.sliceBounds, Instr.sliceBound, asIntOf, hr, h2, h3, h4, cutA]

theorem Src.take {A : Option Addr} {m sz : Nat} {xs : List Value} (s : Src B h A m sz xs) (k : Nat) (hk : k ≤ m) : Src B h A k sz (xs.take (k * sz)) := by
  have := Nat.mul_le_mul_right sz hk
  refine ⟨by rw [List.length_take, s.len]; omega, fun hl => ?_⟩
  obtain ⟨ad, e1, hr⟩ := s.at_ (by rw [List.length_take] at hl; omega)
  exact ⟨ad, e1, fun i v hv => hr i v (by rw [List.getElem?_take] at hv; split at hv; exact hv; cases hv)⟩

theorem add_add (a : Addr) (i j : Nat) : (a.add i).add j = a.add (i + j) := by
  unfold Addr.add
  by_cases hi : i = 0 <;> by_cases hj : j = 0 <;> simp [hi, hj, Nat.add_assoc]

theorem Src.drop {A : Option Addr} {m sz cap : Nat} {xs : List Value} (s : Src B h A m sz xs) (k : Int) (hk : 0 ≤ k ∧ k ≤ m) (hc : m ≤ cap) :
    Src B h (if (cap : Int) = k then A else cutA A (k.toNat * sz)) (m - k).toNat sz (xs.drop (k.toNat * sz)) := by
  have hkm : k.toNat ≤ m := by omega
  have e0 : ((m : Int) - k).toNat = m - k.toNat := by omega
  refine ⟨by rw [List.length_drop, s.len, e0, Nat.sub_mul], fun hl => ?_⟩
  obtain ⟨ad, rfl, hr⟩ := s.at_ (by rw [List.length_drop] at hl; omega)
  have hne : ¬ (cap : Int) = k := fun e => by
    have : k.toNat = m := by omega
    rw [List.length_drop, s.len, this] at hl
    omega
  rw [if_neg hne]
  exact ⟨ad.add (k.toNat * sz), rfl, fun i v hv => by rw [add_add]; exact hr _ v (by rw [← hv, List.getElem?_drop])⟩

theorem Src.sub {h0 : Own} [s : SubO h0 h] {A : Option Addr} {m sz : Nat} {xs : List Value} (hs : Src B h0 A m sz xs) : Src B h A m sz xs := hs.mono fun _ hx => s.sub.mem hx

theorem Src.of_new {b el : Nat} {cs : List Value} (hm : (b, Blk.cells cs el (0, 0)) ∈ h) (k sz : Nat) (hk : k * sz ≤ cs.length) : Src B h (some ⟨b, 0, none⟩) k sz (cs.take (k * sz)) :=
  ⟨by rw [List.length_take]; omega, fun _ => ⟨_, rfl, fun i v hv => by
    rw [Addr.add_lit, Nat.zero_add]
    refine .own hm ?_
    rw [nth_eq]
    rw [List.getElem?_take] at hv
    split at hv
    · exact hv
    · cases hv⟩⟩
end
end Go.Sep
