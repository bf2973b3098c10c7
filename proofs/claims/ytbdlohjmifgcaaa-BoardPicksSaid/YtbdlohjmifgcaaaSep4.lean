/- Operations that make or write memory; calls. No project text. -/
import Derived.Test.YtbdlohjmifgcaaaSep3
set_option linter.unusedSimpArgs false
set_option linter.unusedVariables false
namespace Go.Sep
open Go.RowKit

section
variable {P : Program} {B : World} {h : Own} {M : List Nat} {n : Nat} {e : Env}
variable {d : Option Tmp} {ty : TypeId} {ps : String} {af : Array Edge} {gd : Option (Nat × Bool)}

theorem EF.of_run {o : Oper} {K : Value → Own → Prop} (hv : ∀ a w, Agree n e a → Models B h w → ∃ v w' h', (execOp a.eval o).run P w = .ok (.value v) w' ∧ Models B h' w' ∧ K v h') : EF P B h n e o K :=
  ⟨fun a w g m Kw Q hk => by
    obtain ⟨v, w', h', hr, m', hK⟩ := hv a w g m
    unfold Oper.wp
    rw [hr]
    exact hk v h' w' m' hK⟩

theorem EF.of_skip {o : Oper} {K : Value → Own → Prop} (_ : o.dst = none) (hv : ∀ a w, Agree n e a → Models B h w → ∃ w' h', (execOp a.eval o).run P w = .ok .skip w' ∧ Models B h' w' ∧ K undef h') : EF P B h n e o K :=
  ⟨fun a w g m Kw Q hk => by
    obtain ⟨w', h', hr, m', hK⟩ := hv a w g m
    unfold Oper.wp
    rw [hr]
    exact hk undef h' w' m' hK⟩

theorem EF.mono {o : Oper} {K K' : Value → Own → Prop} (he : EF P B h n e o K) (hk : ∀ v h', K v h' → K' v h') : EF P B h n e o K' :=
  ⟨fun a w g m Kw Q hq => he.run a w g m Kw Q fun v h' w' m' hv => hq v h' w' m' (hk v h' hv)⟩

/-- v lies in a new block -/
def NewAt (B : World) (h : Own) (k : Blk) (v : Value) (h' : Own) : Prop := ∃ b, Fresh B h b ∧ v = .pointer (some ⟨b, 0, none⟩) ∧ h' = (b, k) :: h

theorem EF.alloc {el : TypeId} {z : Value} {zs : List Value} [hz : ZeroIs P el z zs] : EF P B h n e ⟨d, .alloc el, ty, ps, af, gd⟩ (NewAt B h (.cells zs el (0, 0))) :=
  .of_run fun a w g m => ⟨_, _, _, by simp [execOp, Instr.alloc, hz.run, newVar, newRow, hz.cells]; rfl, m.alloc (.cells zs el (0, 0)), _, m.fresh, rfl, rfl⟩

theorem EF.box {el : TypeId} {x : Operand} {z : Value} {zs : List Value} (hx : ev e x = some z) (hc : z.cells = zs.toArray) : EF P B h n e ⟨d, .box el x, ty, ps, af, gd⟩ (NewAt B h (.cells zs el (0, 0))) :=
  .of_run fun a w g m => ⟨_, _, _, by simp [execOp, Instr.box, g.eval hx, newVar, newRow, hc]; rfl, m.alloc (.cells zs el (0, 0)), _, m.fresh, rfl, rfl⟩

/-- vs written from place off on -/
def putAt : List Value → Nat → List Value → List Value
  | cs, _, [] => cs
  | cs, off, v :: r => putAt (setNth cs off v) (off + 1) r

theorem putAt_eq (cs : List Value) (off : Nat) (vs : List Value) (hl : off + vs.length ≤ cs.length) : putAt cs off vs = cs.take off ++ vs ++ cs.drop (off + vs.length) := by
  induction vs generalizing cs off with
  | nil => simp [putAt]
  | cons v r ih =>
    simp only [putAt]
    rw [ih _ _ (by simp [setNth_eq] at hl ⊢; omega), setNth_eq]
    exact list_seg_step cs off v r (by simp at hl; omega)

theorem toArray_app (l : List Value) (a : Array Value) : (l ++ a.toList).toArray = l.toArray ++ a := by
  apply Array.ext'; simp

theorem setRow_models {w : World} {h' : Own} {b : Nat} {cs cs' : List Value} {t : TypeId} (m : Models B h w) (u : Upd h b (.cells cs t (0, 0)) (.cells cs' t (0, 0)) h') : Models B h' (w.setRow b cs'.toArray) := by
  have hb := m.at_ _ u.mem
  exact m.upd u rfl rfl rfl (by simp [World.setRow]) (setRow_heap w b cs.toArray _ t (0, 0) hb) (fun k hk => setRow_other w b k _ hk)

theorem EF.store {t : TypeId} {x y : Operand} {b off sz : Nat} {v : Value} {vs cs : List Value} {bt : TypeId} {h' : Own} [hs : SizeIs P t sz]
    (hx : ev e x = some (.pointer (some ⟨b, off, none⟩))) (hy : ev e y = some v) (hc : v.cells = vs.toArray) (hl : vs.length = sz) (h1 : vs.all (·.oneCell') = true)
    (u : Upd h b (.cells cs bt (0, 0)) (.cells (putAt cs off vs) bt (0, 0)) h') (hb : Nat.ble (off + vs.length) cs.length = true) :
    EF P B h n e ⟨none, .store t x y, ty, ps, af, gd⟩ (fun _ h2 => h2 = h') :=
  .of_skip rfl fun a w g m => by
    have hb := Nat.le_of_ble_eq_true hb
    have hm := m.at_ _ u.mem
    have hst := run_storeCells_at P b off bt vs 0 cs.toArray w hm (by simpa using hb) (by simpa using h1)
    simp only [Nat.add_zero] at hst
    refine ⟨_, h', ?_, setRow_models m u, rfl⟩
    rw [putAt_eq cs off vs hb]
    simp [execOp, g.eval hx, g.eval hy, Instr.storeAt, Instr.sureAddr, storeVar, hs.run, hc, hl, hst]

theorem EF.storeO {t : TypeId} {x y : Operand} {b off sz : Nat} {v : Value} {vs cs : List Value} {bt : TypeId} {h' : Own} [hs : SizeIs P t sz]
    (hx : ev e x = some (.pointer (some ⟨b, off, none⟩))) (hy : ev e y = some v) (hc : v.cells = vs.toArray) (hl : vs.length = sz) (h1 : vs.all (·.oneCell') = true)
    [u : UpO h b cs bt (putAt cs off vs) h'] (hb : Nat.ble (off + vs.length) cs.length = true) :
    EF P B h n e ⟨none, .store t x y, ty, ps, af, gd⟩ (fun _ h2 => h2 = h') := .store hx hy hc hl h1 u.upd hb

theorem EF.of_val {o : Oper} {v : Value} (hv : RV P B h [] n e o v) : EF P B h n e o (fun v' h' => v' = v ∧ h' = h) :=
  .of_run fun a w g m => ⟨v, w, h, hv.run a g w (m.held []), m, rfl, rfl⟩

/-! ### rows of the call's own: slices that may be appended to -/
inductive Row (el sz : Nat) : Value → Nat → List Value → Own → Prop where
  | nil : Row el sz (.slice none 0 0) 0 [] []
  | mk {b off n cap : Nat} {cs xs : List Value} : n ≤ cap → off + cap * sz ≤ cs.length → (cs.drop off).take (n * sz) = xs → Row el sz (.slice (some ⟨b, off, none⟩) n cap) n xs [(b, .cells cs el (0, 0))]

/-- a slice value that reads as xs, nil let in -/
structure Src (B : World) (h : Own) (A : Option Addr) (m sz : Nat) (xs : List Value) : Prop where
  len : xs.length = m * sz
  at_ : 0 < xs.length → ∃ ad, A = some ad ∧ ∀ i v, xs[i]? = some v → Rd B h (ad.add i) v

theorem Row.len {el sz : Nat} {v : Value} {m : Nat} {xs : List Value} {part : Own} (r : Row el sz v m xs part) : xs.length = m * sz := by
  cases r with
  | nil => simp
  | mk h1 h2 h3 =>
    subst h3
    have := Nat.mul_le_mul_right sz h1
    simp; omega

theorem Row.src {el sz : Nat} {A : Option Addr} {m c : Nat} {k : Nat} {xs : List Value} {part : Own} (r : Row el sz (.slice A m c) k xs part) (hp : ∀ x ∈ part, x ∈ h) : Src B h A m sz xs := by
  have hl := r.len
  cases r with
  | nil => exact ⟨by simp, by simp⟩
  | @mk b off _ _ cs _ h1 h2 h3 =>
    refine ⟨hl, fun _ => ⟨_, rfl, fun i v hv => ?_⟩⟩
    rw [Addr.add_lit]
    refine .own (hp _ List.mem_cons_self) ?_
    rw [nth_eq]
    subst h3
    rw [List.getElem?_take] at hv
    split at hv
    · rwa [List.getElem?_drop] at hv
    · cases hv

theorem Src.mono {h' : Own} {A : Option Addr} {m sz : Nat} {xs : List Value} (s : Src B h A m sz xs) (hs : ∀ x ∈ h, x ∈ h') : Src B h' A m sz xs :=
  ⟨s.len, fun hl => by obtain ⟨ad, e, hr⟩ := s.at_ hl; exact ⟨ad, e, fun i v hv => (hr i v hv).mono hs⟩⟩

/-! ### elements of slices that read as lists -/
def lget {α : Type} [Inhabited α] (l : List α) (i : Int) : α := l.getD i.toNat default

def adr (A : Option Addr) (k : Nat) : Addr := (A.getD ⟨0, 0, none⟩).add k

theorem RV.indexS {h0 : Own} {t el : TypeId} {x ix : Operand} {A : Option Addr} {len cap sz : Nat} {k : IntKind} {i : Int} {xs : List Value} [u : UndIs P t (.slice el)] [hs : SizeIs P el sz]
    (hx : ev e x = some (.slice A len cap)) (hi : ev e ix = some (.int k i)) (hsrc : Src B h0 A len sz xs) (hr : 0 ≤ i ∧ i < len) (hsz : Nat.ble 1 sz = true) :
    RV P B h M n e ⟨d, .indexAddr t x ix, ty, ps, af, gd⟩ (.pointer (some (adr A (i.toNat * sz)))) := by
  have hsz := Nat.le_of_ble_eq_true hsz
  obtain ⟨ad, rfl, _⟩ := hsrc.at_ (by rw [hsrc.len]; exact Nat.mul_pos (by omega) (by omega))
  exact RV.indexAddr hx hi hr

theorem Src.get {h0 : Own} {A : Option Addr} {m sz : Nat} {xs : List Value} {v : Value} {k : Nat} [s : SubO h0 h] (hs : Src B h0 A m sz xs) (hv : xs[k]? = some v) : Rd B h (adr A k) v := by
  obtain ⟨ad, rfl, hr⟩ := hs.at_ (by rcases Nat.eq_zero_or_pos xs.length with h0 | h0; · rw [List.eq_nil_of_length_eq_zero h0] at hv; cases hv
                                     · exact h0)
  exact (hr k v hv).mono fun x hx => s.sub.mem hx

theorem RV.loadS {α : Type} [Inhabited α] {h0 : Own} {t : TypeId} {x : Operand} {A : Option Addr} {i : Int} {enc : α → Value} {l : List α} {len : Nat} [u : AggIs P t false] (hx : ev e x = some (.pointer (some (adr A (i.toNat * 1)))))
    (hs : Src B h0 A len 1 (l.map enc)) [s : SubO h0 h] (hi : 0 ≤ i ∧ i < l.length) (hM : (adr A (i.toNat * 1)).block ∉ M) : RV P B h M n e ⟨d, .load t x, ty, ps, af, gd⟩ (enc (lget l i)) := by
  refine .load hx (hs.get (v := enc (lget l i)) ?_) hM
  have : i.toNat < l.length := by omega
  simp [lget, List.getD, this]

theorem run_append_zero {w : World} {t ty el : TypeId} [u : UndIs P t (.slice el)] {sz : Nat} [hs : SizeIs P el sz] {A A' : Option Addr} {k cap c : Nat} (hk : k ≤ cap) :
    (Builtin.append_ #[t, t] ty #[.slice A k cap, .slice A' 0 c]).run P w = .ok (.slice A k cap) w := by
  cases A <;> cases A' <;> simp [Builtin.append_, u.run, hs.run, Builtin.lenOf, hk, Builtin.firstCells, loadCells, loadCellsFrom, storeCells]

theorem EF.append0 {bt el : TypeId} {s x : Operand} {i : TypeInfo} {z sv : Value} {A : Option Addr} {m c k : Nat} {xs news : List Value} {part H : Own} [u : UndIs P bt (.slice el)] (hi : P.info? el = some i) [hsz : SizeIs P el i.size]
    (hs : ev e s = some sv) (hx : ev e x = some (.slice A m c)) (hr : Row el i.size sv k xs part) (hp : h.Perm (part ++ H)) (hn : Src B h A m i.size news)
    (hz : i.zero = some z) (hzs : z.cells.size = i.size) (hs0 : 0 < i.size) (h1 : news.all (·.oneCell') = true) (hb : (k + m) * i.bytes ≤ 140737488355328) (h63 : k + m ≤ maxLen) :
    EF P B h n e ⟨d, .call { callee := .builtin .append, args := #[s, x], argTypes := #[bt, bt] }, ty, ps, af, gd⟩ (fun v h' => ∃ part', Row el i.size v (k + m) (xs ++ news) part' ∧ h' = part' ++ H) :=
  .of_run fun a w g mm => by
    have mp := mm.perm hp
    have hlen := hr.len
    have hln := hn.len
    have ex : ∀ (v : Value) (w' : World), (Builtin.append_ #[bt, bt] ty #[sv, .slice A m c]).run P w = .ok v w' → (execOp a.eval ⟨d, .call { callee := .builtin .append, args := #[s, x], argTypes := #[bt, bt] }, ty, ps, af, gd⟩).run P w = .ok (.value v) w' := by
      intro v w' hv
      simp [execOp, resolve, invoke, builtin, g.eval hs, g.eval hx, hv]
    by_cases hm : m = 0
    · subst hm
      have hnil : news = [] := List.eq_nil_of_length_eq_zero (by simpa using hln)
      subst hnil
      cases hr with
      | nil => exact ⟨_, w, _, ex _ _ (run_append_zero (by omega)), mp, _, by simpa using Row.nil, rfl⟩
      | mk a1 a2 a3 => exact ⟨_, w, _, ex _ _ (run_append_zero a1), mp, _, by simpa using Row.mk a1 a2 a3, rfl⟩
    · obtain ⟨ad, rfl, hrd⟩ := hn.at_ (by rw [hln]; exact Nat.mul_pos (by omega) hs0)
      have hnews : ∀ j v, news[j]? = some v → w.cell? (ad.add j) = some v := fun j v hv => mm.cell (hrd j v hv)
      have h63' : k + m ≤ 9223372036854775807 := by simpa [maxLen] using h63
      have grown : ∀ (old : Nat), ∀ hlt : old < k + m, Row el i.size (.slice (some ⟨w.heap.size, 0, none⟩) (k + m) (grownCap w (k + m) old el)) (k + m) (xs ++ news)
          [(w.heap.size, .cells (xs ++ news ++ (Builtin.zeroCells z.cells (grownCap w (k + m) old el - (k + m))).toList) el (0, 0))] := fun old hlt => by
        have hge := grownCap_ge w (k + m) old el
        refine .mk hge ?_ ?_
        · have : (Builtin.zeroCells z.cells (grownCap w (k + m) old el - (k + m))).toList.length = (grownCap w (k + m) old el - (k + m)) * i.size := by rw [Array.length_toList, size_zeroCells, hzs]
          simp only [List.length_append, this, hlen, hln, Nat.zero_add, ← Nat.add_mul]
          exact Nat.mul_le_mul_right _ (by omega)
        · simp only [List.drop_zero]
          have : (k + m) * i.size = (xs ++ news).length := by simp [hlen, hln, Nat.add_mul]
          rw [this]
          exact List.take_left
      cases hr with
      | nil =>
        have hr2 := run_append_nil (P := P) w bt ty el i z u.eq hi hz ad m c news hln hnews (by omega) (by omega) (by simp only [Nat.zero_add] at hb; omega)
        have gr := grown 0 (by omega)
        simp only [Nat.zero_add, List.nil_append] at gr
        refine ⟨_, _, _, ex _ _ hr2, ?_, _, by simpa only [Nat.zero_add, List.nil_append] using gr, rfl⟩
        have := mp.drew.alloc (.cells (news ++ (Builtin.zeroCells z.cells (grownCap w m 0 el - m)).toList) el (0, 0))
        rw [Blk.toObj, toArray_app] at this
        exact this
      | @mk b off _ cap cs _ a1 a2 a3 =>
        have hmem : (b, Blk.cells cs el (0, 0)) ∈ [(b, Blk.cells cs el (0, 0))] ++ H := by simp
        have hblk := mp.at_ _ hmem
        by_cases hroom : k + m ≤ cap
        · have hfit : off + k * i.size + news.length ≤ cs.length := by
            have := Nat.mul_le_mul_right i.size hroom
            rw [Nat.add_mul] at this
            omega
          have hf := run_firstCells_some (P := P) w i.size m ad m c news hln hnews
          have hst := run_storeCells_at P b (off + k * i.size) el news 0 cs.toArray w hblk (by simpa using hfit) (by simpa using h1)
          simp only [Nat.add_zero] at hst
          have hadd : (⟨b, off, none⟩ : Addr).add (k * i.size) = ⟨b, off + k * i.size, none⟩ := Addr.add_lit _ _ _
          have hrun : (Builtin.append_ #[bt, bt] ty #[.slice (some ⟨b, off, none⟩) k cap, .slice (some ad) m c]).run P w = .ok (.slice (some ⟨b, off, none⟩) (k + m) cap) (w.setRow b (putAt cs (off + k * i.size) news).toArray) := by
            rw [putAt_eq _ _ _ hfit]
            simp [Builtin.append_, u.run, hsz.run, Builtin.lenOf, hroom, hf, hadd, hst]
          refine ⟨_, _, _, ex _ _ hrun, setRow_models mp .head, [(b, .cells (putAt cs (off + k * i.size) news) el (0, 0))], ?_, rfl⟩
          have hpl : (putAt cs (off + k * i.size) news).length = cs.length := by rw [putAt_eq _ _ _ hfit]; simp; omega
          refine .mk hroom (by rw [hpl]; exact a2) ?_
          subst a3
          apply List.ext_getElem?
          intro j
          rw [List.getElem?_take, List.getElem?_drop, putAt_eq _ _ _ hfit]
          have hk := Nat.mul_le_mul_right i.size (show k ≤ cap by omega)
          have hk2 : k * i.size ≤ cap * i.size := hk
          have e1 : (cs.take (off + k * i.size)).length = off + k * i.size := by simp; omega
          have e2 : ((cs.drop off).take (k * i.size)).length = k * i.size := by simp; omega
          have hkm : (k + m) * i.size = k * i.size + m * i.size := Nat.add_mul _ _ _
          rw [hkm]
          by_cases hj1 : j < k * i.size
          · rw [if_pos (by omega), List.append_assoc, List.getElem?_append_left (l₁ := cs.take (off + k * i.size)) (by omega), List.getElem?_append_left (l₁ := (cs.drop off).take (k * i.size)) (by omega)]
            rw [List.getElem?_take, List.getElem?_take, List.getElem?_drop, if_pos (by omega), if_pos hj1]
          · by_cases hj2 : j < k * i.size + m * i.size
            · rw [if_pos hj2, List.append_assoc, List.getElem?_append_right (l₁ := cs.take (off + k * i.size)) (by omega), List.getElem?_append_left (l₁ := news) (by omega), List.getElem?_append_right (l₁ := (cs.drop off).take (k * i.size)) (by omega)]
              congr 1
              omega
            · rw [if_neg hj2, List.getElem?_eq_none (by rw [List.length_append]; omega)]
        · have holds : ∀ j v, xs[j]? = some v → w.cell? ((⟨b, off, none⟩ : Addr).add j) = some v := fun j v hv => by
            have sr := Row.src (B := B) (h := [(b, Blk.cells cs el (0, 0))] ++ H) (Row.mk (el := el) (sz := i.size) (b := b) a1 a2 a3) (fun x hx => List.mem_append_left _ hx)
            obtain ⟨ad', e1, hrd'⟩ := sr.at_ (by rcases Nat.eq_zero_or_pos xs.length with h0 | h0; · rw [List.eq_nil_of_length_eq_zero h0] at hv; cases hv
                                                 · exact h0)
            injection e1 with e1
            subst e1
            exact mp.cell (hrd' j v hv)
          have hr2 := run_append_grow (P := P) w bt ty el i z u.eq hi hz ⟨b, off, none⟩ k cap xs hlen holds ad m c news hln hnews (by omega) (by omega) (growslice_fits (by omega) hb)
          refine ⟨_, _, _, ex _ _ hr2, ?_, _, grown cap (by omega), rfl⟩
          have := (mp.drew.sub (h' := H) (by simp)).alloc (.cells (xs ++ news ++ (Builtin.zeroCells z.cells (grownCap w (k + m) cap el - (k + m))).toList) el (0, 0))
          rw [Blk.toObj, toArray_app, ← List.append_toArray] at this
          exact this

theorem EF.append {bt el : TypeId} {s x : Operand} {sz bytes : Nat} {z sv : Value} {A : Option Addr} {m c k : Nat} {xs news : List Value} {part H : Own} [u : UndIs P bt (.slice el)] [hi : ElemIs P el sz bytes z] [hsz : SizeIs P el sz]
    (hs : ev e s = some sv) (hx : ev e x = some (.slice A m c)) (hr : Row el sz sv k xs part) (hp : h.Perm (part ++ H)) (hn : Src B h A m sz news)
    (hzs : z.cells.size = sz) (hs0 : 0 < sz) (h1 : news.all (·.oneCell') = true) (hb : (k + m) * bytes ≤ 140737488355328) (h63 : k + m ≤ 9223372036854775807) :
    EF P B h n e ⟨d, .call { callee := .builtin .append, args := #[s, x], argTypes := #[bt, bt] }, ty, ps, af, gd⟩ (fun v h' => ∃ part', Row el sz v (k + m) (xs ++ news) part' ∧ h' = part' ++ H) := by
  obtain ⟨i, h1', rfl, rfl, h4⟩ := hi.ex
  exact EF.append0 h1' hs hx hr hp hn h4 hzs hs0 h1 hb (by unfold maxLen; exact h63)

/-! ### calls -/
def evs (e : Env) : List Operand → Option (List Value)
  | [] => some []
  | x :: r => match ev e x, evs e r with
    | some v, some vs => some (v :: vs)
    | _, _ => none

theorem Agree.evs {a : Act} (g : Agree n e a) : ∀ {xs : List Operand} {vs : List Value}, Sep.evs e xs = some vs → xs.map a.eval = vs := by
  intro xs
  induction xs with
  | nil => intro vs h; simp [Sep.evs] at h; subst h; rfl
  | cons x r ih =>
    intro vs h
    simp only [Sep.evs] at h
    cases hx : ev e x with
    | none => simp [hx] at h
    | some v =>
      cases hr : Sep.evs e r with
      | none => simp [hx, hr] at h
      | some us => simp [hx, hr] at h; subst h; simp [g.eval hx, ih hr]

theorem EF.call {fo : Operand} {args : List Operand} {ats : Array TypeId} {g : FuncId} {fst cap : List Value} {vs : List Value} {K : Value → Own → Prop} [hc : CallIs P g]
    (hf : ev e fo = some (.func (.func g) fst.toArray cap.toArray)) (hv : evs e args = some vs) (ht : Tri P B g (fst ++ vs ++ cap) h K) :
    EF P B h n e ⟨d, .call { callee := .value fo, args := args.toArray, argTypes := ats }, ty, ps, af, gd⟩ K :=
  ⟨fun a w ag m Kw Q hk => by
    have hr : (execOp a.eval ⟨d, .call { callee := .value fo, args := args.toArray, argTypes := ats }, ty, ps, af, gd⟩).run P w = .ok (.enter g (fst ++ vs ++ cap).toArray) w := by
      simp [execOp, resolve, Deferred.ofValue, ag.eval hf, invoke, hc.run, ag.evs hv]
    unfold Oper.wp
    rw [hr]
    refine (ht.run w m).mono fun en w' ⟨v, h', he, m', hK⟩ => ?_
    subst he
    exact hk v h' w' m' hK⟩

/-- a call of a named function -/
theorem EF.callF {g : FuncId} {args : List Operand} {ats : Array TypeId} {vs : List Value} {K : Value → Own → Prop} [hc : CallIs P g]
    (hv : evs e args = some vs) (ht : Tri P B g vs h K) :
    EF P B h n e ⟨d, .call { callee := .value (.func g), args := args.toArray, argTypes := ats }, ty, ps, af, gd⟩ K :=
  EF.call (fst := []) (cap := []) rfl hv (by simpa using ht)
end
end Go.Sep
