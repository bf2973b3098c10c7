/- Maps in blocks of the call's own, whose keys are numbers: what is known of a map is the list of its entries, in the order in which they came. No project text. -/
import Derived.Test.YtbdlohjmifgcaaaSep9
import Derived.MapKept
import Derived.WideLaws
set_option linter.unusedSimpArgs false
set_option linter.unusedVariables false
namespace Go.Sep
open Go.RowKit Go.MapKept

instance (priority := 1600) SubO.appL {p h : Own} : SubO p (p ++ h) := ⟨List.sublist_append_left _ _⟩
/-- key, value, when it came -/
abbrev Ent (α : Type) := Int × α × Nat
def entM {α : Type} (kk : IntKind) (ev : α → Value) (x : Ent α) : MapEntry := ⟨.int kk x.1, ev x.2.1, x.2.2⟩
def mapB {α : Type} (kk : IntKind) (ev : α → Value) (l : List (Ent α)) (c : Nat) : Blk := .obj (.map (l.map (entM kk ev)).toArray c)
def findT {α : Type} : List (Ent α) → Int → Option α
  | [], _ => none
  | x :: r, k => if x.1 = k then some x.2.1 else findT r k
def updT {α : Type} : List (Ent α) → Nat → Int → α → List (Ent α)
  | [], c, k, v => [(k, v, c)]
  | x :: r, c, k, v => if x.1 = k then (k, v, x.2.2) :: r else x :: updT r c k v
def delT {α : Type} : List (Ent α) → Int → List (Ent α)
  | [], _ => []
  | x :: r, k => if x.1 = k then r else x :: delT r k
def clkT {α : Type} (l : List (Ent α)) (c : Nat) (k : Int) : Nat := if (findT l k).isSome then c else c + 1

theorem findNow_entM {α : Type} (kk : IntKind) (ev : α → Value) (k : Int) (c : Nat) (v : α) : ∀ (l : List (Ent α)) (i : Nat),
    (findT l k = none ∧ Instr.findNow (.int kk) (.int kk k) (l.map (entM kk ev)) i = some none ∧ updT l c k v = l ++ [(k, v, c)] ∧ delT l k = l) ∨
    ∃ j x, l[j]? = some x ∧ x.1 = k ∧ findT l k = some x.2.1 ∧ Instr.findNow (.int kk) (.int kk k) (l.map (entM kk ev)) i = some (some (i + j, ev x.2.1)) ∧ updT l c k v = l.set j (k, v, x.2.2) ∧ delT l k = l.eraseIdx j
  | [], i => .inl ⟨rfl, rfl, rfl, rfl⟩
  | x :: r, i => by
    by_cases h : x.1 = k
    · refine .inr ⟨0, x, rfl, h, by simp [findT, h], ?_, by simp [updT, h], by simp [delT, h]⟩
      simp [Instr.findNow, entM, Instr.sameNow, h]
    · have hne : ¬ k = x.1 := fun e => h e.symm
      rcases findNow_entM kk ev k c v r (i + 1) with ⟨h1, h2, h3, h4⟩ | ⟨j, y, h1, h2, h3, h4, h5, h6⟩
      · refine .inl ⟨by simp [findT, h, h1], ?_, by simp [updT, h, h3], by simp [delT, h, h4]⟩
        simp only [List.map_cons, Instr.findNow, entM, Instr.sameNow, if_true]
        rw [show (k == x.1) = false by simp [hne]]
        exact h2
      · refine .inr ⟨j + 1, y, by simpa using h1, h2, by simp [findT, h, h3], ?_, by simp [updT, h, h5], by simp [delT, h, h6]⟩
        simp only [List.map_cons, Instr.findNow, entM, Instr.sameNow, if_true]
        rw [show (k == x.1) = false by simp [hne]]
        refine Eq.trans h4 ?_
        rw [Nat.add_assoc, Nat.add_comm 1 j]

theorem map_erase {α β : Type} (f : α → β) (l : List α) (j : Nat) : (l.map f).eraseIdx j = (l.eraseIdx j).map f := by
  induction l generalizing j with
  | nil => simp
  | cons x r ih => cases j <;> simp [ih]
class AtM {α : outParam Type} (h : Own) (r : Nat) (kk : outParam IntKind) (ev : outParam (α → Value)) (l : outParam (List (Ent α))) (c : outParam Nat) : Prop where mem : (r, mapB kk ev l c) ∈ h
section
variable {α : Type} {kk : IntKind} {ev : α → Value} {l l' : List (Ent α)} {c c' r : Nat} {h h' p : Own} {x : Nat × Blk}
instance (priority := 2000) AtM.head : AtM ((r, mapB kk ev l c) :: h) r kk ev l c := ⟨List.mem_cons_self⟩
instance (priority := 1000) AtM.tail [i : AtM h r kk ev l c] : AtM (x :: h) r kk ev l c := ⟨List.mem_cons_of_mem _ i.mem⟩
instance (priority := 900) AtM.app [i : AtM h r kk ev l c] : AtM (p ++ h) r kk ev l c := ⟨List.mem_append_right _ i.mem⟩
end
class UpM {α : Type} (h : Own) (r : Nat) (kk : outParam IntKind) (ev : outParam (α → Value)) (l : outParam (List (Ent α))) (c : outParam Nat) (l' : List (Ent α)) (c' : Nat) (h' : outParam Own) : Prop where upd : Upd h r (mapB kk ev l c) (mapB kk ev l' c') h'
section
variable {α : Type} {kk : IntKind} {ev : α → Value} {l l' : List (Ent α)} {c c' r : Nat} {h h' p : Own} {x : Nat × Blk}
instance (priority := 2000) UpM.head : UpM ((r, mapB kk ev l c) :: h) r kk ev l c l' c' ((r, mapB kk ev l' c') :: h) := ⟨.head⟩
instance (priority := 1000) UpM.tail [i : UpM h r kk ev l c l' c' h'] : UpM (x :: h) r kk ev l c l' c' (x :: h') := ⟨.tail i.upd⟩
instance (priority := 900) UpM.app [i : UpM h r kk ev l c l' c' h'] : UpM (p ++ h) r kk ev l c l' c' (p ++ h') := ⟨.app i.upd⟩
end

section
variable {P : Program} {B : World} {h : Own} {M : List Nat} {n : Nat} {e : Env}
variable {d : Option Tmp} {ty : TypeId} {ps : String} {af : Array Edge} {gd : Option (Nat × Bool)}
variable {α : Type} {kk : IntKind} {ev : α → Value} {l : List (Ent α)} {c r : Nat}

theorem map_at {w : World} (hw : Held B h M w) (hm : (r, mapB kk ev l c) ∈ h) (hM : r ∉ M) : w.heap[r]? = some (.map (l.map (entM kk ev)).toArray c) := hw.2 _ hm hM

theorem okKey {w : World} {kt : TypeId} {k : Int} [uk : UndIs P kt (.int kk)] (b : Bool) : (Instr.checkKey b 10000 kt (.int kk k)).run P w = .ok () w := run_checkKey uk.eq (by simp [IsKey]) _ 9999

theorem run_lookup {w : World} {t kt et : TypeId} {k : Int} {a0 : α} {z : Value} {zs : List Value} [um : UndIs P t (.map kt et)] [uk : UndIs P kt (.int kk)] [hz : ZeroIs P et z zs] (hz0 : z = ev a0) (b : Bool)
    (hb : w.heap[r]? = some (.map (l.map (entM kk ev)).toArray c)) : (Instr.lookup t (.map (some r)) (.int kk k) b).run P w = .ok (if b then .tuple #[ev ((findT l k).getD a0), .bool (findT l k).isSome] else ev ((findT l k).getD a0)) w := by
  have hc := fun b => okKey (P := P) (w := w) (kt := kt) (kk := kk) (k := k) b
  subst hz0
  rcases findNow_entM kk ev k c a0 l 0 with ⟨h1, h2, _⟩ | ⟨j, y, _, _, h3, h4, _⟩
  · have hf := run_findKey (P := P) (w := w) uk.eq h2
    cases b <;> simp [Instr.lookup, um.run, MapKept.run_getObj_map hb, hc, hf, hz.run, h1]
  · have hf := run_findKey (P := P) (w := w) uk.eq h4
    cases b <;> simp [Instr.lookup, um.run, MapKept.run_getObj_map hb, hc, hf, h3]
theorem RV.lookup {t kt et : TypeId} {x ix : Operand} {k : Int} (a0 : α) {z : Value} {zs : List Value} [um : UndIs P t (.map kt et)] (hx : Sep.ev e x = some (.map (some r))) [a : AtM h r kk ev l c] [uk : UndIs P kt (.int kk)] [hz : ZeroIs P et z zs]
    (hi : Sep.ev e ix = some (.int kk k)) (hz0 : z = ev a0) (hM : r ∉ M) : RV P B h M n e ⟨d, .lookup t x ix false, ty, ps, af, gd⟩ (ev ((findT l k).getD a0)) := ⟨fun a' g w hw => by
  have := run_lookup (P := P) (k := k) (t := t) hz0 false (map_at hw a.mem hM)
  simp only [execOp, g.eval hx, g.eval hi, Sem.run_bind, this, Result.andThen_ok]; rfl⟩
theorem RV.lookupOk {t kt et : TypeId} {x ix : Operand} {k : Int} (a0 : α) {z : Value} {zs : List Value} [um : UndIs P t (.map kt et)] (hx : Sep.ev e x = some (.map (some r))) [a : AtM h r kk ev l c] [uk : UndIs P kt (.int kk)] [hz : ZeroIs P et z zs]
    (hi : Sep.ev e ix = some (.int kk k)) (hz0 : z = ev a0) (hM : r ∉ M) : RV P B h M n e ⟨d, .lookup t x ix true, ty, ps, af, gd⟩ (.tuple #[ev ((findT l k).getD a0), .bool (findT l k).isSome]) := ⟨fun a' g w hw => by
  have := run_lookup (P := P) (k := k) (t := t) hz0 true (map_at hw a.mem hM)
  simp only [execOp, g.eval hx, g.eval hi, Sem.run_bind, this, Result.andThen_ok]; rfl⟩
theorem RV.lenM {bt kt et : TypeId} {x : Operand} [um : UndIs P bt (.map kt et)] (hx : Sep.ev e x = some (.map (some r))) [a : AtM h r kk ev l c] (hM : r ∉ M) :
    RV P B h M n e ⟨d, .call { callee := .builtin .len, args := #[x], argTypes := #[bt] }, ty, ps, af, gd⟩ (.int .i64 l.length) := ⟨fun a' g w hw => by
  have hb := map_at hw a.mem hM
  simp [execOp, resolve, invoke, builtin, g.eval hx, Builtin.len_, um.run, MapKept.run_getObj_map hb, goInt]⟩

theorem set_models {w : World} {h' : Own} {b : Nat} {o o' : Blk} (m : Models B h w) (u : Upd h b o o' h') : Models B h' { w with heap := w.heap.setIfInBounds b o'.toObj } := by
  have hb := m.at_ _ u.mem
  have hs := heap_set (o' := o'.toObj) hb
  exact m.upd u rfl rfl rfl (by simp) hs.1 hs.2

theorem EF.makeMap {α : Type} (kk : IntKind) (ev : α → Value) {t : TypeId} : EF P B h n e ⟨d, .makeMap t none, ty, ps, af, gd⟩ (fun v h' => ∃ r, Fresh B h r ∧ v = .map (some r) ∧ h' = (r, mapB kk ev ([] : List (Ent α)) 0) :: h) :=
  .of_run fun a w g m => ⟨_, _, _, by simp [execOp, Instr.makeMap]; rfl, m.alloc (mapB kk ev [] 0), _, m.fresh, rfl, rfl⟩

theorem EF.mapUpdate {t kt et : TypeId} {x ix y : Operand} {k : Int} (v : α) {h' : Own} [um : UndIs P t (.map kt et)] (hx : Sep.ev e x = some (.map (some r))) [uk : UndIs P kt (.int kk)]
    (hi : Sep.ev e ix = some (.int kk k)) [u : UpM h r kk ev l c (updT l c k v) (clkT l c k) h'] (hy : Sep.ev e y = some (ev v)) : EF P B h n e ⟨none, .mapUpdate t x ix y, ty, ps, af, gd⟩ (fun _ h2 => h2 = h') :=
  .of_skip rfl fun a w g m => by
    have hb : w.heap[r]? = some (.map (l.map (entM kk ev)).toArray c) := m.at_ _ u.upd.mem
    have hc := fun b => okKey (P := P) (w := w) (kt := kt) (kk := kk) (k := k) b
    refine ⟨_, h', ?_, set_models m u.upd, rfl⟩
    rcases findNow_entM kk ev k c v l 0 with ⟨h1, h2, h3, _⟩ | ⟨j, y', h0, hk, h3, h4, h5, _⟩
    · have hf := run_findKey (P := P) (w := w) uk.eq h2
      simp [execOp, g.eval hx, g.eval hi, g.eval hy, Instr.mapUpdate, um.run, MapKept.run_getObj_map hb, hc, hf, MapKept.run_setObj_map _ hb, h1, h3, mapB, Blk.toObj, clkT, entM]
    · have hf := run_findKey (P := P) (w := w) uk.eq h4
      have hkey : ((l.map (entM kk ev)).toArray[j]?.map (·.key)).getD (.int kk k) = .int kk k := by simp [h0, entM, hk]
      have hst := run_keyThatStays (P := P) (w := w) (d := .int kk) (k := .int kk k) (by simp [IsKey])
      have hm : (l.map (entM kk ev)).toArray.modify j (fun e => { e with key := .int kk k, val := ev v }) = ((l.set j (k, v, y'.2.2)).map (entM kk ev)).toArray := by
        apply Array.ext'
        apply List.ext_getElem?
        intro i
        simp only [Array.getElem?_toList, Array.getElem?_modify, List.getElem?_toArray, List.getElem?_map, List.getElem?_set]
        by_cases hij : j = i
        · subst hij
          have hlt : j < l.length := (List.getElem?_eq_some_iff.1 h0).1
          have hy' : l[j] = y' := (List.getElem?_eq_some_iff.1 h0).2
          simp [hlt, entM, hy']
        · simp [hij]
      rw [Nat.zero_add] at hf
      simp only [execOp, g.eval hx, g.eval hi, g.eval hy, Instr.mapUpdate, Sem.run_bind, um.run, Result.andThen_ok, MapKept.run_getObj_map hb, hc, hf, hkey, hst, MapKept.run_setObj_map _ hb, hm, h3, h5, mapB, Blk.toObj, clkT]
      rfl
theorem EF.delete {t kt et : TypeId} {x ix : Operand} {k : Int} (v0 : α) {h' : Own} [um : UndIs P t (.map kt et)] (hx : Sep.ev e x = some (.map (some r))) [uk : UndIs P kt (.int kk)]
    (hi : Sep.ev e ix = some (.int kk k)) {t2 : TypeId} [u : UpM h r kk ev l c (delT l k) c h'] :
    EF P B h n e ⟨d, .call { callee := .builtin .delete, args := #[x, ix], argTypes := #[t, t2] }, ty, ps, af, gd⟩ (fun v h2 => v = .tuple #[] ∧ h2 = h') :=
  .of_run fun a w g m => by
    have hb : w.heap[r]? = some (.map (l.map (entM kk ev)).toArray c) := m.at_ _ u.upd.mem
    have hc := fun b => okKey (P := P) (w := w) (kt := kt) (kk := kk) (k := k) b
    refine ⟨.tuple #[], _, h', ?_, set_models m u.upd, rfl, rfl⟩
    have hgo : (Builtin.delete_ #[t, t2] ty #[.map (some r), .int kk k]).run P w = .ok (.tuple #[]) { w with heap := w.heap.setIfInBounds r (.map ((delT l k).map (entM kk ev)).toArray c) } := by
      rcases findNow_entM kk ev k c v0 l 0 with ⟨h1, h2, _, h4⟩ | ⟨j, y', h0, hk, h3, h4, _, h6⟩
      · have hf := run_findKey (P := P) (w := w) uk.eq h2
        simp [Builtin.delete_, um.run, MapKept.run_getObj_map hb, hc, hf, MapKept.run_setObj_map _ hb, h4]
      · have hf := run_findKey (P := P) (w := w) uk.eq h4
        have hlt : j < l.length := (List.getElem?_eq_some_iff.1 h0).1
        rw [Nat.zero_add] at hf
        simp [Builtin.delete_, um.run, MapKept.run_getObj_map hb, hc, hf, MapKept.run_setObj_map _ hb, h6, Array.eraseIdxIfInBounds, hlt, map_erase]
    simp only [execOp, resolve, invoke, builtin, List.map_toArray, List.map_cons, List.map_nil, g.eval hx, g.eval hi, Sem.run_bind]
    have e1 : (Array.map a.eval #[x, ix]) = #[.map (some r), .int kk k] := by simp [g.eval hx, g.eval hi]
    simp [e1, g.eval hx, g.eval hi, hgo, mapB, Blk.toObj]
end
end Go.Sep
namespace Go.Sep
section
variable {α : Type}
theorem findT_upd (l : List (Ent α)) (c : Nat) (k : Int) (v : α) (j : Int) : findT (updT l c k v) j = if j = k then some v else findT l j := by
  induction l with
  | nil => by_cases h : k = j <;> simp [updT, findT, h, eq_comm]
  | cons x r ih =>
    by_cases h : x.1 = k
    · by_cases h2 : j = k
      · subst h2; simp [updT, findT, h]
      · have h3 : ¬ k = j := fun e => h2 e.symm
        simp [updT, findT, h, h2, h3]
    · by_cases h2 : x.1 = j
      · have h3 : ¬ j = k := fun e => h (h2.trans e)
        simp [updT, findT, h, h2, h3]
      · simp [updT, findT, h, h2, ih]
theorem len_upd (l : List (Ent α)) (c : Nat) (k : Int) (v : α) : (updT l c k v).length = if (findT l k).isSome = true then l.length else l.length + 1 := by
  induction l with
  | nil => simp [updT, findT]
  | cons x r ih =>
    by_cases h : x.1 = k
    · simp [updT, findT, h]
    · simp only [updT, findT, h, if_false, List.length_cons, ih]; split <;> rfl
def KeysOk (l : List (Ent α)) : Prop := (l.map (·.1)).Nodup
theorem findT_none {l : List (Ent α)} {k : Int} : findT l k = none ↔ k ∉ l.map (·.1) := by
  induction l with
  | nil => simp [findT]
  | cons x r ih =>
    by_cases h : x.1 = k
    · simp [findT, h]
    · have : ¬ k = x.1 := fun e => h e.symm
      simp [findT, h, this, ih]
theorem keys_upd (l : List (Ent α)) (c : Nat) (k : Int) (v : α) : (updT l c k v).map (·.1) = if (findT l k).isSome = true then l.map (·.1) else l.map (·.1) ++ [k] := by
  induction l with
  | nil => simp [updT, findT]
  | cons x r ih =>
    by_cases h : x.1 = k
    · simp [updT, findT, h]
    · simp only [updT, findT, h, if_false, List.map_cons, ih]; split <;> rfl
theorem KeysOk.upd {l : List (Ent α)} (h : KeysOk l) (c : Nat) (k : Int) (v : α) : KeysOk (updT l c k v) := by
  unfold KeysOk
  rw [keys_upd]
  split
  · exact h
  · next hn =>
    have : findT l k = none := by cases hf : findT l k with | none => rfl | some _ => simp [hf] at hn
    rw [List.nodup_append]
    exact ⟨h, by simp, fun a ha b hb => by simp at hb; subst hb; intro e; subst e; exact (findT_none.1 this) ha⟩
theorem findT_del {l : List (Ent α)} (h : KeysOk l) (k j : Int) : findT (delT l k) j = if j = k then none else findT l j := by
  induction l with
  | nil => simp [delT, findT]
  | cons x r ih =>
    have hr : KeysOk r := (List.nodup_cons.1 h).2
    have hx : x.1 ∉ r.map (·.1) := (List.nodup_cons.1 h).1
    by_cases h1 : x.1 = k
    · by_cases h2 : j = k
      · subst h2
        simp only [delT, h1, if_true]
        exact findT_none.2 (h1 ▸ hx)
      · have : ¬ k = j := fun e => h2 e.symm
        simp [delT, findT, h1, h2, this]
    · by_cases h2 : x.1 = j
      · have h3 : ¬ j = k := fun e => h1 (h2.trans e)
        simp only [delT, h1, if_false, findT, h2, h3]
        simp
      · simp only [delT, findT, h1, h2, if_false]; exact ih hr
theorem len_del (l : List (Ent α)) (k : Int) : ((delT l k).length : Int) = if (findT l k).isSome = true then (l.length : Int) - 1 else l.length := by
  induction l with
  | nil => simp [delT, findT]
  | cons x r ih =>
    by_cases h : x.1 = k
    · simp [delT, findT, h]
    · simp only [delT, findT, h, if_false, List.length_cons]
      split at ih <;> simp_all <;> omega
theorem KeysOk.del {l : List (Ent α)} (h : KeysOk l) (k : Int) : KeysOk (delT l k) := by
  have : (delT l k).Sublist l := by
    clear h
    induction l with
    | nil => exact List.Sublist.refl _
    | cons x r ih =>
      unfold delT
      split
      · exact List.sublist_cons_self _ _
      · exact ih.cons_cons _
  exact (this.map _).nodup h
theorem KeysOk.nil : KeysOk ([] : List (Ent α)) := by simp [KeysOk]
end
end Go.Sep
namespace Go.Sep
theorem Row.takeN {el sz m c : Nat} {A : Option Addr} {n : Nat} {xs : List Value} {p : Own} (r : Row el sz (.slice A m c) n xs p) (k : Nat) (hk : k ≤ n) : Row el sz (.slice A k c) k (xs.take (k * sz)) p := by
  cases r with
  | nil =>
    have : k = 0 := by omega
    subst this
    simpa using Row.nil
  | mk h1 h2 h3 =>
    refine .mk (by omega) h2 ?_
    rw [← h3, List.take_take]
    congr 1
    have := Nat.mul_le_mul_right sz hk
    omega
end Go.Sep
