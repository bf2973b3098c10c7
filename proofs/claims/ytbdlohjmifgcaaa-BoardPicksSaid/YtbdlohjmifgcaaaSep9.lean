/- Rearranging what is known of memory. No project text. -/
import Derived.Test.YtbdlohjmifgcaaaSep8
import Derived.Lib.SliceRun
import Derived.Laws.StructEq
set_option linter.unusedSimpArgs false
set_option linter.unusedVariables false
namespace Go.Sep
open Go.RowKit
instance (priority := 1900) SubO.nil {h : Own} : SubO [] h := ⟨List.nil_sublist _⟩
theorem perm_in (p pre : Own) (x : Nat × Blk) (r : Own) : (p ++ (pre ++ x :: r)).Perm (pre ++ x :: (p ++ r)) := by
  have h1 : (p ++ (pre ++ x :: r)).Perm (pre ++ (p ++ x :: r)) := by
    rw [← List.append_assoc, ← List.append_assoc]
    exact List.perm_append_comm.append_right _
  exact h1.trans (List.Perm.append_left pre List.perm_middle)
theorem perm_in1 (p pre : Own) (b x : Nat × Blk) (r : Own) : (p ++ (b :: (pre ++ x :: r))).Perm (b :: (pre ++ x :: (p ++ r))) :=
  List.perm_middle.trans ((perm_in p pre x r).cons b)
end Go.Sep
namespace Go.Sep
open Go.RowKit
section
variable {P : Program} {B : World} {f n : Nat} {R : Value → Own → Prop} {k : List Item} {e : Env} {h : Own}
/-- where several ways meet: what lies behind is shown once -/
theorem AK.cut {α : Type} (E : α → Env) (H : α → Own) (Inv : α → Prop) {c : Item} (hrest : ∀ x, Inv x → AK P B f n R k (E x) (H x))
    (hk : (∀ x, Inv x → AK P B f n R k (E x) (H x)) → AK P B f n R (c :: k) e h) : AK P B f n R (c :: k) e h := hk hrest
theorem AK.geOf {b : Nat} {o : Blk} (hm : (b, o) ∈ h) (hk : B.heap.size ≤ b → AK P B f n R k e h) : AK P B f n R k e h :=
  ⟨fun a w g m cs => (hk (m.ge _ hm)).run a w g m cs⟩
variable {M : List Nat} {d : Option Tmp} {ty : TypeId} {ps : String} {af : Array Edge} {gd : Option (Nat × Bool)}
/-- a field of an element of a slice of structs that came in -/
theorem RV.loadSF {α : Type} [Inhabited α] {h0 : Own} {t : TypeId} {x : Operand} {A : Option Addr} {i : Int} {fo sz : Nat} {enc : α → List Value} {l : List α} {len : Nat} {v : Value} [u : AggIs P t false]
    (hx : ev e x = some (.pointer (some ((adr A (i.toNat * sz)).add fo)))) (hs : Src B h0 A len sz (flat enc l)) [s : SubO h0 h] (hl : ∀ x, (enc x).length = sz) (hi : 0 ≤ i ∧ i < l.length) (hf : Nat.blt fo sz = true)
    (hv : nth (enc (lget l i)) fo = some v) (hM : ((adr A (i.toNat * sz)).add fo).block ∉ M) : RV P B h M n e ⟨d, .load t x, ty, ps, af, gd⟩ v := by
  obtain ⟨h2, e2⟩ := lget_at hi
  have hf' : fo < sz := by simpa [Nat.blt_eq] using hf
  have := hs.get (h := h) (k := i.toNat * sz + fo) (v := v) (by rw [← nth_eq, flat_nth hl l _ h2 fo hf', ← e2]; exact hv)
  refine .load hx ?_ hM
  rw [show (adr A (i.toNat * sz)).add fo = adr A (i.toNat * sz + fo) by unfold adr; rw [add_add]]
  exact this
end
end Go.Sep
namespace Go.Sep
open Go.RowKit
/-- v is a slice of its own, of new memory, that reads as xs -/
def NewS (el sz n : Nat) (xs : List Value) (h : Own) (v : Value) (h' : Own) : Prop := ∃ A c p, v = .slice A n c ∧ Row el sz (.slice A n c) n xs p ∧ n ≤ c ∧ h' = p ++ h
theorem Row.newS {el sz n : Nat} {v : Value} {xs : List Value} {p h : Own} (r : Row el sz v n xs p) : NewS el sz n xs h v (p ++ h) := by
  obtain ⟨A, c, rfl, hc, _⟩ := r.slice
  exact ⟨A, c, p, rfl, r, hc, rfl⟩
/-- the part u of h, taken to the front -/
class TakeO (h u : Own) (r : outParam Own) : Prop where perm : h.Perm (u ++ r)
instance (priority := 2000) TakeO.head {u r : Own} : TakeO (u ++ r) u r := ⟨List.Perm.refl _⟩
instance (priority := 1900) TakeO.head1 {x : Nat × Blk} {r : Own} : TakeO (x :: r) [x] r := ⟨List.Perm.refl _⟩
instance (priority := 1000) TakeO.app {x u r r' : Own} [i : TakeO r u r'] : TakeO (x ++ r) u (x ++ r') := ⟨(i.perm.append_left x).trans (by rw [← List.append_assoc, ← List.append_assoc]; exact List.perm_append_comm.append_right _)⟩
instance (priority := 1000) TakeO.cons {x : Nat × Blk} {u r r' : Own} [i : TakeO r u r'] : TakeO (x :: r) u (x :: r') := ⟨(i.perm.cons x).trans List.perm_middle.symm⟩
open Classical in
theorem perm_count {a b : Own} (h : ∀ x, a.count x = b.count x) : a.Perm b := List.perm_iff_count.2 h
end Go.Sep
namespace Go.Sep
open Go.RowKit
section
variable {P : Program} {B : World} {f n : Nat} {R : Value → Own → Prop} {k : List Item} {e : Env} {h : Own}
variable {M : List Nat} {d : Option Tmp} {ty : TypeId} {ps : String} {af : Array Edge} {gd : Option (Nat × Bool)}
theorem EF.appendS {bt el : TypeId} {s x : Operand} {sz bytes n' : Nat} {z sv : Value} {A : Option Addr} {m c k : Nat} {xs news ys : List Value} {part H : Own} [u : UndIs P bt (.slice el)] [hi : ElemIs P el sz bytes z] [hsz : SizeIs P el sz]
    (hs : ev e s = some sv) (hx : ev e x = some (.slice A m c)) (hr : Row el sz sv k xs part) [t : TakeO h part H] (hn : Src B h A m sz news)
    (hn' : n' = k + m) (hys : ys = xs ++ news) (hzs : z.cells.size = sz) (hs0 : 0 < sz) (h1 : news.all (·.oneCell') = true) (hb : (k + m) * bytes ≤ 140737488355328) (h63 : k + m ≤ 9223372036854775807) :
    EF P B h n e ⟨d, .call { callee := .builtin .append, args := #[s, x], argTypes := #[bt, bt] }, ty, ps, af, gd⟩ (NewS el sz n' ys H) := by
  subst hn' hys
  exact (EF.append hs hx hr t.perm hn hzs hs0 h1 hb h63).mono fun v h' ⟨p, hr, e⟩ => by subst e; exact hr.newS
theorem RV.eqlSn {xt yt te : TypeId} {x y : Operand} {p : Option Addr} {l c l' c' : Nat} [u : UndIs P xt (.slice te)] (hx : ev e x = some (.slice p l c)) (hy : ev e y = some (.slice none l' c')) :
    RV P B h M n e ⟨d, .binOp .eql xt x y yt, ty, ps, af, gd⟩ (.bool p.isNone) := .pure fun a g w => by
  simp [execOp, g.eval hx, g.eval hy, eqGuard_at_slice, Lib.run_eql_slice_nil w xt te p l c l' c' u.eq]
end
theorem Src.isNone {B : World} {h : Own} {A : Option Addr} {m sz : Nat} {xs : List Value} (s : Src B h A m sz xs) (hA : A.isNone = true) : xs = [] := by
  rcases Nat.eq_zero_or_pos xs.length with h0 | h0
  · exact List.eq_nil_of_length_eq_zero h0
  · obtain ⟨ad, rfl, _⟩ := s.at_ h0; cases hA
abbrev encB (x : Int) : List Value := [.int .u8 x]
theorem flat_encB (l : List Int) : flat encB l = l.map (fun x => Value.int .u8 x) := by
  induction l with
  | nil => rfl
  | cons x r ih => simp only [flat, List.flatMap_cons, List.map_cons] at *; rw [ih]; rfl
end Go.Sep
namespace Go.Sep
open Go.RowKit
instance (priority := 1500) SubO.bothApp {p h' h : Own} [i : SubO h' h] : SubO (p ++ h') (p ++ h) := ⟨List.Sublist.append_left i.sub p⟩
theorem NewS.to {el sz n n' : Nat} {xs ys : List Value} {h h' : Own} {v : Value} (r : NewS el sz n xs h v h') (hn : n = n') (hx : xs = ys) : NewS el sz n' ys h v h' := by subst hn hx; exact r
section
variable {P : Program} {B : World} {f n : Nat} {R : Value → Own → Prop} {k : List Item} {e : Env} {h : Own}
variable {M : List Nat} {d : Option Tmp} {ty : TypeId} {ps : String} {af : Array Edge} {gd : Option (Nat × Bool)}
/-- a part of a block of the call's own -/
theorem RV.loadAggP {t : TypeId} {x : Operand} {b off sz : Nat} {cs vs : List Value} {bt : TypeId} {fz : Nat × Nat} [u : AggIs P t true] [us : SizeIs P t sz] (hx : ev e x = some (.pointer (some ⟨b, off, none⟩))) [i : AtO h b cs bt fz]
    (hv : (cs.drop off).take sz = vs) (hl : vs.length = sz) (hM : b ∉ M) : RV P B h M n e ⟨d, .load t x, ty, ps, af, gd⟩ (.agg vs.toArray) := .loadAgg hx (.ownAt i.mem hl hv) hM
/-- an array that reads as a list, at an index known by a name -/
theorem RV.indexArrL {α : Type} [Inhabited α] {enc : α → Value} {l : List α} {t el len : Nat} {x ix : Operand} {k : IntKind} {i : Int} {cs : List Value} [u : UndIs P t (.array len el)] [ua : AggIs P el false] [hs : SizeIs P el 1]
    (hx : ev e x = some (.agg cs.toArray)) (hc : cs = l.map enc) (hi : ev e ix = some (.int k i)) (hr : 0 ≤ i ∧ i < len) (hl : l.length = len) : RV P B h M n e ⟨d, .index t x ix, ty, ps, af, gd⟩ (enc (lget l i)) := by
  refine RV.indexArr hx hi hr ?_
  subst hc
  rw [nth_eq]
  have : i.toNat < l.length := by omega
  simp [lget, List.getD, this]
theorem RV.eqlAgg {xt yt : TypeId} {x y : Operand} {xs ys : List Value} {b : Bool} (hx : ev e x = some (.agg xs.toArray)) (hy : ev e y = some (.agg ys.toArray)) (hg : P.eqGuardType P.depth xt = false)
    (hu : P.underlying xt = some (.struct (P.fieldsOf xt))) (hs : P.stoodInHeld xt = false) (hr : ∀ w, (Op.eqFields 9999 xs.toArray ys.toArray (P.fieldsOf xt).toList).run P w = .ok b w) :
    RV P B h M n e ⟨d, .binOp .eql xt x y yt, ty, ps, af, gd⟩ (.bool b) := .pure fun a g w => by
  have h1 := run_eqGuard_agg (P := P) w .eql xt x y xs.toArray ys.toArray hg
  have h2 := run_equalIn_agg (P := P) w 9999 xt xs.toArray ys.toArray hu hs
  have h3 := run_eql_struct (P := P) w xt xs.toArray ys.toArray
  rw [h2, hr] at h3
  simp only [execOp, g.eval hx, g.eval hy, Sem.run_bind, h1, h3, Result.andThen_ok]
  rfl
end
end Go.Sep
