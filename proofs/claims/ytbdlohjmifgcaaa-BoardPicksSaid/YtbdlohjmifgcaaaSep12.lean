/- Going through a map of the call's own, in whatever order it comes. No project text. -/
import Derived.Test.YtbdlohjmifgcaaaSep11
import Derived.Maps.RangeRun
set_option linter.unusedSimpArgs false
set_option linter.unusedVariables false
namespace Go.Sep
open Go.RowKit Go.MapKept Go.ChangeMaps

/-- one who goes through map bm: who was met (by when it came) -/
def itB (bm since : Nat) (seen : List Nat) (c0 : Nat) : Blk := .obj (.mapIter (some bm) since seen.toArray c0)
class AtI (h : Own) (r : Nat) (bm since : outParam Nat) (seen : outParam (List Nat)) (c0 : outParam Nat) : Prop where mem : (r, itB bm since seen c0) ∈ h
section
variable {h p : Own} {r bm since c0 : Nat} {seen : List Nat} {x : Nat × Blk}
instance (priority := 2000) AtI.head : AtI ((r, itB bm since seen c0) :: h) r bm since seen c0 := ⟨List.mem_cons_self⟩
instance (priority := 1000) AtI.tail [i : AtI h r bm since seen c0] : AtI (x :: h) r bm since seen c0 := ⟨List.mem_cons_of_mem _ i.mem⟩
instance (priority := 900) AtI.app [i : AtI h r bm since seen c0] : AtI (p ++ h) r bm since seen c0 := ⟨List.mem_append_right _ i.mem⟩
end
class UpI (h : Own) (r : Nat) (bm since : outParam Nat) (seen : outParam (List Nat)) (c0 : outParam Nat) (F : outParam (Blk → Own)) : Prop where upd : ∀ k, Upd h r (itB bm since seen c0) k (F k)
section
variable {h p : Own} {r bm since c0 : Nat} {seen : List Nat} {x : Nat × Blk} {F : Blk → Own}
instance (priority := 2000) UpI.head : UpI ((r, itB bm since seen c0) :: h) r bm since seen c0 (fun k => (r, k) :: h) := ⟨fun _ => .head⟩
instance (priority := 1000) UpI.tail [i : UpI h r bm since seen c0 F] : UpI (x :: h) r bm since seen c0 (fun k => x :: F k) := ⟨fun k => .tail (i.upd k)⟩
instance (priority := 900) UpI.app [i : UpI h r bm since seen c0 F] : UpI (p ++ h) r bm since seen c0 (fun k => p ++ F k) := ⟨fun k => .app (i.upd k)⟩
end
/-- each entry came once, and by now -/
def StampT {α : Type} (l : List (Ent α)) (c : Nat) : Prop := (∀ x ∈ l, x.2.2 < c) ∧ (l.map (·.2.2)).Nodup
section
variable {P : Program} {B : World} {h : Own} {M : List Nat} {n : Nat} {e : Env}
variable {d : Option Tmp} {ty : TypeId} {ps : String} {af : Array Edge} {gd : Option (Nat × Bool)}
variable {α : Type} {kk : IntKind} {ev : α → Value} {l : List (Ent α)} {c r bm : Nat}
theorem EF.range {t kt et : TypeId} {x : Operand} [um : UndIs P t (.map kt et)] (hx : Sep.ev e x = some (.map (some bm))) [a : AtM h bm kk ev l c] :
    EF P B h n e ⟨d, .range t x, ty, ps, af, gd⟩ (fun v h' => ∃ r, Fresh B h r ∧ v = .pointer (some ⟨r, 0, none⟩) ∧ h' = (r, itB bm c [] c) :: h) :=
  .of_run fun a' w g m => by
    have hb : w.heap[bm]? = some (.map (l.map (entM kk ev)).toArray c) := m.at_ _ a.mem
    exact ⟨_, _, _, by simp [execOp, g.eval hx, run_range_map w t kt et bm _ c um.eq hb]; rfl, m.alloc (itB bm c [] c), _, m.fresh, rfl, rfl⟩
theorem EF.next {x : Operand} {seen : List Nat} {c0 : Nat} {F : Blk → Own} (hx : Sep.ev e x = some (.pointer (some ⟨r, 0, none⟩))) [u : UpI h r bm c seen c0 F] [a : AtM h bm kk ev l c] (hst : StampT l c) (hc0 : c ≤ c0) :
    EF P B h n e ⟨d, .next x false, ty, ps, af, gd⟩ (fun v h' => ((∀ y ∈ l, y.2.2 ∈ seen) ∧ v = .tuple #[.bool false] ∧ h' = h) ∨ ∃ y ∈ l, y.2.2 ∉ seen ∧ v = .tuple #[.bool true, .int kk y.1, ev y.2.1] ∧ h' = F (itB bm c (seen ++ [y.2.2]) c)) :=
  .of_run fun a' w g m => by
    have hb : w.heap[bm]? = some (.map (l.map (entM kk ev)).toArray c) := m.at_ _ a.mem
    have hr : w.heap[r]? = some (.mapIter (some bm) c seen.toArray c0) := m.at_ _ (u.upd (itB bm c [] c)).mem
    have hold : ∀ x ∈ (l.map (entM kk ev)).toArray.toList, x.born < c := by
      intro x hx
      simp only [List.mem_map] at hx
      obtain ⟨y, hy, rfl⟩ := hx
      exact hst.1 y hy
    rcases run_next_at (P := P) w ty r bm c c0 seen.toArray (l.map (entM kk ev)).toArray c hr hb hold hc0 with ⟨h0, hrun⟩ | ⟨e', he', w1, hw1, hrun⟩
    · refine ⟨_, w, h, by simp only [execOp, g.eval hx, Sem.run_bind, hrun, Result.andThen_ok]; rfl, m, .inl ⟨fun y hy => ?_, rfl, rfl⟩⟩
      have h2 : leftOf (l.map (entM kk ev)).toArray seen.toArray = #[] := Array.eq_empty_of_size_eq_zero h0
      have hn : ¬ (entM kk ev y) ∈ leftOf (l.map (entM kk ev)).toArray seen.toArray := by rw [h2]; simp
      refine Decidable.byContradiction fun hs => hn ?_
      unfold leftOf
      rw [Array.mem_filter]
      refine ⟨by simp; exact ⟨y.1, y.2.1, y.2.2, hy, rfl⟩, by simpa [entM] using hs⟩
    · have hm : e' ∈ leftOf (l.map (entM kk ev)).toArray seen.toArray := by simpa using he'
      unfold leftOf at hm
      rw [Array.mem_filter] at hm
      have hm1 : e' ∈ l.map (entM kk ev) := by simpa using hm.1
      obtain ⟨y, hy, rfl⟩ := List.mem_map.1 hm1
      have m1 : Models B h w1 := by rcases hw1 with rfl | rfl; exact m; exact m.drew
      have hsn : y.2.2 ∉ seen := by simpa [entM] using hm.2
      have hrun2 : (Instr.next (.pointer (some ⟨r, 0, none⟩)) false ty).run P w = .ok (.tuple #[.bool true, .int kk y.1, ev y.2.1]) (setBlock w1 r (.mapIter (some bm) c (seen.toArray.push y.2.2) c)) := hrun
      refine ⟨.tuple #[.bool true, .int kk y.1, ev y.2.1], setBlock w1 r (.mapIter (some bm) c (seen.toArray.push y.2.2) c), F (itB bm c (seen ++ [y.2.2]) c), by simp only [execOp, g.eval hx, Sem.run_bind, hrun2, Result.andThen_ok]; rfl, ?_, .inr ⟨y, hy, hsn, rfl, rfl⟩⟩
      have := set_models m1 (u.upd (itB bm c (seen ++ [y.2.2]) c))
      simpa [itB, Blk.toObj, setBlock, entM] using this
theorem RV.entry {x : Operand} {since : Nat} {seen : List Nat} {y : Ent α} (hx : Sep.ev e x = some (.pointer (some ⟨r, 0, none⟩))) [i : AtI h r bm since (seen ++ [y.2.2]) c] [a : AtM h bm kk ev l c] (hy : y ∈ l) (hst : StampT l c) (hM : r ∉ M ∧ bm ∉ M) :
    RV P B h M n e ⟨d, .entry x, ty, ps, af, gd⟩ (.tuple #[.int kk y.1, ev y.2.1]) := ⟨fun a' g w hw => by
  have hb : w.heap[bm]? = some (.map (l.map (entM kk ev)).toArray c) := hw.2 _ a.mem hM.2
  have hr : w.heap[r]? = some (.mapIter (some bm) since (seen ++ [y.2.2]).toArray c) := hw.2 _ i.mem hM.1
  have hr2 : w.heap[r]? = some (.mapIter (some bm) since (seen.toArray.push (entM kk ev y).born) c) := by rw [hr]; simp [entM]
  have := run_entry_at (P := P) w r bm since seen.toArray (l.map (entM kk ev)).toArray c (entM kk ev y) hr2 hb (by simp; exact ⟨y.1, y.2.1, y.2.2, hy, rfl⟩) (by
    have e : (l.map (entM kk ev)).toArray.toList.map (·.born) = l.map (·.2.2) := by simp [entM, Function.comp_def]
    rw [e]; exact hst.2)
  simp [execOp, g.eval hx, this, entM]⟩
end
theorem StampT.upd {α : Type} {l : List (Ent α)} {c : Nat} (s : StampT l c) (k : Int) (v : α) : StampT (updT l c k v) (clkT l c k) := by
  have key : (findT l k).isSome = true ∧ (updT l c k v).map (·.2.2) = l.map (·.2.2) ∨ (findT l k).isSome = false ∧ (updT l c k v).map (·.2.2) = l.map (·.2.2) ++ [c] := by
    clear s
    induction l with
    | nil => exact .inr ⟨rfl, rfl⟩
    | cons x r ih =>
      by_cases h : x.1 = k
      · exact .inl ⟨by simp [findT, h], by simp [updT, h]⟩
      · rcases ih with ⟨a, b⟩ | ⟨a, b⟩
        · exact .inl ⟨by simp [findT, h, a], by simp [updT, h, b]⟩
        · exact .inr ⟨by simp [findT, h, a], by simp [updT, h, b]⟩
  have hall : ∀ b ∈ l.map (·.2.2), b < c := by
    intro b hb
    obtain ⟨x, hx, rfl⟩ := List.mem_map.1 hb
    exact s.1 x hx
  rcases key with ⟨a, b⟩ | ⟨a, b⟩
  · refine ⟨fun x hx => ?_, by rw [b]; exact s.2⟩
    have : x.2.2 ∈ (updT l c k v).map (·.2.2) := List.mem_map.2 ⟨x, hx, rfl⟩
    rw [b] at this
    simp only [clkT, a, if_true]
    exact hall _ this
  · refine ⟨fun x hx => ?_, ?_⟩
    · have : x.2.2 ∈ (updT l c k v).map (·.2.2) := List.mem_map.2 ⟨x, hx, rfl⟩
      rw [b, List.mem_append, List.mem_singleton] at this
      simp only [clkT, a]
      rcases this with h | h
      · have := hall _ h; simp; omega
      · simp [h]
    · rw [b, List.nodup_append]
      exact ⟨s.2, by simp, fun x hx y hy => by simp at hy; subst hy; have := hall x hx; omega⟩
theorem StampT.del {α : Type} {l : List (Ent α)} {c : Nat} (s : StampT l c) (k : Int) : StampT (delT l k) c := by
  have : (delT l k).Sublist l := by
    clear s
    induction l with
    | nil => exact List.Sublist.refl _
    | cons x r ih =>
      unfold delT
      split
      · exact List.sublist_cons_self _ _
      · exact ih.cons_cons _
  exact ⟨fun x hx => s.1 x (this.mem hx), (this.map _).nodup s.2⟩
end Go.Sep
namespace Go.Sep
open Go.RowKit
section
variable {P : Program} {B : World} {h : Own} {M : List Nat} {n : Nat} {e : Env}
variable {d : Option Tmp} {ty : TypeId} {ps : String} {af : Array Edge} {gd : Option (Nat × Bool)}
/-- an element, the whole of it, of a slice of structs -/
theorem RV.loadSA {α : Type} [Inhabited α] {h0 : Own} {t : TypeId} {x : Operand} {A : Option Addr} {i : Int} {sz : Nat} {enc : α → List Value} {l : List α} {len : Nat} [u : AggIs P t true] [us : SizeIs P t sz]
    (hx : ev e x = some (.pointer (some (adr A (i.toNat * sz))))) (hs : Src B h0 A len sz (flat enc l)) [s : SubO h0 h] (hl : ∀ x, (enc x).length = sz) (hi : 0 ≤ i ∧ i < l.length)
    (hM : (adr A (i.toNat * sz)).block ∉ M) : RV P B h M n e ⟨d, .load t x, ty, ps, af, gd⟩ (.agg (enc (lget l i)).toArray) := by
  obtain ⟨h2, e2⟩ := lget_at hi
  have hr : RdN B h (adr A (i.toNat * sz)) (enc (lget l i)).length (enc (lget l i)) := .mk fun j v hv => by
    have hj : j < sz := by
      rcases Nat.lt_or_ge j (enc (lget l i)).length with h' | h'
      · rwa [hl] at h'
      · rw [List.getElem?_eq_none h'] at hv; cases hv
    have := hs.get (h := h) (k := i.toNat * sz + j) (v := v) (by rw [← nth_eq, flat_nth hl l _ h2 j hj, nth_eq, ← e2]; exact hv)
    rw [show (adr A (i.toNat * sz)).add j = adr A (i.toNat * sz + j) by unfold adr; rw [add_add]]
    exact this
  rw [hl] at hr
  exact .loadAgg hx hr hM
end
theorem perm_in2 (p pre : Own) (a b x : Nat × Blk) (r : Own) : (p ++ (a :: b :: (pre ++ x :: r))).Perm (a :: b :: (pre ++ x :: (p ++ r))) :=
  List.perm_middle.trans ((perm_in1 p pre b x r).cons a)
theorem flat_snoc {α : Type} (enc : α → List Value) (l : List α) (x : α) : flat enc (l ++ [x]) = flat enc l ++ enc x := by simp [flat, List.flatMap_append]
end Go.Sep
