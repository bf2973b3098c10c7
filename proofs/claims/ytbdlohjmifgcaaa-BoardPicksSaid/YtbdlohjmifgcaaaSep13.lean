/- Writing into rows that were appended to. No project text. -/
import Derived.Test.YtbdlohjmifgcaaaSep12
set_option linter.unusedSimpArgs false
set_option linter.unusedVariables false
namespace Go.Sep
open Go.RowKit
section
variable {P : Program} {B : World} {h : Own} {M : List Nat} {n : Nat} {e : Env}
variable {d : Option Tmp} {ty : TypeId} {ps : String} {af : Array Edge} {gd : Option (Nat × Bool)}
theorem EF.perm {h2 : Own} {o : Oper} {K : Value → Own → Prop} (p : h.Perm h2) (he : EF P B h2 n e o K) : EF P B h n e o K :=
  ⟨fun a w g m Kw Q hk => he.run a w g (m.perm p) Kw Q hk⟩
/-- pw ahead, then p2, a block, pre, the object, the rest: in their order -/
theorem perm_four (pw p2 pre : Own) (a x : Nat × Blk) (h : Own) : (pw ++ (p2 ++ (a :: (pre ++ x :: h)))).Perm (a :: (pre ++ (pw ++ x :: (p2 ++ h)))) := by
  refine perm_count fun y => ?_
  simp only [List.count_append, List.count_cons]; omega
theorem perm_three (pw p2 pre : Own) (x : Nat × Blk) (h : Own) : (pw ++ (p2 ++ (pre ++ x :: h))).Perm (pre ++ (pw ++ x :: (p2 ++ h))) := by
  refine perm_count fun y => ?_
  simp only [List.count_append, List.count_cons]; omega
/-! ### two objects side by side: where a caller has them, and where a contract wants them -/
theorem perm_p1 (pb pw : Own) (b a c d q : Nat × Blk) (D : Own) : (b :: (pb ++ a :: c :: d :: (pw ++ q :: D))).Perm (pb ++ a :: c :: d :: (pw ++ q :: b :: D)) := by
  refine perm_count fun y => ?_
  simp only [List.count_append, List.count_cons]; omega
theorem perm_p2 (pb : Own) (a c d : Nat × Blk) (X : Own) : (pb ++ a :: c :: d :: X).Perm ((pb ++ [a, c, d]) ++ X) := by
  simp only [List.append_assoc, List.cons_append, List.nil_append]; exact List.Perm.refl _
theorem perm_p3 (pb x pw : Own) (a c d q : Nat × Blk) (D : Own) : (pb ++ a :: c :: d :: (x ++ (pw ++ q :: D))).Perm ((pb ++ [a, c, d]) ++ (pw ++ q :: (x ++ D))) := by
  refine perm_count fun y => ?_
  simp only [List.count_append, List.count_cons, List.count_nil]; omega
theorem perm_p4 (r pb : Own) (a c d : Nat × Blk) (X : Own) : (r ++ (pb ++ a :: c :: d :: X)).Perm ((r ++ (pb ++ [a, c, d])) ++ X) := by
  simp only [List.append_assoc, List.cons_append, List.nil_append]; exact List.Perm.refl _
theorem perm_p5 (r pb : Own) (a c d : Nat × Blk) (X : Own) : (r ++ (pb ++ a :: c :: d :: X)).Perm (pb ++ a :: c :: d :: (r ++ X)) := by
  refine perm_count fun y => ?_
  simp only [List.count_append, List.count_cons]; omega
theorem perm_p6 (r2 pb r pw : Own) (a c d q : Nat × Blk) (D : Own) : (r2 ++ (pb ++ a :: c :: d :: (r ++ (pw ++ q :: D)))).Perm ((r2 ++ (pb ++ [a, c, d])) ++ (pw ++ q :: (r ++ D))) := by
  refine perm_count fun y => ?_
  simp only [List.count_append, List.count_cons, List.count_nil]; omega
theorem putAt_one (cs : List Value) (k : Nat) (v : Value) : putAt cs k [v] = cs.set k v := by simp [putAt, setNth_eq]
theorem EF.storeR {t el : TypeId} {x y : Operand} {A : Option Addr} {m c : Nat} {xs : List Value} {part H : Own} {i : Int} {v : Value} [us : SizeIs P t 1] (hx : ev e x = some (.pointer (some (adr A (i.toNat * 1))))) (hy : ev e y = some v)
    (hc : v.cells = [v].toArray) (h1 : [v].all (·.oneCell') = true) (hr : Row el 1 (.slice A m c) m xs part) [tk : TakeO h part H] (hi : 0 ≤ i ∧ i < m) :
    EF P B h n e ⟨none, .store t x y, ty, ps, af, gd⟩ (fun _ h' => ∃ part', Row el 1 (.slice A m c) m (xs.set i.toNat v) part' ∧ h' = part' ++ H) := by
  refine EF.perm tk.perm ?_
  cases hr with
  | nil => omega
  | @mk b off _ _ cs _ a1 a2 a3 =>
    have hx' : ev e x = some (.pointer (some ⟨b, off + i.toNat, none⟩)) := by rw [hx]; simp [adr, Addr.add_lit]
    have hlt : off + i.toNat < cs.length := by omega
    refine (EF.store (h' := (b, .cells (putAt cs (off + i.toNat) [v]) el (0, 0)) :: H) hx' hy hc rfl h1 .head (by simp only [Nat.ble_eq, List.length_singleton]; omega)).mono fun _ h' e => ?_
    subst e
    refine ⟨[(b, .cells (putAt cs (off + i.toNat) [v]) el (0, 0))], ?_, rfl⟩
    rw [putAt_one]
    refine .mk a1 (by rw [List.length_set]; exact a2) ?_
    rw [← a3]
    apply List.ext_getElem?
    intro j
    rw [List.getElem?_take, List.getElem?_drop, List.getElem?_set, List.getElem?_set, List.getElem?_take, List.getElem?_drop]
    simp only [List.length_take, List.length_drop]
    by_cases hj : j < m * 1
    · rw [if_pos hj]
      by_cases hij : i.toNat = j
      · subst hij
        simp [hlt]; omega
      · rw [if_neg (by omega), if_neg hij, if_pos hj]
    · rw [if_neg hj]
      by_cases hij : i.toNat = j
      · omega
      · rw [if_neg hij, if_neg hj]
end
end Go.Sep
