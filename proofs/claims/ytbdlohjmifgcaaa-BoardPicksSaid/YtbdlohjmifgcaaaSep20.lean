/- The end of a row, cleared; an element of a row, written whole. No project text. -/
import Derived.Test.YtbdlohjmifgcaaaSep19
set_option linter.unusedSimpArgs false
set_option linter.unusedVariables false
namespace Go.Sep
open Go.RowKit
section
variable {P : Program} {B : World} {h : Own} {n : Nat} {e : Env}
variable {M : List Nat} {d : Option Tmp} {ty : TypeId} {ps : String} {af : Array Edge} {gd : Option (Nat × Bool)}
theorem zerosL_all (k : Nat) (zs : List Value) (f : Value → Bool) (h : zs.all f = true) : (zerosL k zs).all f = true := by
  induction k with
  | zero => rfl
  | succ k ih => simp only [zerosL, List.all_append, h, ih, Bool.and_self]
theorem zeroCells_eq (z : Array Value) (k : Nat) (zs : List Value) (hz : z = zs.toArray) : (Builtin.zeroCells z k).toList = zerosL k zs := by
  have h1 : z.size = zs.length := by rw [hz]; simp
  have h2 : Builtin.zeroCells z k = (zerosL k zs).toArray := by
    rw [← zeros_eq k z zs hz, ← h1]; rfl
  rw [h2]
theorem EF.clearR {bt el : TypeId} {sz : Nat} {x : Operand} {A A' : Option Addr} {m c k n' c' : Nat} {xs : List Value} {part H : Own} {z : Value} {zs : List Value} [u : UndIs P bt (.slice el)] [hz : ZeroIs P el z zs]
    (hx : ev e x = some (.slice A' n' c')) (hr : Row el sz (.slice A m c) m xs part) [tk : TakeO h part H] (hA : 0 < n' → A' = cutA A (k * sz)) (hk : k + n' = m) (hl : Nat.beq zs.length sz = true) (h1 : zs.all (·.oneCell') = true) :
    EF P B h n e ⟨d, .call { callee := .builtin .clear, args := #[x], argTypes := #[bt] }, ty, ps, af, gd⟩ (fun v h' => ∃ part', Row el sz (.slice A k c) k (xs.take (k * sz)) part' ∧ h' = part' ++ H) := by
  refine EF.perm tk.perm ?_
  have hl := Nat.eq_of_beq_eq_true hl
  have hk2 : k * sz ≤ m * sz ∧ m * sz = k * sz + n' * sz := by subst hk; exact ⟨Nat.mul_le_mul_right _ (by omega), Nat.add_mul _ _ _⟩
  have go : ∀ (w w' : World) (a : Act), (Builtin.clear_ #[bt] ty #[.slice A' n' c']).run P w = .ok (.tuple #[]) w' → Agree n e a →
      (execOp a.eval (⟨d, .call { callee := .builtin .clear, args := #[x], argTypes := #[bt] }, ty, ps, af, gd⟩ : Oper)).run P w = .ok (.value (.tuple #[])) w' := by
    intro w w' a hv g
    simp [execOp, resolve, invoke, builtin, g.eval hx, hv]
  by_cases h0 : n' = 0
  · subst h0
    refine .of_run fun a w g mm => ⟨.tuple #[], w, _, go w w a ?_ g, mm, part, ?_, rfl⟩
    · cases A' <;> simp [Builtin.clear_, u.run]
    · obtain rfl : k = m := by omega
      have := hr.len
      rw [List.take_of_length_le (by omega)]; exact hr
  · have hA := hA (by omega)
    cases hr with
    | nil => omega
    | @mk b off _ _ cs _ a1 a2 a3 =>
      subst hA
      have e1 : m * sz ≤ c * sz := Nat.mul_le_mul_right _ (by omega)
      have e4 : k * sz ≤ c * sz := Nat.mul_le_mul_right _ (by omega)
      have hzl : (zerosL n' zs).length = n' * sz := by rw [zerosL_length, hl]
      refine .of_run fun a w g mm => ?_
      have mb := mm.at_ _ (List.mem_append_left _ List.mem_cons_self)
      have hst := run_storeCells_at P b (off + k * sz) el (zerosL n' zs) 0 cs.toArray w mb (by rw [hzl]; simp; omega) (List.all_eq_true.1 (zerosL_all n' zs _ h1))
      simp only [Nat.add_zero] at hst
      have hput := putAt_eq cs (off + k * sz) (zerosL n' zs) (by rw [hzl]; omega)
      have ms := setRow_models (cs' := putAt cs (off + k * sz) (zerosL n' zs)) mm Upd.head
      refine ⟨.tuple #[], _, _, go w _ a ?_ g, ms, [(b, .cells (putAt cs (off + k * sz) (zerosL n' zs)) el (0, 0))], ?_, rfl⟩
      · rw [hput]
        obtain ⟨n2, rfl⟩ : ∃ n2, n' = n2 + 1 := ⟨n' - 1, by omega⟩
        simp [Builtin.clear_, u.run, cutA, hz.run, zeroCells_eq _ _ _ hz.cells, Addr.add_lit, hst]
      · refine .mk (by omega) ?_ ?_
        · rw [hput]; simp only [List.length_append, List.length_take, List.length_drop, hzl]; omega
        · rw [← a3, List.take_take, Nat.min_eq_left (by omega), hput]
          have e3 : (cs.take (off + k * sz)).length = off + k * sz := by rw [List.length_take]; omega
          rw [List.append_assoc, List.drop_append_of_le_length (by rw [e3]; omega), List.drop_take, List.take_append_of_le_length (by rw [List.length_take, List.length_drop]; omega), List.take_take]
          congr 1; omega
theorem EF.storeRE {α : Type} [Inhabited α] {enc : α → List Value} {l : List α} {i : Int} {sz c : Nat} (x' : α) {t el : TypeId} {x y : Operand} {A : Option Addr} {v : Value} {part H : Own} [us : SizeIs P t sz]
    (hx : ev e x = some (.pointer (some (adr A (i.toNat * sz))))) (hy : ev e y = some v) (hc : v.cells = (enc x').toArray) (h1 : (enc x').all (·.oneCell') = true) (hr : Row el sz (.slice A l.length c) l.length (flat enc l) part)
    [tk : TakeO h part H] (hs : ∀ x, (enc x).length = sz) (hi : 0 ≤ i ∧ i < l.length) :
    EF P B h n e ⟨none, .store t x y, ty, ps, af, gd⟩ (fun _ h' => ∃ part', Row el sz (.slice A l.length c) l.length (flat enc (lset l i x')) part' ∧ h' = part' ++ H) :=
  EF.storeRF (fo := 0) x' (by rw [hx]; simp [Addr.add]) hy hc (hs _) h1 hr hs hi (by rw [hs]; omega) (by
    rw [putAt_eq _ _ _ (by rw [hs, hs]; omega), hs, List.take_zero, List.drop_eq_nil_of_le (by rw [hs]; omega)]; simp)
end
end Go.Sep
