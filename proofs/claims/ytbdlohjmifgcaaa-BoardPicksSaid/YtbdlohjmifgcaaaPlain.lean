/- Plain laws of boards: who fits, tables by address. No program in sight. -/
import Derived.Test.YtbdlohjmifgcaaaPlain19
import Derived.Test.YtbdlohjmifgcaaaSep20
import Derived.Test.YtbdlohjmifgcaaaSep10
set_option linter.unusedSimpArgs false
set_option linter.unusedVariables false
namespace Go.Sep.Board
open Go.Sep Go.Sep.Sip Go.Sep.Perm Go.Sep.Maglev
abbrev BkT := Int × Int × Int × Int × Int × Bool × Unit
def keepB (vip : Int) (b : BkT) : Bool := decide (b.2.1 = vip) && (decide (b.2.2.2.2.1 = 1) && b.2.2.2.2.2.1)
def fitL (l : List BkT) (vip : Int) : List BkT := l.filter (keepB vip)
def partF (b : BkT) : PL := (b.1, b.2.2.2.1)
def fitP (l : List BkT) (vip : Int) : List PL := (fitL l vip).map partF
theorem filter_take {α : Type} [Inhabited α] (k : α → Bool) (l : List α) (j : Int) (h0 : 0 ≤ j) (h1 : j < l.length) : (l.take (j + 1).toNat).filter k = (l.take j.toNat).filter k ++ (if k (lget l j) = true then [lget l j] else []) := by
  obtain ⟨h2, e⟩ := lget_at ⟨h0, h1⟩
  rw [show (j + 1).toNat = j.toNat + 1 by omega, List.take_succ_eq_append_getElem h2, e, List.filter_append]
  by_cases h : k l[j.toNat] = true <;> simp [h]
theorem lget_drop {α : Type} [Inhabited α] {l m : List α} {j : Int} (h : l.drop j.toNat = m.drop j.toNat) (hl : l.length = m.length) (hj : 0 ≤ j ∧ j < m.length) : lget l j = lget m j := by
  obtain ⟨h1, e1⟩ := lget_at (l := l) (i := j) ⟨hj.1, by omega⟩
  obtain ⟨h2, e2⟩ := lget_at (l := m) (i := j) hj
  have := congrArg (·[0]?) h
  simp only [List.getElem?_drop, Nat.add_zero, List.getElem?_eq_getElem h1, List.getElem?_eq_getElem h2, Option.some.injEq] at this
  rw [e1, e2, this]
theorem drop_next {α : Type} {l m : List α} {j : Int} (h : l.drop j.toNat = m.drop j.toNat) (h0 : 0 ≤ j) : l.drop (j + 1).toNat = m.drop (j + 1).toNat := by
  rw [show (j + 1).toNat = j.toNat + 1 by omega, ← List.drop_drop, ← List.drop_drop, h]
theorem del_keep {α : Type} [Inhabited α] {k : α → Bool} {l cur : List α} {i j : Int} (hl : cur.length = l.length) (hi : 0 ≤ i ∧ i < j) (hj : j < l.length) (h2 : cur.take i.toNat = (l.take j.toNat).filter k) (h3 : cur.drop j.toNat = l.drop j.toNat) (hk : k (lget l j) = true) :
    (lset cur i (lget cur j)).take (i + 1).toNat = (l.take (j + 1).toNat).filter k ∧ (lset cur i (lget cur j)).drop (j + 1).toNat = l.drop (j + 1).toNat := by
  have e := lget_drop h3 hl ⟨by omega, hj⟩
  constructor
  · rw [filter_take k l j (by omega) hj, if_pos hk, ← h2, e]
    have h4 : i.toNat < (lset cur i (lget l j)).length := by rw [lset_len]; omega
    rw [show (i + 1).toNat = i.toNat + 1 by omega, List.take_succ_eq_append_getElem h4]
    simp only [lset, List.getElem_set_self, List.take_set_of_le (Nat.le_refl _)]
  · rw [lset, List.drop_set_of_lt (by omega)]
    exact drop_next h3 (by omega)
theorem del_skip {α : Type} [Inhabited α] {k : α → Bool} {l cur : List α} {i j : Int} (hi : 0 ≤ i ∧ i < j) (hj : j < l.length) (h2 : cur.take i.toNat = (l.take j.toNat).filter k) (h3 : cur.drop j.toNat = l.drop j.toNat) (hk : k (lget l j) = false) :
    cur.take i.toNat = (l.take (j + 1).toNat).filter k ∧ cur.drop (j + 1).toNat = l.drop (j + 1).toNat := by
  refine ⟨?_, drop_next h3 (by omega)⟩
  rw [filter_take k l j (by omega) hj, if_neg (by rw [hk]; simp), List.append_nil, h2]
theorem filter_all {α : Type} {k : α → Bool} {l : List α} (h : ∀ x ∈ l, k x = true) : l.filter k = l := List.filter_eq_self.2 h
theorem all_of_lget {α : Type} [Inhabited α] {k : α → Bool} {l : List α} {i : Int} (h : ∀ j : Int, 0 ≤ j → j < i → k (lget l j) = true) (hi : 0 ≤ i ∧ i ≤ l.length) : ∀ x ∈ l.take i.toNat, k x = true := by
  intro x hx
  obtain ⟨j, hj, rfl⟩ := List.getElem_of_mem hx
  rw [List.length_take] at hj
  have := h (j : Int) (by omega) (by omega)
  obtain ⟨h2, e⟩ := lget_at (l := l) (i := (j : Int)) ⟨by omega, by omega⟩
  rw [e] at this
  rw [List.getElem_take]; simpa using this
theorem flat_take {α : Type} {enc : α → List Value} {sz : Nat} (hs : ∀ x, (enc x).length = sz) (l : List α) (k : Nat) (hk : k ≤ l.length) : (flat enc l).take (k * sz) = flat enc (l.take k) := by
  have h : flat enc l = flat enc (l.take k) ++ flat enc (l.drop k) := by simp only [flat, ← List.flatMap_append, List.take_append_drop]
  rw [h, List.take_left']
  rw [flat_len hs, List.length_take, Nat.min_eq_left hk]
theorem fit_len (l : List BkT) (vip : Int) : (fitL l vip).length ≤ l.length := List.length_filter_le _ _
end Go.Sep.Board
