/- Plain laws of farms: what each of them keeps. No program in sight. -/
import Derived.Test.YtbdlohjmifgcaaaPlainQ32
set_option linter.unusedSimpArgs false
set_option linter.unusedVariables false
namespace Go.Sep.Board
open Go.Sep Go.Sep.Sip Go.Sep.Perm Go.Sep.Maglev
instance : Inhabited BkT := ⟨(0, 0, 0, 0, 0, false, ())⟩
structure FM where
  vs : InS VpT
  bs : InS BkT
abbrev encFM (f : FM) : List Value := [.slice f.vs.A f.vs.l.length f.vs.cap, .slice f.bs.A f.bs.l.length f.bs.cap]
abbrev ZF : FM := ⟨⟨none, 0, []⟩, ⟨none, 0, []⟩⟩
def BGood (b : BkT) : Prop := (1 ≤ b.1 ∧ b.1 ≤ 999) ∧ 1 ≤ b.2.2.2.1 ∧ b.2.2.2.1 ≤ 8
structure FarmOk (f : FM) : Prop where
  lv : f.vs.l.length ≤ 4
  lb : f.bs.l.length ≤ 16
  idv : ∀ v ∈ f.vs.l, 1 ≤ v.1 ∧ v.1 ≤ 99
  vip : ∀ b ∈ f.bs.l, b.2.1 ∈ f.vs.l.map (·.1)
  ok : ∀ b ∈ f.bs.l, BGood b
theorem zf_ok : FarmOk ZF := ⟨by simp, by simp, by simp, by simp, by simp⟩
theorem FarmOk.withV {f : FM} (fo : FarmOk f) {out : List VpT} {A : Option Addr} {c : Nat} (h1 : out.length ≤ 4) (h2 : ∀ x ∈ out, 1 ≤ x.1 ∧ x.1 ≤ 99) (h4 : ∀ x ∈ f.vs.l, x.1 ∈ out.map (·.1)) : FarmOk ⟨⟨A, c, out⟩, f.bs⟩ := by
  refine ⟨h1, fo.lb, h2, fun b hb => ?_, fo.ok⟩
  obtain ⟨x, hx, e⟩ := List.mem_map.1 (fo.vip b hb)
  rw [← e]; exact h4 x hx
theorem FarmOk.withB {f : FM} (fo : FarmOk f) {out : List BkT} {A : Option Addr} {c : Nat} {b : BkT} (h1 : out.length ≤ 16) (h2 : ∀ x ∈ out, x ∈ f.bs.l ∨ x = b) (h3 : BGood b) (h4 : b.2.1 ∈ f.vs.l.map (·.1)) : FarmOk ⟨f.vs, ⟨A, c, out⟩⟩ := by
  refine ⟨fo.lv, h1, fo.idv, fun x hx => ?_, fun x hx => ?_⟩
  · rcases h2 x hx with h | rfl
    · exact fo.vip x h
    · exact h4
  · rcases h2 x hx with h | rfl
    · exact fo.ok x h
    · exact h3
theorem ids_not {l : List VpT} {id : Int} {i : Int} (h : ∀ j : Int, 0 ≤ j → j < i → (lget l j).1 ≠ id) (hi : (l.length : Int) ≤ i) : id ∉ l.map (·.1) := by
  intro hm
  obtain ⟨v, hv, rfl⟩ := List.mem_map.1 hm
  obtain ⟨j, hj, rfl⟩ := List.getElem_of_mem hv
  have := h (j : Int) (by omega) (by omega)
  simp [lget, List.getD, hj] at this
theorem lget_memV {α : Type} [Inhabited α] {l : List α} {i : Int} (h : 0 ≤ i ∧ i < l.length) : lget l i ∈ l := by
  obtain ⟨h2, e⟩ := lget_at h
  rw [e]; exact List.getElem_mem h2
theorem mem_take_next {α : Type} [Inhabited α] {l : List α} {i : Int} (h0 : 0 ≤ i) (h1 : i < l.length) {x : α} (hx : x ∈ l.take (i + 1).toNat) : x ∈ l.take i.toNat ∨ x = lget l i := by
  obtain ⟨h2, e⟩ := lget_at ⟨h0, h1⟩
  rw [show (i + 1).toNat = i.toNat + 1 by omega, List.take_succ_eq_append_getElem h2, List.mem_append, List.mem_singleton] at hx
  rw [e]; exact hx
theorem take_step {α β : Type} [Inhabited α] (g : α → β) {l : List α} {i : Int} (h0 : 0 ≤ i) (h1 : i < l.length) : (l.take (i + 1).toNat).map g = (l.take i.toNat).map g ++ [g (lget l i)] := by
  obtain ⟨h2, e⟩ := lget_at ⟨h0, h1⟩
  rw [show (i + 1).toNat = i.toNat + 1 by omega, List.take_succ_eq_append_getElem h2, e, List.map_append]; rfl
end Go.Sep.Board
