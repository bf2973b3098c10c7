/- Plain laws of boards: farms and their tables. No program in sight. -/
import Derived.Test.YtbdlohjmifgcaaaPlainQ42
set_option linter.unusedSimpArgs false
set_option linter.unusedVariables false
namespace Go.Sep.Board
open Go.Sep Go.Sep.Sip Go.Sep.Perm Go.Sep.Maglev
theorem map_lget {α β : Type} [Inhabited α] {g : α → β} {l1 l2 : List α} (h : l1.map g = l2.map g) {i : Int} (hi : 0 ≤ i ∧ i < l1.length) : g (lget l1 i) = g (lget l2 i) := by
  have hl : l1.length = l2.length := by have := congrArg List.length h; simpa using this
  obtain ⟨h1, e1⟩ := lget_at hi
  obtain ⟨h2, e2⟩ := lget_at (l := l2) (i := i) ⟨hi.1, by omega⟩
  have := congrArg (·[i.toNat]?) h
  simp only [List.getElem?_map, List.getElem?_eq_getElem h1, List.getElem?_eq_getElem h2, Option.map_some, Option.some.injEq] at this
  rw [e1, e2, this]
theorem map_ext_lget {α β : Type} [Inhabited α] {g : α → β} {l1 l2 : List α} (hl : l1.length = l2.length) (h : ∀ i : Int, 0 ≤ i → i < l1.length → g (lget l1 i) = g (lget l2 i)) : l1.map g = l2.map g := by
  apply List.ext_getElem (by simp [hl])
  intro j h1 h2
  simp only [List.length_map] at h1 h2
  have := h (j : Int) (by omega) (by omega)
  simp only [List.getElem_map]
  simpa [lget, List.getD, h1, h2] using this
theorem fit_none {f : FM} (fo : FarmOk f) {k : Int} (h : k ∉ f.vs.l.map (·.1)) : fitP f.bs.l k = [] := by
  unfold fitP fitL
  rw [List.filter_eq_nil_iff.2 fun b hb => ?_]
  · rfl
  · intro hk
    simp only [keepB, Bool.and_eq_true, decide_eq_true_eq] at hk
    exact h (hk.1 ▸ fo.vip b hb)
theorem tabV_eq {f : FM} (fo : FarmOk f) (k : Int) : tabV f.vs.l f.bs.l k = fitP f.bs.l k := by
  unfold tabV
  split
  · rfl
  · next h => exact (fit_none fo h).symm
theorem fit_range {f : FM} (fo : FarmOk f) {k : Int} (h : fitP f.bs.l k ≠ []) : 0 ≤ k ∧ k < 100 := by
  by_cases hm : k ∈ f.vs.l.map (·.1)
  · obtain ⟨v, hv, rfl⟩ := List.mem_map.1 hm
    have := fo.idv v hv
    omega
  · exact absurd (fit_none fo hm) h
theorem tab_turn {f g : FM} (fo : FarmOk f) (go : FarmOk g) : (∃ k, tabV f.vs.l f.bs.l k ≠ tabV g.vs.l g.bs.l k) ↔ ∃ id : Int, 0 ≤ id ∧ id < 100 ∧ fitP f.bs.l id ≠ fitP g.bs.l id := by
  constructor
  · rintro ⟨k, hk⟩
    rw [tabV_eq fo, tabV_eq go] at hk
    have hr : 0 ≤ k ∧ k < 100 := by
      by_cases h0 : fitP f.bs.l k = []
      · exact fit_range go fun h1 => hk (h0.trans h1.symm)
      · exact fit_range fo h0
    exact ⟨k, hr.1, hr.2, hk⟩
  · rintro ⟨k, _, _, hk⟩
    exact ⟨k, by rw [tabV_eq fo, tabV_eq go]; exact hk⟩
theorem cyc_mem {ps : List PL} {p : PL} : ∀ {k : Nat}, p ∈ cyc ps k → p ∈ ps
  | 0, h => by cases h
  | k + 1, h => by
    rcases List.mem_append.1 (show p ∈ block ps ++ cyc ps k from h) with h1 | h1
    · obtain ⟨q, hq, h2⟩ := List.mem_flatMap.1 h1
      rw [(List.mem_replicate.1 h2).2]; exact hq
    · exact cyc_mem h1
/-- who is found has weight, and was there -/
theorem fill_mem {lo hi m : Int} {l : List PL} (hp : prB m = true) {x : Int} (h : x ∈ fillS lo hi m l) : ∃ p ∈ l, p.1 = x := by
  have hne : partsS l ≠ [] := by
    intro h0
    rw [fillS, if_neg (fun h1 => h1.2 h0)] at h; cases h
  have hc := (fillS_pos (lo := lo) (hi := hi) hp hne).2 x
  have h1 := List.count_pos_iff.2 h
  rw [hc] at h1
  obtain ⟨p, hpm, hpx⟩ := List.countP_pos_iff.1 h1
  have h2 : p ∈ partsS l := cyc_mem (List.mem_of_mem_take hpm)
  have h3 : metP (partsS l) x = true := met_mem.2 (List.mem_map.2 ⟨p, h2, by simpa using hpx⟩)
  rw [parts_met] at h3
  obtain ⟨q, hq, hqx⟩ := List.any_eq_true.1 h3
  simp only [Bool.and_eq_true, decide_eq_true_eq] at hqx
  exact ⟨q, hq, hqx.1⟩
theorem fill_some {lo hi m : Int} {f : FM} (fo : FarmOk f) (hp : prB m = true) (k : Int) : (fillS lo hi m (fitP f.bs.l k)).length ≠ 0 ↔ f.bs.l.any (keepB k) = true := by
  constructor
  · intro h
    cases hF : fillS lo hi m (fitP f.bs.l k) with
    | nil => rw [hF] at h; simp at h
    | cons x r =>
      obtain ⟨p, hm, _⟩ := fill_mem hp (show x ∈ fillS lo hi m (fitP f.bs.l k) by rw [hF]; simp)
      obtain ⟨b, hb, _⟩ := List.mem_map.1 hm
      exact List.any_eq_true.2 ⟨b, (List.mem_filter.1 hb).1, (List.mem_filter.1 hb).2⟩
  · intro h
    obtain ⟨b, hb, hk⟩ := List.any_eq_true.1 h
    have hg := fo.ok b hb
    have h3 : metP (partsS (fitP f.bs.l k)) b.1 = true := by
      rw [parts_met]
      refine List.any_eq_true.2 ⟨partF b, List.mem_map.2 ⟨b, List.mem_filter.2 ⟨hb, hk⟩, rfl⟩, ?_⟩
      simp only [partF, validW, Bool.and_eq_true, decide_eq_true_eq, true_and]
      exact decide_eq_true hg.2
    have hne : partsS (fitP f.bs.l k) ≠ [] := by
      intro h0; rw [h0] at h3; simp [metP] at h3
    rw [(fillS_pos (lo := lo) (hi := hi) hp hne).1]
    have := prB_in hp
    omega
theorem fill_fits {lo hi m : Int} {f : FM} (hp : prB m = true) {k n : Int} (hn : 0 ≤ n ∧ n < ((fillS lo hi m (fitP f.bs.l k)).length : Int)) :
    f.bs.l.any (fun y => keepB k y && decide (y.1 = lget (fillS lo hi m (fitP f.bs.l k)) n)) = true := by
  obtain ⟨h1, e⟩ := lget_at hn
  obtain ⟨p, hm, hx⟩ := fill_mem hp (List.getElem_mem h1)
  obtain ⟨b, hb, rfl⟩ := List.mem_map.1 hm
  refine List.any_eq_true.2 ⟨b, (List.mem_filter.1 hb).1, ?_⟩
  rw [e]
  simp only [Bool.and_eq_true, decide_eq_true_eq]
  exact ⟨(List.mem_filter.1 hb).2, hx⟩
theorem any_step {α : Type} [Inhabited α] (g : α → Bool) (l : List α) (i : Int) (h0 : 0 ≤ i) (h1 : i < l.length) : (l.take (i + 1).toNat).any g = ((l.take i.toNat).any g || g (lget l i)) := by
  obtain ⟨h2, e⟩ := lget_at ⟨h0, h1⟩
  rw [show (i + 1).toNat = i.toNat + 1 by omega, List.take_succ_eq_append_getElem h2, e, List.any_append]; simp
end Go.Sep.Board
