/- Plain laws of meters: how often one may. No program in sight. -/
import Derived.Test.YtdefjkokbffccaaPlainQ49
set_option linter.unusedSimpArgs false
set_option linter.unusedVariables false
namespace Go.Sep.Meter
open Go.Sep
abbrev I64 (x : Int) : Value := .int .i64 x
structure BI (s : MS) (a : List Int) (src : Int) : Prop where
  mono : ∀ i k : Int, 0 ≤ i → i ≤ k → k < a.length → lget a i ≤ lget a k
  inn : ∀ i : Int, 0 ≤ i → i < a.length → 0 ≤ lget a i ∧ lget a i ≤ s.now
  last : 0 < (a.length : Int) → ∃ x, findT s.l src = some x ∧ 0 ≤ x.1 ∧ ∀ i : Int, 0 ≤ i → i < a.length → lget a i ≤ x.2 ∧ (a.length : Int) - i + x.1 ≤ s.burst + (x.2 - lget a i) * s.rate
  pair : ∀ i k : Int, 0 ≤ i → i ≤ k → k < a.length → k - i + 1 ≤ s.burst + (lget a k - lget a i) * s.rate
theorem bi_new (s : MS) (src : Int) : BI s [] src := ⟨by simp; omega, by simp; omega, by simp, by simp; omega⟩
theorem lgA (a : List Int) (x : Int) (i : Int) (h0 : 0 ≤ i) (h1 : i < a.length) : lget (a ++ [x]) i = lget a i := by
  simp [lget, List.getD, List.getElem?_append_left (show i.toNat < a.length by omega)]
theorem lgE (a : List Int) (x : Int) (i : Int) (h : i = a.length) : lget (a ++ [x]) i = x := by subst h; simp [lget, List.getD]
theorem star {s : MS} (mi : MI s) {a : List Int} {src now : Int} (b : BI s a src) (i : Int) (h0 : 0 ≤ i) (h1 : i < a.length) : (a.length : Int) - i + leftM s src now ≤ s.burst + (tickM s now - lget a i) * s.rate ∧ lget a i ≤ tickM s now := by
  obtain ⟨x, hx, hx0, hall⟩ := b.last (by omega)
  obtain ⟨g1, g2⟩ := hall i h0 h1
  have hb := mi.bk _ _ hx
  have ht : s.now ≤ tickM s now := by unfold tickM; omega
  have hr := mi.rate
  have hl : leftM s src now ≤ x.1 + min (tickM s now - x.2) 1000 * s.rate := by unfold leftM; rw [hx]; simp only [fillM]; omega
  have hm := Int.mul_le_mul_of_nonneg_right (show min (tickM s now - x.2) 1000 ≤ tickM s now - x.2 by omega) hr.1
  have e : (tickM s now - lget a i) * s.rate = (x.2 - lget a i) * s.rate + (tickM s now - x.2) * s.rate := by rw [← Int.add_mul]; congr 1; omega
  exact ⟨by rw [e]; omega, by omega⟩
theorem left_burst {s : MS} (src now : Int) : leftM s src now ≤ s.burst := by
  unfold leftM
  split
  · unfold fillM; omega
  · omega
theorem bi_miss {s : MS} (mi : MI s) {a : List Int} {src : Int} (b : BI s a src) (k now : Int) (hm : ¬ (0 < leftM s k now ∧ k = src)) : BI (nextM s k now s.l s.c) a src := by
  have ht : s.now ≤ tickM s now := by unfold tickM; omega
  have hl := left_in mi k now
  refine ⟨b.mono, fun i h0 h1 => ?_, fun hp => ?_, b.pair⟩
  · have := b.inn i h0 h1; exact ⟨this.1, by show _ ≤ tickM s now; omega⟩
  · by_cases hk : k = src
    · subst hk
      have hz : leftM s k now = 0 := by
        rcases Int.lt_or_le 0 (leftM s k now) with h | h
        · exact absurd ⟨h, rfl⟩ hm
        · omega
      refine ⟨(leftM s k now, tickM s now), ?_, by omega, fun i h0 h1 => ?_⟩
      · show findT (updT s.l s.c k _) k = _
        rw [findT_upd, if_pos rfl, if_neg (by omega)]
      · have := star mi b (now := now) i h0 h1; exact ⟨this.2, this.1⟩
    · obtain ⟨x, hx, r⟩ := b.last hp
      refine ⟨x, ?_, r⟩
      show findT (updT s.l s.c k _) src = _
      rw [findT_upd, if_neg (fun e => hk e.symm)]; exact hx
theorem bi_hit {s : MS} (mi : MI s) {a : List Int} {src : Int} (b : BI s a src) (now : Int) (hok : 0 < leftM s src now) : BI (nextM s src now s.l s.c) (a ++ [tickM s now]) src := by
  have ht : s.now ≤ tickM s now := by unfold tickM; omega
  have hn0 := mi.now
  have hl := left_in mi src now
  have hlb := left_burst (s := s) src now
  have hlen : ((a ++ [tickM s now]).length : Int) = a.length + 1 := by simp
  have hbu := mi.burst
  refine ⟨fun i k h0 h1 h2 => ?_, fun i h0 h1 => ?_, fun _ => ⟨(leftM s src now - 1, tickM s now), ?_, by dsimp only; omega, fun i h0 h1 => ?_⟩, fun i k h0 h1 h2 => ?_⟩
  · rw [hlen] at h2
    by_cases hk : k < a.length
    · rw [lgA _ _ _ h0 (by omega), lgA _ _ _ (by omega) hk]; exact b.mono i k h0 h1 hk
    · rw [lgE a _ k (by omega)]
      by_cases hi : i < a.length
      · rw [lgA _ _ _ h0 hi]; have := b.inn i h0 hi; omega
      · rw [lgE a _ i (by omega)]; omega
  · rw [hlen] at h1
    show _ ∧ _ ≤ tickM s now
    by_cases hi : i < a.length
    · rw [lgA _ _ _ h0 hi]; have := b.inn i h0 hi; omega
    · rw [lgE a _ i (by omega)]; omega
  · show findT (updT s.l s.c src _) src = _
    rw [findT_upd, if_pos rfl, if_pos hok]
  · rw [hlen] at h1 ⊢
    show _ ∧ _ ≤ s.burst + _ * s.rate
    dsimp only
    by_cases hi : i < a.length
    · rw [lgA _ _ _ h0 hi]; have := star mi b (now := now) i h0 hi; exact ⟨this.2, by omega⟩
    · rw [lgE a _ i (by omega), Int.sub_self, Int.zero_mul]; exact ⟨Int.le_refl _, by omega⟩
  · rw [hlen] at h2
    show _ ≤ s.burst + _ * s.rate
    by_cases hk : k < a.length
    · rw [lgA _ _ _ h0 (by omega), lgA _ _ _ (by omega) hk]; exact b.pair i k h0 h1 hk
    · rw [lgE a _ k (by omega)]
      by_cases hi : i < a.length
      · rw [lgA _ _ _ h0 hi]; have := (star mi b (now := now) i h0 hi).1; omega
      · rw [lgE a _ i (by omega), Int.sub_self, Int.zero_mul]; omega
theorem mul_in2 {d r : Int} (hd : 0 ≤ d ∧ d ≤ 1073741824) (hr : 0 ≤ r ∧ r ≤ 1000) : 0 ≤ d * r ∧ d * r ≤ 1073741824000 := by
  have h1 := Int.mul_nonneg hd.1 hr.1
  have h2 := Int.mul_le_mul hd.2 hr.2 hr.1 (by omega)
  omega
theorem kept_all {s : MS} {k : Int} {l : List (Ent Bk)} (h : Kept s k l) (hs : s.size = 64) (hl : (s.l.length : Int) < 64) : l = s.l := by
  rcases h with h | h
  · exact h.2
  · omega
/-- who was met is who is known -/
structure MetI (s : MS) (o : List (Ent Bool)) : Prop where
  fd : ∀ x, (findT o x).isSome = (findT s.l x).isSome
  ln : o.length = s.l.length
theorem MetI.step {s : MS} {o : List (Ent Bool)} (m : MetI s o) (c : Nat) (k now : Int) : MetI (nextM s k now s.l s.c) (updT o c k true) := by
  refine ⟨fun x => ?_, ?_⟩
  · show _ = (findT (updT s.l s.c k _) x).isSome
    rw [findT_upd, findT_upd]
    split
    · rfl
    · exact m.fd x
  · show _ = (updT s.l s.c k _).length
    rw [len_upd, len_upd, m.fd, m.ln]
theorem len_next (s : MS) (k now : Int) : ((nextM s k now s.l s.c).l.length : Int) ≤ s.l.length + 1 := by
  show ((updT s.l s.c k _).length : Int) ≤ _
  rw [len_upd]; split <;> omega
end Go.Sep.Meter
