/- Plain laws of meters: who is known to one is known to the other. No program in sight. -/
import Derived.Test.YtdefjkokbffccaaPlain
set_option linter.unusedSimpArgs false
set_option linter.unusedVariables false
namespace Go.Sep.Meter
open Go.Sep
theorem keepTo_mem (L : List Tok) (kk : Int) (y : Tok) : ∀ i : Nat, y ∈ keepTo L kk i ↔ ∃ j : Nat, j < i ∧ (j : Int) ≠ kk ∧ y = lget L j := by
  intro i
  induction i with
  | zero => simp [keepTo]
  | succ i ih =>
    unfold keepTo
    split
    · next h =>
      rw [ih]
      constructor
      · rintro ⟨j, h1, h2, h3⟩; exact ⟨j, by omega, h2, h3⟩
      · rintro ⟨j, h1, h2, h3⟩
        refine ⟨j, ?_, h2, h3⟩
        rcases Nat.lt_or_ge j i with h' | h'
        · exact h'
        · exfalso; apply h2; rw [show j = i by omega]; exact h
    · next h =>
      rw [List.mem_append, List.mem_singleton, ih]
      constructor
      · rintro (⟨j, h1, h2, h3⟩ | h1)
        · exact ⟨j, by omega, h2, h3⟩
        · exact ⟨i, by omega, h, h1⟩
      · rintro ⟨j, h1, h2, h3⟩
        rcases Nat.lt_or_ge j i with h' | h'
        · exact .inl ⟨j, h', h2, h3⟩
        · right; rw [h3, show j = i by omega]
theorem keepTo_length (L : List Tok) (kk : Int) : ∀ i : Nat, ((keepTo L kk i).length : Int) = if 0 ≤ kk ∧ kk < i then (i : Int) - 1 else i := by
  intro i
  induction i with
  | zero => simp [keepTo]
  | succ i ih =>
    unfold keepTo
    split
    · next h => rw [ih, if_neg (by omega), if_pos (by omega)]; first | done | omega
    · next h =>
      rw [List.length_append, List.length_singleton, Int.natCast_add, ih]
      split <;> split <;> omega
theorem key_ne {L : List Tok} (hn : (L.map (·.1)).Nodup) {i j : Nat} (hi : i < L.length) (hj : j < L.length) (h : i ≠ j) : (lget L (i : Int)).1 ≠ (lget L (j : Int)).1 := by
  rw [lget_one hi, lget_one hj]
  have hp := List.pairwise_iff_getElem.1 hn
  have hi' : i < (L.map (·.1)).length := by simpa using hi
  have hj' : j < (L.map (·.1)).length := by simpa using hj
  rcases Nat.lt_or_gt_of_ne h with h | h
  · have := hp i j hi' hj' h
    simpa using this
  · have := hp j i hj' hi' h
    intro e
    apply this
    simpa using e.symm
theorem mem_lget {L : List Tok} {y : Tok} : y ∈ L ↔ ∃ j : Nat, j < L.length ∧ y = lget L (j : Int) := by
  constructor
  · intro h
    obtain ⟨j, hj, rfl⟩ := List.mem_iff_getElem.1 h
    exact ⟨j, hj, (lget_one hj).symm⟩
  · rintro ⟨j, hj, rfl⟩
    rw [lget_one hj]; exact List.getElem_mem hj
theorem keepTo_nodup {L : List Tok} (hn : (L.map (·.1)).Nodup) (kk : Int) : ∀ i : Nat, i ≤ L.length → ((keepTo L kk i).map (·.1)).Nodup := by
  intro i
  induction i with
  | zero => intro _; simp [keepTo]
  | succ i ih =>
    intro hi
    unfold keepTo
    split
    · exact ih (by omega)
    · rw [List.map_append, List.nodup_append]
      refine ⟨ih (by omega), by simp, fun a ha b hb => ?_⟩
      simp only [List.map_cons, List.map_nil, List.mem_singleton] at hb
      subst hb
      obtain ⟨y, hy, rfl⟩ := List.mem_map.1 ha
      obtain ⟨j, h1, _, rfl⟩ := (keepTo_mem L kk y i).1 hy
      exact key_ne hn (by omega) (by omega) (by omega)
structure RelM (s : MS) (L : List Tok) : Prop where
  mi : MI s
  ks : KeysOk s.l
  st : StampT s.l s.c
  kl : (L.map (·.1)).Nodup
  mem : ∀ k a t, findT s.l k = some (a, t) ↔ (k, a, t) ∈ L
  len : L.length = s.l.length
  le : (s.l.length : Int) ≤ s.size
theorem rel_new (a b c : Int) : RelM (newM a b c) [] := by
  refine ⟨new_mi a b c, .nil, ⟨by simp [newM], by simp [newM]⟩, by simp, by simp [newM, findT], rfl, ?_⟩
  have := (new_mi a b c).size
  simp only [newM, List.length_nil] at *; omega
theorem RelM.found {s : MS} {L : List Tok} (r : RelM s L) {k : Int} {x : Bk} (h : findT s.l k = some x) : 0 ≤ findQ L k ∧ findQ L k < L.length ∧ lget L (findQ L k) = (k, x) := by
  have hm := (r.mem k x.1 x.2).1 h
  obtain ⟨j, hj, he⟩ := mem_lget.1 hm
  have : findQ L k = j := findQ_at L k j ⟨by omega, by omega⟩ (by rw [← he]) fun i h0 h1 => by
    obtain ⟨i, rfl⟩ := Int.eq_ofNat_of_zero_le h0
    have := key_ne r.kl (show i < L.length by omega) hj (by omega)
    rwa [← he] at this
  rw [this, ← he]
  exact ⟨by omega, by omega, rfl⟩
theorem RelM.absent {s : MS} {L : List Tok} (r : RelM s L) {k : Int} (h : findT s.l k = none) : findQ L k = -1 ∧ ∀ y ∈ L, y.1 ≠ k := by
  have hall : ∀ y ∈ L, y.1 ≠ k := fun y hy e => by
    have := (r.mem y.1 y.2.1 y.2.2).2 hy
    rw [e, h] at this; cases this
  exact ⟨findQ_none L k fun j h0 h1 => by
    obtain ⟨j, rfl⟩ := Int.eq_ofNat_of_zero_le h0
    exact hall _ (mem_lget.2 ⟨j, by omega, rfl⟩), hall⟩
theorem RelM.left {s : MS} {L : List Tok} (r : RelM s L) (k now : Int) : leftM s k now = leftQ L s.rate s.burst (tickM s now) (findQ L k) := by
  cases h : findT s.l k with
  | none => rw [(r.absent h).1]; simp [leftM, leftQ, h]
  | some x =>
    obtain ⟨h1, h2, h3⟩ := r.found h
    unfold leftM leftQ
    rw [h, if_pos h1, h3]; rfl
theorem RelM.bounds {s : MS} {L : List Tok} (r : RelM s L) (j : Int) (h0 : 0 ≤ j) (h1 : j < L.length) : (0 ≤ (lget L j).2.1 ∧ (lget L j).2.1 ≤ 1000) ∧ 0 ≤ (lget L j).2.2 ∧ (lget L j).2.2 ≤ s.now := by
  obtain ⟨j, rfl⟩ := Int.eq_ofNat_of_zero_le h0
  have hm : lget L (j : Int) ∈ L := mem_lget.2 ⟨j, by omega, rfl⟩
  have := r.mi.bk _ _ ((r.mem _ _ _).2 hm)
  exact ⟨⟨this.1, this.2.1⟩, this.2.2⟩
theorem findT_ent (u : Tok) : ∀ l : List (Ent Bk), findT l u.1 = some (u.2.1, u.2.2) → ∃ y ∈ l, y.1 = u.1 ∧ y.2.1 = u.2 := by
  intro l
  induction l with
  | nil => intro h; cases h
  | cons z r ih =>
    intro h
    unfold findT at h
    split at h
    · next he => exact ⟨z, List.mem_cons_self, he, by have := Option.some.inj h; rw [this]⟩
    · obtain ⟨y, a, b⟩ := ih h; exact ⟨y, List.mem_cons_of_mem _ a, b⟩
/-- what is kept, told of both -/
theorem rel_next {s : MS} {L : List Tok} (r : RelM s L) (k now : Int) {l : List (Ent Bk)} (hk : Kept s k l) {kk : Int} (hg : Goes L s.size (findQ L k) kk) :
    RelM (nextM s k now l s.c) (nextL L kk k (leftM s k now) (tickM s now)) := by
  -- the common part
  have main : ∀ (hks : KeysOk l) (hst : StampT l s.c) (hsub : ∀ j x, findT l j = some x → findT s.l j = some x) (hkeep : ∀ j a t, j ≠ k → (findT l j = some (a, t) ↔ (j, a, t) ∈ keepTo L kk L.length)) (hno : ∀ y ∈ keepTo L kk L.length, y.1 ≠ k)
      (hlen : (keepTo L kk L.length).length + 1 = (updT l s.c k (if 0 < leftM s k now then leftM s k now - 1 else leftM s k now, tickM s now)).length)
      (hle : ((updT l s.c k (if 0 < leftM s k now then leftM s k now - 1 else leftM s k now, tickM s now)).length : Int) ≤ s.size),
      RelM (nextM s k now l s.c) (nextL L kk k (leftM s k now) (tickM s now)) := by
    intro hks hst hsub hkeep hno hlen hle
    refine ⟨next_mi r.mi k now l s.c hsub, hks.upd _ _ _, hst.upd _ _, ?_, fun j a t => ?_, ?_, hle⟩
    · rw [nextL, List.map_append, List.nodup_append]
      refine ⟨keepTo_nodup r.kl kk _ (Nat.le_refl _), by simp, fun a ha b hb => ?_⟩
      simp only [List.map_cons, List.map_nil, List.mem_singleton] at hb
      subst hb
      obtain ⟨y, hy, rfl⟩ := List.mem_map.1 ha
      exact hno y hy
    · show findT (updT l s.c k _) j = _ ↔ _
      rw [findT_upd, nextL, List.mem_append, List.mem_singleton]
      by_cases hj : j = k
      · subst hj
        rw [if_pos rfl]
        constructor
        · intro h; right
          have := Option.some.inj h
          rw [← this]
        · rintro (h | h)
          · exact absurd rfl (hno _ h)
          · have := (Prod.mk.inj h).2; rw [this]
      · rw [if_neg hj, hkeep j a t hj]
        constructor
        · exact .inl
        · rintro (h | h)
          · exact h
          · exact absurd (Prod.mk.inj h).1 hj
    · show (nextL _ _ _ _ _).length = (updT l s.c k _).length
      rw [nextL, List.length_append, List.length_singleton]; exact hlen
  have hkl := keepTo_length L kk L.length
  have hrl := r.len
  have hle := r.le
  cases hf : findT s.l k with
  | some x =>
    obtain ⟨h1, h2, h3⟩ := r.found hf
    have hkk : kk = findQ L k := by rcases hg with h | h | h <;> omega
    have hl : l = s.l := by
      rcases hk with h | h
      · exact h.2
      · rw [hf] at h; exact absurd h.1 (by simp)
    subst hl
    rw [if_pos ⟨by omega, by omega⟩] at hkl
    obtain ⟨kn, hkn⟩ := Int.eq_ofNat_of_zero_le h1
    have hmem : ∀ y, y ∈ keepTo L kk L.length ↔ y ∈ L ∧ y.1 ≠ k := fun y => by
      rw [keepTo_mem, mem_lget]
      constructor
      · rintro ⟨j, a, b, rfl⟩
        refine ⟨⟨j, a, rfl⟩, ?_⟩
        have := key_ne r.kl a (show kn < L.length by omega) (by omega)
        rw [← hkn, h3] at this
        exact this
      · rintro ⟨⟨j, a, rfl⟩, b⟩
        refine ⟨j, a, fun e => ?_, rfl⟩
        apply b
        rw [e, hkk, h3]
    refine main r.ks r.st (fun _ _ h => h) (fun j a t hj => ?_) (fun y hy => ((hmem y).1 hy).2) ?_ ?_
    · rw [r.mem, hmem]; exact ⟨fun h => ⟨h, hj⟩, fun h => h.1⟩
    · rw [len_upd, hf]; simp; omega
    · rw [len_upd, hf]; simp; omega
  | none =>
    obtain ⟨h1, h2⟩ := r.absent hf
    rcases hg with h | h | h
    · omega
    · -- there is room
      have hl : l = s.l := by
        rcases hk with hk | hk
        · exact hk.2
        · omega
      subst hl
      rw [if_neg (by omega)] at hkl
      have hmem : ∀ y, y ∈ keepTo L kk L.length ↔ y ∈ L := fun y => by
        rw [keepTo_mem, mem_lget]
        constructor
        · rintro ⟨j, a, b, rfl⟩; exact ⟨j, a, rfl⟩
        · rintro ⟨j, a, rfl⟩; exact ⟨j, a, by omega, rfl⟩
      refine main r.ks r.st (fun _ _ h => h) (fun j a t hj => ?_) (fun y hy => h2 y ((hmem y).1 hy)) ?_ ?_
      · rw [r.mem, hmem]
      · rw [len_upd, hf]; simp; omega
      · rw [len_upd, hf]; simp; omega
    · -- the oldest goes
      obtain ⟨_, hsz, hk0, hk1, hold⟩ := h
      rcases hk with hk | hk
      · rw [hf] at hk; rcases hk.1 with h | h
        · cases h
        · omega
      · obtain ⟨_, _, x, hx, hxo, rfl⟩ := hk
        obtain ⟨kn, hkn⟩ := Int.eq_ofNat_of_zero_le hk0
        have hxf := findT_mem r.ks hx
        obtain ⟨g1, g2, g3⟩ := r.found hxf
        have hkm : lget L kk ∈ L := mem_lget.2 ⟨kn, by omega, by rw [hkn]⟩
        have hkf := (r.mem _ _ _).2 hkm
        have hge : (lget L kk).1 = x.1 := by
          have o1 := hold _ g1 g2
          rw [g3] at o1
          have hye : ∃ y ∈ s.l, y.1 = (lget L kk).1 ∧ y.2.1 = (lget L kk).2 := by
            exact findT_ent _ _ hkf
          obtain ⟨y, hy, e1, e2⟩ := hye
          have o2 := hxo y hy
          rw [e1, e2] at o2
          unfold olderB at o1 o2
          split at o1 <;> split at o2 <;> simp at * <;> omega
        have hmem : ∀ y, y ∈ keepTo L kk L.length ↔ y ∈ L ∧ y.1 ≠ x.1 := fun y => by
          rw [keepTo_mem, mem_lget]
          constructor
          · rintro ⟨j, a, b, rfl⟩
            refine ⟨⟨j, a, rfl⟩, ?_⟩
            have := key_ne r.kl a (show kn < L.length by omega) (by omega)
            rw [← hkn, hge] at this
            exact this
          · rintro ⟨⟨j, a, rfl⟩, b⟩
            refine ⟨j, a, fun e => ?_, rfl⟩
            apply b; rw [e, hge]
        rw [if_pos ⟨by omega, by omega⟩] at hkl
        have hld := len_del s.l x.1
        rw [hxf] at hld
        simp only [Option.isSome_some, if_true] at hld
        have hfk : findT (delT s.l x.1) k = none := by
          rw [findT_del r.ks]; split
          · rfl
          · exact hf
        refine main (r.ks.del _) (r.st.del _) (fun j y h => ?_) (fun j a t hj => ?_) (fun y hy => h2 y ((hmem y).1 hy).1) ?_ ?_
        · rw [findT_del r.ks] at h
          split at h
          · cases h
          · exact h
        · rw [findT_del r.ks, hmem]
          by_cases hjx : j = x.1
          · rw [if_pos hjx]; simp [hjx]
          · rw [if_neg hjx, r.mem]; exact ⟨fun h => ⟨h, hjx⟩, fun h => h.1⟩
        · rw [len_upd, hfk]; simp; omega
        · rw [len_upd, hfk]; simp; omega
abbrev Tell := Int × Int × Unit
abbrev encTe (x : Tell) : List Value := [.int .u32 x.1, .int .i64 x.2.1]
theorem lget_in {l : List Tell} {i : Int} (h : 0 ≤ i ∧ i < l.length) : lget l i ∈ l := by
  obtain ⟨h2, e⟩ := lget_at h
  rw [e]; exact List.getElem_mem h2
theorem rel_find {s : MS} {L : List Tok} (r : RelM s L) {k : Int} : (findT s.l k).isSome = decide (0 ≤ findQ L k) := by
  cases h : findT s.l k with
  | none => rw [(r.absent h).1]; rfl
  | some x => have := (r.found h).1; simp [this]
theorem rel_at {s : MS} {L : List Tok} (r : RelM s L) (k : Int) (h : (findT s.l k).isSome = true) : (lget L (findQ L k)).2.1 = ((findT s.l k).getD (0, 0)).1 := by
  cases hf : findT s.l k with
  | none => rw [hf] at h; cases h
  | some x => rw [(r.found hf).2.2]; rfl
theorem rel_off {s : MS} {L : List Tok} (r : RelM s L) (k : Int) (h : (findT s.l k).isSome = false) : ((findT s.l k).getD (0, 0)).1 = 0 := by
  have _ := r
  cases hf : findT s.l k with
  | none => rfl
  | some x => rw [hf] at h; cases h
end Go.Sep.Meter
