/- plain laws of score: no program in sight -/
import Derived.Test.YtimdeghcidegcaaSep5
set_option linter.unusedSimpArgs false
set_option linter.unusedVariables false
namespace Go.Sep.Score
open Go.Sep
def more (n : Int) : Int := min (max n 0 + 1) 1073741824
def nextS (u : Bool) (g b : Int) (good : Bool) (r f : Int) : Bool × Int × Int :=
  let g1 := if good then more (min g 1073741824) else 0
  let b1 := if good then 0 else more (min b 1073741824)
  (if max f 1 ≤ b1 then false else if max r 1 ≤ g1 then true else u, g1, b1)
def ofS (l : List Bool) (r f : Int) : Bool × Int × Int := l.foldl (fun s g => nextS s.1 s.2.1 s.2.2 g r f) (false, 0, 0)
def rowP (l : List Bool) (a n : Int) (good : Bool) : Prop := a + n ≤ l.length ∧ ∀ j, 0 ≤ j → j < n → lget l (a + j) = good
def goodAt (l : List Bool) (r f i : Int) : Prop := rowP l i r true ∧ ∀ j, i + r ≤ j → j < l.length → ¬ rowP l j f false
def upP (l : List Bool) (r f : Int) : Prop := ∃ i : Int, 0 ≤ i ∧ i < l.length ∧ goodAt l (max r 1) (max f 1) i
def longP (l : List Bool) (good : Bool) (n : Int) : Prop := 0 ≤ n ∧ n ≤ l.length ∧ (∀ j, 0 ≤ j → j < n → lget l (l.length - 1 - j) = good) ∧ (n < l.length → lget l (l.length - 1 - n) ≠ good)

theorem take_snoc {α : Type} [Inhabited α] (l : List α) (i : Int) (h0 : 0 ≤ i) (h1 : i < l.length) : l.take (i + 1).toNat = l.take i.toNat ++ [lget l i] := by
  have : i.toNat < l.length := by omega
  rw [show (i + 1).toNat = i.toNat + 1 by omega, List.take_succ_eq_append_getElem this]
  simp [lget, List.getD, this]
theorem ofS_snoc (l : List Bool) (x : Bool) (r f : Int) : ofS (l ++ [x]) r f = nextS (ofS l r f).1 (ofS l r f).2.1 (ofS l r f).2.2 x r f := by simp [ofS, List.foldl_append]

theorem nextT (u : Bool) (g b r f : Int) : nextS u g b true r f = (if max r 1 ≤ min (max (min g 1073741824) 0 + 1) 1073741824 then true else u, min (max (min g 1073741824) 0 + 1) 1073741824, 0) := by
  have e2 : ¬ max f 1 ≤ 0 := by omega
  simp [nextS, e2, more]
theorem nextF (u : Bool) (g b r f : Int) : nextS u g b false r f = (if max f 1 ≤ min (max (min b 1073741824) 0 + 1) 1073741824 then false else u, 0, min (max (min b 1073741824) 0 + 1) 1073741824) := by
  have e2 : ¬ max r 1 ≤ 0 := by omega
  simp [nextS, e2, more]
/-- what one probe more makes, in facts -/
theorem next_facts (u : Bool) (g b : Int) (good : Bool) (r f : Int) : ∃ (u' : Bool) (g' b' : Int), nextS u g b good r f = (u', g', b') ∧
    (good = true → g' = min (max g 0) 1073741823 + 1 ∧ b' = 0 ∧ (max r 1 ≤ g' → u' = true) ∧ (g' < max r 1 → u' = u)) ∧
    (good = false → b' = min (max b 0) 1073741823 + 1 ∧ g' = 0 ∧ (max f 1 ≤ b' → u' = false) ∧ (b' < max f 1 → u' = u)) := by
  cases good with
  | true =>
    refine ⟨_, _, _, nextT _ _ _ _ _, fun _ => ⟨by omega, rfl, fun h => by rw [if_pos (by omega)], fun h => by rw [if_neg (by omega)]⟩, fun h => by cases h⟩
  | false =>
    refine ⟨_, _, _, nextF _ _ _ _ _, (fun h => by cases h), fun _ => ⟨by omega, rfl, fun h => by rw [if_pos (by omega)], fun h => by rw [if_neg (by omega)]⟩⟩

theorem lget_old (l : List Bool) (x : Bool) (i : Int) (h0 : 0 ≤ i) (h1 : i < l.length) : lget (l ++ [x]) i = lget l i := by
  have : i.toNat < l.length := by omega
  simp [lget, List.getD, List.getElem?_append_left this]
theorem lget_new (l : List Bool) (x : Bool) (i : Int) (h : i = l.length) : lget (l ++ [x]) i = x := by
  subst h
  simp [lget, List.getD]

theorem longP_unique {l : List Bool} {good : Bool} {m n : Int} (a : longP l good m) (b : longP l good n) : m = n := by
  obtain ⟨a1, a2, a3, a4⟩ := a
  obtain ⟨b1, b2, b3, b4⟩ := b
  rcases Int.lt_trichotomy m n with h | h | h
  · exact absurd (b3 m a1 h) (a4 (by omega))
  · exact h
  · exact absurd (a3 n b1 h) (b4 (by omega))

theorem longP_same (l : List Bool) (x : Bool) (n : Int) (h : longP l x n) : longP (l ++ [x]) x (n + 1) := by
  obtain ⟨h1, h2, h3, h4⟩ := h
  have hl : ((l ++ [x]).length : Int) = l.length + 1 := by simp
  refine ⟨by omega, by omega, fun j j0 j1 => ?_, fun hlt => ?_⟩
  · by_cases hj : j = 0
    · exact lget_new _ _ _ (by omega)
    · rw [lget_old _ _ _ (by omega) (by omega), show ((l ++ [x]).length : Int) - 1 - j = l.length - 1 - (j - 1) by omega]
      exact h3 (j - 1) (by omega) (by omega)
  · rw [lget_old _ _ _ (by omega) (by omega), show ((l ++ [x]).length : Int) - 1 - (n + 1) = l.length - 1 - n by omega]
    exact h4 (by omega)

theorem longP_other (l : List Bool) (x y : Bool) (hne : x ≠ y) : longP (l ++ [x]) y 0 := by
  have hl : ((l ++ [x]).length : Int) = l.length + 1 := by simp
  exact ⟨by omega, by omega, fun j j0 j1 => by omega, fun _ => by rw [lget_new _ _ _ (by omega)]; exact hne⟩

/-- so many alike at the end -/
theorem row_end {l : List Bool} {good : Bool} {N n : Int} (h : longP l good N) (h0 : 0 ≤ n) (hn : n ≤ l.length) : rowP l (l.length - n) n good ↔ n ≤ N := by
  obtain ⟨h1, h2, h3, h4⟩ := h
  constructor
  · rintro ⟨r1, r2⟩
    rcases Int.lt_or_le N n with hlt | hle
    · have := r2 (n - 1 - N) (by omega) (by omega)
      rw [show (l.length : Int) - n + (n - 1 - N) = l.length - 1 - N by omega] at this
      exact absurd this (h4 (by omega))
    · exact hle
  · intro hle
    refine ⟨by omega, fun j j0 j1 => ?_⟩
    rw [show (l.length : Int) - n + j = l.length - 1 - (n - 1 - j) by omega]
    exact h3 _ (by omega) (by omega)

theorem row_old (l : List Bool) (x good : Bool) (a n : Int) (h0 : 0 ≤ a) (h : a + n ≤ l.length) : rowP (l ++ [x]) a n good ↔ rowP l a n good := by
  have hl : ((l ++ [x]).length : Int) = l.length + 1 := by simp
  constructor
  · rintro ⟨_, r2⟩
    exact ⟨h, fun j j0 j1 => by rw [← r2 j j0 j1, lget_old _ _ _ (by omega) (by omega)]⟩
  · rintro ⟨_, r2⟩
    exact ⟨by omega, fun j j0 j1 => by rw [← r2 j j0 j1, lget_old _ _ _ (by omega) (by omega)]⟩

theorem snoc_ind {α : Type} {C : List α → Prop} (h0 : C []) (h1 : ∀ l x, C l → C (l ++ [x])) (l : List α) : C l := by
  rw [← l.reverse_reverse]
  induction l.reverse with
  | nil => exact h0
  | cons x r ih => rw [List.reverse_cons]; exact h1 _ _ ih

/-- what the fold comes to -/
theorem ofS_law (r f : Int) (l : List Bool) (hlen : l.length ≤ 1000000) : ((ofS l r f).1 = true ↔ upP l r f) ∧ longP l true (ofS l r f).2.1 ∧ longP l false (ofS l r f).2.2 := by
  induction l using snoc_ind with
  | h0 =>
    refine ⟨⟨fun h => by simp [ofS] at h, fun ⟨i, h1, h2, _⟩ => by simp at h2; omega⟩, ?_, ?_⟩ <;> exact ⟨by simp [ofS], by simp [ofS], fun j _ h => by simp [ofS] at h; omega, fun h => by simp [ofS] at h⟩
  | h1 l x ih =>
    have hl : ((l ++ [x]).length : Int) = l.length + 1 := by simp
    obtain ⟨iu, ig, ib⟩ := ih (by simp at hlen; omega)
    rw [ofS_snoc]
    generalize ofS l r f = s at *
    obtain ⟨u, g, b⟩ := s
    simp only at iu ig ib ⊢
    have hg := ig.1; have hg2 := ig.2.1; have hb := ib.1; have hb2 := ib.2.1
    have hlen' : (l.length : Int) ≤ 1000000 := by simp at hlen; omega
    cases x with
    | true =>
      have e : nextS u g b true r f = (if max r 1 ≤ g + 1 then true else u, g + 1, 0) := by
        have e1 : more (min g 1073741824) = g + 1 := by unfold more; omega
        have e2 : ¬ max f 1 ≤ 0 := by omega
        simp [nextS, e1, e2]
      rw [e]
      have lg := longP_same l true g ig
      refine ⟨?_, lg, longP_other l true false (by simp)⟩
      simp only
      by_cases hr : max r 1 ≤ g + 1
      · rw [if_pos hr]
        simp only [true_iff]
        refine ⟨(l ++ [true]).length - max r 1, by omega, by omega, (row_end lg (by omega) (by omega)).2 hr, fun j j0 j1 => by omega⟩
      · rw [if_neg hr, iu]
        constructor
        · rintro ⟨i, i0, i1, hrow, hno⟩
          refine ⟨i, i0, by omega, (row_old _ _ _ _ _ i0 hrow.1).2 hrow, fun j j0 j1 hbad => ?_⟩
          have hb1 := hbad.1
          by_cases hj : j + max f 1 ≤ l.length
          · exact hno j j0 (by omega) ((row_old _ _ _ _ _ (by omega) hj).1 hbad)
          · have := hbad.2 (l.length - j) (by omega) (by omega)
            rw [lget_new _ _ _ (by omega)] at this
            cases this
        · rintro ⟨i, i0, i1, hrow, hno⟩
          have hr1 := hrow.1
          by_cases hj : i + max r 1 ≤ l.length
          · exact ⟨i, i0, by omega, (row_old _ _ _ _ _ i0 hj).1 hrow, fun j j0 j1 hbad => hno j j0 (by omega) ((row_old _ _ _ _ _ (by omega) hbad.1).2 hbad)⟩
          · exfalso
            have : i = (l ++ [true]).length - max r 1 := by omega
            rw [this] at hrow
            exact hr ((row_end lg (by omega) (by omega)).1 hrow)
    | false =>
      have e : nextS u g b false r f = (if max f 1 ≤ b + 1 then false else u, 0, b + 1) := by
        have e1 : more (min b 1073741824) = b + 1 := by unfold more; omega
        have e2 : ¬ max r 1 ≤ 0 := by omega
        simp [nextS, e1, e2]
      rw [e]
      have lb := longP_same l false b ib
      refine ⟨?_, longP_other l false true (by simp), lb⟩
      simp only
      by_cases hf : max f 1 ≤ b + 1
      · rw [if_pos hf]
        simp only [Bool.false_eq_true, false_iff]
        rintro ⟨i, i0, i1, hrow, hno⟩
        have hbad := (row_end lb (by omega) (by omega)).2 hf
        refine hno ((l ++ [false]).length - max f 1) ?_ (by omega) hbad
        rcases Int.lt_or_le ((l ++ [false]).length - max f 1) (i + max r 1) with hlt | hle
        · exfalso
          have hr1 := hrow.1
          have h1 := hrow.2 (max r 1 - 1) (by omega) (by omega)
          have h2 := hbad.2 (i + (max r 1 - 1) - ((l ++ [false]).length - max f 1)) (by omega) (by omega)
          rw [show ((l ++ [false]).length : Int) - max f 1 + (i + (max r 1 - 1) - ((l ++ [false]).length - max f 1)) = i + (max r 1 - 1) by omega, h1] at h2
          cases h2
        · exact hle
      · rw [if_neg hf, iu]
        constructor
        · rintro ⟨i, i0, i1, hrow, hno⟩
          refine ⟨i, i0, by omega, (row_old _ _ _ _ _ i0 hrow.1).2 hrow, fun j j0 j1 hbad => ?_⟩
          have hb1 := hbad.1
          by_cases hj : j + max f 1 ≤ l.length
          · exact hno j j0 (by omega) ((row_old _ _ _ _ _ (by omega) hj).1 hbad)
          · have : j = (l ++ [false]).length - max f 1 := by omega
            rw [this] at hbad
            exact hf ((row_end lb (by omega) (by omega)).1 hbad)
        · rintro ⟨i, i0, i1, hrow, hno⟩
          have hr1 := hrow.1
          have hj : i + max r 1 ≤ l.length := by
            rcases Int.lt_or_le l.length (i + max r 1) with hlt | hle
            · exfalso
              have := hrow.2 (l.length - i) (by omega) (by omega)
              rw [lget_new _ _ _ (by omega)] at this
              cases this
            · exact hle
          exact ⟨i, i0, by omega, (row_old _ _ _ _ _ i0 hj).1 hrow, fun j j0 j1 hbad => hno j j0 (by omega) ((row_old _ _ _ _ _ (by omega) hbad.1).2 hbad)⟩
end Go.Sep.Score
