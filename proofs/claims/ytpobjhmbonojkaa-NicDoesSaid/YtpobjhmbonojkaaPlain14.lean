/- Plain laws of pools of buffers. No program in sight. -/
import Derived.Test.YtpobjhmbonojkaaSep10
set_option linter.unusedSimpArgs false
set_option linter.unusedVariables false
namespace Go.Sep.Pool
open Go.Sep
abbrev Sl := Option Addr × Nat × Nat
abbrev encSl (s : Sl) : List Value := [.slice s.1 s.2.1 s.2.2]
abbrev encBo (b : Bool) : List Value := [.bool b]
abbrev I64 (x : Int) : Value := .int .i64 x
structure PS where
  tk : List Bool
  back : List Int
  fresh : Int
def PS.N (s : PS) : Int := s.tk.length
def freeP (s : PS) : Int := s.back.length + s.N - s.fresh
def hasP (s : PS) (i : Int) : Bool := decide (0 ≤ i ∧ i < s.N) && lget s.tk i
def takeP (s : PS) : PS × Int × Bool :=
  if freeP s = 0 then (s, 0, false)
  else if 0 < (s.back.length : Int) then (⟨lset s.tk (lget s.back ((s.back.length : Int) - 1)) true, s.back.take (s.back.length - 1), s.fresh⟩, lget s.back ((s.back.length : Int) - 1), true)
  else (⟨lset s.tk s.fresh true, s.back, s.fresh + 1⟩, s.fresh, true)
def giveP (s : PS) (i : Int) : PS × Bool :=
  if hasP s i = true then (⟨lset s.tk i false, s.back ++ [i], s.fresh⟩, true) else (s, false)
def cntB (l : List Bool) : Int := (l.filter id).length
theorem cntB_lset (l : List Bool) (i : Int) (x : Bool) (hi : 0 ≤ i ∧ i < l.length) : cntB (lset l i x) = cntB l - (if lget l i = true then 1 else 0) + (if x = true then 1 else 0) := by
  obtain ⟨h2, e2⟩ := lget_at hi
  unfold cntB lset
  rw [e2]
  generalize i.toNat = k at *
  clear e2 hi
  induction l generalizing k with
  | nil => simp at h2
  | cons y r ih =>
    cases k with
    | zero => cases y <;> cases x <;> simp <;> omega
    | succ k =>
      have := ih k (by simpa using h2)
      simp only [List.set_cons_succ, List.filter_cons, List.getElem_cons_succ, id] at *
      cases y <;> simp only [if_true, if_false, List.length_cons, Bool.false_eq_true] <;> omega
theorem cntB_pos {l : List Bool} (i : Int) (hi : 0 ≤ i ∧ i < l.length) (h : lget l i = true) : 1 ≤ cntB l := by
  have := cntB_lset l i false hi
  have h0 : 0 ≤ cntB (lset l i false) := by unfold cntB; omega
  rw [h] at this
  simp at this; omega
/-- what holds of any pool -/
structure PI (s : PS) : Prop where
  n : s.N ≤ 256
  f : 0 ≤ s.fresh ∧ s.fresh ≤ s.N
  nd : s.back.Nodup
  bk : ∀ i ∈ s.back, 0 ≤ i ∧ i < s.fresh
  tk : ∀ i, 0 ≤ i → i < s.N → (lget s.tk i = true ↔ i < s.fresh ∧ i ∉ s.back)
  ct : cntB s.tk = s.fresh - s.back.length
def newP (n : Int) : PS := ⟨List.replicate (min (max n 0) 256).toNat false, [], 0⟩
theorem newP_N (n : Int) : (newP n).N = min (max n 0) 256 := by simp [newP, PS.N]; omega
theorem lget_rep (k : Nat) (i : Int) : lget (List.replicate k false) i = false := by
  simp only [lget, List.getD, List.getElem?_replicate]
  split <;> rfl
theorem pi_new (n : Int) : PI (newP n) := by
  have h := newP_N n
  refine ⟨by omega, by rw [h]; simp [newP]; omega, by simp [newP], by simp [newP], fun i h0 _ => ?_, by simp [newP, cntB, List.filter_replicate]⟩
  simp only [newP, lget_rep]; simp; omega
theorem back_len {s : PS} (p : PI s) : (s.back.length : Int) ≤ s.fresh ∧ 0 ≤ freeP s := by
  have h0 : 0 ≤ cntB s.tk := by unfold cntB; omega
  have := p.ct
  have := p.f
  unfold freeP; omega
theorem last_mem {l : List Int} (h : 0 < (l.length : Int)) : lget l ((l.length : Int) - 1) ∈ l ∧ l = l.take (l.length - 1) ++ [lget l ((l.length : Int) - 1)] := by
  have h2 : l.length - 1 < l.length := by omega
  have e : lget l ((l.length : Int) - 1) = l[l.length - 1] := by
    have : ((l.length : Int) - 1).toNat = l.length - 1 := by omega
    simp [lget, List.getD, this, h2]
  refine ⟨by rw [e]; exact List.getElem_mem h2, ?_⟩
  rw [e, ← List.take_succ_eq_append_getElem h2, show l.length - 1 + 1 = l.length by omega, List.take_length]
def backP (s : PS) : PS := ⟨lset s.tk (lget s.back ((s.back.length : Int) - 1)) true, s.back.take (s.back.length - 1), s.fresh⟩
def freshP (s : PS) : PS := ⟨lset s.tk s.fresh true, s.back, s.fresh + 1⟩
theorem take_none {s : PS} (h : freeP s = 0) : takeP s = (s, 0, false) := by simp [takeP, h]
theorem take_back {s : PS} (h : ¬ freeP s = 0) (hb : 0 < (s.back.length : Int)) : takeP s = (backP s, lget s.back ((s.back.length : Int) - 1), true) := by
  unfold takeP; rw [if_neg h, if_pos hb]; rfl
theorem take_fresh {s : PS} (h : ¬ freeP s = 0) (hb : ¬ 0 < (s.back.length : Int)) : takeP s = (freshP s, s.fresh, true) := by
  unfold takeP; rw [if_neg h, if_neg hb]; rfl
theorem back_in {s : PS} (p : PI s) (hb : 0 < (s.back.length : Int)) : 0 ≤ lget s.back ((s.back.length : Int) - 1) ∧ lget s.back ((s.back.length : Int) - 1) < s.fresh ∧ lget s.tk (lget s.back ((s.back.length : Int) - 1)) = false := by
  have hm := (last_mem hb).1
  have := p.bk _ hm
  have := p.f
  refine ⟨by omega, by omega, ?_⟩
  cases hq : lget s.tk (lget s.back ((s.back.length : Int) - 1)) with
  | false => rfl
  | true => exact absurd hm ((p.tk _ (by omega) (by omega)).1 hq).2
theorem fresh_in {s : PS} (p : PI s) (h : ¬ freeP s = 0) (hb : ¬ 0 < (s.back.length : Int)) : 0 ≤ s.fresh ∧ s.fresh < s.N ∧ lget s.tk s.fresh = false := by
  have hf := p.f
  have h0 := back_len p
  have h4 : s.fresh < s.N := by unfold freeP at h h0; omega
  refine ⟨hf.1, h4, ?_⟩
  cases hq : lget s.tk s.fresh with
  | false => rfl
  | true => have := (p.tk s.fresh hf.1 h4).1 hq; omega
theorem N_lset (s : PS) (i : Int) (x : Bool) (b : List Int) (f : Int) : PS.N ⟨lset s.tk i x, b, f⟩ = s.N := by simp [PS.N, lset_len]
theorem pi_back {s : PS} (p : PI s) (h : 0 < (s.back.length : Int)) : PI (backP s) := by
  obtain ⟨h1, h2, h3⟩ := back_in p h
  have hl := (last_mem h).2
  have hf := p.f
  have hN : (backP s).N = s.N := N_lset ..
  have hnd := p.nd
  rw [hl, List.nodup_append] at hnd
  have hin : 0 ≤ lget s.back ((s.back.length : Int) - 1) ∧ lget s.back ((s.back.length : Int) - 1) < (s.tk.length : Int) := ⟨h1, by have : s.N = s.tk.length := rfl; omega⟩
  refine ⟨by rw [hN]; exact p.n, by rw [hN]; exact hf, hnd.1, fun i hi => p.bk i (List.mem_of_mem_take hi), fun i h0 hi => ?_, ?_⟩
  · rw [hN] at hi
    have ht := p.tk i h0 hi
    show lget (lset _ _ _) i = true ↔ _
    rw [lget_lset _ _ _ _ hin h0]
    have hmem : i ∈ s.back ↔ i ∈ s.back.take (s.back.length - 1) ∨ i = lget s.back ((s.back.length : Int) - 1) := by
      constructor
      · intro hi; rw [hl] at hi; simpa using hi
      · intro hi; rw [hl]; simpa using hi
    by_cases he : i = lget s.back ((s.back.length : Int) - 1)
    · rw [if_pos he]
      simp only [true_iff]
      refine ⟨by show i < s.fresh; omega, fun hm => ?_⟩
      exact (hnd.2.2 i hm _ (List.mem_singleton.2 rfl)) he
    · rw [if_neg he, ht]
      show _ ↔ i < s.fresh ∧ i ∉ s.back.take _
      rw [hmem]; simp [he]
  · show cntB (lset _ _ _) = _
    rw [cntB_lset _ _ _ hin, h3, p.ct]
    simp [backP]; omega
theorem pi_fresh {s : PS} (p : PI s) (h : ¬ freeP s = 0) (hb : ¬ 0 < (s.back.length : Int)) : PI (freshP s) := by
  obtain ⟨h1, h2, h3⟩ := fresh_in p h hb
  have hN : (freshP s).N = s.N := N_lset ..
  have hin : 0 ≤ s.fresh ∧ s.fresh < (s.tk.length : Int) := ⟨h1, h2⟩
  refine ⟨by rw [hN]; exact p.n, by rw [hN]; exact ⟨by show 0 ≤ s.fresh + 1; omega, by show s.fresh + 1 ≤ _; omega⟩, p.nd, fun i hi => by have := p.bk i hi; exact ⟨this.1, by show i < s.fresh + 1; omega⟩, fun i h0 hi => ?_, ?_⟩
  · rw [hN] at hi
    have ht := p.tk i h0 hi
    show lget (lset _ _ _) i = true ↔ _
    rw [lget_lset _ _ _ _ hin h0]
    by_cases he : i = s.fresh
    · rw [if_pos he]
      simp only [true_iff]
      exact ⟨by show i < s.fresh + 1; omega, fun hm => by have := p.bk i hm; omega⟩
    · rw [if_neg he, ht]
      show _ ↔ i < s.fresh + 1 ∧ i ∉ s.back
      constructor
      · rintro ⟨a, b⟩; exact ⟨by omega, b⟩
      · rintro ⟨a, b⟩; exact ⟨by omega, b⟩
  · show cntB (lset _ _ _) = _
    rw [cntB_lset _ _ _ hin, h3, p.ct]
    simp [freshP]; omega
def gaveP (s : PS) (i : Int) : PS := ⟨lset s.tk i false, s.back ++ [i], s.fresh⟩
theorem has_in {s : PS} {i : Int} (h : hasP s i = true) : 0 ≤ i ∧ i < s.N ∧ lget s.tk i = true := by
  simp only [hasP, Bool.and_eq_true, decide_eq_true_eq] at h
  exact ⟨h.1.1, h.1.2, h.2⟩
theorem pi_gave {s : PS} (p : PI s) {i : Int} (h : hasP s i = true) : PI (gaveP s i) := by
  obtain ⟨h1, h2, h3⟩ := has_in h
  have hN : (gaveP s i).N = s.N := N_lset ..
  have hin : 0 ≤ i ∧ i < (s.tk.length : Int) := ⟨h1, h2⟩
  have ht := (p.tk i h1 h2).1 h3
  refine ⟨by rw [hN]; exact p.n, by rw [hN]; exact p.f, ?_, fun j hj => ?_, fun j h0 hj => ?_, ?_⟩
  · show (s.back ++ [i]).Nodup
    rw [List.nodup_append]
    exact ⟨p.nd, by simp, fun a ha b hb => by simp at hb; subst hb; intro e; subst e; exact ht.2 ha⟩
  · have hj : j ∈ s.back ++ [i] := hj
    simp only [List.mem_append, List.mem_singleton] at hj
    rcases hj with hj | rfl
    · exact p.bk j hj
    · exact ⟨h1, ht.1⟩
  · rw [hN] at hj
    show lget (lset _ _ _) j = true ↔ j < s.fresh ∧ j ∉ s.back ++ [i]
    rw [lget_lset _ _ _ _ hin h0]
    by_cases he : j = i
    · simp [he]
    · rw [if_neg he, p.tk j h0 hj]; simp [he]
  · show cntB (lset _ _ _) = s.fresh - ((s.back ++ [i]).length : Nat)
    rw [cntB_lset _ _ _ hin, h3, p.ct]
    simp; omega
/-- whose is told by a row of numbers -/
structure OI (s : PS) (l : List (Ent Bool)) : Prop where
  ks : KeysOk l
  fd : ∀ x, findT l x = if hasP s x = true then some true else none
  ln : (l.length : Int) = cntB s.tk
theorem oi_new (n : Int) : OI (newP n) [] := by
  refine ⟨.nil, fun x => ?_, by simp [newP, cntB, List.filter_replicate]⟩
  have : hasP (newP n) x = false := by simp [hasP, newP, lget_rep]
  simp [findT, this]
theorem oi_take {s : PS} {l : List (Ent Bool)} (o : OI s l) (i : Int) (hi : 0 ≤ i ∧ i < s.N) (hf : lget s.tk i = false) (c : Nat) (b : List Int) (f : Int) : OI ⟨lset s.tk i true, b, f⟩ (updT l c i true) := by
  have hin : 0 ≤ i ∧ i < (s.tk.length : Int) := hi
  have hno : hasP s i = false := by simp [hasP, hf]
  refine ⟨o.ks.upd c i true, fun x => ?_, ?_⟩
  · rw [findT_upd, o.fd]
    by_cases he : x = i
    · rw [if_pos he, if_pos]
      simp only [hasP, N_lset, Bool.and_eq_true, decide_eq_true_eq]
      exact ⟨by omega, by rw [he, lget_lset _ _ _ _ hin hi.1, if_pos rfl]⟩
    · rw [if_neg he]
      have : hasP ⟨lset s.tk i true, b, f⟩ x = hasP s x := by
        simp only [hasP, N_lset]
        by_cases hx : 0 ≤ x
        · rw [lget_lset _ _ _ _ hin hx, if_neg he]
        · simp [show ¬ (0 ≤ x ∧ x < s.N) by omega]
      rw [this]
  · rw [len_upd, o.fd, hno]
    have := cntB_lset s.tk i true hin
    rw [hf] at this
    simp at this ⊢
    rw [this]
    have := o.ln
    omega
theorem oi_give {s : PS} {l : List (Ent Bool)} (o : OI s l) (i : Int) (b : List Int) (f : Int) (h : hasP s i = true) : OI ⟨lset s.tk i false, b, f⟩ (delT l i) := by
  obtain ⟨h1, h2, h3⟩ := has_in h
  have hin : 0 ≤ i ∧ i < (s.tk.length : Int) := ⟨h1, h2⟩
  refine ⟨o.ks.del i, fun x => ?_, ?_⟩
  · rw [findT_del o.ks, o.fd]
    by_cases he : x = i
    · rw [if_pos he, if_neg]
      simp only [hasP, N_lset, Bool.and_eq_true, decide_eq_true_eq, not_and]
      intro _
      rw [he, lget_lset _ _ _ _ hin h1, if_pos rfl]; simp
    · rw [if_neg he]
      have : hasP ⟨lset s.tk i false, b, f⟩ x = hasP s x := by
        simp only [hasP, N_lset]
        by_cases hx : 0 ≤ x
        · rw [lget_lset _ _ _ _ hin hx, if_neg he]
        · simp [show ¬ (0 ≤ x ∧ x < s.N) by omega]
      rw [this]
  · rw [len_del, o.fd, h]
    have := cntB_lset s.tk i false hin
    rw [h3] at this
    simp at this ⊢
    rw [this]
    have := o.ln
    omega
theorem oi_gone {s : PS} {l : List (Ent Bool)} (o : OI s l) (i : Int) (h : hasP s i = false) : OI s (delT l i) := by
  refine ⟨o.ks.del i, fun x => ?_, ?_⟩
  · rw [findT_del o.ks, o.fd]
    by_cases he : x = i
    · rw [if_pos he, he, h]; simp
    · rw [if_neg he]
  · rw [len_del, o.fd, h]; simpa using o.ln
theorem pi_take {s : PS} (p : PI s) : PI (takeP s).1 := by
  by_cases h : freeP s = 0
  · rw [take_none h]; exact p
  · by_cases hb : 0 < (s.back.length : Int)
    · rw [take_back h hb]; exact pi_back p hb
    · rw [take_fresh h hb]; exact pi_fresh p h hb
theorem pi_give {s : PS} (p : PI s) (i : Int) : PI (giveP s i).1 := by
  by_cases h : hasP s i = true
  · rw [giveP, if_pos h]; exact pi_gave p h
  · rw [giveP, if_neg h]; exact p
theorem len_take (s : PS) : (takeP s).1.tk.length = s.tk.length := by
  unfold takeP; split
  · rfl
  · split <;> simp [lset_len]
theorem len_give (s : PS) (i : Int) : (giveP s i).1.tk.length = s.tk.length := by
  unfold giveP; split
  · simp [lset_len]
  · rfl
theorem give_has (s : PS) (i : Int) : (giveP s i).2 = hasP s i := by
  unfold giveP; split
  · next h => exact h.symm
  · next h => simpa using h
theorem took_in {s : PS} (p : PI s) (h : (takeP s).2.2 = true) : 0 ≤ (takeP s).2.1 ∧ (takeP s).2.1 < s.N ∧ hasP s (takeP s).2.1 = false := by
  by_cases h1 : freeP s = 0
  · rw [take_none h1] at h; cases h
  · by_cases hb : 0 < (s.back.length : Int)
    · rw [take_back h1 hb]
      have := back_in p hb
      have := p.f
      dsimp only
      exact ⟨by omega, by omega, by simp [hasP, back_in p hb]⟩
    · rw [take_fresh h1 hb]
      have := fresh_in p h1 hb
      exact ⟨this.1, this.2.1, by simp [hasP, this.2.2]⟩
theorem took_none2 {s : PS} (h : (takeP s).2.2 = false) : freeP s = 0 := by
  by_cases h1 : freeP s = 0
  · exact h1
  · by_cases hb : 0 < (s.back.length : Int)
    · rw [take_back h1 hb] at h; cases h
    · rw [take_fresh h1 hb] at h; cases h
theorem took_none {s : PS} (h : (takeP s).2.2 = false) : (takeP s).1 = s := by rw [take_none (took_none2 h)]
theorem oi_took {s : PS} {l : List (Ent Bool)} (p : PI s) (o : OI s l) (c : Nat) (h : (takeP s).2.2 = true) : OI (takeP s).1 (updT l c (takeP s).2.1 true) := by
  by_cases h1 : freeP s = 0
  · rw [take_none h1] at h; cases h
  · by_cases hb : 0 < (s.back.length : Int)
    · rw [take_back h1 hb]
      have h2 := back_in p hb
      have := p.f
      exact oi_take o _ ⟨by omega, by omega⟩ h2.2.2 c _ _
    · rw [take_fresh h1 hb]
      have h2 := fresh_in p h1 hb
      exact oi_take o _ ⟨h2.1, h2.2.1⟩ h2.2.2 c _ _
theorem oi_gave {s : PS} {l : List (Ent Bool)} (o : OI s l) (i : Int) : OI (giveP s i).1 (delT l i) := by
  by_cases h : hasP s i = true
  · rw [giveP, if_pos h]; exact oi_give o i _ _ h
  · rw [giveP, if_neg h]; exact oi_gone o i (by simpa using h)
abbrev Deed := Int × Int × InS Int × Unit
abbrev encD (x : Deed) : List Value := [.int .i64 x.1, .int .i64 x.2.1, .slice x.2.2.1.A x.2.2.1.l.length x.2.2.1.cap]
instance : Inhabited (InS Int) := ⟨⟨none, 0, []⟩⟩
end Go.Sep.Pool
