/- Plain laws of pools: the program's rows of free ones against the document's. No program in sight. -/
import Derived.Test.YtfoklodfolgmaaaPlainQ14
import Derived.Test.YtfoklodfolgmaaaSep14
set_option linter.unusedSimpArgs false
set_option linter.unusedVariables false
namespace Go.Sep.Pool
open Go.Sep Go.Sep.Sip
theorem mem_descK (N : Int) (k : Nat) (i : Int) : i ∈ descK N k ↔ N - k ≤ i ∧ i < N := by
  induction k with
  | zero => simp [descK] <;> omega
  | succ k ih => rw [descK, List.mem_append, ih, List.mem_singleton]; omega
def rdP (s : PS) : List Int := descK s.N (s.N - s.fresh).toNat ++ s.back
theorem rd_len {s : PS} (p : PI s) : ((rdP s).length : Int) = freeP s := by
  have := p.f
  simp [rdP, descK_len, freeP]; omega
theorem rd_in {s : PS} (p : PI s) (j : Int) (h0 : 0 ≤ j) (h1 : j < (rdP s).length) : 0 ≤ lget (rdP s) j ∧ lget (rdP s) j < s.N := by
  have hf := p.f
  obtain ⟨h2, e⟩ := lget_at ⟨h0, h1⟩
  have hm : lget (rdP s) j ∈ rdP s := by rw [e]; exact List.getElem_mem h2
  rw [rdP, List.mem_append, mem_descK] at hm
  rcases hm with hm | hm
  · rw [← rdP] at hm; omega
  · rw [← rdP] at hm; have := p.bk _ hm; omega
theorem taken_eq {s : PS} (p : PI s) {L : Nat} (hL : s.tk.length = L) (i : Int) : takenQ L (rdP s) i = hasP s i := by
  have hf := p.f
  have hN : s.N = L := by rw [← hL]; rfl
  rw [Bool.eq_iff_iff]
  simp only [takenQ, hasP, Bool.and_eq_true, decide_eq_true_eq, Bool.not_eq_true', List.contains_eq_mem, decide_eq_false_iff_not]
  constructor
  · rintro ⟨h1, h2⟩
    rw [rdP, List.mem_append, mem_descK] at h2
    refine ⟨by omega, (p.tk i (by omega) (by omega)).2 ⟨?_, fun h => h2 (.inr h)⟩⟩
    rcases Int.lt_or_le i s.fresh with h | h
    · exact h
    · exact absurd (.inl ⟨by omega, by omega⟩) h2
  · rintro ⟨h1, h2⟩
    have := (p.tk i h1.1 h1.2).1 h2
    refine ⟨by omega, ?_⟩
    rw [rdP, List.mem_append, mem_descK]
    rintro (h | h)
    · omega
    · exact this.2 h
theorem rd_new (n : Int) : rdP (newP n) = descK (min (max n 0) 256) (min (max n 0) 256).toNat := by
  have h := newP_N n
  show descK (newP n).N ((newP n).N - 0).toNat ++ [] = _
  rw [h, Int.sub_zero, List.append_nil]
theorem lget_lastA (l : List Int) (x : Int) : lget (l ++ [x]) (((l ++ [x]).length : Int) - 1) = x := by
  simp [lget, List.getD]
theorem rd_take {s : PS} (p : PI s) : (takeP s).2.2 = decide (0 < (rdP s).length) ∧ (takeP s).2.1 = (if 0 < (rdP s).length then lget (rdP s) (((rdP s).length : Int) - 1) else 0) ∧ rdP (takeP s).1 = (rdP s).take ((rdP s).length - 1) := by
  have hl := rd_len p
  have hf := p.f
  have hb := back_len p
  by_cases h : freeP s = 0
  · have h0 : rdP s = [] := List.eq_nil_of_length_eq_zero (by omega)
    rw [take_none h, h0]; simp [h0]
  · have hpos : 0 < (rdP s).length := by omega
    rw [if_pos hpos, decide_eq_true hpos]
    by_cases hbk : 0 < (s.back.length : Int)
    · rw [take_back h hbk]
      have e := (last_mem hbk).2
      have e2 : rdP s = (descK s.N (s.N - s.fresh).toNat ++ s.back.take (s.back.length - 1)) ++ [lget s.back ((s.back.length : Int) - 1)] := by
        rw [List.append_assoc, ← e]; rfl
      refine ⟨rfl, ?_, ?_⟩
      · rw [e2, lget_lastA]
      · rw [e2]
        have hN : (backP s).N = s.N := N_lset ..
        simp only [rdP, hN]
        rw [List.length_append, List.length_singleton, Nat.add_sub_cancel, List.take_left]
        rfl
    · rw [take_fresh h hbk]
      have hb0 : s.back = [] := List.eq_nil_of_length_eq_zero (by omega)
      have hk : (s.N - s.fresh).toNat = (s.N - (s.fresh + 1)).toNat + 1 := by unfold freeP at h; rw [hb0] at h; simp at h; omega
      have e2 : rdP s = descK s.N (s.N - (s.fresh + 1)).toNat ++ [s.fresh] := by
        rw [rdP, hb0, List.append_nil, hk, descK]
        congr 2; omega
      refine ⟨rfl, ?_, ?_⟩
      · rw [e2, lget_lastA]
      · rw [e2]
        have hN : (freshP s).N = s.N := N_lset ..
        simp only [rdP, hN]
        rw [List.length_append, List.length_singleton, Nat.add_sub_cancel, List.take_left]
        show descK _ _ ++ s.back = _
        rw [hb0, List.append_nil]; rfl
theorem rd_give {s : PS} (i : Int) : rdP (giveP s i).1 = if hasP s i = true then rdP s ++ [i] else rdP s := by
  unfold giveP
  split
  · have hN : PS.N ⟨lset s.tk i false, s.back ++ [i], s.fresh⟩ = s.N := N_lset ..
    simp only [rdP, hN, List.append_assoc]
  · rfl
/-- free ones hold nothing -/
def Empty (s : PS) (ct : List (List Int)) : Prop := ∀ i : Int, 0 ≤ i → i < s.N → hasP s i = false → lget ct i = []
theorem lset_same {ct : List (List Int)} {i : Int} (h : 0 ≤ i ∧ i < ct.length) (he : lget ct i = []) : lset ct i [] = ct := by
  obtain ⟨h2, e⟩ := lget_at h
  rw [e] at he
  unfold lset
  rw [← he]; exact List.set_getElem_self h2
theorem empty_new (n : Int) (k : Nat) : Empty (newP n) (List.replicate k []) := by
  intro i _ _ _
  simp only [lget, List.getD, List.getElem?_replicate]
  split <;> rfl
theorem has_lset {s : PS} {i j : Int} {x : Bool} {b : List Int} {f : Int} (hi : 0 ≤ i ∧ i < s.N) (hj : 0 ≤ j) (hne : j ≠ i) : hasP ⟨lset s.tk i x, b, f⟩ j = hasP s j := by
  simp only [hasP, N_lset]
  rw [lget_lset _ _ _ _ hi hj, if_neg hne]
theorem has_set {s : PS} {i : Int} {x : Bool} {b : List Int} {f : Int} (hi : 0 ≤ i ∧ i < s.N) : hasP ⟨lset s.tk i x, b, f⟩ i = x := by
  simp only [hasP, N_lset]
  rw [lget_lset _ _ _ _ hi hi.1, if_pos rfl]
  simp [hi]
theorem empty_take {s : PS} (p : PI s) {ct : List (List Int)} (e : Empty s ct) : Empty (takeP s).1 ct := by
  intro j h0 h1 h2
  have hN : (takeP s).1.N = s.N := by simp only [PS.N, len_take]
  rw [hN] at h1
  refine e j h0 h1 ?_
  by_cases h : freeP s = 0
  · rwa [take_none h] at h2
  · by_cases hb : 0 < (s.back.length : Int)
    · rw [take_back h hb] at h2
      have hin := back_in p hb
      have := p.f
      by_cases hj : j = lget s.back ((s.back.length : Int) - 1)
      · simp [hasP, hj, hin.2.2]
      · have := has_lset (s := s) (x := true) (b := s.back.take (s.back.length - 1)) (f := s.fresh) ⟨hin.1, by omega⟩ h0 hj
        rw [← this]; exact h2
    · rw [take_fresh h hb] at h2
      have hin := fresh_in p h hb
      by_cases hj : j = s.fresh
      · simp [hasP, hj, hin.2.2]
      · have := has_lset (s := s) (x := true) (b := s.back) (f := s.fresh + 1) ⟨hin.1, hin.2.1⟩ h0 hj
        rw [← this]; exact h2
theorem empty_give {s : PS} {ct : List (List Int)} (hc : (ct.length : Int) = s.N) (i : Int) (e : Empty s ct) : Empty (giveP s i).1 (if hasP s i = true then lset ct i [] else ct) := by
  intro j h0 h1 h2
  have hN : (giveP s i).1.N = s.N := by simp only [PS.N, len_give]
  rw [hN] at h1
  by_cases h : hasP s i = true
  · have hin := has_in h
    rw [if_pos h, lget_lset _ _ _ _ ⟨hin.1, by omega⟩ h0]
    split
    · rfl
    · next hj =>
      refine e j h0 h1 ?_
      rw [giveP, if_pos h] at h2
      have := has_lset (s := s) (x := false) (b := s.back ++ [i]) (f := s.fresh) ⟨hin.1, hin.2.1⟩ h0 hj
      rw [← this]; exact h2
  · rw [if_neg h]
    rw [giveP, if_neg h] at h2
    exact e j h0 h1 h2
theorem empty_write {s : PS} {ct : List (List Int)} (hc : (ct.length : Int) = s.N) (i : Int) (l : List Int) (ok : Bool) (hok : ok = true → hasP s i = true) (e : Empty s ct) : Empty s (if ok = true then lset ct i l else ct) := by
  intro j h0 h1 h2
  split
  · next h =>
    have hin := has_in (hok h)
    rw [lget_lset _ _ _ _ ⟨hin.1, by omega⟩ h0]
    split
    · next hj => rw [hj, hok h] at h2; cases h2
    · exact e j h0 h1 h2
  · exact e j h0 h1 h2
theorem cont_take {B : World} {D : Own} {s : PS} (p : PI s) {L : Nat} (hL : s.tk.length = L) {b2 : List Sl} (hb2 : b2.length = L) {ct : List (List Int)} (c : Cont B D b2 ct) (e : Empty s ct) :
    Cont B D (if 0 < (rdP s).length then lset b2 (lget (rdP s) (((rdP s).length : Int) - 1)) (none, 0, 0) else b2) ct := by
  have hN : s.N = L := by rw [← hL]; rfl
  split
  · next h =>
    have hin := rd_in p (((rdP s).length : Int) - 1) (by omega) (by omega)
    have ht := rd_take p
    rw [if_pos h] at ht
    have hno : hasP s (takeP s).2.1 = false := (took_in p (by rw [ht.1]; exact decide_eq_true h)).2.2
    rw [ht.2.1] at hno
    have h1 := c.set (lget (rdP s) (((rdP s).length : Int) - 1)) ⟨hin.1, by omega⟩ none 0 [] (Nat.le_refl 0) ⟨rfl, by simp⟩ (by intro x hx; simp at hx) (by simp)
    rw [lset_same ⟨hin.1, by have := c.len; omega⟩ (e _ hin.1 hin.2 hno)] at h1
    exact h1
  · exact c
theorem cont_give {B : World} {D : Own} {s : PS} (p : PI s) {L : Nat} (hL : s.tk.length = L) {b2 : List Sl} (hb2 : b2.length = L) {ct : List (List Int)} (c : Cont B D b2 ct) (i : Int) :
    Cont B D (if takenQ L (rdP s) i = true then lset b2 i (none, 0, 0) else b2) (if hasP s i = true then lset ct i [] else ct) := by
  have hN : s.N = L := by rw [← hL]; rfl
  rw [taken_eq p hL]
  split
  · next h =>
    have hin := has_in h
    exact c.set i ⟨hin.1, by omega⟩ none 0 [] (Nat.le_refl 0) ⟨rfl, by simp⟩ (by intro x hx; simp at hx) (by simp)
  · exact c
theorem lget_deed {T : Type} [Inhabited T] {l : List T} {i : Int} (h : 0 ≤ i ∧ i < l.length) : lget l i ∈ l := by
  obtain ⟨h2, e⟩ := lget_at h
  rw [e]; exact List.getElem_mem h2
def rA (s : PS) (b : List Sl) (i : Int) : Option Addr := if hasP s i = true then (lget b i).1 else none
def rcap (s : PS) (b : List Sl) (i : Int) : Nat := if hasP s i = true then (lget b i).2.2 else 0
theorem rread_val {B : World} {D : Own} {s : PS} (p : PI s) {L : Nat} (hL : s.tk.length = L) {b2 : List Sl} {ct : List (List Int)} (c : Cont B D b2 ct) (hb2 : b2.length = L) (i : Int) :
    (if takenQ L (rdP s) i = true then Value.slice (lget b2 i).1 (lget b2 i).2.1 (lget b2 i).2.2 else .slice none 0 0) = .slice (rA s b2 i) (if hasP s i = true then lget ct i else []).length (rcap s b2 i) := by
  have hN : s.N = L := by rw [← hL]; rfl
  rw [taken_eq p hL]
  unfold rA rcap
  split
  · next h =>
    have hin := has_in h
    have h1 := (c.at_ i hin.1 (by omega)).1
    rw [h1]
  · rfl
theorem rread_src {B : World} {D : Own} {s : PS} (p : PI s) {L : Nat} (hL : s.tk.length = L) {b2 : List Sl} {ct : List (List Int)} (c : Cont B D b2 ct) (hb2 : b2.length = L) (i : Int) :
    Src B D (rA s b2 i) (if hasP s i = true then lget ct i else []).length 1 ((if hasP s i = true then lget ct i else []).map (fun x => Value.int .u8 x)) := by
  have hN : s.N = L := by rw [← hL]; rfl
  unfold rA
  split
  · next h =>
    have hin := has_in h
    exact (c.at_ i hin.1 (by omega)).2.2.1
  · exact ⟨rfl, by simp⟩
theorem rread_few {B : World} {D : Own} {s : PS} (p : PI s) {L : Nat} (hL : s.tk.length = L) {b2 : List Sl} {ct : List (List Int)} (c : Cont B D b2 ct) (hb2 : b2.length = L) (i : Int) : (if hasP s i = true then lget ct i else []).length ≤ 1514 := by
  have hN : s.N = L := by rw [← hL]; rfl
  split
  · next h =>
    have hin := has_in h
    exact (c.at_ i hin.1 (by omega)).2.2.2.2
  · simp
theorem rread_len {B : World} {D : Own} {s : PS} (p : PI s) {L : Nat} (hL : s.tk.length = L) {b2 : List Sl} {ct : List (List Int)} (c : Cont B D b2 ct) (hb2 : b2.length = L) (i : Int) : (if hasP s i = true then lget ct i else []).length ≤ 9223372036854775807 := by
  have := rread_few p hL c hb2 i; omega
end Go.Sep.Pool
