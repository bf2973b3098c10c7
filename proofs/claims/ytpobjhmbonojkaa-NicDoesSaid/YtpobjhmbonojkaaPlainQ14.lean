/- What buffers hold. No program in sight. -/
import Derived.Test.YtpobjhmbonojkaaPlain14
import Derived.Test.YtpobjhmbonojkaaPlain01
set_option linter.unusedSimpArgs false
set_option linter.unusedVariables false
namespace Go.Sep.Pool
open Go.Sep Go.Sep.Sip
/-- what each buffer's slice reads as -/
structure Cont (B : World) (D : Own) (bs : List Sl) (ct : List (List Int)) : Prop where
  len : ct.length = bs.length
  at_ : ∀ j : Int, 0 ≤ j → j < bs.length → (lget bs j).2.1 = (lget ct j).length ∧ (lget ct j).length ≤ (lget bs j).2.2 ∧ Src B D (lget bs j).1 (lget ct j).length 1 ((lget ct j).map (fun x => Value.int .u8 x)) ∧ Bytes (lget ct j) ∧ (lget ct j).length ≤ 1514
theorem Cont.mono {B : World} {D D' : Own} {bs : List Sl} {ct : List (List Int)} (c : Cont B D bs ct) (h : ∀ x ∈ D, x ∈ D') : Cont B D' bs ct :=
  ⟨c.len, fun j h0 h1 => by obtain ⟨a, b, s, r⟩ := c.at_ j h0 h1; exact ⟨a, b, s.mono h, r⟩⟩
theorem Cont.set {B : World} {D : Own} {bs : List Sl} {ct : List (List Int)} (c : Cont B D bs ct) (i : Int) (hi : 0 ≤ i ∧ i < bs.length) (A : Option Addr) (cp : Nat) (x : List Int) (hx : x.length ≤ cp) (hs : Src B D A x.length 1 (x.map (fun x => Value.int .u8 x))) (hb : Bytes x) (hl : x.length ≤ 1514) :
    Cont B D (lset bs i (A, x.length, cp)) (lset ct i x) := by
  refine ⟨by rw [lset_len, lset_len]; exact c.len, fun j h0 h1 => ?_⟩
  rw [lset_len] at h1
  rw [lget_lset _ _ _ _ hi h0, lget_lset _ _ _ _ (by rw [c.len]; exact hi) h0]
  split
  · exact ⟨rfl, hx, hs, hb, hl⟩
  · exact c.at_ j h0 h1
theorem cont_new (B : World) (n : Nat) : Cont B [] (List.replicate n (none, 0, 0)) (List.replicate n []) := by
  refine ⟨by simp, fun j h0 h1 => ?_⟩
  have h2 : j.toNat < n := by simp at h1; omega
  have e1 : lget (List.replicate n ((none, 0, 0) : Sl)) j = (none, 0, 0) := by simp [lget, List.getD, h2]
  have e2 : lget (List.replicate n ([] : List Int)) j = [] := by simp [lget, List.getD, h2]
  rw [e1, e2]
  exact ⟨rfl, Nat.le_refl 0, ⟨rfl, by simp⟩, by intro x hx; simp at hx, by simp⟩
/-- it is a buffer, and isn't among those that are free -/
def takenQ (n : Nat) (rd : List Int) (i : Int) : Bool := decide (0 ≤ i ∧ i < n) && !rd.contains i
theorem takenQ_no {n : Nat} {rd : List Int} {i : Int} (h : ¬ (0 ≤ i ∧ i < n)) : takenQ n rd i = false := by simp [takenQ, h]
theorem takenQ_rng {n : Nat} {rd : List Int} {i : Int} (h : takenQ n rd i = true) : 0 ≤ i ∧ i < n := by
  simp only [takenQ, Bool.and_eq_true, decide_eq_true_eq] at h; exact h.1
theorem takenQ_in {n : Nat} {rd : List Int} {i : Int} (k : Int) (hk : 0 ≤ k ∧ k < rd.length) (h : lget rd k = i) : takenQ n rd i = false := by
  have hm : i ∈ rd := by
    obtain ⟨h2, e⟩ := lget_at hk
    rw [← h, e]; exact List.getElem_mem h2
  simp [takenQ, hm]
theorem takenQ_yes {n : Nat} {rd : List Int} {i : Int} (h : 0 ≤ i ∧ i < n) (hall : ∀ j : Int, 0 ≤ j → j < rd.length → lget rd j ≠ i) : takenQ n rd i = true := by
  have hm : i ∉ rd := by
    intro hm
    obtain ⟨j, hj, e⟩ := List.mem_iff_getElem.1 hm
    apply hall j (by omega) (by omega)
    rw [← e]; simp [lget, List.getD, hj]
  simp [takenQ, hm, h]
/-- from N - 1 downward, k of them -/
def descK (N : Int) : Nat → List Int
  | 0 => []
  | k + 1 => descK N k ++ [N - 1 - k]
theorem descK_len (N : Int) (k : Nat) : (descK N k).length = k := by
  induction k with
  | zero => rfl
  | succ k ih => rw [descK, List.length_append, ih]; rfl
end Go.Sep.Pool
