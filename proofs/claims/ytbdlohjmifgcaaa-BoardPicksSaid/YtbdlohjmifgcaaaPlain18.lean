/- Plain laws of orders of places. No program in sight. -/
import Derived.Test.YtbdlohjmifgcaaaPlain01
import Derived.Test.YtbdlohjmifgcaaaSep10
set_option linter.unusedSimpArgs false
set_option linter.unusedVariables false
namespace Go.Sep.Perm
open Go.Sep Go.Sep.Sip
def IsPr (m : Int) : Prop := 2 ≤ m ∧ m ≤ 251 ∧ ∀ d : Int, 2 ≤ d → d < m → m % d ≠ 0
def prB (m : Int) : Bool := decide (2 ≤ m) && decide (m ≤ 251) && (List.range m.toNat).all fun d => decide (d < 2) || decide (m % (d : Int) ≠ 0)
theorem prB_iff (m : Int) : prB m = true ↔ IsPr m := by
  simp only [prB, Bool.and_eq_true, decide_eq_true_eq, List.all_eq_true, List.mem_range, Bool.or_eq_true, IsPr]
  constructor
  · rintro ⟨⟨h1, h2⟩, h3⟩
    refine ⟨h1, h2, fun d hd0 hd1 => ?_⟩
    have := h3 d.toNat (by omega)
    rcases this with h | h
    · omega
    · rwa [Int.toNat_of_nonneg (by omega)] at h
  · rintro ⟨h1, h2, h3⟩
    exact ⟨⟨h1, h2⟩, fun d hd => if h : d < 2 then .inl h else .inr (h3 d (by omega) (by omega))⟩
theorem pr_root {m d : Int} (h2 : 2 ≤ m) (h251 : m ≤ 251) (hd : 2 ≤ d) (hdd : m < d * d) (hall : ∀ i : Int, 2 ≤ i → i < d → m % i ≠ 0) : IsPr m := by
  refine ⟨h2, h251, fun e he0 he1 hme => ?_⟩
  rcases Int.lt_or_le e d with h | h
  · exact hall e he0 h hme
  · obtain ⟨q, hq⟩ := Int.dvd_of_emod_eq_zero hme
    have hq0 : 0 < q := by
      rcases Int.lt_or_le 0 q with h' | h'
      · exact h'
      · have := Int.mul_nonneg_of_nonpos_of_nonpos (show -e ≤ 0 by omega) h'
        rw [Int.neg_mul] at this
        omega
    have hq1 : q ≠ 1 := by rintro rfl; omega
    have hqd : q < d := by
      rcases Int.lt_or_le q d with h' | h'
      · exact h'
      · have := Int.mul_le_mul h h' (by omega) (by omega)
        omega
    exact hall q (by omega) hqd (by rw [hq]; exact Int.mul_emod_left e q)
/-- the bytes of a number and another one -/
def idB (id x : Int) : List Int := beR 4 (id % 4294967296) ++ [0, 0, 0, x]
theorem idB_bytes (id x : Int) (hx : 0 ≤ x ∧ x ≤ 255) : Bytes (idB id x) := bytes_app (beR_bytes _ _) (by intro y hy; simp at hy; omega)
theorem idB_len (id x : Int) : (idB id x).length = 8 := by simp [idB, beR_len]
def startA (lo hi id m : Int) : Int := if prB m = true then underS lo hi (idB id 0) m else 0
def startB (lo hi id m : Int) : Int := if prB m = true then underS lo hi (idB id 1) (m - 1) + 1 else 0
theorem start_in {m : Int} (lo hi id : Int) (h : prB m = true) : 2 ≤ m ∧ m ≤ 251 ∧ 0 ≤ startA lo hi id m ∧ startA lo hi id m < m ∧ 1 ≤ startB lo hi id m ∧ startB lo hi id m < m := by
  obtain ⟨h1, h2, _⟩ := (prB_iff m).1 h
  have := underS_in lo hi (idB id 0) m (by omega)
  have := underS_in lo hi (idB id 1) (m - 1) (by omega)
  simp only [startA, startB, h, if_true]
  omega
def atS (lo hi id m j : Int) : Int := if prB m = true ∧ 0 ≤ j ∧ j < m then (startA lo hi id m + j * startB lo hi id m) % m else 0
def rowK (lo hi id m : Int) (k : Nat) : List Int := (List.range k).map fun j : Nat => (startA lo hi id m + (j : Int) * startB lo hi id m) % m
def rowS (lo hi id m : Int) : List Int := if prB m = true then rowK lo hi id m m.toNat else []
theorem rowK_succ (lo hi id m : Int) (k : Nat) : rowK lo hi id m (k + 1) = rowK lo hi id m k ++ [(startA lo hi id m + (k : Int) * startB lo hi id m) % m] := by
  simp [rowK, List.range_succ]
theorem rowK_len (lo hi id m : Int) (k : Nat) : (rowK lo hi id m k).length = k := by simp [rowK]
theorem step_mod (a b m : Int) (k : Nat) : ((a + (k : Int) * b) % m + b) % m = (a + ((k + 1 : Nat) : Int) * b) % m := by
  rw [Int.emod_add_emod, show a + (k : Int) * b + b = a + ((k + 1 : Nat) : Int) * b by push_cast; rw [Int.add_mul]; omega]
theorem mul_in {j b : Int} (hj : 0 ≤ j ∧ j ≤ 251) (hb : 0 ≤ b ∧ b ≤ 251) : 0 ≤ j * b ∧ j * b ≤ 63001 := by
  have h1 := Int.mul_nonneg hj.1 hb.1
  have h2 := Int.mul_le_mul hj.2 hb.2 hb.1 (by omega)
  omega
theorem prB_in {m : Int} (h : prB m = true) : 2 ≤ m ∧ m ≤ 251 := by have := (prB_iff m).1 h; exact ⟨this.1, this.2.1⟩
theorem coprime {m b : Int} (hp : IsPr m) (h1 : 1 ≤ b) (h2 : b < m) : Nat.Coprime m.toNat b.toNat := by
  have hg1 : Nat.gcd m.toNat b.toNat ∣ m.toNat := Nat.gcd_dvd_left _ _
  have hg2 : Nat.gcd m.toNat b.toNat ∣ b.toNat := Nat.gcd_dvd_right _ _
  have hle := Nat.le_of_dvd (by omega) hg2
  have hpos : 0 < Nat.gcd m.toNat b.toNat := Nat.gcd_pos_of_pos_left _ (by omega)
  unfold Nat.Coprime
  generalize Nat.gcd m.toNat b.toNat = g at *
  rcases Nat.lt_or_ge g 2 with h | h
  · omega
  · exfalso
    refine hp.2.2 (g : Int) (by omega) (by omega) ?_
    have := Nat.mod_eq_zero_of_dvd hg1
    have e : m = (m.toNat : Int) := by omega
    rw [e]
    exact_mod_cast this
theorem row_ne {lo hi id m : Int} (hp : prB m = true) {i j : Nat} (hij : i < j) (hj : (j : Int) < m) : (startA lo hi id m + (i : Int) * startB lo hi id m) % m ≠ (startA lo hi id m + (j : Int) * startB lo hi id m) % m := by
  intro he
  have hst := start_in lo hi id hp
  have hc := coprime ((prB_iff m).1 hp) hst.2.2.2.2.1 hst.2.2.2.2.2
  generalize startA lo hi id m = a at *
  generalize startB lo hi id m = b at *
  have h1 := Int.emod_eq_emod_iff_emod_sub_eq_zero.1 he.symm
  have e : a + (j : Int) * b - (a + (i : Int) * b) = ((j - i : Nat) : Int) * b := by
    rw [Int.natCast_sub (by omega), Int.sub_mul]; omega
  rw [e] at h1
  have h2 := Int.natAbs_dvd_natAbs.2 (Int.dvd_of_emod_eq_zero h1)
  rw [Int.natAbs_mul, Int.natAbs_natCast, show m.natAbs = m.toNat by omega, show b.natAbs = b.toNat by omega] at h2
  have h3 := Nat.le_of_dvd (by omega) (hc.dvd_of_dvd_mul_right h2)
  omega
theorem lget_row {lo hi id m : Int} (hp : prB m = true) (i : Int) (h0 : 0 ≤ i) (h1 : i < m) : lget (rowS lo hi id m) i = (startA lo hi id m + i * startB lo hi id m) % m := by
  have h2 : i.toNat < m.toNat := by omega
  simp [rowS, hp, rowK, lget, List.getD, h2, Int.toNat_of_nonneg h0]
end Go.Sep.Perm
