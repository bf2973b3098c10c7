/- Plain laws of the sum of bytes by a key: turns of a number of 64 bits, numbers of eight bytes, the state behind so many numbers. No program in sight. -/
import Derived.Test.YtbdlohjmifgcaaaSep9
set_option linter.unusedSimpArgs false
set_option linter.unusedVariables false
namespace Go.Sep.Sip
open Go.Sep
abbrev W (x : Int) : Int := IntKind.u64.wrap x
abbrev X (i j : Int) : Int := bits .xor .u64 i j
abbrev U (x : Int) : Prop := 0 ≤ x ∧ x ≤ 18446744073709551615
theorem W_U (x : Int) : U (W x) := by
  simp only [U, W, IntKind.wrap, IntKind.bits, IntKind.signed]; simp; omega
theorem X_U (i j : Int) : U (X i j) := by simp only [X, bits]; exact W_U _
theorem W_eq (x : Int) : W x = x % 18446744073709551616 := by simp [W, IntKind.wrap, IntKind.bits, IntKind.signed]

/-- a turn by one -/
def step (x : Int) : Int := W (W (x * 2) + x / 9223372036854775808)
def rot : Nat → Int → Int
  | 0, x => x
  | k + 1, x => step (rot k x)
theorem step_U (x : Int) : U (step x) := W_U _
theorem rot_U {x : Int} (hx : U x) : ∀ k, U (rot k x)
  | 0 => hx
  | _ + 1 => step_U _

theorem stepA {y : Nat} (hy : y < 9223372036854775808) : step (y : Int) = ((2 * y : Nat) : Int) := by
  have e1 : (y : Int) / 9223372036854775808 = 0 := by omega
  have e2 : (y : Int) * 2 % 18446744073709551616 = y * 2 := by omega
  simp only [step, W_eq]
  rw [e1, e2]; omega
theorem stepB {y : Nat} (hy : y < 9223372036854775808) : step ((9223372036854775808 + y : Nat) : Int) = ((2 * y + 1 : Nat) : Int) := by
  have e1 : ((9223372036854775808 + y : Nat) : Int) / 9223372036854775808 = 1 := by omega
  have e2 : ((9223372036854775808 + y : Nat) : Int) * 2 % 18446744073709551616 = y * 2 := by omega
  simp only [step, W_eq]
  rw [e1, e2]; omega
theorem rot_parts (k : Nat) (hk : k ≤ 64) : ∀ q r : Nat, q < 2 ^ k → r < 2 ^ (64 - k) → rot k ((q * 2 ^ (64 - k) + r : Nat) : Int) = ((r * 2 ^ k + q : Nat) : Int) := by
  induction k with
  | zero => intro q r hq hr; simp at hq; subst hq; simp [rot]
  | succ k ih =>
    intro q r hq hr
    have e1 : 64 - k = (64 - (k + 1)) + 1 := by omega
    have hp : 2 ^ (64 - (k + 1)) * 2 ^ k = 9223372036854775808 := by rw [← Nat.pow_add, show 64 - (k + 1) + k = 63 by omega]
    have hih := ih (by omega) (q / 2) (q % 2 * 2 ^ (64 - (k + 1)) + r) (by rw [Nat.pow_succ] at hq; omega)
      (by rw [e1, Nat.pow_succ]; have : q % 2 = 0 ∨ q % 2 = 1 := by omega
          rcases this with h | h <;> rw [h] <;> omega)
    have e2 : q / 2 * 2 ^ (64 - k) + (q % 2 * 2 ^ (64 - (k + 1)) + r) = q * 2 ^ (64 - (k + 1)) + r := by
      rw [e1, Nat.pow_succ]
      generalize 2 ^ (64 - (k + 1)) = p
      have : q = q / 2 * 2 + q % 2 := by omega
      generalize q / 2 = a at *
      generalize q % 2 = b at *
      subst this
      rw [Nat.add_mul, Nat.mul_assoc, Nat.mul_comm 2 p]; omega
    rw [e2] at hih
    rw [rot, hih]
    generalize 2 ^ (64 - (k + 1)) = p at *
    rw [Nat.pow_succ] at hq ⊢
    generalize 2 ^ k = a at *
    have h1 : r * a + a ≤ 9223372036854775808 := by
      rw [← hp, show r * a + a = (r + 1) * a by rw [Nat.succ_mul]]
      exact Nat.mul_le_mul_right _ hr
    have e3 : (q % 2 * p + r) * a = q % 2 * 9223372036854775808 + r * a := by rw [Nat.add_mul, Nat.mul_assoc, hp]
    rw [e3, show r * (a * 2) = r * a * 2 by rw [Nat.mul_assoc]]
    generalize r * a = s at *
    have h2 : q / 2 < a := by omega
    have : q % 2 = 0 ∨ q % 2 = 1 := by omega
    rcases this with h | h
    · rw [h, Nat.zero_mul, Nat.zero_add, stepA (by omega)]; omega
    · rw [h, Nat.one_mul, Nat.add_assoc, stepB (by omega)]; omega

/-- the two shifts and their 'or' -/
theorem rotl_eq (x : Int) (hx : U x) (k : Nat) (hk : 0 < k ∧ k < 64) : bits .or .u64 (W (x * 2 ^ k)) (x.fdiv (2 ^ (64 - k))) = rot k x := by
  obtain ⟨m, rfl⟩ : ∃ m : Nat, x = m := ⟨x.toNat, by have := hx.1; omega⟩
  have hm : m < 18446744073709551616 := by have := hx.2; omega
  have hp : 2 ^ (64 - k) * 2 ^ k = 18446744073709551616 := by rw [← Nat.pow_add, show 64 - k + k = 64 by omega]
  have e0 : m = m / 2 ^ (64 - k) * 2 ^ (64 - k) + m % 2 ^ (64 - k) := by rw [Nat.mul_comm]; exact (Nat.div_add_mod _ _).symm
  have hr : m % 2 ^ (64 - k) < 2 ^ (64 - k) := Nat.mod_lt _ (Nat.two_pow_pos _)
  have hq : m / 2 ^ (64 - k) < 2 ^ k := by rw [Nat.div_lt_iff_lt_mul (Nat.two_pow_pos _), Nat.mul_comm, hp]; exact hm
  have h1 := rot_parts k (by omega) _ _ hq hr
  rw [← e0] at h1
  rw [h1]
  have e3 : (m : Int).fdiv (2 ^ (64 - k)) = ((m / 2 ^ (64 - k) : Nat) : Int) := by
    rw [Int.fdiv_eq_ediv_of_nonneg _ (by exact Int.le_of_lt (Int.pow_pos (by decide)))]
    simp
  have e4 : W ((m : Int) * 2 ^ k) = ((m % 2 ^ (64 - k) * 2 ^ k : Nat) : Int) := by
    rw [W_eq]
    have : (m : Int) * 2 ^ k = ((m * 2 ^ k : Nat) : Int) := by simp
    rw [this]
    have : (m * 2 ^ k) % 18446744073709551616 = m % 2 ^ (64 - k) * 2 ^ k := by rw [← hp, Nat.mul_mod_mul_right]
    rw [← this]; simp
  rw [e3, e4]
  have h2 : m % 2 ^ (64 - k) * 2 ^ k + m / 2 ^ (64 - k) < 18446744073709551616 := by
    have : (m % 2 ^ (64 - k) + 1) * 2 ^ k ≤ 2 ^ (64 - k) * 2 ^ k := Nat.mul_le_mul_right _ hr
    rw [hp, Nat.add_mul] at this; omega
  rw [(bitsU (m % 2 ^ (64 - k) * 2 ^ k) (m / 2 ^ (64 - k)) (Nat.lt_of_le_of_lt (Nat.le_add_right _ _) h2) (Nat.lt_of_le_of_lt (Nat.le_add_left _ _) h2)).1]
  congr 1
  rw [Nat.mul_comm (m % 2 ^ (64 - k)), Nat.two_pow_add_eq_or_of_lt hq]

theorem and63 (k : Int) (hk : 0 ≤ k ∧ k < 64) : bits .and .u64 k 63 = k := by
  obtain ⟨m, rfl⟩ : ∃ m : Nat, k = m := ⟨k.toNat, by omega⟩
  have := (bitsU m 63 (by omega) (by decide)).2.1
  rw [show ((63 : Nat) : Int) = 63 from rfl] at this
  rw [this, show (63 : Nat) = 2 ^ 6 - 1 from rfl, Nat.and_two_pow_sub_one_eq_mod]
  congr 1; omega

/-! ### numbers of bytes, the lowest first -/
def le : List Int → Int
  | [] => 0
  | x :: r => x + 256 * le r
abbrev Bytes (l : List Int) : Prop := ∀ x ∈ l, 0 ≤ x ∧ x ≤ 255
theorem le_nat (l : List Int) (hl : Bytes l) : 0 ≤ le l ∧ le l < 256 ^ l.length := by
  induction l with
  | nil => simp [le]
  | cons x r ih =>
    have h1 := ih fun y hy => hl y (List.mem_cons_of_mem _ hy)
    have h2 := hl x List.mem_cons_self
    simp only [le, List.length_cons, Int.pow_succ]
    omega
theorem le_snoc (l : List Int) (x : Int) : le (l ++ [x]) = le l + x * 256 ^ l.length := by
  induction l with
  | nil => simp [le]
  | cons y r ih => simp only [List.cons_append, le, ih, List.length_cons, Int.pow_succ]; rw [Int.mul_add, Int.add_assoc]; congr 2; rw [Int.mul_comm 256, Int.mul_assoc]
theorem le_append (l m : List Int) : le (l ++ m) = le l + le m * 256 ^ l.length := by
  induction l with
  | nil => simp [le]
  | cons y r ih => simp only [List.cons_append, le, ih, List.length_cons, Int.pow_succ]; rw [Int.mul_add, Int.add_assoc]; congr 2; rw [Int.mul_comm 256, Int.mul_assoc]

theorem or_add {v x : Int} {s : Nat} (hs : s < 64) (hv : 0 ≤ v ∧ v < 2 ^ s) (hx : 0 ≤ x ∧ x * 2 ^ s ≤ 18446744073709551615 - v) : bits .or .u64 v (x * 2 ^ s) = v + x * 2 ^ s ∧ bits .or .u64 (x * 2 ^ s) v = v + x * 2 ^ s := by
  obtain ⟨a, rfl⟩ : ∃ m : Nat, v = m := ⟨v.toNat, by omega⟩
  obtain ⟨b, rfl⟩ : ∃ m : Nat, x = m := ⟨x.toNat, by omega⟩
  have e1 : (b : Int) * 2 ^ s = ((2 ^ s * b : Nat) : Int) := by rw [Nat.mul_comm]; simp
  have e2 : a < 2 ^ s := by have := hv.2; have e : ((2 ^ s : Nat) : Int) = 2 ^ s := by simp
                            rw [← e] at this; omega
  rw [e1] at hx ⊢
  have h := bitsU a (2 ^ s * b) (by omega) (by omega)
  have h' := bitsU (2 ^ s * b) a (by omega) (by omega)
  rw [h.1, h'.1, Nat.or_comm a, ← Nat.two_pow_add_eq_or_of_lt e2]
  constructor <;> (rw [Nat.add_comm]; simp)

theorem le_step (l : List Int) (hl : Bytes l) (x : Int) (hx : 0 ≤ x ∧ x ≤ 255) (hn : l.length < 8) : bits .or .u64 (le l) (W (x * 2 ^ (min (8 * (l.length : Int)).toNat 64))) = le (l ++ [x]) := by
  have h1 := le_nat l hl
  have e1 : min (8 * (l.length : Int)).toNat 64 = 8 * l.length := by omega
  have e2 : (256 : Int) ^ l.length = 2 ^ (8 * l.length) := by rw [Int.pow_mul]; rfl
  have e3 : (2 : Int) ^ (8 * l.length) ≤ 2 ^ 56 := by
    have := Nat.pow_le_pow_right (n := 2) (by decide) (show 8 * l.length ≤ 56 by omega)
    have e : ((2 ^ (8 * l.length) : Nat) : Int) = 2 ^ (8 * l.length) := by simp
    rw [← e]; exact Int.ofNat_le.2 this
  rw [e1, le_snoc, e2]
  rw [e2] at h1
  generalize hs : 8 * l.length = s at *
  have e4 : x * 2 ^ s ≤ 255 * 2 ^ s := Int.mul_le_mul_of_nonneg_right hx.2 (by omega)
  have e5 : 0 ≤ x * 2 ^ s := Int.mul_nonneg hx.1 (by omega)
  rw [show W (x * 2 ^ s) = x * 2 ^ s from wrap_in (by simp only [kb]; omega) (by simp only [kb]; omega)]
  exact (or_add (by omega) h1 ⟨hx.1, by omega⟩).1

theorem take_snoc (l : List Int) (i : Int) (h0 : 0 ≤ i) (h1 : i < l.length) : l.take (i + 1).toNat = l.take i.toNat ++ [lget l i] := by
  have : i.toNat < l.length := by omega
  rw [show (i + 1).toNat = i.toNat + 1 by omega, List.take_succ_eq_append_getElem this]
  simp [lget, List.getD, this]
theorem lget_bytes {l : List Int} (hb : Bytes l) (i : Int) (h0 : 0 ≤ i) (h1 : i < l.length) : 0 ≤ lget l i ∧ lget l i ≤ 255 := by
  have h : i.toNat < l.length := by omega
  have : lget l i = l[i.toNat] := by simp [lget, List.getD, h]
  rw [this]; exact hb _ (List.getElem_mem h)

/-! ### the state -/
abbrev St := Int × Int × Int × Int
def US (s : St) : Prop := U s.1 ∧ U s.2.1 ∧ U s.2.2.1 ∧ U s.2.2.2
def roundS (s : St) : St :=
  let a := W (s.1 + s.2.1)
  let b := X (rot 13 s.2.1) a
  let a' := rot 32 a
  let c := W (s.2.2.1 + s.2.2.2)
  let d := X (rot 16 s.2.2.2) c
  let a2 := W (a' + d)
  let d2 := X (rot 21 d) a2
  let c2 := W (c + b)
  let b2 := X (rot 17 b) c2
  (a2, b2, rot 32 c2, d2)
theorem roundS_US (s : St) : US (roundS s) := ⟨W_U _, X_U _ _, rot_U (W_U _) _, X_U _ _⟩
def rounds : Nat → St → St
  | 0, s => s
  | k + 1, s => roundS (rounds k s)
theorem rounds_US {s : St} (hs : US s) : ∀ k, US (rounds k s)
  | 0 => hs
  | _ + 1 => roundS_US _
def takeS (s : St) (n : Int) : St :=
  let t := rounds 2 (s.1, s.2.1, s.2.2.1, X s.2.2.2 n)
  (X t.1 n, t.2)
theorem takeS_US (s : St) (n : Int) (hs : US s) : US (takeS s n) := by
  have := rounds_US (s := (s.1, s.2.1, s.2.2.1, X s.2.2.2 n)) ⟨hs.1, hs.2.1, hs.2.2.1, X_U _ _⟩ 2
  exact ⟨X_U _ _, this.2⟩
/-- how one begins -/
def first (lo hi : Int) : St := (X lo 8317987319222330741, X hi 7237128888997146477, X lo 7816392313619706465, X hi 8387220255154660723)
theorem first_US (lo hi : Int) : US (first lo hi) := ⟨X_U _ _, X_U _ _, X_U _ _, X_U _ _⟩
/-- behind so many numbers -/
def behind (lo hi : Int) (l : List Int) : Nat → St
  | 0 => first lo hi
  | i + 1 => takeS (behind lo hi l i) (le ((l.drop (8 * i)).take 8))
theorem behind_US (lo hi : Int) (l : List Int) : ∀ i, US (behind lo hi l i)
  | 0 => first_US _ _
  | i + 1 => takeS_US _ _ (behind_US lo hi l i)
def lastW (l : List Int) : Int := le (l.drop (8 * (l.length / 8))) + (l.length % 256 : Nat) * 2 ^ 56
def endS (s : St) : Int :=
  let t := rounds 4 (s.1, s.2.1, X s.2.2.1 255, s.2.2.2)
  X (X (X t.1 t.2.1) t.2.2.1) t.2.2.2
def sumS (lo hi : Int) (l : List Int) : Int := endS (takeS (behind lo hi l (l.length / 8)) (lastW l))
theorem sumS_U (lo hi : Int) (l : List Int) : U (sumS lo hi l) := X_U _ _

def lastV (l : List Int) : Int := (l.length : Int) % 256 * 2 ^ 56
theorem lastV_W (l : List Int) : W ((l.length : Int) % 256 * 2 ^ (min (56 : Int).toNat 64)) = lastV l := by
  rw [show min (56 : Int).toNat 64 = 56 from rfl]
  exact wrap_in (by simp only [kb]; omega) (by simp only [kb]; omega)
theorem last_eq (l : List Int) (hb : Bytes l) (i : Nat) (h1 : 8 * i ≤ l.length) (h2 : (l.drop (8 * i)).length < 8) : i = l.length / 8 ∧ bits .or .u64 (lastV l) (le (l.drop (8 * i))) = lastW l := by
  rw [List.length_drop] at h2
  have e : i = l.length / 8 := by omega
  refine ⟨e, ?_⟩
  have h3 := le_nat (l.drop (8 * i)) fun x hx => hb x (List.mem_of_mem_drop hx)
  have h4 : (256 : Int) ^ (l.drop (8 * i)).length ≤ 2 ^ 56 := by
    rw [List.length_drop]
    have := Nat.pow_le_pow_right (n := 256) (by decide) (show l.length - 8 * i ≤ 7 by omega)
    have e : ((256 ^ (l.length - 8 * i) : Nat) : Int) = 256 ^ (l.length - 8 * i) := by simp
    rw [← e, show (2 : Int) ^ 56 = ((256 ^ 7 : Nat) : Int) by decide]; exact Int.ofNat_le.2 this
  have h5 := (or_add (v := le (l.drop (8 * i))) (x := (l.length : Int) % 256) (s := 56) (by decide) ⟨h3.1, by omega⟩ ⟨by omega, by omega⟩).2
  rw [lastV, h5, lastW, ← e]
  simp

/-! ### number by number -/
def byteAt (l : List Int) (i : Nat) (j : Nat) : Int := if i = l.length / 8 ∧ j = 7 then (l.length : Int) % 256 else if 8 * i + j < l.length then lget l (8 * i + j : Nat) else 0
theorem byteAt_in (l : List Int) (i j : Nat) (h4 : ¬ (i = l.length / 8 ∧ j = 7)) (h3 : 8 * i + j < l.length) : byteAt l i j = l[8 * i + j] := by
  rw [byteAt, if_neg h4, if_pos h3]
  have : ((8 * i + j : Nat) : Int).toNat = 8 * i + j := Int.toNat_natCast _
  simp only [lget, List.getD]
  rw [this, List.getElem?_eq_getElem h3]; rfl
def wb (l : List Int) (i : Nat) : List Int := (List.range 8).map (byteAt l i)
theorem wb_drop (l : List Int) (i j : Nat) (hj : j < 8) : (wb l i).drop j = byteAt l i j :: (wb l i).drop (j + 1) := by
  have h : j < (wb l i).length := by simp [wb]; exact hj
  rw [List.drop_eq_getElem_cons h]
  congr 1
  simp [wb]
theorem byteAt_U (l : List Int) (hb : Bytes l) (i j : Nat) : 0 ≤ byteAt l i j ∧ byteAt l i j ≤ 255 := by
  unfold byteAt
  split
  · omega
  · split
    · exact lget_bytes hb _ (by omega) (by omega)
    · omega
theorem wb_bytes (l : List Int) (hb : Bytes l) (i : Nat) : Bytes (wb l i) := by
  intro x hx
  simp only [wb, List.mem_map] at hx
  obtain ⟨j, _, rfl⟩ := hx
  exact byteAt_U l hb i j
theorem wb_step (l : List Int) (hb : Bytes l) (i : Nat) (j : Int) (h0 : 0 ≤ j) (h7 : j ≤ 7) (x : Int) (hx : x = byteAt l i j.toNat) :
    W (W (le ((wb l i).drop (j + 1).toNat) * 256) + x) = le ((wb l i).drop j.toNat) := by
  have h1 := wb_drop l i j.toNat (by omega)
  have h2 := le_nat ((wb l i).drop (j + 1).toNat) fun y hy => wb_bytes l hb i y (List.mem_of_mem_drop hy)
  have h3 := byteAt_U l hb i j.toNat
  have h4 : (256 : Int) ^ ((wb l i).drop (j + 1).toNat).length ≤ 256 ^ 7 := by
    rw [List.length_drop, show (wb l i).length = 8 by simp [wb]]
    have := Nat.pow_le_pow_right (n := 256) (by decide) (show 8 - (j + 1).toNat ≤ 7 by omega)
    have e : ((256 ^ (8 - (j + 1).toNat) : Nat) : Int) = 256 ^ (8 - (j + 1).toNat) := by simp
    rw [← e, show (256 : Int) ^ 7 = ((256 ^ 7 : Nat) : Int) by decide]; exact Int.ofNat_le.2 this
  rw [h1, ← hx, show j.toNat + 1 = (j + 1).toNat by omega, le]
  rw [show (256 : Int) ^ 7 = 72057594037927936 by decide] at h4
  simp only [W_eq]; omega

theorem le_zeros (n : Nat) : le (List.replicate n 0) = 0 := by
  induction n with
  | zero => rfl
  | succ n ih => rw [List.replicate_succ, le, ih]; rfl
def wordAt (l : List Int) (i : Nat) : Int := if i < l.length / 8 then le ((l.drop (8 * i)).take 8) else lastW l
theorem le_wb (l : List Int) (i : Nat) (hi : i ≤ l.length / 8) : le (wb l i) = wordAt l i := by
  unfold wordAt
  split
  · next h =>
    congr 1
    apply List.ext_getElem
    · simp [wb]; omega
    · intro j h1 h2
      have hj : j < 8 := by simpa [wb] using h1
      have h3 : 8 * i + j < l.length := by omega
      have h4 : ¬ (i = l.length / 8 ∧ j = 7) := by omega
      simp [wb, byteAt_in l i j h4 h3]
  · next h =>
    have e : i = l.length / 8 := by omega
    have h5 : wb l i = (l.drop (8 * i) ++ List.replicate (7 - (l.drop (8 * i)).length) 0) ++ [(l.length : Int) % 256] := by
      apply List.ext_getElem
      · simp [wb]; omega
      · intro j h1 h2
        have hj : j < 8 := by simpa [wb] using h1
        by_cases h7 : j = 7
        · subst h7
          rw [List.getElem_append_right (by simp; omega)]
          simp [wb, byteAt, e]
        · rw [List.getElem_append_left (by simp; omega)]
          by_cases h3 : 8 * i + j < l.length
          · rw [List.getElem_append_left (by simp; omega)]
            simp [wb, byteAt_in l i j (by omega) h3]
          · rw [List.getElem_append_right (by simp; omega)]
            simp [wb, byteAt, h7, h3]
    rw [h5, le_append, le_append, le_zeros, lastW, e]
    have h6 : (l.drop (8 * (l.length / 8)) ++ List.replicate (7 - (l.drop (8 * (l.length / 8))).length) (0 : Int)).length = 7 := by simp; omega
    rw [h6]
    simp [le]

/-- behind so many numbers, the last one with the length -/
def behindR (lo hi : Int) (l : List Int) : Nat → St
  | 0 => first lo hi
  | i + 1 => takeS (behindR lo hi l i) (wordAt l i)
theorem behindR_eq (lo hi : Int) (l : List Int) : ∀ i, i ≤ l.length / 8 → behindR lo hi l i = behind lo hi l i
  | 0, _ => rfl
  | i + 1, h => by rw [behindR, behind, behindR_eq lo hi l i (by omega), wordAt, if_pos (by omega)]
theorem behindR_end (lo hi : Int) (l : List Int) : behindR lo hi l (l.length / 8 + 1) = takeS (behind lo hi l (l.length / 8)) (lastW l) := by
  rw [behindR, behindR_eq _ _ _ _ (Nat.le_refl _), wordAt, if_neg (by omega)]
theorem behindR_US (lo hi : Int) (l : List Int) : ∀ i, US (behindR lo hi l i)
  | 0 => first_US _ _
  | i + 1 => takeS_US _ _ (behindR_US lo hi l i)
theorem byte_last (l : List Int) (i : Nat) (j : Int) (h0 : 0 ≤ j) (h7 : j ≤ 7) (_ : i ≤ l.length / 8) (h1 : (i : Int) = (l.length : Int) / 8) (h2 : j = 7) : (l.length : Int) % 256 = byteAt l i j.toNat := by
  rw [byteAt, if_pos ⟨by omega, by omega⟩]
theorem byte_in (l : List Int) (i : Nat) (j : Int) (h0 : 0 ≤ j) (h7 : j ≤ 7) (_ : i ≤ l.length / 8) (h1 : 8 * (i : Int) + j < l.length) (h2 : ¬ ((i : Int) = (l.length : Int) / 8 ∧ j = 7)) : lget l (8 * (i : Int) + j) = byteAt l i j.toNat := by
  rw [byteAt, if_neg (by omega), if_pos (by omega)]
  congr 1; omega
theorem byte_out (l : List Int) (i : Nat) (j : Int) (h0 : 0 ≤ j) (h7 : j ≤ 7) (_ : i ≤ l.length / 8) (h1 : ¬ 8 * (i : Int) + j < l.length) (h2 : ¬ ((i : Int) = (l.length : Int) / 8 ∧ j = 7)) : (0 : Int) = byteAt l i j.toNat := by
  rw [byteAt, if_neg (by omega), if_neg (by omega)]
end Go.Sep.Sip
namespace Go.Sep.Sip
open Go.Sep
def underS (lo hi : Int) (l : List Int) (n : Int) : Int := if n < 1 then 0 else sumS lo hi l % n
theorem underS_in (lo hi : Int) (l : List Int) (n : Int) (h : ¬ n < 1) : 0 ≤ underS lo hi l n ∧ underS lo hi l n < n := by
  rw [underS, if_neg h]
  exact ⟨Int.emod_nonneg _ (by omega), Int.emod_lt_of_pos _ (by omega)⟩
theorem lget_ext {l m : List Int} (h : l.length = m.length) (hx : ∀ j : Int, 0 ≤ j → j < l.length → lget l j = lget m j) : l = m := by
  apply List.ext_getElem h
  intro i h1 h2
  have := hx i (by omega) (by omega)
  simpa [lget, List.getD, h1, h2] using this
end Go.Sep.Sip
