/- Bytes of numbers, the greatest first. No program in sight. -/
import Derived.Test.YtbdlohjmifgcaaaPlain13
import Derived.Test.YtbdlohjmifgcaaaSep11
set_option linter.unusedSimpArgs false
set_option linter.unusedVariables false
namespace Go.Sep.Sip
open Go.Sep
/-- the k lowest bytes of a number, the greatest first -/
def beR : Nat → Int → List Int
  | 0, _ => []
  | k + 1, n => beR k (n / 256) ++ [n % 256]
theorem beR_len (k : Nat) : ∀ n : Int, (beR k n).length = k := by
  induction k with
  | zero => intro n; rfl
  | succ k ih => intro n; simp [beR, ih]
theorem beR_bytes (k : Nat) : ∀ n : Int, Bytes (beR k n) := by
  induction k with
  | zero => intro n x hx; simp [beR] at hx
  | succ k ih =>
    intro n x hx
    simp only [beR, List.mem_append, List.mem_singleton] at hx
    rcases hx with hx | rfl
    · exact ih _ x hx
    · omega
theorem be4 (n : Int) : beR 4 n = [n / 16777216 % 256, n / 65536 % 256, n / 256 % 256, n % 256] := by
  simp only [beR, List.nil_append, List.cons_append]
  have h1 : n / 256 / 256 / 256 = n / 16777216 := by omega
  have h2 : n / 256 / 256 = n / 65536 := by omega
  rw [h1, h2]
theorem be2 (n : Int) : beR 2 n = [n / 256 % 256, n % 256] := rfl
theorem put_row (k : Nat) (low : List Int) (x : Int) : lset (List.replicate (k + 1) (0 : Int) ++ low) k x = List.replicate k 0 ++ x :: low := by
  unfold lset
  rw [Int.toNat_natCast, List.replicate_succ', List.append_assoc, List.set_append_right _ _ (by simp)]
  simp
theorem bytes_app {l m : List Int} (hl : Bytes l) (hm : Bytes m) : Bytes (l ++ m) := by
  intro x hx
  rcases List.mem_append.1 hx with h | h
  · exact hl x h
  · exact hm x h
/-- the number that bytes are, the greatest first -/
def beV (l : List Int) : Int := l.foldl (fun n x => n * 256 + x) 0
theorem beV_snoc (l : List Int) (x : Int) : beV (l ++ [x]) = beV l * 256 + x := by simp [beV, List.foldl_append]
theorem beV_nil : beV [] = 0 := rfl
theorem beV_in (l : List Int) (hb : Bytes l) : 0 ≤ beV l ∧ beV l < 256 ^ l.length := by
  have key : ∀ (l : List Int) (n : Int) (k : Nat), Bytes l → 0 ≤ n → n < 256 ^ k → 0 ≤ l.foldl (fun n x => n * 256 + x) n ∧ l.foldl (fun n x => n * 256 + x) n < 256 ^ (k + l.length) := by
    intro l
    induction l with
    | nil => intro n k _ h0 h1; exact ⟨h0, h1⟩
    | cons x r ih =>
      intro n k hb h0 h1
      have hx := hb x List.mem_cons_self
      rw [List.foldl_cons, List.length_cons, show k + (r.length + 1) = (k + 1) + r.length by omega]
      refine ih _ _ (fun y hy => hb y (List.mem_cons_of_mem _ hy)) (by omega) ?_
      rw [Int.pow_succ]; omega
  have := key l 0 0 hb (by omega) (by decide)
  simpa [beV] using this
/-- bits of numbers of 32 bits that don't meet -/
theorem or32' (a b : Nat) (s : Nat) (hb : b < 2 ^ s) (h : a * 2 ^ s + b < 4294967296) : bits .or .u32 ((a * 2 ^ s : Nat) : Int) (b : Int) = ((a * 2 ^ s + b : Nat) : Int) := by
  have hi : a * 2 ^ s < 4294967296 := by omega
  have hj : b < 4294967296 := by omega
  have e1 : (BitVec.ofInt 32 ((a * 2 ^ s : Nat) : Int)).toNat = a * 2 ^ s := by rw [BitVec.ofInt_natCast, BitVec.toNat_ofNat]; exact Nat.mod_eq_of_lt hi
  have e2 : (BitVec.ofInt 32 (b : Int)).toNat = b := by rw [BitVec.ofInt_natCast, BitVec.toNat_ofNat]; exact Nat.mod_eq_of_lt hj
  have e3 : a * 2 ^ s ||| b = a * 2 ^ s + b := by
    rw [Nat.mul_comm]
    exact (Nat.two_pow_add_eq_or_of_lt hb a).symm
  change IntKind.u32.wrap (((BitVec.ofInt 32 ((a * 2 ^ s : Nat) : Int) ||| BitVec.ofInt 32 (b : Int)).toNat : Nat) : Int) = _
  rw [BitVec.toNat_or, e1, e2, e3]
  exact wrap_in (k := .u32) (by simp only [kb]; omega) (by simp only [kb]; omega)
theorem or_byte (n x : Int) (hn : 0 ≤ n ∧ n < 16777216) (hx : 0 ≤ x ∧ x ≤ 255) : bits .or .u32 (n * 256) x = n * 256 + x := by
  obtain ⟨n, rfl⟩ := Int.eq_ofNat_of_zero_le hn.1
  obtain ⟨x, rfl⟩ := Int.eq_ofNat_of_zero_le hx.1
  have h1 : bits .or .u32 ((n * 256 : Nat) : Int) (x : Int) = ((n * 256 + x : Nat) : Int) := or32' n x 8 (by omega) (by omega)
  simp only [Int.natCast_add, Int.natCast_mul, Int.cast_ofNat_Int] at h1
  exact h1
theorem beV_take {l : List Int} (hb : Bytes l) (h4 : l.length ≤ 4) (i : Int) (h0 : 0 ≤ i) (h1 : i < l.length) : 0 ≤ beV (l.take i.toNat) ∧ beV (l.take i.toNat) < 16777216 := by
  have := beV_in (l.take i.toNat) (fun x hx => hb x (List.mem_of_mem_take hx))
  have hl : (l.take i.toNat).length ≤ 3 := by rw [List.length_take]; omega
  refine ⟨this.1, ?_⟩
  have h3 : (l.take i.toNat).length = 0 ∨ (l.take i.toNat).length = 1 ∨ (l.take i.toNat).length = 2 ∨ (l.take i.toNat).length = 3 := by omega
  rcases h3 with h3 | h3 | h3 | h3 <;> rw [h3] at this <;> have := this.2 <;> simp at this <;> omega
theorem bytes_take {l : List Int} (hb : Bytes l) (n : Nat) : Bytes (l.take n) := fun x hx => hb x (List.mem_of_mem_take hx)
theorem bytes_drop {l : List Int} (hb : Bytes l) (n : Nat) : Bytes (l.drop n) := fun x hx => hb x (List.mem_of_mem_drop hx)
/-- whether n bytes are there from a place on, and which -/
def thereB (l : List Int) (at_ n : Int) : Bool := decide (0 ≤ at_ ∧ 0 ≤ n ∧ at_ + n ≤ l.length)
def cutL (l : List Int) (at_ n : Int) : List Int := (l.drop at_.toNat).take n.toNat
theorem part_len {l : List Int} {a n : Int} (h : thereB l a n = true) : (cutL l a n).length = n.toNat := by
  simp only [thereB, decide_eq_true_eq] at h
  simp [cutL]; omega
theorem part_bytes {l : List Int} (hb : Bytes l) (a n : Int) : Bytes (cutL l a n) := bytes_take (bytes_drop hb _) _
theorem part_src {B : World} {h : Own} {A : Option Addr} {l : List Int} {cap : Nat} (hl : Src B h A l.length 1 (l.map (fun x => Value.int .u8 x))) (hc : l.length ≤ cap) {a n : Int} (ht : thereB l a n = true) :
    Src B h (if (cap : Int) = a then A else cutA A (a.toNat * 1)) (cutL l a n).length 1 ((cutL l a n).map (fun x => Value.int .u8 x)) ∧ (cutL l a n).length ≤ ((cap : Int) - a).toNat := by
  have hp := part_len ht
  simp only [thereB, decide_eq_true_eq] at ht
  have h1 := hl.drop (cap := cap) a (by omega) hc
  have h2 := h1.take n.toNat (by omega)
  simp only [Nat.mul_one, ← List.map_drop, ← List.map_take] at h2 ⊢
  rw [hp]
  exact ⟨h2, by omega⟩
end Go.Sep.Sip
