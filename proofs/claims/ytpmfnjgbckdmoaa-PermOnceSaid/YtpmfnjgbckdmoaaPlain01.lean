/- Bytes of numbers, the greatest first. No program in sight. -/
import Derived.Test.YtpmfnjgbckdmoaaPlain13
set_option linter.unusedSimpArgs false
set_option linter.unusedVariables false
namespace Go.Sep.Sip
open Go.Sep
/-- the k lowest bytes of a number, the greatest first -/
def beR : Nat → Int → List Int
  | 0, _ => []
  | k + 1, n => beR k (n / 256) ++ [n % 256]
theorem beR_len (k : Nat) : ∀ n : Int, (beR k n).length = k := by
  induction k with
  | zero => intro n; rfl
  | succ k ih => intro n; simp [beR, ih]
theorem beR_bytes (k : Nat) : ∀ n : Int, Bytes (beR k n) := by
  induction k with
  | zero => intro n x hx; simp [beR] at hx
  | succ k ih =>
    intro n x hx
    simp only [beR, List.mem_append, List.mem_singleton] at hx
    rcases hx with hx | rfl
    · exact ih _ x hx
    · omega
theorem be4 (n : Int) : beR 4 n = [n / 16777216 % 256, n / 65536 % 256, n / 256 % 256, n % 256] := by
  simp only [beR, List.nil_append, List.cons_append]
  have h1 : n / 256 / 256 / 256 = n / 16777216 := by omega
  have h2 : n / 256 / 256 = n / 65536 := by omega
  rw [h1, h2]
theorem be2 (n : Int) : beR 2 n = [n / 256 % 256, n % 256] := rfl
theorem put_row (k : Nat) (low : List Int) (x : Int) : lset (List.replicate (k + 1) (0 : Int) ++ low) k x = List.replicate k 0 ++ x :: low := by
  unfold lset
  rw [Int.toNat_natCast, List.replicate_succ', List.append_assoc, List.set_append_right _ _ (by simp)]
  simp
theorem bytes_app {l m : List Int} (hl : Bytes l) (hm : Bytes m) : Bytes (l ++ m) := by
  intro x hx
  rcases List.mem_append.1 hx with h | h
  · exact hl x h
  · exact hm x h
end Go.Sep.Sip
