/- Plain laws of numbers that are issued by a key. No program in sight. -/
import Derived.Test.YtbdlohjmifgcaaaPlain01
set_option linter.unusedSimpArgs false
set_option linter.unusedVariables false
namespace Go.Sep.Cookie
open Go.Sep Go.Sep.Sip
abbrev Flow := Int × Int × Int × Int × Int × Unit
abbrev encF (f : Flow) : List Value := [.int .u32 f.1, .int .u32 f.2.1, .int .u16 f.2.2.1, .int .u16 f.2.2.2.1, .int .u8 f.2.2.2.2.1]
structure FOk (f : Flow) : Prop where
  a : 0 ≤ f.1 ∧ f.1 ≤ 4294967295
  b : 0 ≤ f.2.1 ∧ f.2.1 ≤ 4294967295
  c : 0 ≤ f.2.2.1 ∧ f.2.2.1 ≤ 65535
  d : 0 ≤ f.2.2.2.1 ∧ f.2.2.2.1 ≤ 65535
  e : 0 ≤ f.2.2.2.2.1 ∧ f.2.2.2.2.1 ≤ 255
def FB (f : Flow) : List Int := (beR 4 f.1 ++ beR 4 f.2.1) ++ (beR 2 f.2.2.1 ++ beR 2 f.2.2.2.1) ++ [f.2.2.2.2.1]
theorem FB_len (f : Flow) : (FB f).length = 13 := by simp [FB, beR_len]
theorem FB_bytes {f : Flow} (h : FOk f) : Bytes (FB f) := by
  refine bytes_app (bytes_app (bytes_app (beR_bytes _ _) (beR_bytes _ _)) (bytes_app (beR_bytes _ _) (beR_bytes _ _))) ?_
  intro x hx
  simp at hx; subst hx; exact h.e
def SZ : List Int := [216, 536, 996, 1220, 1300, 1400, 1440, 1460]
def idxTo (n : Int) : Nat → Int
  | 0 => 0
  | k + 1 => if lget SZ k ≤ n then k else idxTo n k
theorem idxTo_in (n : Int) (k : Nat) : 0 ≤ idxTo n k ∧ idxTo n k ≤ k := by
  induction k with
  | zero => simp [idxTo]
  | succ k ih => simp only [idxTo]; split <;> omega
def sizeS (i : Int) : Int := if i < 0 ∨ 7 < i then 0 else lget SZ i
theorem sizeS_in (i : Int) : 0 ≤ sizeS i ∧ sizeS i ≤ 65535 := by
  unfold sizeS
  split
  · omega
  · have : i = 0 ∨ i = 1 ∨ i = 2 ∨ i = 3 ∨ i = 4 ∨ i = 5 ∨ i = 6 ∨ i = 7 := by omega
    rcases this with h | h | h | h | h | h | h | h <;> subst h <;> decide
/-- the sum of a flow, a number, an epoch and a place -/
def bytesC (f : Flow) (isn e p : Int) : List Int := FB f ++ (beR 4 isn ++ [e, p])
def mkC (lo hi : Int) (f : Flow) (isn e p : Int) : Int := e * 134217728 + p * 16777216 + sumS lo hi (bytesC f isn e p) % 16777216
def makeC (lo hi : Int) (f : Flow) (isn epoch i : Int) : Int := mkC lo hi f isn (max epoch 0 % 32) (max i 0 % 8)
theorem mkC_in (lo hi : Int) (f : Flow) (isn e p : Int) (he : 0 ≤ e ∧ e < 32) (hp : 0 ≤ p ∧ p < 8) : 0 ≤ mkC lo hi f isn e p ∧ mkC lo hi f isn e p ≤ 4294967295 ∧ mkC lo hi f isn e p / 134217728 = e ∧ mkC lo hi f isn e p / 16777216 % 8 = p := by
  unfold mkC
  generalize sumS lo hi (bytesC f isn e p) = x
  omega
theorem makeC_in (lo hi : Int) (f : Flow) (isn epoch i : Int) : 0 ≤ makeC lo hi f isn epoch i ∧ makeC lo hi f isn epoch i ≤ 4294967295 ∧ makeC lo hi f isn epoch i / 134217728 = max epoch 0 % 32 ∧ makeC lo hi f isn epoch i / 16777216 % 8 = max i 0 % 8 :=
  mkC_in lo hi f isn _ _ (by omega) (by omega)
def rightC (lo hi lo2 hi2 epoch : Int) (f : Flow) (isn v : Int) : Bool :=
  if v / 134217728 = max epoch 0 % 32 then decide (v = makeC lo hi f isn (v / 134217728) (v / 16777216 % 8))
  else if 0 < max epoch 0 ∧ v / 134217728 = (max epoch 0 - 1) % 32 then decide (v = makeC lo2 hi2 f isn (v / 134217728) (v / 16777216 % 8)) else false
theorem makeC_again (lo hi : Int) (f : Flow) (isn epoch i : Int) : makeC lo hi f isn (makeC lo hi f isn epoch i / 134217728) (makeC lo hi f isn epoch i / 16777216 % 8) = makeC lo hi f isn epoch i := by
  obtain ⟨_, _, h3, h4⟩ := makeC_in lo hi f isn epoch i
  rw [h3, h4]
  unfold makeC
  rw [show max (max epoch 0 % 32) 0 % 32 = max epoch 0 % 32 by omega, show max (max i 0 % 8) 0 % 8 = max i 0 % 8 by omega]
theorem right_issue (lo hi lo2 hi2 epoch : Int) (f : Flow) (isn i : Int) : rightC lo hi lo2 hi2 epoch f isn (makeC lo hi f isn epoch i) = true := by
  unfold rightC
  rw [if_pos (makeC_in lo hi f isn epoch i).2.2.1, makeC_again]
  simp
theorem right_next (lo hi lo2 hi2 epoch : Int) (h0 : 0 ≤ epoch) (f : Flow) (isn i : Int) : rightC lo2 hi2 lo hi (epoch + 1) f isn (makeC lo hi f isn epoch i) = true := by
  have h3 := (makeC_in lo hi f isn epoch i).2.2.1
  unfold rightC
  rw [if_neg (by rw [h3]; omega), if_pos ⟨by omega, by rw [h3, show max (epoch + 1) 0 - 1 = max epoch 0 by omega]⟩, makeC_again]
  simp
/-- bits of numbers of 32 bits that don't meet -/
theorem or32 (a b : Nat) (s : Nat) (hb : b < 2 ^ s) (h : a * 2 ^ s + b < 4294967296) : bits .or .u32 ((a * 2 ^ s : Nat) : Int) (b : Int) = ((a * 2 ^ s + b : Nat) : Int) := by
  have hi : a * 2 ^ s < 4294967296 := by omega
  have hj : b < 4294967296 := by omega
  have e1 : (BitVec.ofInt 32 ((a * 2 ^ s : Nat) : Int)).toNat = a * 2 ^ s := by rw [BitVec.ofInt_natCast, BitVec.toNat_ofNat]; exact Nat.mod_eq_of_lt hi
  have e2 : (BitVec.ofInt 32 (b : Int)).toNat = b := by rw [BitVec.ofInt_natCast, BitVec.toNat_ofNat]; exact Nat.mod_eq_of_lt hj
  have e3 : a * 2 ^ s ||| b = a * 2 ^ s + b := by
    rw [Nat.mul_comm]
    exact (Nat.two_pow_add_eq_or_of_lt hb a).symm
  change IntKind.u32.wrap (((BitVec.ofInt 32 ((a * 2 ^ s : Nat) : Int) ||| BitVec.ofInt 32 (b : Int)).toNat : Nat) : Int) = _
  rw [BitVec.toNat_or, e1, e2, e3]
  exact wrap_in (k := .u32) (by simp only [kb]; omega) (by simp only [kb]; omega)
theorem orC (e p x : Int) (he : 0 ≤ e ∧ e < 32) (hp : 0 ≤ p ∧ p < 8) (hx : 0 ≤ x ∧ x < 16777216) :
    bits .or .u32 (e * 134217728) (p * 16777216) = e * 134217728 + p * 16777216 ∧ bits .or .u32 (e * 134217728 + p * 16777216) x = e * 134217728 + p * 16777216 + x := by
  obtain ⟨e, rfl⟩ := Int.eq_ofNat_of_zero_le he.1
  obtain ⟨p, rfl⟩ := Int.eq_ofNat_of_zero_le hp.1
  obtain ⟨x, rfl⟩ := Int.eq_ofNat_of_zero_le hx.1
  have h1 : bits .or .u32 ((e * 134217728 : Nat) : Int) ((p * 16777216 : Nat) : Int) = ((e * 134217728 + p * 16777216 : Nat) : Int) := or32 e (p * 16777216) 27 (by omega) (by omega)
  have h2 : bits .or .u32 (((e * 8 + p) * 16777216 : Nat) : Int) (x : Int) = (((e * 8 + p) * 16777216 + x : Nat) : Int) := or32 (e * 8 + p) x 24 (by omega) (by omega)
  have e2 : ((e * 8 + p) * 16777216 : Nat) = e * 134217728 + p * 16777216 := by omega
  rw [e2] at h2
  simp only [Int.natCast_add, Int.natCast_mul, Int.cast_ofNat_Int] at h1 h2
  exact ⟨h1, h2⟩
end Go.Sep.Cookie
