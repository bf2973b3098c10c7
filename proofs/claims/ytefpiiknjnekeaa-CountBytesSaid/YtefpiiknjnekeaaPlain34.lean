/- Plain laws of messages with a sum. No program in sight. -/
import Derived.Test.YtefpiiknjnekeaaPlain01
set_option linter.unusedSimpArgs false
set_option linter.unusedVariables false
namespace Go.Sep.Tag
open Go.Sep Go.Sep.Sip
abbrev Ord := Int × Int × Int × Int × Int × Int × Int × Int × Unit
abbrev encO (o : Ord) : List Value := [.int .u64 o.1, .int .i64 o.2.1, .int .i64 o.2.2.1, .int .i64 o.2.2.2.1, .int .u32 o.2.2.2.2.1, .int .u16 o.2.2.2.2.2.1, .int .u8 o.2.2.2.2.2.2.1, .int .i64 o.2.2.2.2.2.2.2.1]
structure OOk (o : Ord) : Prop where
  cnt : 0 ≤ o.1 ∧ o.1 ≤ 18446744073709551615
  addr : 0 ≤ o.2.2.2.2.1 ∧ o.2.2.2.2.1 ≤ 4294967295
  port : 0 ≤ o.2.2.2.2.2.1 ∧ o.2.2.2.2.2.1 ≤ 65535
  proto : 0 ≤ o.2.2.2.2.2.2.1 ∧ o.2.2.2.2.2.2.1 ≤ 255
def okO (o : Ord) : Bool := decide (0 ≤ o.2.1 ∧ o.2.1 ≤ 255 ∧ 0 ≤ o.2.2.1 ∧ o.2.2.1 ≤ 65535 ∧ 0 ≤ o.2.2.2.1 ∧ o.2.2.2.1 ≤ 255 ∧ 0 ≤ o.2.2.2.2.2.2.2.1 ∧ o.2.2.2.2.2.2.2.1 ≤ 255)
def longB (n : Int) : List Int := beR 4 (n / 4294967296) ++ beR 4 (n % 4294967296)
theorem longB_len (n : Int) : (longB n).length = 8 := by simp [longB, beR_len]
theorem longB_bytes (n : Int) : Bytes (longB n) := bytes_app (beR_bytes _ _) (beR_bytes _ _)
def signB (lo hi : Int) (b : List Int) : List Int := b ++ longB (sumS lo hi b)
theorem signB_len (lo hi : Int) (b : List Int) : (signB lo hi b).length = b.length + 8 := by simp [signB, longB_len]
theorem signB_bytes {lo hi : Int} {b : List Int} (hb : Bytes b) : Bytes (signB lo hi b) := bytes_app hb (longB_bytes _)
def bodyB (o : Ord) : List Int := longB o.1 ++ [o.2.1, o.2.2.1 / 256, o.2.2.1 % 256, o.2.2.2.1] ++ beR 4 o.2.2.2.2.1 ++ [o.2.2.2.2.2.1 / 256, o.2.2.2.2.2.1 % 256, o.2.2.2.2.2.2.1, o.2.2.2.2.2.2.2.1]
theorem bodyB_len (o : Ord) : (bodyB o).length = 20 := by simp [bodyB, longB_len, beR_len]
theorem okO_in {o : Ord} (h : okO o = true) : (0 ≤ o.2.1 ∧ o.2.1 ≤ 255) ∧ (0 ≤ o.2.2.1 ∧ o.2.2.1 ≤ 65535) ∧ (0 ≤ o.2.2.2.1 ∧ o.2.2.2.1 ≤ 255) ∧ (0 ≤ o.2.2.2.2.2.2.2.1 ∧ o.2.2.2.2.2.2.2.1 ≤ 255) := by
  simp only [okO, decide_eq_true_eq] at h
  omega
theorem bodyB_bytes {o : Ord} (h : okO o = true) (k : OOk o) : Bytes (bodyB o) := by
  obtain ⟨h1, h2, h3, h4⟩ := okO_in h
  have := k.port
  have := k.proto
  refine bytes_app (bytes_app (bytes_app (longB_bytes _) ?_) (beR_bytes _ _)) ?_
  · intro x hx; simp at hx; omega
  · intro x hx; simp at hx; omega
/-! ### numbers again -/
theorem beV_append (m : List Int) : ∀ l : List Int, beV (l ++ m) = beV l * 256 ^ m.length + beV m := by
  induction m with
  | nil => intro l; simp [beV_nil]
  | cons x r ih =>
    intro l
    have h1 := ih (l ++ [x])
    have h2 := ih [x]
    rw [List.append_assoc, List.singleton_append, beV_snoc] at h1
    rw [List.singleton_append, show beV [x] = x by simp [beV]] at h2
    rw [h1, h2, List.length_cons, Int.pow_succ, Int.add_mul, Int.mul_assoc, Int.mul_comm 256]
    omega
theorem beV_beR (k : Nat) : ∀ n : Int, 0 ≤ n → n < 256 ^ k → beV (beR k n) = n := by
  induction k with
  | zero => intro n h0 h1; simp [beR, beV_nil] at *; omega
  | succ k ih =>
    intro n h0 h1
    rw [beR, beV_snoc, ih (n / 256) (by omega) (by rw [Int.pow_succ] at h1; omega)]
    omega
theorem beV_long (n : Int) (h : 0 ≤ n ∧ n ≤ 18446744073709551615) : beV (longB n) = n := by
  have h4 : (256 : Int) ^ 4 = 4294967296 := by decide
  rw [longB, beV_append, beR_len, beV_beR 4 _ (by omega) (by omega), beV_beR 4 _ (by omega) (by omega), h4]
  omega
def countB (b : List Int) : Int := beV (b.take 8)
theorem count_two (b : List Int) (h : 8 ≤ b.length) : countB b = beV (cutL b 0 4) * 4294967296 + beV (cutL b 4 4) := by
  have e : b.take 8 = cutL b 0 4 ++ cutL b 4 4 := by
    have : b.take 8 = b.take 4 ++ (b.drop 4).take 4 := by rw [← List.take_add]
    simpa [cutL] using this
  have hl : (cutL b 4 4).length = 4 := by simp [cutL]; omega
  rw [countB, e, beV_append, hl]; rfl
theorem countB_in {b : List Int} (hb : Bytes b) (h : 8 ≤ b.length) : 0 ≤ countB b ∧ countB b ≤ 18446744073709551615 := by
  have := beV_in (b.take 8) (bytes_take hb 8)
  rw [show (b.take 8).length = 8 by simp; omega] at this
  have h8 : (256 : Int) ^ 8 = 18446744073709551616 := by decide
  unfold countB; omega
/-- the message that bytes are -/
def ordB (b : List Int) : Ord := (countB b, lget b 8, lget b 9 * 256 + lget b 10, lget b 11, beV (cutL b 12 4), lget b 16 * 256 + lget b 17, lget b 18, lget b 19, ())
def noO : Ord := (0, 0, 0, 0, 0, 0, 0, 0, ())
def parseS (lo hi : Int) (b : List Int) : Ord × Int :=
  if b.length ≠ 28 then (noO, 3) else if signB lo hi (b.take 20) ≠ b then (noO, 12) else (ordB b, 0)
theorem list_eq8 (a b c d e f g h : Int) (r : List Int) : ([a, b, c, d, e, f, g, h] ++ r).take 8 = [a, b, c, d, e, f, g, h] := rfl
theorem ord_body (lo hi : Int) (o : Ord) (h : okO o = true) (k : OOk o) : ordB (signB lo hi (bodyB o)) = o := by
  obtain ⟨h1, h2, h3, h4⟩ := okO_in h
  have hc : countB (signB lo hi (bodyB o)) = o.1 := by
    unfold countB signB bodyB
    rw [List.append_assoc, List.append_assoc, List.append_assoc, List.take_left' (longB_len _), beV_long _ k.cnt]
  have h44 : (256 : Int) ^ 4 = 4294967296 := by decide
  have ha : beV (cutL (signB lo hi (bodyB o)) 12 4) = o.2.2.2.2.1 := by
    have : cutL (signB lo hi (bodyB o)) 12 4 = beR 4 o.2.2.2.2.1 := by
      unfold cutL signB bodyB
      rw [List.append_assoc, List.append_assoc, show (12 : Int).toNat = 12 from rfl, List.drop_left' (by simp [longB_len]), show (4 : Int).toNat = 4 from rfl, List.append_assoc, List.take_left' (beR_len _ _)]
    rw [this, beV_beR 4 _ k.addr.1 (by have := k.addr; omega)]
  have hx : signB lo hi (bodyB o) = (beR 4 (o.1 / 4294967296) ++ beR 4 (o.1 % 4294967296) ++ [o.2.1, o.2.2.1 / 256, o.2.2.1 % 256, o.2.2.2.1] ++ beR 4 o.2.2.2.2.1 ++ [o.2.2.2.2.2.1 / 256, o.2.2.2.2.2.1 % 256, o.2.2.2.2.2.2.1, o.2.2.2.2.2.2.2.1]) ++ longB (sumS lo hi (bodyB o)) := rfl
  have g : ∀ i : Nat, i < 20 → lget (signB lo hi (bodyB o)) (i : Int) = lget (beR 4 (o.1 / 4294967296) ++ beR 4 (o.1 % 4294967296) ++ [o.2.1, o.2.2.1 / 256, o.2.2.1 % 256, o.2.2.2.1] ++ beR 4 o.2.2.2.2.1 ++ [o.2.2.2.2.2.1 / 256, o.2.2.2.2.2.1 % 256, o.2.2.2.2.2.2.1, o.2.2.2.2.2.2.2.1]) (i : Int) := by
    intro i hi
    rw [hx]
    simp only [lget, List.getD, Int.toNat_natCast]
    rw [List.getElem?_append_left (by simp [beR_len]; omega)]
  have e8 : lget (signB lo hi (bodyB o)) 8 = o.2.1 := g 8 (by omega)
  have e9 : lget (signB lo hi (bodyB o)) 9 = o.2.2.1 / 256 := g 9 (by omega)
  have e10 : lget (signB lo hi (bodyB o)) 10 = o.2.2.1 % 256 := g 10 (by omega)
  have e11 : lget (signB lo hi (bodyB o)) 11 = o.2.2.2.1 := g 11 (by omega)
  have e16 : lget (signB lo hi (bodyB o)) 16 = o.2.2.2.2.2.1 / 256 := g 16 (by omega)
  have e17 : lget (signB lo hi (bodyB o)) 17 = o.2.2.2.2.2.1 % 256 := g 17 (by omega)
  have e18 : lget (signB lo hi (bodyB o)) 18 = o.2.2.2.2.2.2.1 := g 18 (by omega)
  have e19 : lget (signB lo hi (bodyB o)) 19 = o.2.2.2.2.2.2.2.1 := g 19 (by omega)
  unfold ordB
  rw [hc, ha, e8, e9, e10, e11, e16, e17, e18, e19]
  rw [show o.2.2.1 / 256 * 256 + o.2.2.1 % 256 = o.2.2.1 by omega, show o.2.2.2.2.2.1 / 256 * 256 + o.2.2.2.2.2.1 % 256 = o.2.2.2.2.2.1 by omega]
theorem parse_put (lo hi : Int) (o : Ord) (h : okO o = true) (k : OOk o) : parseS lo hi (signB lo hi (bodyB o)) = (o, 0) := by
  have hl : (signB lo hi (bodyB o)).length = 28 := by rw [signB_len, bodyB_len]
  have ht : (signB lo hi (bodyB o)).take 20 = bodyB o := List.take_left' (bodyB_len o)
  unfold parseS
  rw [if_neg (by rw [hl]; simp), ht, if_neg (by simp), ord_body lo hi o h k]
theorem cut_two (l : List Int) (k : Int) (h0 : 0 ≤ k) (h1 : k + 2 ≤ l.length) : cutL l k 2 = [lget l k, lget l (k + 1)] := by
  have h2 : k.toNat < l.length := by omega
  have h3 : k.toNat + 1 < l.length := by omega
  have e : l.drop k.toNat = l[k.toNat] :: l[k.toNat + 1] :: l.drop (k.toNat + 2) := by rw [List.drop_eq_getElem_cons h2, List.drop_eq_getElem_cons h3]
  have e4 : (k + 1).toNat = k.toNat + 1 := by omega
  have a : lget l k = l[k.toNat] := by simp [lget, List.getD, h2]
  have b : lget l (k + 1) = l[k.toNat + 1] := by simp [lget, List.getD, e4, h3]
  unfold cutL
  rw [e, a, b]
  rfl
theorem beV_cut2 (l : List Int) (k : Int) (h0 : 0 ≤ k) (h1 : k + 2 ≤ l.length) : beV (cutL l k 2) = lget l k * 256 + lget l (k + 1) := by
  rw [cut_two l k h0 h1]; simp [beV]
theorem beV_seven (l : List Int) (i : Int) (h0 : 0 ≤ i) (h8 : i < 8) (hv : beV (l.take i.toNat) < 256 ^ (l.take i.toNat).length) : beV (l.take i.toNat) < 72057594037927936 := by
  have hl : (l.take i.toNat).length ≤ 7 := by rw [List.length_take]; omega
  have h3 : (l.take i.toNat).length = 0 ∨ (l.take i.toNat).length = 1 ∨ (l.take i.toNat).length = 2 ∨ (l.take i.toNat).length = 3 ∨ (l.take i.toNat).length = 4 ∨ (l.take i.toNat).length = 5 ∨ (l.take i.toNat).length = 6 ∨ (l.take i.toNat).length = 7 := by omega
  rcases h3 with h3 | h3 | h3 | h3 | h3 | h3 | h3 | h3 <;> rw [h3] at hv <;> simp at hv <;> omega
end Go.Sep.Tag
