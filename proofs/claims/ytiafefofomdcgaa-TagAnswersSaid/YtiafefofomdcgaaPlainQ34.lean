/- Plain laws of answers. No program in sight. -/
import Derived.Test.YtiafefofomdcgaaPlain
set_option linter.unusedSimpArgs false
set_option linter.unusedVariables false
namespace Go.Sep.Tag
open Go.Sep Go.Sep.Sip
def ansB (n code : Int) (l : List Int) : List Int := longB n ++ [code] ++ l
theorem ansB_len (n code : Int) (l : List Int) : (ansB n code l).length = 9 + l.length := by simp [ansB, longB_len]; omega
theorem ansB_bytes {n code : Int} {l : List Int} (hc : 0 ≤ code ∧ code ≤ 255) (hb : Bytes l) : Bytes (ansB n code l) :=
  bytes_app (bytes_app (longB_bytes _) (by intro x hx; simp at hx; omega)) hb
def openS (lo hi : Int) (b : List Int) : Int × Int × List Int × Int :=
  if (b.length : Int) < 17 then (0, 0, [], 3) else if signB lo hi (b.take (b.length - 8)) ≠ b then (0, 0, [], 12) else (countB b, lget b 8, cutL b 9 (b.length - 17), 0)
theorem open_answer (lo hi n code : Int) (l : List Int) (hn : 0 ≤ n ∧ n ≤ 18446744073709551615) : openS lo hi (signB lo hi (ansB n code l)) = (n, code, l, 0) := by
  have hl : (signB lo hi (ansB n code l)).length = 17 + l.length := by rw [signB_len, ansB_len]; omega
  have ht : (signB lo hi (ansB n code l)).take ((signB lo hi (ansB n code l)).length - 8) = ansB n code l := List.take_left' (by rw [hl, ansB_len]; omega)
  have hc : countB (signB lo hi (ansB n code l)) = n := by
    unfold countB signB ansB
    rw [List.append_assoc, List.append_assoc, List.take_left' (longB_len _), beV_long _ hn]
  have h8 : lget (signB lo hi (ansB n code l)) 8 = code := by
    unfold signB ansB
    rw [List.append_assoc, List.append_assoc]
    simp [lget, List.getD, longB_len]
  have h9 : cutL (signB lo hi (ansB n code l)) 9 (((signB lo hi (ansB n code l)).length : Int) - 17) = l := by
    rw [hl]
    unfold cutL signB
    have e1 : (ansB n code l ++ longB (sumS lo hi (ansB n code l))).drop (9 : Int).toNat = l ++ longB (sumS lo hi (ansB n code l)) := by
      rw [ansB, List.append_assoc]
      exact List.drop_left' (by simp [longB_len])
    rw [e1, List.take_left' (by omega)]
  unfold openS
  rw [if_neg (by rw [hl]; omega), ht, if_neg (by simp), hc, h8, h9]
theorem openS_bytes {lo hi : Int} {b : List Int} (hb : Bytes b) : Bytes (openS lo hi b).2.2.1 ∧ (openS lo hi b).2.2.1.length ≤ b.length := by
  unfold openS
  split
  · exact ⟨by intro x hx; simp at hx, by simp⟩
  · split
    · exact ⟨by intro x hx; simp at hx, by simp⟩
    · exact ⟨part_bytes hb _ _, by simp [cutL]; omega⟩
end Go.Sep.Tag
