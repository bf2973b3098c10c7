/- Plain laws of meters. No program in sight. -/
import Derived.Test.YtdefjkokbffccaaSep11
set_option linter.unusedSimpArgs false
set_option linter.unusedVariables false
namespace Go.Sep.Meter
open Go.Sep
abbrev Bk := Int × Int
abbrev evB (x : Bk) : Value := .agg #[.int .i64 x.1, .int .i64 x.2]
structure MS where
  size : Int
  rate : Int
  burst : Int
  now : Int
  l : List (Ent Bk)
  c : Nat
structure MI (s : MS) : Prop where
  size : 1 ≤ s.size ∧ s.size ≤ 64
  rate : 0 ≤ s.rate ∧ s.rate ≤ 1000
  burst : 1 ≤ s.burst ∧ s.burst ≤ 1000
  now : 0 ≤ s.now ∧ s.now ≤ 1073741824
  bk : ∀ k x, findT s.l k = some x → 0 ≤ x.1 ∧ x.1 ≤ 1000 ∧ 0 ≤ x.2 ∧ x.2 ≤ s.now
def tickM (s : MS) (now : Int) : Int := max s.now (min now 1073741824)
def fillM (s : MS) (now : Int) (x : Bk) : Int := min (x.1 + min (now - x.2) 1000 * s.rate) s.burst
def leftM (s : MS) (src now : Int) : Int := match findT s.l src with | some x => fillM s (tickM s now) x | none => s.burst
def nextM (s : MS) (src now : Int) (l : List (Ent Bk)) (c : Nat) : MS :=
  ⟨s.size, s.rate, s.burst, tickM s now, updT l c src (if 0 < leftM s src now then leftM s src now - 1 else leftM s src now, tickM s now), clkT l c src⟩
theorem tick_mul {t r : Int} (ht : 0 ≤ t ∧ t ≤ 1000) (hr : 0 ≤ r ∧ r ≤ 1000) : 0 ≤ t * r ∧ t * r ≤ 1000000 := by
  have h1 := Int.mul_nonneg ht.1 hr.1
  have h2 := Int.mul_le_mul ht.2 hr.2 hr.1 (by omega)
  omega
theorem left_in {s : MS} (i : MI s) (src now : Int) : 0 ≤ leftM s src now ∧ leftM s src now ≤ 1000 := by
  unfold leftM
  have hb := i.burst
  split
  · next x hx =>
    have h1 := i.bk _ _ hx
    have h2 := tick_mul (t := min (tickM s now - x.2) 1000) ⟨by unfold tickM; omega, by omega⟩ i.rate
    unfold fillM; omega
  · omega
theorem next_mi {s : MS} (i : MI s) (src now : Int) (l : List (Ent Bk)) (c : Nat) (hl : ∀ k x, findT l k = some x → findT s.l k = some x) : MI (nextM s src now l c) := by
  have hn := i.now
  have hle := left_in i src now
  have ht : s.now ≤ tickM s now ∧ tickM s now ≤ 1073741824 := by unfold tickM; omega
  refine ⟨i.size, i.rate, i.burst, ⟨by show 0 ≤ tickM s now; omega, by show tickM s now ≤ _; omega⟩, fun k x hx => ?_⟩
  have hx : findT (updT l c src (if 0 < leftM s src now then leftM s src now - 1 else leftM s src now, tickM s now)) k = some x := hx
  rw [findT_upd] at hx
  show 0 ≤ x.1 ∧ x.1 ≤ 1000 ∧ 0 ≤ x.2 ∧ x.2 ≤ tickM s now
  split at hx
  · cases hx
    dsimp only
    split <;> omega
  · have := i.bk k x (hl k x hx); omega
def newM (size rate burst : Int) : MS := ⟨min (max size 1) 64, min (max rate 0) 1000, min (max burst 1) 1000, 0, [], 0⟩
theorem new_mi (size rate burst : Int) : MI (newM size rate burst) := by
  refine ⟨by simp only [newM]; omega, by simp only [newM]; omega, by simp only [newM]; omega, by simp only [newM]; omega, fun k x hx => by simp [newM, findT] at hx⟩
end Go.Sep.Meter
