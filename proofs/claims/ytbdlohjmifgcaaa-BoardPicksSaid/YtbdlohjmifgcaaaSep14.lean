/- Numbers of blocks are all different. No project text. -/
import Derived.Test.YtbdlohjmifgcaaaSep13
set_option linter.unusedSimpArgs false
set_option linter.unusedVariables false
namespace Go.Sep
theorem AK.nodup {P : Program} {B : World} {f n : Nat} {R : Value → Own → Prop} {k : List Item} {e : Env} {h : Own} (hk : (h.map (·.1)).Nodup → AK P B f n R k e h) : AK P B f n R k e h :=
  ⟨fun a w g m cs => (hk m.nodup).run a w g m cs⟩
/-- a block ahead isn't among the numbers of a part of the rest -/
theorem nd_head {b : Nat × Blk} {h : Own} (nd : ((b :: h).map (·.1)).Nodup) : b.1 ∉ h.map (·.1) := by
  rw [List.map_cons, List.nodup_cons] at nd
  exact nd.1
theorem nd_sub {b : Nat × Blk} {h h' : Own} (nd : ((b :: h).map (·.1)).Nodup) (hs : ∀ x ∈ h', x ∈ h) : b.1 ∉ h'.map (·.1) := by
  intro hm
  obtain ⟨x, hx, e⟩ := List.mem_map.1 hm
  exact nd_head nd (e ▸ List.mem_map.2 ⟨x, hs x hx, rfl⟩)
theorem keep_three {pb pb' X : Own} {p q r : Nat} {a b c a' b' c' : Blk} {x : Nat × Blk} (hx : x ∈ pb ++ (p, a) :: (q, b) :: (r, c) :: X) (hM : x.1 ∉ (pb ++ [(p, a), (q, b), (r, c)]).map (·.1)) : x ∈ pb' ++ (p, a') :: (q, b') :: (r, c') :: X := by
  simp only [List.mem_append, List.mem_cons, List.map_append, List.map_cons, List.map_nil, List.mem_map, List.not_mem_nil, or_false, not_or] at hx hM ⊢
  rcases hx with hx | rfl | rfl | rfl | hx
  · exact absurd ⟨x, hx, rfl⟩ hM.1
  · exact absurd rfl hM.2.1
  · exact absurd rfl hM.2.2.1
  · exact absurd rfl hM.2.2.2
  · exact .inr (.inr (.inr (.inr hx)))
theorem keep_three2 {pb pb' X Y : Own} {p q r : Nat} {a b c a' b' c' : Blk} {x : Nat × Blk} (hx : x ∈ pb ++ (p, a) :: (q, b) :: (r, c) :: X) (hM : x.1 ∉ (pb ++ [(p, a), (q, b), (r, c)]).map (·.1)) : x ∈ pb' ++ (p, a') :: (q, b') :: (r, c') :: (Y ++ X) := by
  have := keep_three (pb' := pb') (a' := a') (b' := b') (c' := c') hx hM
  simp only [List.mem_append, List.mem_cons] at this ⊢
  rcases this with h | h | h | h | h
  · exact .inl h
  · exact .inr (.inl h)
  · exact .inr (.inr (.inl h))
  · exact .inr (.inr (.inr (.inl h)))
  · exact .inr (.inr (.inr (.inr (.inr h))))
end Go.Sep
