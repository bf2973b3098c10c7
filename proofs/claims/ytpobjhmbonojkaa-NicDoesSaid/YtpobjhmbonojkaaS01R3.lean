/- Walks through the code: what each function that is named here gives back, from any memory that holds its arguments. Written by a program of the claim's author, out of the program's form in Lean. -/
import Derived.Test.YtpobjhmbonojkaaS01R2
set_option linter.unusedSimpArgs false
set_option linter.unusedVariables false
namespace Go.Proofs.Ytpobjhmbonojkaa
open Go.Sep Go.Sep.Sip

theorem flat_len_le (ls : List (InS Int)) (i : Nat) : ((ls.take i).flatMap (·.l)).length ≤ (ls.flatMap (·.l)).length := by
  have : ls.flatMap (·.l) = (ls.take i).flatMap (·.l) ++ (ls.drop i).flatMap (·.l) := by rw [← List.flatMap_append, List.take_append_drop]
  rw [this, List.length_append]; omega

theorem join_spec (B : World) (h : Own) {A : Option Addr} {cap : Nat} (ls : List (InS Int)) (hl : Src B h A ls.length 1 (ls.map (fun x => Value.slice x.A x.l.length x.cap))) (hs : ∀ x ∈ ls, Src B h x.A x.l.length 1 (x.l.map (fun x => Value.int .u8 x))) (hln : (ls.flatMap (·.l)).length ≤ 1000000) (hll : ls.length ≤ 1000) : Tri Try.prog B 39 [.slice A ls.length cap] h fun v h' => NewS 5 1 (ls.flatMap (·.l)).length ((ls.flatMap (·.l)).map (fun x => Value.int .u8 x)) h v h' := by
  refine Tri.enter (n := 17) Try.func39 rfl rfl rfl ?_
  simp only [argsE, Nat.reduceAdd]
  try dsimp only [argsE]
  refine AK.seq ?_
  refine AK.region ?_
  refine AO.val (RV.assign rfl) (.none rfl) rfl ?_
  refine AO.nil ?_
  refine AK.seq ?_
  refine AK.region ?_
  refine AO.val (RV.assign rfl) (.none rfl) rfl ?_
  refine AO.nil ?_
  refine AK.seq ?_
  refine AK.seq ?_
  refine AK.region ?_
  refine AO.val (RV.move rfl) (.none rfl) rfl ?_
  refine AO.val (RV.lenS rfl) (.none rfl) rfl ?_
  refine AO.val (RV.move rfl) (.none rfl) rfl ?_
  refine AO.nil ?_
  refine AK.block ?_
  refine AK.loop (α := Int × Option Addr × Nat × Own) (E := fun (i, A', c', p) => [(3, .slice A' ((ls.take i.toNat).flatMap (·.l)).length c'), (6, .slice A ls.length cap), (7, .int .i64 ls.length), (8, .int .i64 i)]) (H := fun (i, A', c', p) => p ++ h) (Inv := fun (i, A', c', p) => 0 ≤ i ∧ i ≤ ls.length ∧ Row 5 1 (.slice A' ((ls.take i.toNat).flatMap (·.l)).length c') ((ls.take i.toNat).flatMap (·.l)).length (((ls.take i.toNat).flatMap (·.l)).map (fun x => Value.int .u8 x)) p ∧ ((ls.take i.toNat).flatMap (·.l)).length ≤ c') (μ := fun (i, A', c', p) => (ls.length - i).toNat) (0, none, 0, []) ?_ (.cons (by exact rfl) (.cons (by exact rfl) (.cons (by exact rfl) (.cons (by exact rfl) .nil)))) ?_ ?_
  · exact ⟨by omega, by omega, .nil, Nat.le_refl _⟩
  · exact (by first | exact SubO.sub | exact List.Sublist.refl _ | exact .cons _ (List.Sublist.refl _) | exact .cons _ (.cons _ (List.Sublist.refl _)) | exact .cons _ (.cons _ (.cons _ (List.Sublist.refl _))))
  rintro ⟨i, A', c', p⟩ ⟨hi0, hin, hr, hc⟩ hih0
  try dsimp only at hih0 ⊢
  refine AK.seq ?_
  refine AK.region ?_
  refine AO.val (RV.lss rfl rfl) (.none rfl) rfl ?_
  refine AO.nil ?_
  refine AK.seq ?_
  refine AK.cond rfl ?_ ?_
  · intro hc1
    try simp only [decide_eq_true_eq, decide_eq_false_iff_not, Bool.not_eq_true', Bool.not_eq_false', beq_iff_eq] at hc1
    have hi2 : i.toNat < ls.length := by omega
    have hge : lget ls i = ls[i.toNat] := by simp [lget, List.getD, hi2]
    have hmem : lget ls i ∈ ls := by rw [hge]; exact List.getElem_mem hi2
    have hf1 : (ls.take (i + 1).toNat).flatMap (·.l) = ((ls.take i.toNat).flatMap (·.l)) ++ (lget ls i).l := by
      rw [show (i + 1).toNat = i.toNat + 1 by omega, List.take_succ_eq_append_getElem hi2, List.flatMap_append, hge]; simp
    have hle := flat_len_le ls (i + 1).toNat
    have hll2 : ((ls.take (i + 1).toNat).flatMap (·.l)).length = ((ls.take i.toNat).flatMap (·.l)).length + (lget ls i).l.length := by rw [hf1, List.length_append]
    refine AK.skip ?_
    refine AK.seq ?_
    refine AK.block ?_
    refine AK.seq ?_
    refine AK.region ?_
    refine AO.val (by first | exact RV.indexS rfl rfl (by assumption) (by omega) rfl | exact RV.indexAddr rfl rfl (by omega)) (.none rfl) rfl ?_
    refine AO.val (RV.loadS (enc := fun x : InS Int => Value.slice x.A x.l.length x.cap) (l := ls) rfl hl (by omega) (by simp)) (.none rfl) rfl ?_
    refine AO.val (RV.assign rfl) (.none rfl) rfl ?_
    refine AO.nil ?_
    refine AK.region ?_
    refine AO.val (RV.move rfl) (.none rfl) rfl ?_
    refine AO.val (RV.move rfl) (.none rfl) rfl ?_
    refine AO.eff (EF.appendS (n' := ((ls.take (i + 1).toNat).flatMap (·.l)).length) (ys := ((ls.take (i + 1).toNat).flatMap (·.l)).map (fun x => Value.int .u8 x)) rfl rfl hr (hs _ hmem).sub hll2 (by rw [hf1, List.map_append]) rfl (by decide) (by simp [Value.oneCell']) (by omega) (by omega)) (.none rfl) rfl ?_
    rintro _ _ ⟨A1, c1, p1, rfl, hr1, hc1q, rfl⟩
    refine AO.val (RV.assign rfl) (.none rfl) rfl ?_
    refine AO.nil ?_
    refine AK.inBlock ?_
    refine AK.region ?_
    refine AO.val (by first | exact RV.addIn rfl rfl (by omega) | exact RV.add rfl rfl) (.none rfl) rfl ?_
    refine AO.val (RV.move rfl) (.none rfl) rfl ?_
    refine AO.nil ?_
    -- round ends at L0T
    refine AK.weak (.cons (by exact rfl) (.cons (by exact rfl) (.cons (by exact rfl) (.cons (by exact rfl) .nil)))) (by first | exact SubO.sub | exact List.Sublist.refl _ | exact .cons _ (List.Sublist.refl _) | exact .cons _ (.cons _ (List.Sublist.refl _)) | exact .cons _ (.cons _ (.cons _ (List.Sublist.refl _)))) (hih0 (i + 1, A1, c1, p1) ?_ ?_)
    · try dsimp only
      exact ⟨by omega, by omega, hr1, hc1q⟩
    · try dsimp only
      omega
  · intro hc1
    try simp only [decide_eq_true_eq, decide_eq_false_iff_not, Bool.not_eq_true', Bool.not_eq_false', beq_iff_eq] at hc1
    refine AK.exit rfl ?_
    refine AK.seq ?_
    refine AK.region ?_
    refine AO.val (RV.move rfl) (.none rfl) rfl ?_
    refine AO.val (RV.assign rfl) (.none rfl) rfl ?_
    refine AO.nil ?_
    -- at L0F
    clear hih0
    have hfi : ls.take i.toNat = ls := List.take_of_length_le (by omega)
    rw [hfi] at hr hc ⊢
    refine AK.ret (h' := p ++ h) Try.func39 (.tmp rfl .nil) ?_ (by first | exact SubO.sub | exact List.Sublist.refl _ | exact .cons _ (List.Sublist.refl _) | exact .cons _ (.cons _ (List.Sublist.refl _)) | exact .cons _ (.cons _ (.cons _ (List.Sublist.refl _))))
    exact ⟨A', c', p, rfl, hr, hc, rfl⟩

end Go.Proofs.Ytpobjhmbonojkaa
