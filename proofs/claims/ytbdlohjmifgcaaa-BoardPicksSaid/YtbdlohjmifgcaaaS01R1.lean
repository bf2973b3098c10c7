/- Walks through the code: what each function that is named here gives back, from any memory that holds its arguments. Written by a program of the claim's author, out of the program's form in Lean. -/
import Derived.Test.YtbdlohjmifgcaaaFacts
import Derived.Test.YtbdlohjmifgcaaaPlain01
set_option linter.unusedSimpArgs false
set_option linter.unusedVariables false
namespace Go.Proofs.Ytbdlohjmifgcaaa
open Go.Sep Go.Sep.Sip

theorem add_spec (B : World) (h : Own) {A A2 : Option Addr} {cap cap2 : Nat} (l m : List Int) (hl : Src B h A l.length 1 (l.map (fun x => Value.int .u8 x))) (hm : Src B h A2 m.length 1 (m.map (fun x => Value.int .u8 x))) (hlen : l.length + m.length ≤ 1000000) : Tri Try.prog B 53 [.slice A l.length cap, .slice A2 m.length cap2] h fun v h' => NewS 5 1 (l ++ m).length ((l ++ m).map (fun x => Value.int .u8 x)) h v h' := by
  refine Tri.enter (n := 13) Try.func53 rfl rfl rfl ?_
  simp only [argsE, Nat.reduceAdd]
  try dsimp only [argsE]
  refine AK.seq ?_
  refine AK.region ?_
  refine AO.val (RV.assign rfl) (.none rfl) rfl ?_
  refine AO.nil ?_
  refine AK.seq ?_
  refine AK.region ?_
  refine AO.eff (EF.buildSeq [] rfl rfl rfl rfl) (.none rfl) rfl ?_
  rintro _ _ ⟨b6, hf6, rfl, rfl⟩
  refine AO.val (RV.assign rfl) (.none rfl) rfl ?_
  refine AO.nil ?_
  refine AK.seq ?_
  refine AK.region ?_
  refine AO.val (RV.move rfl) (.none rfl) rfl ?_
  refine AO.val (RV.move rfl) (.none rfl) rfl ?_
  refine AO.eff (EF.append rfl rfl (Row.new rfl) (List.Perm.refl _) hl.sub rfl (by decide) (by simp [Value.oneCell']) (by simp; omega) (by simp; omega)) (.none rfl) rfl ?_
  rintro v9 _ ⟨p1, hr1, rfl⟩
  refine AO.val (RV.assign rfl) (.none rfl) rfl ?_
  refine AO.nil ?_
  refine AK.seq ?_
  refine AK.region ?_
  refine AO.val (RV.move rfl) (.none rfl) rfl ?_
  refine AO.val (RV.move rfl) (.none rfl) rfl ?_
  refine AO.eff (EF.append rfl rfl hr1 (List.Perm.refl _) hm.sub rfl (by decide) (by simp [Value.oneCell']) (by simp; omega) (by simp; omega)) (.none rfl) rfl ?_
  rintro v12 _ ⟨p2, hr2, rfl⟩
  obtain ⟨A3, c3, rfl, hc3, hall⟩ := hr2.slice
  have hlen2 : 0 + l.length + m.length = (l ++ m).length := by simp
  rw [hlen2] at hr2 hc3 ⊢
  simp only [zerosL, List.nil_append, ← List.map_append] at hr2
  refine AO.val (RV.assign rfl) (.none rfl) rfl ?_
  refine AO.nil ?_
  -- at 
  refine AK.ret (h' := p2 ++ h) Try.func53 (.tmp rfl .nil) ?_ (by first | exact SubO.sub | exact List.Sublist.refl _ | exact .cons _ (List.Sublist.refl _) | exact .cons _ (.cons _ (List.Sublist.refl _)) | exact .cons _ (.cons _ (.cons _ (List.Sublist.refl _))))
  exact ⟨A3, c3, p2, rfl, hr2, hc3, rfl⟩

theorem put_spec (B : World) (h : Own) (x s : Int) (hx : 0 ≤ x ∧ x ≤ 4294967295) (hs : 0 ≤ s ∧ s ≤ 100) : Tri Try.prog B 54 [.int .u32 x, .int .i64 s] h fun v h' => NewS 5 1 s.toNat ((beR s.toNat x).map (fun x => Value.int .u8 x)) h v h' := by
  have hz : zerosL s.toNat [.int .u8 0] = flat encB (List.replicate s.toNat 0) := by
    generalize s.toNat = k
    induction k with
    | zero => rfl
    | succ k ih => rw [List.replicate_succ]; simp only [zerosL, flat, List.flatMap_cons] at *; rw [ih]
  refine Tri.enter (n := 26) Try.func54 rfl rfl rfl ?_
  simp only [argsE, Nat.reduceAdd]
  try dsimp only [argsE]
  refine AK.seq ?_
  refine AK.region ?_
  refine AO.val (RV.assign rfl) (.none rfl) rfl ?_
  refine AO.nil ?_
  refine AK.seq ?_
  refine AK.region ?_
  refine AO.val (RV.move rfl) (.none rfl) rfl ?_
  refine AO.eff (EF.makeSlice rfl rfl rfl (by omega) (by omega) (by omega)) (.none rfl) rfl ?_
  rintro _ _ ⟨b8, hf8, rfl, rfl⟩
  rw [hz]
  refine AO.val (RV.assign rfl) (.none rfl) rfl ?_
  refine AO.nil ?_
  refine AK.seq ?_
  refine AK.seq ?_
  refine AK.region ?_
  refine AO.val (RV.assign rfl) (.none rfl) rfl ?_
  refine AO.nil ?_
  refine AK.block ?_
  generalize hx0 : x = x0
  have hx1 : 0 ≤ x0 ∧ x0 ≤ 4294967295 := hx0 ▸ hx
  clear hx0 hx
  refine AK.loop (α := Int × Nat × List Int) (E := fun (x, i, low) => [(0, .int .u32 x), (1, .int .i64 s), (5, .slice (some ⟨b8, 0, none⟩) s.toNat s.toNat), (6, .int .i64 i)]) (H := fun (x, i, low) => (b8, Blk.cells (flat encB (List.replicate (s.toNat - i) 0 ++ low)) 5 (0, 0)) :: h) (Inv := fun (x, i, low) => (0 ≤ x ∧ x ≤ 4294967295) ∧ i ≤ s.toNat ∧ low.length = i ∧ beR (s.toNat - i) x ++ low = beR s.toNat x0) (μ := fun (x, i, low) => s.toNat - i) (x0, 0, []) ?_ (.cons (by exact rfl) (.cons (by exact rfl) (.cons (by exact rfl) (.cons (by exact rfl) .nil)))) ?_ ?_
  · exact ⟨hx1, by omega, rfl, by simp⟩
  · (try dsimp only)
    rw [Nat.sub_zero, List.append_nil]
    exact List.Sublist.refl _
  rintro ⟨x, i, low⟩ ⟨hx, hi, hlow, hbe⟩ hih0
  try dsimp only at hih0 ⊢
  have hlr : (List.replicate (s.toNat - i) (0 : Int) ++ low).length = s.toNat := by simp [hlow]; omega
  refine AK.seq ?_
  refine AK.seq ?_
  refine AK.region ?_
  refine AO.val (RV.move rfl) (.none rfl) rfl ?_
  refine AO.val (RV.move rfl) (.none rfl) rfl ?_
  refine AO.val (RV.lss rfl rfl) (.none rfl) rfl ?_
  refine AO.nil ?_
  refine AK.cond rfl ?_ ?_
  · intro hc1
    try simp only [decide_eq_true_eq, decide_eq_false_iff_not, Bool.not_eq_true', Bool.not_eq_false', beq_iff_eq] at hc1
    refine AK.skip ?_
    refine AK.seq ?_
    refine AK.block ?_
    refine AK.seq ?_
    refine AK.region ?_
    refine AO.val (RV.move rfl) (.none rfl) rfl ?_
    refine AO.val (RV.move rfl) (.none rfl) rfl ?_
    refine AO.val (by first | exact RV.subIn rfl rfl (by omega) | exact RV.sub rfl rfl) (.none rfl) rfl ?_
    refine AO.val (RV.move rfl) (.none rfl) rfl ?_
    refine AO.val (by first | exact RV.subIn rfl rfl (by omega) | exact RV.sub rfl rfl) (.none rfl) rfl ?_
    refine AO.val (RV.move rfl) (.none rfl) rfl ?_
    refine AO.val (by first | exact RV.remIn rfl rfl (by omega) | exact RV.rem rfl rfl (by omega)) (.none rfl) rfl ?_
    refine AO.val ((RV.conv rfl).to (v' := .int .u8 (x % 256)) (by rw [wrap_in] <;> simp only [kb] <;> omega)) (.none rfl) rfl ?_
    refine AO.val (by first | exact RV.indexO rfl rfl (by omega) | exact RV.indexS rfl rfl (by assumption) (by omega) rfl | exact RV.indexAddr rfl rfl (by omega)) (.none rfl) rfl ?_
    refine AO.effN (EF.storeF0 (x % 256) rfl rfl (fun _ => rfl) (by omega) rfl rfl rfl (Nat.le_of_ble_eq_true rfl) rfl) (.none rfl) ?_
    rintro _ _ rfl
    refine AO.nil ?_
    refine AK.region ?_
    refine AO.val (RV.move rfl) (.none rfl) rfl ?_
    refine AO.val (by first | exact RV.quoIn rfl rfl (by simp only [kb]; omega) | exact RV.quo rfl rfl (by omega)) (.none rfl) rfl ?_
    refine AO.val (RV.assign rfl) (.none rfl) rfl ?_
    refine AO.nil ?_
    refine AK.inBlock ?_
    refine AK.region ?_
    refine AO.val (RV.move rfl) (.none rfl) rfl ?_
    refine AO.val (by first | exact RV.addIn rfl rfl (by omega) | exact RV.add rfl rfl) (.none rfl) rfl ?_
    refine AO.val (RV.assign rfl) (.none rfl) rfl ?_
    refine AO.nil ?_
    -- round ends at L0T
    obtain ⟨k, hk⟩ : ∃ k, s.toNat - i = k + 1 := ⟨s.toNat - i - 1, by omega⟩
    have hk2 : s.toNat - (i + 1) = k := by omega
    have hki : s - 1 - (i : Int) = (k : Int) := by omega
    rw [hki, hk, put_row]
    refine AK.weak (.cons (by exact rfl) (.cons (by exact rfl) (.cons (by exact rfl) (.cons (by exact rfl) .nil)))) (by try dsimp only; rw [hk2]; exact List.Sublist.refl _) (hih0 (x / 256, i + 1, x % 256 :: low) ?_ ?_)
    · try dsimp only
      refine ⟨⟨by omega, by omega⟩, by omega, by simp [hlow], ?_⟩
      rw [hk2, ← hbe, hk, beR]; simp
    · try dsimp only
      omega
  · intro hc1
    try simp only [decide_eq_true_eq, decide_eq_false_iff_not, Bool.not_eq_true', Bool.not_eq_false', beq_iff_eq] at hc1
    refine AK.exit rfl ?_
    refine AK.seq ?_
    refine AK.region ?_
    refine AO.val (RV.move rfl) (.none rfl) rfl ?_
    refine AO.val (RV.assign rfl) (.none rfl) rfl ?_
    refine AO.nil ?_
    -- at L0F
    clear hih0
    have hi2 : s.toNat - i = 0 := by omega
    rw [hi2] at hbe ⊢
    simp only [List.replicate_zero, List.nil_append] at hbe ⊢
    have hbe : low = beR s.toNat x0 := hbe
    rw [flat_encB, hbe]
    refine AK.ret (h' := _) Try.func54 (.tmp rfl .nil) ?_ (List.Sublist.refl _)
    exact (Row.new (by rw [List.length_map, beR_len, Nat.mul_one])).newS

end Go.Proofs.Ytbdlohjmifgcaaa
