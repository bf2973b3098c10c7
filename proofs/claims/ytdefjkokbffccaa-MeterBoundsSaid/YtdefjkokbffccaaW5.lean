/- Walks through the code: what each function that is named here gives back, from any memory that holds its arguments. Written by a program of the claim's author, out of the program's form in Lean. -/
import Derived.Test.YtdefjkokbffccaaW4
set_option linter.unusedSimpArgs false
set_option linter.unusedVariables false
namespace Go.Proofs.Ytdefjkokbffccaa
open Go.Sep Go.Sep.Meter

theorem in_spec (B : World) (h : Own) (n lo hi : Int) (hlh : lo ≤ hi) : Tri Try.prog B 15 [.int .i64 n, .int .i64 lo, .int .i64 hi] h fun v h' => h = h' ∧ v = .int .i64 (min (max n lo) hi) := by
  refine Tri.enter (n := 16) Try.func15 rfl rfl rfl ?_
  simp only [argsE, Nat.reduceAdd]
  try dsimp only [argsE]
  refine AK.seq ?_
  refine AK.region ?_
  refine AO.val (RV.assign rfl) (.none rfl) rfl ?_
  refine AO.nil ?_
  refine AK.seq ?_
  refine AK.seq ?_
  refine AK.region ?_
  refine AO.val (RV.move rfl) (.none rfl) rfl ?_
  refine AO.val (RV.move rfl) (.none rfl) rfl ?_
  refine AO.val (RV.lss rfl rfl) (.none rfl) rfl ?_
  refine AO.nil ?_
  refine AK.cond rfl ?_ ?_
  · intro hc1
    try simp only [decide_eq_true_eq, decide_eq_false_iff_not, Bool.not_eq_true', Bool.not_eq_false', beq_iff_eq] at hc1
    refine AK.seq ?_
    refine AK.region ?_
    refine AO.val (RV.move rfl) (.none rfl) rfl ?_
    refine AO.val (RV.assign rfl) (.none rfl) rfl ?_
    refine AO.nil ?_
    -- at T
    refine AK.ret (h' := h) Try.func15 (.tmp rfl .nil) ?_ (by first | exact SubO.sub | exact List.Sublist.refl _ | exact .cons _ (List.Sublist.refl _) | exact .cons _ (.cons _ (List.Sublist.refl _)) | exact .cons _ (.cons _ (.cons _ (List.Sublist.refl _))))
    refine ⟨rfl, ?_⟩
    simp only [oneOr, Value.int.injEq, true_and]; omega
  · intro hc1
    try simp only [decide_eq_true_eq, decide_eq_false_iff_not, Bool.not_eq_true', Bool.not_eq_false', beq_iff_eq] at hc1
    refine AK.skip ?_
    refine AK.seq ?_
    refine AK.seq ?_
    refine AK.region ?_
    refine AO.val (RV.move rfl) (.none rfl) rfl ?_
    refine AO.val (RV.move rfl) (.none rfl) rfl ?_
    refine AO.val (RV.gtr rfl rfl) (.none rfl) rfl ?_
    refine AO.nil ?_
    refine AK.cond rfl ?_ ?_
    · intro hc2
      try simp only [decide_eq_true_eq, decide_eq_false_iff_not, Bool.not_eq_true', Bool.not_eq_false', beq_iff_eq] at hc2
      refine AK.seq ?_
      refine AK.region ?_
      refine AO.val (RV.move rfl) (.none rfl) rfl ?_
      refine AO.val (RV.assign rfl) (.none rfl) rfl ?_
      refine AO.nil ?_
      -- at FT
      refine AK.ret (h' := h) Try.func15 (.tmp rfl .nil) ?_ (by first | exact SubO.sub | exact List.Sublist.refl _ | exact .cons _ (List.Sublist.refl _) | exact .cons _ (.cons _ (List.Sublist.refl _)) | exact .cons _ (.cons _ (.cons _ (List.Sublist.refl _))))
      refine ⟨rfl, ?_⟩
      simp only [oneOr, Value.int.injEq, true_and]; omega
    · intro hc2
      try simp only [decide_eq_true_eq, decide_eq_false_iff_not, Bool.not_eq_true', Bool.not_eq_false', beq_iff_eq] at hc2
      refine AK.skip ?_
      refine AK.seq ?_
      refine AK.region ?_
      refine AO.val (RV.move rfl) (.none rfl) rfl ?_
      refine AO.val (RV.assign rfl) (.none rfl) rfl ?_
      refine AO.nil ?_
      -- at FF
      refine AK.ret (h' := h) Try.func15 (.tmp rfl .nil) ?_ (by first | exact SubO.sub | exact List.Sublist.refl _ | exact .cons _ (List.Sublist.refl _) | exact .cons _ (.cons _ (List.Sublist.refl _)) | exact .cons _ (.cons _ (.cons _ (List.Sublist.refl _))))
      refine ⟨rfl, ?_⟩
      simp only [oneOr, Value.int.injEq, true_and]; omega

theorem rnew_spec (B : World) (h : Own) (a b c : Int) : Tri Try.prog B 6 [.int .i64 a, .int .i64 b, .int .i64 c] h fun v h' => ∃ q, h' = (q, Blk.cells [.int .i64 (newM a b c).size, .int .i64 (newM a b c).rate, .int .i64 (newM a b c).burst, .int .i64 0, .slice none 0 0] 36 (0, 0)) :: h ∧ v = .pointer (some ⟨q, 0, none⟩) := by
  refine Tri.enter (n := 15) Try.func6 rfl rfl rfl ?_
  simp only [argsE, Nat.reduceAdd]
  try dsimp only [argsE]
  refine AK.seq ?_
  refine AK.region ?_
  refine AO.val (RV.assign rfl) (.none rfl) rfl ?_
  refine AO.nil ?_
  refine AK.seq ?_
  refine AK.region ?_
  refine AO.val (RV.move rfl) (.none rfl) rfl ?_
  refine AO.eff (EF.callF rfl (in_spec B _ _ _ _ (by decide))) (.none rfl) rfl ?_
  rintro _ _ ⟨rfl, rfl⟩
  refine AO.val (RV.move rfl) (.none rfl) rfl ?_
  refine AO.eff (EF.callF rfl (in_spec B _ _ _ _ (by decide))) (.none rfl) rfl ?_
  rintro _ _ ⟨rfl, rfl⟩
  refine AO.val (RV.move rfl) (.none rfl) rfl ?_
  refine AO.eff (EF.callF rfl (in_spec B _ _ _ _ (by decide))) (.none rfl) rfl ?_
  rintro _ _ ⟨rfl, rfl⟩
  refine AO.val (RV.build rfl (.cons rfl rfl rfl rfl (.cons rfl rfl rfl rfl (.cons rfl rfl rfl rfl .nil)))) (.none rfl) rfl ?_
  refine AO.eff (EF.box rfl rfl) (.none rfl) rfl ?_
  rintro _ _ ⟨b14, hf14, rfl, rfl⟩
  refine AO.val (RV.assign rfl) (.none rfl) rfl ?_
  refine AO.nil ?_
  -- at 
  refine AK.ret (h' := (b14, Blk.cells [.int .i64 (newM a b c).size, .int .i64 (newM a b c).rate, .int .i64 (newM a b c).burst, .int .i64 0, .slice none 0 0] 36 (0, 0)) :: h) Try.func6 (.tmp rfl .nil) ?_ (List.Sublist.refl _)
  exact ⟨b14, rfl, rfl⟩

theorem find_spec (B : World) (pre h : Own) (q : Nat) (z r b n : Int) {A : Option Addr} {cap : Nat} (L : List Tok) (hsl : Src B h A L.length 3 (flat encOn L)) (hll : L.length ≤ 100) (k : Int) : Tri Try.prog B 14 [.pointer (some ⟨q, 0, none⟩), .int .u32 k] (pre ++ ((q, Blk.cells [.int .i64 z, .int .i64 r, .int .i64 b, .int .i64 n, .slice A L.length cap] 36 (0, 0)) :: h)) fun v h' => (pre ++ ((q, Blk.cells [.int .i64 z, .int .i64 r, .int .i64 b, .int .i64 n, .slice A L.length cap] 36 (0, 0)) :: h)) = h' ∧ v = .int .i64 (findQ L k) := by
  refine Tri.enter (n := 26) Try.func14 rfl rfl rfl ?_
  simp only [argsE, Nat.reduceAdd]
  try dsimp only [argsE]
  refine AK.seq ?_
  refine AK.region ?_
  refine AO.val (RV.assign rfl) (.none rfl) rfl ?_
  refine AO.nil ?_
  refine AK.seq ?_
  refine AK.seq ?_
  refine AK.region ?_
  refine AO.val (RV.assign rfl) (.none rfl) rfl ?_
  refine AO.nil ?_
  refine AK.block ?_
  refine AK.loop (α := Int) (E := fun i => [(0, .pointer (some ⟨q, 0, none⟩)), (1, .int .u32 k), (5, .int .i64 i)]) (H := fun i => pre ++ ((q, Blk.cells [.int .i64 z, .int .i64 r, .int .i64 b, .int .i64 n, .slice A L.length cap] 36 (0, 0)) :: h)) (Inv := fun i => 0 ≤ i ∧ i ≤ L.length ∧ ∀ j, 0 ≤ j → j < i → (lget L j).1 ≠ k) (μ := fun i => (L.length - i).toNat) 0 ?_ (.cons (by exact rfl) (.cons (by exact rfl) (.cons (by exact rfl) .nil))) ?_ ?_
  · exact ⟨by omega, by omega, fun j h1 h2 => by omega⟩
  · exact List.Sublist.refl _
  rintro i ⟨hi0, hin, hall⟩ hih0
  try dsimp only at hih0 ⊢
  refine AK.seq ?_
  refine AK.seq ?_
  refine AK.region ?_
  refine AO.val (RV.move rfl) (.none rfl) rfl ?_
  refine AO.val (RV.move rfl) (.none rfl) rfl ?_
  refine AO.val (RV.nilCheck rfl) (.none rfl) rfl ?_
  refine AO.val (by first | exact RV.fieldAddr rfl | exact RV.fieldAddrA rfl) (.none rfl) rfl ?_
  refine AO.val (by first | exact RV.loadO rfl rfl (by simp) | exact RV.loadSF rfl (by assumption) (fun _ => rfl) (by omega) rfl rfl (by simp) | exact RV.loadS rfl (by assumption) (by omega) (by simp)) (.none rfl) rfl ?_
  refine AO.val (RV.lenS rfl) (.none rfl) rfl ?_
  refine AO.val (RV.lss rfl rfl) (.none rfl) rfl ?_
  refine AO.nil ?_
  refine AK.cond rfl ?_ ?_
  · intro hc1
    try simp only [decide_eq_true_eq, decide_eq_false_iff_not, Bool.not_eq_true', Bool.not_eq_false', beq_iff_eq] at hc1
    refine AK.skip ?_
    refine AK.seq ?_
    refine AK.block ?_
    refine AK.seq ?_
    refine AK.region ?_
    refine AO.val (RV.move rfl) (.none rfl) rfl ?_
    refine AO.val (RV.nilCheck rfl) (.none rfl) rfl ?_
    refine AO.val (by first | exact RV.fieldAddr rfl | exact RV.fieldAddrA rfl) (.none rfl) rfl ?_
    refine AO.val (by first | exact RV.loadO rfl rfl (by simp) | exact RV.loadSF rfl (by assumption) (fun _ => rfl) (by omega) rfl rfl (by simp) | exact RV.loadS rfl (by assumption) (by omega) (by simp)) (.none rfl) rfl ?_
    refine AO.val (RV.move rfl) (.none rfl) rfl ?_
    refine AO.val (by first | exact RV.indexS rfl rfl (by assumption) (by omega) rfl | exact RV.indexAddr rfl rfl (by omega)) (.none rfl) rfl ?_
    refine AO.val (by first | exact RV.fieldAddr rfl | exact RV.fieldAddrA rfl) (.none rfl) rfl ?_
    refine AO.val (by first | exact RV.loadO rfl rfl (by simp) | exact RV.loadSF rfl (by assumption) (fun _ => rfl) (by omega) rfl rfl (by simp) | exact RV.loadS rfl (by assumption) (by omega) (by simp)) (.none rfl) rfl ?_
    refine AO.val (RV.move rfl) (.none rfl) rfl ?_
    refine AO.val (RV.eql rfl rfl) (.none rfl) rfl ?_
    refine AO.nil ?_
    refine AK.cond rfl ?_ ?_
    · intro hc2
      try simp only [decide_eq_true_eq, decide_eq_false_iff_not, Bool.not_eq_true', Bool.not_eq_false', beq_iff_eq] at hc2
      refine AK.seq ?_
      refine AK.region ?_
      refine AO.val (RV.move rfl) (.none rfl) rfl ?_
      refine AO.val (RV.assign rfl) (.none rfl) rfl ?_
      refine AO.nil ?_
      -- at L0TT
      clear hih0
      refine AK.ret (h' := (pre ++ ((q, Blk.cells [.int .i64 z, .int .i64 r, .int .i64 b, .int .i64 n, .slice A L.length cap] 36 (0, 0)) :: h))) Try.func14 (.tmp rfl .nil) ?_ (by first | exact SubO.sub | exact List.Sublist.refl _ | exact .cons _ (List.Sublist.refl _) | exact .cons _ (.cons _ (List.Sublist.refl _)) | exact .cons _ (.cons _ (.cons _ (List.Sublist.refl _))))
      refine ⟨rfl, ?_⟩
      rw [findQ_at L k i ⟨hi0, by omega⟩ hc2 hall]; rfl
    · intro hc2
      try simp only [decide_eq_true_eq, decide_eq_false_iff_not, Bool.not_eq_true', Bool.not_eq_false', beq_iff_eq] at hc2
      refine AK.skip ?_
      refine AK.inBlock ?_
      refine AK.region ?_
      refine AO.val (RV.move rfl) (.none rfl) rfl ?_
      refine AO.val (by first | exact RV.addIn rfl rfl (by omega) | exact RV.add rfl rfl) (.none rfl) rfl ?_
      refine AO.val (RV.assign rfl) (.none rfl) rfl ?_
      refine AO.nil ?_
      -- round ends at L0TF
      refine AK.weak (.cons (by exact rfl) (.cons (by exact rfl) (.cons (by exact rfl) .nil))) (by first | exact SubO.sub | exact List.Sublist.refl _ | exact .cons _ (List.Sublist.refl _) | exact .cons _ (.cons _ (List.Sublist.refl _)) | exact .cons _ (.cons _ (.cons _ (List.Sublist.refl _)))) (hih0 (i + 1) ?_ ?_)
      · try dsimp only
        refine ⟨by omega, by omega, fun j h1 h2 => ?_⟩
        by_cases hj : j = i
        · subst hj; assumption
        · exact hall j h1 (by omega)
      · try dsimp only
        omega
  · intro hc1
    try simp only [decide_eq_true_eq, decide_eq_false_iff_not, Bool.not_eq_true', Bool.not_eq_false', beq_iff_eq] at hc1
    refine AK.exit rfl ?_
    refine AK.seq ?_
    refine AK.region ?_
    refine AO.val (RV.assign rfl) (.none rfl) rfl ?_
    refine AO.nil ?_
    -- at L0F
    clear hih0
    refine AK.ret (h' := (pre ++ ((q, Blk.cells [.int .i64 z, .int .i64 r, .int .i64 b, .int .i64 n, .slice A L.length cap] 36 (0, 0)) :: h))) Try.func14 (.tmp rfl .nil) ?_ (by first | exact SubO.sub | exact List.Sublist.refl _ | exact .cons _ (List.Sublist.refl _) | exact .cons _ (.cons _ (List.Sublist.refl _)) | exact .cons _ (.cons _ (.cons _ (List.Sublist.refl _))))
    refine ⟨rfl, ?_⟩
    rw [findQ_none L k (fun j h1 h2 => hall j h1 (by omega))]; rfl

end Go.Proofs.Ytdefjkokbffccaa
