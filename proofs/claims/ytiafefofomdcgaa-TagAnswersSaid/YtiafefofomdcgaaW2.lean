/- Walks through the code: what each function that is named here gives back, from any memory that holds its arguments. Written by a program of the claim's author, out of the program's form in Lean. -/
import Derived.Test.YtiafefofomdcgaaW1
set_option linter.unusedSimpArgs false
set_option linter.unusedVariables false
namespace Go.Proofs.Ytiafefofomdcgaa
open Go.Sep Go.Sep.Sip Go.Sep.Tag

set_option maxHeartbeats 1000000 in
theorem put_o_spec (B : World) (h : Own) (lo hi : Int) (o : Ord) (ko : OOk o) : Tri Try.prog B 6 [.agg #[.int .u64 lo, .int .u64 hi], .agg (encO o).toArray] h fun v h' => ∃ w, v = .tuple #[w, .int .i64 (if okO o = true then 0 else 2)] ∧ NewS 5 1 ((if okO o = true then signB lo hi (bodyB o) else [])).length (((if okO o = true then signB lo hi (bodyB o) else [])).map (fun x => Value.int .u8 x)) h w h' := by
  have hko1 := ko.cnt
  have hko2 := ko.addr
  have hko3 := ko.port
  have hko4 := ko.proto
  refine Tri.enter (n := 67) Try.func6 rfl rfl rfl ?_
  simp only [argsE, Nat.reduceAdd]
  try dsimp only [argsE]
  refine AK.seq ?_
  refine AK.region ?_
  refine AO.eff (EF.box rfl rfl) (.none rfl) rfl ?_
  rintro _ _ ⟨b2, hf2, rfl, rfl⟩
  refine AO.eff (EF.box rfl rfl) (.none rfl) rfl ?_
  rintro _ _ ⟨b3, hf3, rfl, rfl⟩
  refine AO.val (RV.assign rfl) (.none rfl) rfl ?_
  refine AO.val (RV.assign rfl) (.none rfl) rfl ?_
  refine AO.nil ?_
  refine AK.seq ?_
  refine AK.seq ?_
  refine AK.region ?_
  refine AO.val (RV.fieldAddr rfl) (.none rfl) rfl ?_
  refine AO.val (by first | exact RV.loadO rfl rfl (by simp) | exact RV.loadS rfl (by assumption) (by omega) (by simp)) (.none rfl) rfl ?_
  refine AO.eff (EF.callF rfl (within_spec B _ _ _)) (.none rfl) rfl ?_
  rintro _ _ ⟨rfl, rfl⟩
  refine AO.val (RV.not rfl) (.none rfl) rfl ?_
  refine AO.val (RV.move rfl) (.none rfl) rfl ?_
  refine AO.caseG rfl rfl rfl ?_ ?_
  · intro hg1
    try simp only [decide_eq_true_eq, decide_eq_false_iff_not, Bool.not_eq_true', Bool.not_eq_false', beq_iff_eq] at hg1
    refine AO.pass (.some rfl rfl rfl rfl) rfl ?_
    refine AO.pass (.some rfl rfl rfl rfl) rfl ?_
    refine AO.pass (.some rfl rfl rfl rfl) rfl ?_
    refine AO.pass (.some rfl rfl rfl rfl) rfl ?_
    refine AO.val (RV.pickT rfl rfl) (.none rfl) rfl ?_
    refine AO.val (RV.move rfl) (.none rfl) rfl ?_
    refine AO.pass (.some rfl rfl rfl rfl) rfl ?_
    refine AO.pass (.some rfl rfl rfl rfl) rfl ?_
    refine AO.pass (.some rfl rfl rfl rfl) rfl ?_
    refine AO.pass (.some rfl rfl rfl rfl) rfl ?_
    refine AO.val (RV.pickT rfl rfl) (.none rfl) rfl ?_
    refine AO.val (RV.move rfl) (.none rfl) rfl ?_
    refine AO.pass (.some rfl rfl rfl rfl) rfl ?_
    refine AO.pass (.some rfl rfl rfl rfl) rfl ?_
    refine AO.pass (.some rfl rfl rfl rfl) rfl ?_
    refine AO.pass (.some rfl rfl rfl rfl) rfl ?_
    refine AO.val (RV.pickT rfl rfl) (.none rfl) rfl ?_
    refine AO.nil ?_
    refine AK.condT rfl ?_
    refine AK.seq ?_
    refine AK.region ?_
    refine AO.val (RV.assign rfl) (.none rfl) rfl ?_
    refine AO.val (RV.assign rfl) (.none rfl) rfl ?_
    refine AO.nil ?_
    -- at t
    have hok : okO o = false := by simp only [okO, decide_eq_false_iff_not]; omega
    refine AK.ret (h' := h) Try.func6 (.tmp rfl (.tmp rfl .nil)) ?_ (by exact SubO.sub)
    rw [hok]
    exact ⟨_, rfl, none, 0, [], rfl, .nil, Nat.le_refl _, rfl⟩
  · intro hg1
    try simp only [decide_eq_true_eq, decide_eq_false_iff_not, Bool.not_eq_true', Bool.not_eq_false', beq_iff_eq] at hg1
    refine AO.val (RV.fieldAddr rfl) (.some rfl rfl rfl rfl) rfl ?_
    refine AO.val (by first | exact RV.loadO rfl rfl (by simp) | exact RV.loadS rfl (by assumption) (by omega) (by simp)) (.some rfl rfl rfl rfl) rfl ?_
    refine AO.eff (EF.callF rfl (within_spec B _ _ _)) (.some rfl rfl rfl rfl) rfl ?_
    rintro _ _ ⟨rfl, rfl⟩
    refine AO.val (RV.not rfl) (.some rfl rfl rfl rfl) rfl ?_
    refine AO.val (RV.pickF rfl rfl) (.none rfl) rfl ?_
    refine AO.val (RV.move rfl) (.none rfl) rfl ?_
    refine AO.caseG rfl rfl rfl ?_ ?_
    · intro hg2
      try simp only [decide_eq_true_eq, decide_eq_false_iff_not, Bool.not_eq_true', Bool.not_eq_false', beq_iff_eq] at hg2
      refine AO.pass (.some rfl rfl rfl rfl) rfl ?_
      refine AO.pass (.some rfl rfl rfl rfl) rfl ?_
      refine AO.pass (.some rfl rfl rfl rfl) rfl ?_
      refine AO.pass (.some rfl rfl rfl rfl) rfl ?_
      refine AO.val (RV.pickT rfl rfl) (.none rfl) rfl ?_
      refine AO.val (RV.move rfl) (.none rfl) rfl ?_
      refine AO.pass (.some rfl rfl rfl rfl) rfl ?_
      refine AO.pass (.some rfl rfl rfl rfl) rfl ?_
      refine AO.pass (.some rfl rfl rfl rfl) rfl ?_
      refine AO.pass (.some rfl rfl rfl rfl) rfl ?_
      refine AO.val (RV.pickT rfl rfl) (.none rfl) rfl ?_
      refine AO.nil ?_
      refine AK.condT rfl ?_
      refine AK.seq ?_
      refine AK.region ?_
      refine AO.val (RV.assign rfl) (.none rfl) rfl ?_
      refine AO.val (RV.assign rfl) (.none rfl) rfl ?_
      refine AO.nil ?_
      -- at ft
      have hok : okO o = false := by simp only [okO, decide_eq_false_iff_not]; omega
      refine AK.ret (h' := h) Try.func6 (.tmp rfl (.tmp rfl .nil)) ?_ (by exact SubO.sub)
      rw [hok]
      exact ⟨_, rfl, none, 0, [], rfl, .nil, Nat.le_refl _, rfl⟩
    · intro hg2
      try simp only [decide_eq_true_eq, decide_eq_false_iff_not, Bool.not_eq_true', Bool.not_eq_false', beq_iff_eq] at hg2
      refine AO.val (RV.fieldAddr rfl) (.some rfl rfl rfl rfl) rfl ?_
      refine AO.val (by first | exact RV.loadO rfl rfl (by simp) | exact RV.loadS rfl (by assumption) (by omega) (by simp)) (.some rfl rfl rfl rfl) rfl ?_
      refine AO.eff (EF.callF rfl (within_spec B _ _ _)) (.some rfl rfl rfl rfl) rfl ?_
      rintro _ _ ⟨rfl, rfl⟩
      refine AO.val (RV.not rfl) (.some rfl rfl rfl rfl) rfl ?_
      refine AO.val (RV.pickF rfl rfl) (.none rfl) rfl ?_
      refine AO.val (RV.move rfl) (.none rfl) rfl ?_
      refine AO.caseG rfl rfl rfl ?_ ?_
      · intro hg3
        try simp only [decide_eq_true_eq, decide_eq_false_iff_not, Bool.not_eq_true', Bool.not_eq_false', beq_iff_eq] at hg3
        refine AO.pass (.some rfl rfl rfl rfl) rfl ?_
        refine AO.pass (.some rfl rfl rfl rfl) rfl ?_
        refine AO.pass (.some rfl rfl rfl rfl) rfl ?_
        refine AO.pass (.some rfl rfl rfl rfl) rfl ?_
        refine AO.val (RV.pickT rfl rfl) (.none rfl) rfl ?_
        refine AO.nil ?_
        refine AK.condT rfl ?_
        refine AK.seq ?_
        refine AK.region ?_
        refine AO.val (RV.assign rfl) (.none rfl) rfl ?_
        refine AO.val (RV.assign rfl) (.none rfl) rfl ?_
        refine AO.nil ?_
        -- at fft
        have hok : okO o = false := by simp only [okO, decide_eq_false_iff_not]; omega
        refine AK.ret (h' := h) Try.func6 (.tmp rfl (.tmp rfl .nil)) ?_ (by exact SubO.sub)
        rw [hok]
        exact ⟨_, rfl, none, 0, [], rfl, .nil, Nat.le_refl _, rfl⟩
      · intro hg3
        try simp only [decide_eq_true_eq, decide_eq_false_iff_not, Bool.not_eq_true', Bool.not_eq_false', beq_iff_eq] at hg3
        refine AO.val (RV.fieldAddr rfl) (.some rfl rfl rfl rfl) rfl ?_
        refine AO.val (by first | exact RV.loadO rfl rfl (by simp) | exact RV.loadS rfl (by assumption) (by omega) (by simp)) (.some rfl rfl rfl rfl) rfl ?_
        refine AO.eff (EF.callF rfl (within_spec B _ _ _)) (.some rfl rfl rfl rfl) rfl ?_
        rintro _ _ ⟨rfl, rfl⟩
        refine AO.val (RV.not rfl) (.some rfl rfl rfl rfl) rfl ?_
        refine AO.val (RV.pickF rfl rfl) (.none rfl) rfl ?_
        refine AO.nil ?_
        refine AK.cond rfl ?_ ?_
        · intro hc4
          try simp only [decide_eq_true_eq, decide_eq_false_iff_not, Bool.not_eq_true', Bool.not_eq_false', beq_iff_eq] at hc4
          refine AK.seq ?_
          refine AK.region ?_
          refine AO.val (RV.assign rfl) (.none rfl) rfl ?_
          refine AO.val (RV.assign rfl) (.none rfl) rfl ?_
          refine AO.nil ?_
          -- at fffT
          have hok : okO o = false := by simp only [okO, decide_eq_false_iff_not]; omega
          refine AK.ret (h' := h) Try.func6 (.tmp rfl (.tmp rfl .nil)) ?_ (by exact SubO.sub)
          rw [hok]
          exact ⟨_, rfl, none, 0, [], rfl, .nil, Nat.le_refl _, rfl⟩
        · intro hc4
          try simp only [decide_eq_true_eq, decide_eq_false_iff_not, Bool.not_eq_true', Bool.not_eq_false', beq_iff_eq] at hc4
          have hok : okO o = true := by simp only [okO, decide_eq_true_eq]; omega
          have hoi := okO_in hok
          have hid : beR 2 o.2.2.1 = [o.2.2.1 / 256, o.2.2.1 % 256] := by rw [be2, show o.2.2.1 / 256 % 256 = o.2.2.1 / 256 by omega]
          have hpo : beR 2 o.2.2.2.2.2.1 = [o.2.2.2.2.2.1 / 256, o.2.2.2.2.2.1 % 256] := by rw [be2, show o.2.2.2.2.2.1 / 256 % 256 = o.2.2.2.2.2.1 / 256 by omega]
          refine AK.skip ?_
          refine AK.seq ?_
          refine AK.draw [] [7] mixed ?_
          refine AD.takeP 0 rfl (by kernel_rfl) (RV.fieldAddr rfl) (.none rfl) rfl ?_
          refine AD.take 1 rfl (by kernel_rfl) (by first | exact RV.loadO rfl rfl (by simp) | exact RV.loadS rfl (by assumption) (by omega) (by simp)) (.none rfl) rfl ?_
          refine AD.takeP 3 rfl (by kernel_rfl) (RV.fieldAddr rfl) (.none rfl) rfl ?_
          refine AD.take 4 rfl (by kernel_rfl) (by first | exact RV.loadO rfl rfl (by simp) | exact RV.loadS rfl (by assumption) (by omega) (by simp)) (.none rfl) rfl ?_
          refine AD.takeP 5 rfl (by kernel_rfl) (RV.convIn rfl (by simp only [kb]; omega)) (.none rfl) rfl ?_
          refine AD.cut (α := Option Addr × Nat × Own × Nat) 2 #[true, true, true, true, true, true, true, false, false] (fun (A31, c31, p31, b35) e => (35, .slice (some ⟨b35, 0, none⟩) 1 1) :: (31, .slice A31 ((longB o.1).length) c31) :: e) (fun (A31, c31, p31, b35) h => (b35, Blk.cells [.int .u8 o.2.1] 5 (0, 0)) :: (p31 ++ (h))) (fun (A31, c31, p31, b35) => (Row 5 1 (.slice A31 ((longB o.1).length) c31) ((longB o.1).length) ((longB o.1).map (fun x => Value.int .u8 x)) p31) ∧ (((longB o.1).length) ≤ c31)) ?_ ?_
          · rintro ⟨A31, c31, p31, b35⟩ ⟨hr31, hc31⟩
            try dsimp only
            refine AD.one 7 (by kernel_rfl) (AE.eff rfl (show EF _ _ _ _ _ _ (NewS 5 1 ((longB o.1 ++ [o.2.1]).length) ((longB o.1 ++ [o.2.1]).map (fun x => Value.int .u8 x)) _) from EF.appendS (n' := (longB o.1 ++ [o.2.1]).length) (ys := (longB o.1 ++ [o.2.1]).map (fun x => Value.int .u8 x)) rfl rfl hr31 (Src.of_new (el := 5) (cs := [.int .u8 o.2.1]) (by simp) 1 1 (Nat.le_refl _)) (by simp [longB_len, beR_len, bodyB_len]) (by simp) rfl (by decide) rfl (by simp [longB_len, beR_len]) (by simp [longB_len, beR_len])) (.none rfl) rfl ?_)
            rintro _ _ ⟨A36, c36, p36, rfl, hr36, hc36, rfl⟩
            refine ⟨.inl (by kernel_rfl), ?_⟩
            refine AD.takeP 8 rfl (by kernel_rfl) (RV.assign rfl) (.none rfl) rfl ?_
            refine AD.done (by kernel_rfl) ?_
            refine AK.seq ?_
            refine AK.draw [] [10] mixed ?_
            refine AD.takeP 0 rfl (by kernel_rfl) (RV.move rfl) (.none rfl) rfl ?_
            refine AD.takeP 1 rfl (by kernel_rfl) (RV.fieldAddr rfl) (.none rfl) rfl ?_
            refine AD.take 2 rfl (by kernel_rfl) (by first | exact RV.loadO rfl rfl (by simp) | exact RV.loadS rfl (by assumption) (by omega) (by simp)) (.none rfl) rfl ?_
            refine AD.takeP 3 rfl (by kernel_rfl) (RV.convIn rfl (by simp only [kb]; omega)) (.none rfl) rfl ?_
            refine AD.takeP 6 rfl (by kernel_rfl) (RV.fieldAddr rfl) (.none rfl) rfl ?_
            refine AD.take 7 rfl (by kernel_rfl) (by first | exact RV.loadO rfl rfl (by simp) | exact RV.loadS rfl (by assumption) (by omega) (by simp)) (.none rfl) rfl ?_
            refine AD.takeP 8 rfl (by kernel_rfl) (RV.convIn rfl (by simp only [kb]; omega)) (.none rfl) rfl ?_
            refine AD.cut (α := Nat × Option Addr × Nat × Own × Nat) 2 #[true, true, true, true, true, true, true, true, true, true, false, false] (fun (b41, A42, c42, p42, b46) e => (46, .slice (some ⟨b46, 0, none⟩) 1 1) :: (42, .slice A42 (((longB o.1 ++ [o.2.1]) ++ beR 2 o.2.2.1).length) c42) :: (41, .slice (some ⟨b41, 0, none⟩) 1 1) :: e) (fun (b41, A42, c42, p42, b46) h => (b46, Blk.cells [.int .u8 o.2.2.2.1] 5 (0, 0)) :: (p42 ++ ((b41, Blk.cells [.int .u16 o.2.2.1] 26 (0, 0)) :: (h)))) (fun (b41, A42, c42, p42, b46) => (Row 5 1 (.slice A42 (((longB o.1 ++ [o.2.1]) ++ beR 2 o.2.2.1).length) c42) (((longB o.1 ++ [o.2.1]) ++ beR 2 o.2.2.1).length) (((longB o.1 ++ [o.2.1]) ++ beR 2 o.2.2.1).map (fun x => Value.int .u8 x)) p42) ∧ ((((longB o.1 ++ [o.2.1]) ++ beR 2 o.2.2.1).length) ≤ c42)) ?_ ?_
            · rintro ⟨b41, A42, c42, p42, b46⟩ ⟨hr42, hc42⟩
              try dsimp only
              refine AD.one 10 (by kernel_rfl) (AE.eff rfl (show EF _ _ _ _ _ _ (NewS 5 1 ((((longB o.1 ++ [o.2.1]) ++ beR 2 o.2.2.1) ++ [o.2.2.2.1]).length) ((((longB o.1 ++ [o.2.1]) ++ beR 2 o.2.2.1) ++ [o.2.2.2.1]).map (fun x => Value.int .u8 x)) _) from EF.appendS (n' := (((longB o.1 ++ [o.2.1]) ++ beR 2 o.2.2.1) ++ [o.2.2.2.1]).length) (ys := (((longB o.1 ++ [o.2.1]) ++ beR 2 o.2.2.1) ++ [o.2.2.2.1]).map (fun x => Value.int .u8 x)) rfl rfl hr42 (Src.of_new (el := 5) (cs := [.int .u8 o.2.2.2.1]) (by simp) 1 1 (Nat.le_refl _)) (by simp [longB_len, beR_len, bodyB_len]) (by simp) rfl (by decide) rfl (by simp [longB_len, beR_len]) (by simp [longB_len, beR_len])) (.none rfl) rfl ?_)
              rintro _ _ ⟨A47, c47, p47, rfl, hr47, hc47, rfl⟩
              refine ⟨.inl (by kernel_rfl), ?_⟩
              refine AD.takeP 11 rfl (by kernel_rfl) (RV.assign rfl) (.none rfl) rfl ?_
              refine AD.done (by kernel_rfl) ?_
              refine AK.seq ?_
              refine AK.draw [] [15] mixed ?_
              refine AD.takeP 0 rfl (by kernel_rfl) (RV.move rfl) (.none rfl) rfl ?_
              refine AD.takeP 1 rfl (by kernel_rfl) (RV.fieldAddr rfl) (.none rfl) rfl ?_
              refine AD.take 2 rfl (by kernel_rfl) (by first | exact RV.loadO rfl rfl (by simp) | exact RV.loadS rfl (by assumption) (by omega) (by simp)) (.none rfl) rfl ?_
              refine AD.takeP 5 rfl (by kernel_rfl) (RV.fieldAddr rfl) (.none rfl) rfl ?_
              refine AD.take 6 rfl (by kernel_rfl) (by first | exact RV.loadO rfl rfl (by simp) | exact RV.loadS rfl (by assumption) (by omega) (by simp)) (.none rfl) rfl ?_
              refine AD.takeP 9 rfl (by kernel_rfl) (RV.fieldAddr rfl) (.none rfl) rfl ?_
              refine AD.take 10 rfl (by kernel_rfl) (by first | exact RV.loadO rfl rfl (by simp) | exact RV.loadS rfl (by assumption) (by omega) (by simp)) (.none rfl) rfl ?_
              refine AD.takeP 11 rfl (by kernel_rfl) (RV.fieldAddr rfl) (.none rfl) rfl ?_
              refine AD.take 12 rfl (by kernel_rfl) (by first | exact RV.loadO rfl rfl (by simp) | exact RV.loadS rfl (by assumption) (by omega) (by simp)) (.none rfl) rfl ?_
              refine AD.takeP 13 rfl (by kernel_rfl) (RV.convIn rfl (by simp only [kb]; omega)) (.none rfl) rfl ?_
              refine AD.cut (α := Nat × Option Addr × Nat × Own × Nat × Option Addr × Nat × Own × Nat) 2 #[true, true, true, true, true, true, true, true, true, true, true, true, true, true, true, false, false] (fun (b51, A52, c52, p52, b55, A56, c56, p56, b62) e => (62, .slice (some ⟨b62, 0, none⟩) 2 2) :: (56, .slice A56 ((((((longB o.1 ++ [o.2.1]) ++ beR 2 o.2.2.1) ++ [o.2.2.2.1]) ++ beR 4 o.2.2.2.2.1) ++ beR 2 o.2.2.2.2.2.1).length) c56) :: (55, .slice (some ⟨b55, 0, none⟩) 1 1) :: (52, .slice A52 (((((longB o.1 ++ [o.2.1]) ++ beR 2 o.2.2.1) ++ [o.2.2.2.1]) ++ beR 4 o.2.2.2.2.1).length) c52) :: (51, .slice (some ⟨b51, 0, none⟩) 1 1) :: e) (fun (b51, A52, c52, p52, b55, A56, c56, p56, b62) h => (b62, Blk.cells [.int .u8 o.2.2.2.2.2.2.1, .int .u8 o.2.2.2.2.2.2.2.1] 5 (0, 0)) :: (p56 ++ ((b55, Blk.cells [.int .u16 o.2.2.2.2.2.1] 26 (0, 0)) :: (p52 ++ ((b51, Blk.cells [.int .u32 o.2.2.2.2.1] 25 (0, 0)) :: (h)))))) (fun (b51, A52, c52, p52, b55, A56, c56, p56, b62) => (Row 5 1 (.slice A52 (((((longB o.1 ++ [o.2.1]) ++ beR 2 o.2.2.1) ++ [o.2.2.2.1]) ++ beR 4 o.2.2.2.2.1).length) c52) (((((longB o.1 ++ [o.2.1]) ++ beR 2 o.2.2.1) ++ [o.2.2.2.1]) ++ beR 4 o.2.2.2.2.1).length) (((((longB o.1 ++ [o.2.1]) ++ beR 2 o.2.2.1) ++ [o.2.2.2.1]) ++ beR 4 o.2.2.2.2.1).map (fun x => Value.int .u8 x)) p52) ∧ ((((((longB o.1 ++ [o.2.1]) ++ beR 2 o.2.2.1) ++ [o.2.2.2.1]) ++ beR 4 o.2.2.2.2.1).length) ≤ c52) ∧ (Row 5 1 (.slice A56 ((((((longB o.1 ++ [o.2.1]) ++ beR 2 o.2.2.1) ++ [o.2.2.2.1]) ++ beR 4 o.2.2.2.2.1) ++ beR 2 o.2.2.2.2.2.1).length) c56) ((((((longB o.1 ++ [o.2.1]) ++ beR 2 o.2.2.1) ++ [o.2.2.2.1]) ++ beR 4 o.2.2.2.2.1) ++ beR 2 o.2.2.2.2.2.1).length) ((((((longB o.1 ++ [o.2.1]) ++ beR 2 o.2.2.1) ++ [o.2.2.2.1]) ++ beR 4 o.2.2.2.2.1) ++ beR 2 o.2.2.2.2.2.1).map (fun x => Value.int .u8 x)) p56) ∧ (((((((longB o.1 ++ [o.2.1]) ++ beR 2 o.2.2.1) ++ [o.2.2.2.1]) ++ beR 4 o.2.2.2.2.1) ++ beR 2 o.2.2.2.2.2.1).length) ≤ c56)) ?_ ?_
              · rintro ⟨b51, A52, c52, p52, b55, A56, c56, p56, b62⟩ ⟨hr52, hc52, hr56, hc56⟩
                try dsimp only
                refine AD.one 15 (by kernel_rfl) (AE.eff rfl (show EF _ _ _ _ _ _ (NewS 5 1 ((bodyB o).length) ((bodyB o).map (fun x => Value.int .u8 x)) _) from EF.appendS (n' := (bodyB o).length) (ys := (bodyB o).map (fun x => Value.int .u8 x)) rfl rfl hr56 (Src.of_new (el := 5) (cs := [.int .u8 o.2.2.2.2.2.2.1, .int .u8 o.2.2.2.2.2.2.2.1]) (by simp) 2 1 (Nat.le_refl _)) (by simp [longB_len, beR_len, bodyB_len]) (by rw [bodyB, hid, hpo]; simp) rfl (by decide) rfl (by simp [longB_len, beR_len]) (by simp [longB_len, beR_len])) (.none rfl) rfl ?_)
                rintro _ _ ⟨A63, c63, p63, rfl, hr63, hc63, rfl⟩
                refine ⟨.inl (by kernel_rfl), ?_⟩
                refine AD.takeP 16 rfl (by kernel_rfl) (RV.assign rfl) (.none rfl) rfl ?_
                refine AD.done (by kernel_rfl) ?_
                refine AK.seq ?_
                refine AK.region ?_
                refine AO.val (by first | exact RV.loadAggO rfl rfl (by simp) | exact RV.loadAggP rfl rfl rfl (by simp)) (.none rfl) rfl ?_
                refine AO.val (RV.move rfl) (.none rfl) rfl ?_
                refine AO.eff (EF.callF rfl (signed_spec (cap := c63) B _ lo hi (bodyB o) ((hr63.src (h := p63) (fun x hx => hx)).mono fun x hx => by simp [hx]) (bodyB_bytes hok ko) hc63 (by rw [bodyB_len]; decide))) (.none rfl) rfl ?_
                rintro _ _ ⟨A66, c66, p66, rfl, hr66, hc66, rfl⟩
                refine AO.val (RV.assign rfl) (.none rfl) rfl ?_
                refine AO.val (RV.assign rfl) (.none rfl) rfl ?_
                refine AO.nil ?_
                -- at fffF
                refine AK.ret (h' := p66 ++ h) Try.func6 (.tmp rfl (.tmp rfl .nil)) ?_ (by exact SubO.sub)
                rw [hok]
                exact ⟨_, rfl, A66, c66, p66, rfl, hr66, hc66, rfl⟩
              · intro hst0
                try dsimp only at hst0
                refine AD.cut (α := Nat × Option Addr × Nat × Own × Nat × Nat) 3 #[true, true, true, true, true, true, true, true, false, true, true, true, true, true, true, false, false] (fun (b51, A52, c52, p52, b55, b62) e => (62, .slice (some ⟨b62, 0, none⟩) 2 2) :: (55, .slice (some ⟨b55, 0, none⟩) 1 1) :: (52, .slice A52 (((((longB o.1 ++ [o.2.1]) ++ beR 2 o.2.2.1) ++ [o.2.2.2.1]) ++ beR 4 o.2.2.2.2.1).length) c52) :: (51, .slice (some ⟨b51, 0, none⟩) 1 1) :: e) (fun (b51, A52, c52, p52, b55, b62) h => (b62, Blk.cells [.int .u8 o.2.2.2.2.2.2.1, .int .u8 o.2.2.2.2.2.2.2.1] 5 (0, 0)) :: ((b55, Blk.cells [.int .u16 o.2.2.2.2.2.1] 26 (0, 0)) :: (p52 ++ ((b51, Blk.cells [.int .u32 o.2.2.2.2.1] 25 (0, 0)) :: (h))))) (fun (b51, A52, c52, p52, b55, b62) => (Row 5 1 (.slice A52 (((((longB o.1 ++ [o.2.1]) ++ beR 2 o.2.2.1) ++ [o.2.2.2.1]) ++ beR 4 o.2.2.2.2.1).length) c52) (((((longB o.1 ++ [o.2.1]) ++ beR 2 o.2.2.1) ++ [o.2.2.2.1]) ++ beR 4 o.2.2.2.2.1).length) (((((longB o.1 ++ [o.2.1]) ++ beR 2 o.2.2.1) ++ [o.2.2.2.1]) ++ beR 4 o.2.2.2.2.1).map (fun x => Value.int .u8 x)) p52) ∧ ((((((longB o.1 ++ [o.2.1]) ++ beR 2 o.2.2.1) ++ [o.2.2.2.1]) ++ beR 4 o.2.2.2.2.1).length) ≤ c52)) ?_ ?_
                · rintro ⟨b51, A52, c52, p52, b55, b62⟩ ⟨hr52, hc52⟩
                  try dsimp only
                  refine AD.one 8 (by kernel_rfl) (AE.eff rfl (show EF _ _ _ _ _ _ (NewS 5 1 ((((((longB o.1 ++ [o.2.1]) ++ beR 2 o.2.2.1) ++ [o.2.2.2.1]) ++ beR 4 o.2.2.2.2.1) ++ beR 2 o.2.2.2.2.2.1).length) ((((((longB o.1 ++ [o.2.1]) ++ beR 2 o.2.2.1) ++ [o.2.2.2.1]) ++ beR 4 o.2.2.2.2.1) ++ beR 2 o.2.2.2.2.2.1).map (fun x => Value.int .u8 x)) _) from EF.callF rfl ((put16_spec (cap := c52) (A2 := some ⟨b55, 0, none⟩) (cap2 := 1) B _ ((((longB o.1 ++ [o.2.1]) ++ beR 2 o.2.2.1) ++ [o.2.2.2.1]) ++ beR 4 o.2.2.2.2.1) [o.2.2.2.2.2.1] ((hr52.src (h := p52) (fun x hx => hx)).mono fun x hx => by simp [hx]) (by simp [longB_len, beR_len]) (Src.of_new (el := 26) (cs := [.int .u16 o.2.2.2.2.2.1]) (by simp) 1 1 (Nat.le_refl _)) (by simp)).mono fun v h2 r => r.to (by simp [longB_len, beR_len]) (by simp))) (.none rfl) rfl ?_)
                  rintro _ _ ⟨A56, c56, p56, rfl, hr56, hc56, rfl⟩
                  refine ⟨(by first | exact .inr fun x hx hM => hx | exact .inr fun x hx hM => List.mem_cons_of_mem _ hx | exact .inr fun x hx hM => List.mem_append_right _ hx), ?_⟩
                  refine AD.to rfl (by rfl) (.cons rfl (.cons rfl (.cons rfl (.cons rfl (.cons rfl (.drop rfl (.drop rfl (.drop rfl (.drop rfl (.drop rfl .refl)))))))))) (by first | exact List.Perm.refl _ | exact perm_count fun x => by simp only [List.count_append, List.count_cons, List.count_nil]; omega) (hst0 ⟨b51, A52, c52, p52, b55, A56, c56, p56, b62⟩ ⟨hr52, hc52, hr56, hc56⟩)
                · intro hst1
                  try dsimp only at hst1
                  refine AD.cut (α := Nat × Option Addr × Nat × Own × Nat) 4 #[true, true, true, true, true, true, true, true, false, true, true, true, true, true, false, false, false] (fun (b51, A52, c52, p52, b55) e => (55, .slice (some ⟨b55, 0, none⟩) 1 1) :: (52, .slice A52 (((((longB o.1 ++ [o.2.1]) ++ beR 2 o.2.2.1) ++ [o.2.2.2.1]) ++ beR 4 o.2.2.2.2.1).length) c52) :: (51, .slice (some ⟨b51, 0, none⟩) 1 1) :: e) (fun (b51, A52, c52, p52, b55) h => (b55, Blk.cells [.int .u16 o.2.2.2.2.2.1] 26 (0, 0)) :: (p52 ++ ((b51, Blk.cells [.int .u32 o.2.2.2.2.1] 25 (0, 0)) :: (h)))) (fun (b51, A52, c52, p52, b55) => (Row 5 1 (.slice A52 (((((longB o.1 ++ [o.2.1]) ++ beR 2 o.2.2.1) ++ [o.2.2.2.1]) ++ beR 4 o.2.2.2.2.1).length) c52) (((((longB o.1 ++ [o.2.1]) ++ beR 2 o.2.2.1) ++ [o.2.2.2.1]) ++ beR 4 o.2.2.2.2.1).length) (((((longB o.1 ++ [o.2.1]) ++ beR 2 o.2.2.1) ++ [o.2.2.2.1]) ++ beR 4 o.2.2.2.2.1).map (fun x => Value.int .u8 x)) p52) ∧ ((((((longB o.1 ++ [o.2.1]) ++ beR 2 o.2.2.1) ++ [o.2.2.2.1]) ++ beR 4 o.2.2.2.2.1).length) ≤ c52)) ?_ ?_
                  · rintro ⟨b51, A52, c52, p52, b55⟩ ⟨hr52, hc52⟩
                    try dsimp only
                    refine AD.many (i := 8) (l := [14]) (by kernel_rfl) (.cons ?_ (.cons ?_ (.nil)))
                    · skip
                      refine AE.eff rfl (show EF _ _ _ _ _ _ (NewS 5 1 ((((((longB o.1 ++ [o.2.1]) ++ beR 2 o.2.2.1) ++ [o.2.2.2.1]) ++ beR 4 o.2.2.2.2.1) ++ beR 2 o.2.2.2.2.2.1).length) ((((((longB o.1 ++ [o.2.1]) ++ beR 2 o.2.2.1) ++ [o.2.2.2.1]) ++ beR 4 o.2.2.2.2.1) ++ beR 2 o.2.2.2.2.2.1).map (fun x => Value.int .u8 x)) _) from EF.callF rfl ((put16_spec (cap := c52) (A2 := some ⟨b55, 0, none⟩) (cap2 := 1) B _ ((((longB o.1 ++ [o.2.1]) ++ beR 2 o.2.2.1) ++ [o.2.2.2.1]) ++ beR 4 o.2.2.2.2.1) [o.2.2.2.2.2.1] ((hr52.src (h := p52) (fun x hx => hx)).mono fun x hx => by simp [hx]) (by simp [longB_len, beR_len]) (Src.of_new (el := 26) (cs := [.int .u16 o.2.2.2.2.2.1]) (by simp) 1 1 (Nat.le_refl _)) (by simp)).mono fun v h2 r => r.to (by simp [longB_len, beR_len]) (by simp))) (.none rfl) rfl ?_
                      rintro _ _ ⟨A56, c56, p56, rfl, hr56, hc56, rfl⟩
                      refine ⟨(by first | exact .inr fun x hx hM => hx | exact .inr fun x hx hM => List.mem_cons_of_mem _ hx | exact .inr fun x hx hM => List.mem_append_right _ hx), ?_⟩
                      refine AD.one 14 (by kernel_rfl) (AE.eff rfl (EF.buildSeq [.int .u8 o.2.2.2.2.2.2.1, .int .u8 o.2.2.2.2.2.2.2.1] rfl rfl rfl rfl) (.none rfl) rfl ?_)
                      rintro _ _ ⟨b62, hf62, rfl, rfl⟩
                      refine ⟨(by first | exact .inr fun x hx hM => hx | exact .inr fun x hx hM => List.mem_cons_of_mem _ hx | exact .inr fun x hx hM => List.mem_append_right _ hx), ?_⟩
                      refine AD.to rfl (by rfl) (.cons rfl (.cons rfl (.cons rfl (.cons rfl (.cons rfl (.drop rfl (.drop rfl (.drop rfl (.drop rfl (.drop rfl .refl)))))))))) (by first | exact List.Perm.refl _ | exact perm_count fun x => by simp only [List.count_append, List.count_cons, List.count_nil]; omega) (hst0 ⟨b51, A52, c52, p52, b55, A56, c56, p56, b62⟩ ⟨hr52, hc52, hr56, hc56⟩)
                    · skip
                      refine AE.eff rfl (EF.buildSeq [.int .u8 o.2.2.2.2.2.2.1, .int .u8 o.2.2.2.2.2.2.2.1] rfl rfl rfl rfl) (.none rfl) rfl ?_
                      rintro _ _ ⟨b62, hf62, rfl, rfl⟩
                      refine ⟨(by first | exact .inr fun x hx hM => hx | exact .inr fun x hx hM => List.mem_cons_of_mem _ hx | exact .inr fun x hx hM => List.mem_append_right _ hx), ?_⟩
                      refine AD.to rfl (by rfl) (.cons rfl (.cons rfl (.cons rfl (.cons rfl (.drop rfl (.drop rfl (.drop rfl (.drop rfl .refl)))))))) (by first | exact List.Perm.refl _ | exact perm_count fun x => by simp only [List.count_append, List.count_cons, List.count_nil]; omega) (hst1 ⟨b51, A52, c52, p52, b55, b62⟩ ⟨hr52, hc52⟩)
                  · intro hst2
                    try dsimp only at hst2
                    refine AD.cut (α := Nat × Option Addr × Nat × Own × Nat) 4 #[true, true, true, true, true, true, true, false, false, true, true, true, true, true, true, false, false] (fun (b51, A52, c52, p52, b62) e => (62, .slice (some ⟨b62, 0, none⟩) 2 2) :: (52, .slice A52 (((((longB o.1 ++ [o.2.1]) ++ beR 2 o.2.2.1) ++ [o.2.2.2.1]) ++ beR 4 o.2.2.2.2.1).length) c52) :: (51, .slice (some ⟨b51, 0, none⟩) 1 1) :: e) (fun (b51, A52, c52, p52, b62) h => (b62, Blk.cells [.int .u8 o.2.2.2.2.2.2.1, .int .u8 o.2.2.2.2.2.2.2.1] 5 (0, 0)) :: (p52 ++ ((b51, Blk.cells [.int .u32 o.2.2.2.2.1] 25 (0, 0)) :: (h)))) (fun (b51, A52, c52, p52, b62) => (Row 5 1 (.slice A52 (((((longB o.1 ++ [o.2.1]) ++ beR 2 o.2.2.1) ++ [o.2.2.2.1]) ++ beR 4 o.2.2.2.2.1).length) c52) (((((longB o.1 ++ [o.2.1]) ++ beR 2 o.2.2.1) ++ [o.2.2.2.1]) ++ beR 4 o.2.2.2.2.1).length) (((((longB o.1 ++ [o.2.1]) ++ beR 2 o.2.2.1) ++ [o.2.2.2.1]) ++ beR 4 o.2.2.2.2.1).map (fun x => Value.int .u8 x)) p52) ∧ ((((((longB o.1 ++ [o.2.1]) ++ beR 2 o.2.2.1) ++ [o.2.2.2.1]) ++ beR 4 o.2.2.2.2.1).length) ≤ c52)) ?_ ?_
                    · rintro ⟨b51, A52, c52, p52, b62⟩ ⟨hr52, hc52⟩
                      try dsimp only
                      refine AD.one 7 (by kernel_rfl) (AE.eff rfl (EF.buildSeq [.int .u16 o.2.2.2.2.2.1] rfl rfl rfl rfl) (.none rfl) rfl ?_)
                      rintro _ _ ⟨b55, hf55, rfl, rfl⟩
                      refine ⟨(by first | exact .inr fun x hx hM => hx | exact .inr fun x hx hM => List.mem_cons_of_mem _ hx | exact .inr fun x hx hM => List.mem_append_right _ hx), ?_⟩
                      refine AD.to rfl (by rfl) (.cons rfl (.cons rfl (.cons rfl (.cons rfl (.drop rfl (.drop rfl (.drop rfl (.drop rfl .refl)))))))) (by first | exact List.Perm.refl _ | exact perm_count fun x => by simp only [List.count_append, List.count_cons, List.count_nil]; omega) (hst1 ⟨b51, A52, c52, p52, b55, b62⟩ ⟨hr52, hc52⟩)
                    · intro hst3
                      try dsimp only at hst3
                      refine AD.cut (α := Nat × Nat × Nat) 4 #[true, true, true, true, false, true, true, true, false, true, true, true, true, true, true, false, false] (fun (b51, b55, b62) e => (62, .slice (some ⟨b62, 0, none⟩) 2 2) :: (55, .slice (some ⟨b55, 0, none⟩) 1 1) :: (51, .slice (some ⟨b51, 0, none⟩) 1 1) :: e) (fun (b51, b55, b62) h => (b62, Blk.cells [.int .u8 o.2.2.2.2.2.2.1, .int .u8 o.2.2.2.2.2.2.2.1] 5 (0, 0)) :: ((b55, Blk.cells [.int .u16 o.2.2.2.2.2.1] 26 (0, 0)) :: ((b51, Blk.cells [.int .u32 o.2.2.2.2.1] 25 (0, 0)) :: (h)))) (fun (b51, b55, b62) => True) ?_ ?_
                      · rintro ⟨b51, b55, b62⟩ _
                        try dsimp only
                        refine AD.one 4 (by kernel_rfl) (AE.eff rfl (show EF _ _ _ _ _ _ (NewS 5 1 (((((longB o.1 ++ [o.2.1]) ++ beR 2 o.2.2.1) ++ [o.2.2.2.1]) ++ beR 4 o.2.2.2.2.1).length) (((((longB o.1 ++ [o.2.1]) ++ beR 2 o.2.2.1) ++ [o.2.2.2.1]) ++ beR 4 o.2.2.2.2.1).map (fun x => Value.int .u8 x)) _) from EF.callF rfl ((put32_spec (cap := c47) (A2 := some ⟨b51, 0, none⟩) (cap2 := 1) B _ (((longB o.1 ++ [o.2.1]) ++ beR 2 o.2.2.1) ++ [o.2.2.2.1]) [o.2.2.2.2.1] ((hr47.src (h := p47) (fun x hx => hx)).mono fun x hx => by simp [hx]) (by simp [longB_len, beR_len]) (Src.of_new (el := 25) (cs := [.int .u32 o.2.2.2.2.1]) (by simp) 1 1 (Nat.le_refl _)) (by simp)).mono fun v h2 r => r.to (by simp [longB_len, beR_len]) (by simp))) (.none rfl) rfl ?_)
                        rintro _ _ ⟨A52, c52, p52, rfl, hr52, hc52, rfl⟩
                        refine ⟨(by first | exact .inr fun x hx hM => hx | exact .inr fun x hx hM => List.mem_cons_of_mem _ hx | exact .inr fun x hx hM => List.mem_append_right _ hx), ?_⟩
                        refine AD.to rfl (by rfl) (.cons rfl (.cons rfl (.cons rfl (.cons rfl (.drop rfl (.drop rfl (.drop rfl (.drop rfl .refl)))))))) (by first | exact List.Perm.refl _ | exact perm_count fun x => by simp only [List.count_append, List.count_cons, List.count_nil]; omega) (hst1 ⟨b51, A52, c52, p52, b55, b62⟩ ⟨hr52, hc52⟩)
                      · intro hst4
                        try dsimp only at hst4
                        refine AD.cut (α := Nat × Nat) 5 #[true, true, true, true, false, true, true, true, false, true, true, true, true, true, false, false, false] (fun (b51, b55) e => (55, .slice (some ⟨b55, 0, none⟩) 1 1) :: (51, .slice (some ⟨b51, 0, none⟩) 1 1) :: e) (fun (b51, b55) h => (b55, Blk.cells [.int .u16 o.2.2.2.2.2.1] 26 (0, 0)) :: ((b51, Blk.cells [.int .u32 o.2.2.2.2.1] 25 (0, 0)) :: (h))) (fun (b51, b55) => True) ?_ ?_
                        · rintro ⟨b51, b55⟩ _
                          try dsimp only
                          refine AD.many (i := 4) (l := [14]) (by kernel_rfl) (.cons ?_ (.cons ?_ (.nil)))
                          · skip
                            refine AE.eff rfl (show EF _ _ _ _ _ _ (NewS 5 1 (((((longB o.1 ++ [o.2.1]) ++ beR 2 o.2.2.1) ++ [o.2.2.2.1]) ++ beR 4 o.2.2.2.2.1).length) (((((longB o.1 ++ [o.2.1]) ++ beR 2 o.2.2.1) ++ [o.2.2.2.1]) ++ beR 4 o.2.2.2.2.1).map (fun x => Value.int .u8 x)) _) from EF.callF rfl ((put32_spec (cap := c47) (A2 := some ⟨b51, 0, none⟩) (cap2 := 1) B _ (((longB o.1 ++ [o.2.1]) ++ beR 2 o.2.2.1) ++ [o.2.2.2.1]) [o.2.2.2.2.1] ((hr47.src (h := p47) (fun x hx => hx)).mono fun x hx => by simp [hx]) (by simp [longB_len, beR_len]) (Src.of_new (el := 25) (cs := [.int .u32 o.2.2.2.2.1]) (by simp) 1 1 (Nat.le_refl _)) (by simp)).mono fun v h2 r => r.to (by simp [longB_len, beR_len]) (by simp))) (.none rfl) rfl ?_
                            rintro _ _ ⟨A52, c52, p52, rfl, hr52, hc52, rfl⟩
                            refine ⟨(by first | exact .inr fun x hx hM => hx | exact .inr fun x hx hM => List.mem_cons_of_mem _ hx | exact .inr fun x hx hM => List.mem_append_right _ hx), ?_⟩
                            refine AD.to rfl (by rfl) (.cons rfl (.cons rfl (.cons rfl (.drop rfl (.drop rfl (.drop rfl .refl)))))) (by first | exact List.Perm.refl _ | exact perm_count fun x => by simp only [List.count_append, List.count_cons, List.count_nil]; omega) (hst2 ⟨b51, A52, c52, p52, b55⟩ ⟨hr52, hc52⟩)
                          · skip
                            refine AE.eff rfl (EF.buildSeq [.int .u8 o.2.2.2.2.2.2.1, .int .u8 o.2.2.2.2.2.2.2.1] rfl rfl rfl rfl) (.none rfl) rfl ?_
                            rintro _ _ ⟨b62, hf62, rfl, rfl⟩
                            refine ⟨(by first | exact .inr fun x hx hM => hx | exact .inr fun x hx hM => List.mem_cons_of_mem _ hx | exact .inr fun x hx hM => List.mem_append_right _ hx), ?_⟩
                            refine AD.to rfl (by rfl) (.cons rfl (.cons rfl (.cons rfl (.drop rfl (.drop rfl (.drop rfl .refl)))))) (by first | exact List.Perm.refl _ | exact perm_count fun x => by simp only [List.count_append, List.count_cons, List.count_nil]; omega) (hst4 ⟨b51, b55, b62⟩ trivial)
                        · intro hst5
                          try dsimp only at hst5
                          refine AD.cut (α := Nat × Nat) 5 #[true, true, true, true, false, true, true, false, false, true, true, true, true, true, true, false, false] (fun (b51, b62) e => (62, .slice (some ⟨b62, 0, none⟩) 2 2) :: (51, .slice (some ⟨b51, 0, none⟩) 1 1) :: e) (fun (b51, b62) h => (b62, Blk.cells [.int .u8 o.2.2.2.2.2.2.1, .int .u8 o.2.2.2.2.2.2.2.1] 5 (0, 0)) :: ((b51, Blk.cells [.int .u32 o.2.2.2.2.1] 25 (0, 0)) :: (h))) (fun (b51, b62) => True) ?_ ?_
                          · rintro ⟨b51, b62⟩ _
                            try dsimp only
                            refine AD.many (i := 4) (l := [7]) (by kernel_rfl) (.cons ?_ (.cons ?_ (.nil)))
                            · skip
                              refine AE.eff rfl (show EF _ _ _ _ _ _ (NewS 5 1 (((((longB o.1 ++ [o.2.1]) ++ beR 2 o.2.2.1) ++ [o.2.2.2.1]) ++ beR 4 o.2.2.2.2.1).length) (((((longB o.1 ++ [o.2.1]) ++ beR 2 o.2.2.1) ++ [o.2.2.2.1]) ++ beR 4 o.2.2.2.2.1).map (fun x => Value.int .u8 x)) _) from EF.callF rfl ((put32_spec (cap := c47) (A2 := some ⟨b51, 0, none⟩) (cap2 := 1) B _ (((longB o.1 ++ [o.2.1]) ++ beR 2 o.2.2.1) ++ [o.2.2.2.1]) [o.2.2.2.2.1] ((hr47.src (h := p47) (fun x hx => hx)).mono fun x hx => by simp [hx]) (by simp [longB_len, beR_len]) (Src.of_new (el := 25) (cs := [.int .u32 o.2.2.2.2.1]) (by simp) 1 1 (Nat.le_refl _)) (by simp)).mono fun v h2 r => r.to (by simp [longB_len, beR_len]) (by simp))) (.none rfl) rfl ?_
                              rintro _ _ ⟨A52, c52, p52, rfl, hr52, hc52, rfl⟩
                              refine ⟨(by first | exact .inr fun x hx hM => hx | exact .inr fun x hx hM => List.mem_cons_of_mem _ hx | exact .inr fun x hx hM => List.mem_append_right _ hx), ?_⟩
                              refine AD.to rfl (by rfl) (.cons rfl (.cons rfl (.cons rfl (.drop rfl (.drop rfl (.drop rfl .refl)))))) (by first | exact List.Perm.refl _ | exact perm_count fun x => by simp only [List.count_append, List.count_cons, List.count_nil]; omega) (hst3 ⟨b51, A52, c52, p52, b62⟩ ⟨hr52, hc52⟩)
                            · skip
                              refine AE.eff rfl (EF.buildSeq [.int .u16 o.2.2.2.2.2.1] rfl rfl rfl rfl) (.none rfl) rfl ?_
                              rintro _ _ ⟨b55, hf55, rfl, rfl⟩
                              refine ⟨(by first | exact .inr fun x hx hM => hx | exact .inr fun x hx hM => List.mem_cons_of_mem _ hx | exact .inr fun x hx hM => List.mem_append_right _ hx), ?_⟩
                              refine AD.to rfl (by rfl) (.cons rfl (.cons rfl (.cons rfl (.drop rfl (.drop rfl (.drop rfl .refl)))))) (by first | exact List.Perm.refl _ | exact perm_count fun x => by simp only [List.count_append, List.count_cons, List.count_nil]; omega) (hst4 ⟨b51, b55, b62⟩ trivial)
                          · intro hst6
                            try dsimp only at hst6
                            refine AD.cut (α := Nat × Nat) 5 #[true, true, true, false, false, true, true, true, false, true, true, true, true, true, true, false, false] (fun (b55, b62) e => (62, .slice (some ⟨b62, 0, none⟩) 2 2) :: (55, .slice (some ⟨b55, 0, none⟩) 1 1) :: e) (fun (b55, b62) h => (b62, Blk.cells [.int .u8 o.2.2.2.2.2.2.1, .int .u8 o.2.2.2.2.2.2.2.1] 5 (0, 0)) :: ((b55, Blk.cells [.int .u16 o.2.2.2.2.2.1] 26 (0, 0)) :: (h))) (fun (b55, b62) => True) ?_ ?_
                            · rintro ⟨b55, b62⟩ _
                              try dsimp only
                              refine AD.one 3 (by kernel_rfl) (AE.eff rfl (EF.buildSeq [.int .u32 o.2.2.2.2.1] rfl rfl rfl rfl) (.none rfl) rfl ?_)
                              rintro _ _ ⟨b51, hf51, rfl, rfl⟩
                              refine ⟨(by first | exact .inr fun x hx hM => hx | exact .inr fun x hx hM => List.mem_cons_of_mem _ hx | exact .inr fun x hx hM => List.mem_append_right _ hx), ?_⟩
                              refine AD.to rfl (by rfl) (.cons rfl (.cons rfl (.cons rfl (.drop rfl (.drop rfl (.drop rfl .refl)))))) (by first | exact List.Perm.refl _ | exact perm_count fun x => by simp only [List.count_append, List.count_cons, List.count_nil]; omega) (hst4 ⟨b51, b55, b62⟩ trivial)
                            · intro hst7
                              try dsimp only at hst7
                              refine AD.many (i := 3) (l := [7, 14]) (by kernel_rfl) (.cons ?_ (.cons ?_ (.cons ?_ (.nil))))
                              · skip
                                refine AE.eff rfl (EF.buildSeq [.int .u32 o.2.2.2.2.1] rfl rfl rfl rfl) (.none rfl) rfl ?_
                                rintro _ _ ⟨b51, hf51, rfl, rfl⟩
                                refine ⟨(by first | exact .inr fun x hx hM => hx | exact .inr fun x hx hM => List.mem_cons_of_mem _ hx | exact .inr fun x hx hM => List.mem_append_right _ hx), ?_⟩
                                refine AD.many (i := 4) (l := [7, 14]) (by kernel_rfl) (.cons ?_ (.cons ?_ (.cons ?_ (.nil))))
                                · skip
                                  refine AE.eff rfl (show EF _ _ _ _ _ _ (NewS 5 1 (((((longB o.1 ++ [o.2.1]) ++ beR 2 o.2.2.1) ++ [o.2.2.2.1]) ++ beR 4 o.2.2.2.2.1).length) (((((longB o.1 ++ [o.2.1]) ++ beR 2 o.2.2.1) ++ [o.2.2.2.1]) ++ beR 4 o.2.2.2.2.1).map (fun x => Value.int .u8 x)) _) from EF.callF rfl ((put32_spec (cap := c47) (A2 := some ⟨b51, 0, none⟩) (cap2 := 1) B _ (((longB o.1 ++ [o.2.1]) ++ beR 2 o.2.2.1) ++ [o.2.2.2.1]) [o.2.2.2.2.1] ((hr47.src (h := p47) (fun x hx => hx)).mono fun x hx => by simp [hx]) (by simp [longB_len, beR_len]) (Src.of_new (el := 25) (cs := [.int .u32 o.2.2.2.2.1]) (by simp) 1 1 (Nat.le_refl _)) (by simp)).mono fun v h2 r => r.to (by simp [longB_len, beR_len]) (by simp))) (.none rfl) rfl ?_
                                  rintro _ _ ⟨A52, c52, p52, rfl, hr52, hc52, rfl⟩
                                  refine ⟨(by first | exact .inr fun x hx hM => hx | exact .inr fun x hx hM => List.mem_cons_of_mem _ hx | exact .inr fun x hx hM => List.mem_append_right _ hx), ?_⟩
                                  refine AD.many (i := 7) (l := [14]) (by kernel_rfl) (.cons ?_ (.cons ?_ (.nil)))
                                  · skip
                                    refine AE.eff rfl (EF.buildSeq [.int .u16 o.2.2.2.2.2.1] rfl rfl rfl rfl) (.none rfl) rfl ?_
                                    rintro _ _ ⟨b55, hf55, rfl, rfl⟩
                                    refine ⟨(by first | exact .inr fun x hx hM => hx | exact .inr fun x hx hM => List.mem_cons_of_mem _ hx | exact .inr fun x hx hM => List.mem_append_right _ hx), ?_⟩
                                    refine AD.to rfl (by rfl) (.cons rfl (.cons rfl (.cons rfl (.drop rfl (.drop rfl (.drop rfl .refl)))))) (by first | exact List.Perm.refl _ | exact perm_count fun x => by simp only [List.count_append, List.count_cons, List.count_nil]; omega) (hst2 ⟨b51, A52, c52, p52, b55⟩ ⟨hr52, hc52⟩)
                                  · skip
                                    refine AE.eff rfl (EF.buildSeq [.int .u8 o.2.2.2.2.2.2.1, .int .u8 o.2.2.2.2.2.2.2.1] rfl rfl rfl rfl) (.none rfl) rfl ?_
                                    rintro _ _ ⟨b62, hf62, rfl, rfl⟩
                                    refine ⟨(by first | exact .inr fun x hx hM => hx | exact .inr fun x hx hM => List.mem_cons_of_mem _ hx | exact .inr fun x hx hM => List.mem_append_right _ hx), ?_⟩
                                    refine AD.to rfl (by rfl) (.cons rfl (.cons rfl (.cons rfl (.drop rfl (.drop rfl (.drop rfl .refl)))))) (by first | exact List.Perm.refl _ | exact perm_count fun x => by simp only [List.count_append, List.count_cons, List.count_nil]; omega) (hst3 ⟨b51, A52, c52, p52, b62⟩ ⟨hr52, hc52⟩)
                                · skip
                                  refine AE.eff rfl (EF.buildSeq [.int .u16 o.2.2.2.2.2.1] rfl rfl rfl rfl) (.none rfl) rfl ?_
                                  rintro _ _ ⟨b55, hf55, rfl, rfl⟩
                                  refine ⟨(by first | exact .inr fun x hx hM => hx | exact .inr fun x hx hM => List.mem_cons_of_mem _ hx | exact .inr fun x hx hM => List.mem_append_right _ hx), ?_⟩
                                  refine AD.to rfl (by rfl) (.cons rfl (.cons rfl (.drop rfl (.drop rfl .refl)))) (by first | exact List.Perm.refl _ | exact perm_count fun x => by simp only [List.count_append, List.count_cons, List.count_nil]; omega) (hst5 ⟨b51, b55⟩ trivial)
                                · skip
                                  refine AE.eff rfl (EF.buildSeq [.int .u8 o.2.2.2.2.2.2.1, .int .u8 o.2.2.2.2.2.2.2.1] rfl rfl rfl rfl) (.none rfl) rfl ?_
                                  rintro _ _ ⟨b62, hf62, rfl, rfl⟩
                                  refine ⟨(by first | exact .inr fun x hx hM => hx | exact .inr fun x hx hM => List.mem_cons_of_mem _ hx | exact .inr fun x hx hM => List.mem_append_right _ hx), ?_⟩
                                  refine AD.to rfl (by rfl) (.cons rfl (.cons rfl (.drop rfl (.drop rfl .refl)))) (by first | exact List.Perm.refl _ | exact perm_count fun x => by simp only [List.count_append, List.count_cons, List.count_nil]; omega) (hst6 ⟨b51, b62⟩ trivial)
                              · skip
                                refine AE.eff rfl (EF.buildSeq [.int .u16 o.2.2.2.2.2.1] rfl rfl rfl rfl) (.none rfl) rfl ?_
                                rintro _ _ ⟨b55, hf55, rfl, rfl⟩
                                refine ⟨(by first | exact .inr fun x hx hM => hx | exact .inr fun x hx hM => List.mem_cons_of_mem _ hx | exact .inr fun x hx hM => List.mem_append_right _ hx), ?_⟩
                                refine AD.many (i := 3) (l := [14]) (by kernel_rfl) (.cons ?_ (.cons ?_ (.nil)))
                                · skip
                                  refine AE.eff rfl (EF.buildSeq [.int .u32 o.2.2.2.2.1] rfl rfl rfl rfl) (.none rfl) rfl ?_
                                  rintro _ _ ⟨b51, hf51, rfl, rfl⟩
                                  refine ⟨(by first | exact .inr fun x hx hM => hx | exact .inr fun x hx hM => List.mem_cons_of_mem _ hx | exact .inr fun x hx hM => List.mem_append_right _ hx), ?_⟩
                                  refine AD.to rfl (by rfl) (.cons rfl (.cons rfl (.drop rfl (.drop rfl .refl)))) (by first | exact List.Perm.refl _ | exact perm_count fun x => by simp only [List.count_append, List.count_cons, List.count_nil]; omega) (hst5 ⟨b51, b55⟩ trivial)
                                · skip
                                  refine AE.eff rfl (EF.buildSeq [.int .u8 o.2.2.2.2.2.2.1, .int .u8 o.2.2.2.2.2.2.2.1] rfl rfl rfl rfl) (.none rfl) rfl ?_
                                  rintro _ _ ⟨b62, hf62, rfl, rfl⟩
                                  refine ⟨(by first | exact .inr fun x hx hM => hx | exact .inr fun x hx hM => List.mem_cons_of_mem _ hx | exact .inr fun x hx hM => List.mem_append_right _ hx), ?_⟩
                                  refine AD.to rfl (by rfl) (.cons rfl (.cons rfl (.drop rfl (.drop rfl .refl)))) (by first | exact List.Perm.refl _ | exact perm_count fun x => by simp only [List.count_append, List.count_cons, List.count_nil]; omega) (hst7 ⟨b55, b62⟩ trivial)
                              · skip
                                refine AE.eff rfl (EF.buildSeq [.int .u8 o.2.2.2.2.2.2.1, .int .u8 o.2.2.2.2.2.2.2.1] rfl rfl rfl rfl) (.none rfl) rfl ?_
                                rintro _ _ ⟨b62, hf62, rfl, rfl⟩
                                refine ⟨(by first | exact .inr fun x hx hM => hx | exact .inr fun x hx hM => List.mem_cons_of_mem _ hx | exact .inr fun x hx hM => List.mem_append_right _ hx), ?_⟩
                                refine AD.many (i := 3) (l := [7]) (by kernel_rfl) (.cons ?_ (.cons ?_ (.nil)))
                                · skip
                                  refine AE.eff rfl (EF.buildSeq [.int .u32 o.2.2.2.2.1] rfl rfl rfl rfl) (.none rfl) rfl ?_
                                  rintro _ _ ⟨b51, hf51, rfl, rfl⟩
                                  refine ⟨(by first | exact .inr fun x hx hM => hx | exact .inr fun x hx hM => List.mem_cons_of_mem _ hx | exact .inr fun x hx hM => List.mem_append_right _ hx), ?_⟩
                                  refine AD.to rfl (by rfl) (.cons rfl (.cons rfl (.drop rfl (.drop rfl .refl)))) (by first | exact List.Perm.refl _ | exact perm_count fun x => by simp only [List.count_append, List.count_cons, List.count_nil]; omega) (hst6 ⟨b51, b62⟩ trivial)
                                · skip
                                  refine AE.eff rfl (EF.buildSeq [.int .u16 o.2.2.2.2.2.1] rfl rfl rfl rfl) (.none rfl) rfl ?_
                                  rintro _ _ ⟨b55, hf55, rfl, rfl⟩
                                  refine ⟨(by first | exact .inr fun x hx hM => hx | exact .inr fun x hx hM => List.mem_cons_of_mem _ hx | exact .inr fun x hx hM => List.mem_append_right _ hx), ?_⟩
                                  refine AD.to rfl (by rfl) (.cons rfl (.cons rfl (.drop rfl (.drop rfl .refl)))) (by first | exact List.Perm.refl _ | exact perm_count fun x => by simp only [List.count_append, List.count_cons, List.count_nil]; omega) (hst7 ⟨b55, b62⟩ trivial)
            · intro hst0
              try dsimp only at hst0
              refine AD.cut (α := Nat × Nat) 3 #[true, true, true, true, true, false, true, true, true, true, false, false] (fun (b41, b46) e => (46, .slice (some ⟨b46, 0, none⟩) 1 1) :: (41, .slice (some ⟨b41, 0, none⟩) 1 1) :: e) (fun (b41, b46) h => (b46, Blk.cells [.int .u8 o.2.2.2.1] 5 (0, 0)) :: ((b41, Blk.cells [.int .u16 o.2.2.1] 26 (0, 0)) :: (h))) (fun (b41, b46) => True) ?_ ?_
              · rintro ⟨b41, b46⟩ _
                try dsimp only
                refine AD.one 5 (by kernel_rfl) (AE.eff rfl (show EF _ _ _ _ _ _ (NewS 5 1 (((longB o.1 ++ [o.2.1]) ++ beR 2 o.2.2.1).length) (((longB o.1 ++ [o.2.1]) ++ beR 2 o.2.2.1).map (fun x => Value.int .u8 x)) _) from EF.callF rfl ((put16_spec (cap := c36) (A2 := some ⟨b41, 0, none⟩) (cap2 := 1) B _ (longB o.1 ++ [o.2.1]) [o.2.2.1] ((hr36.src (h := p36) (fun x hx => hx)).mono fun x hx => by simp [hx]) (by simp [longB_len, beR_len]) (Src.of_new (el := 26) (cs := [.int .u16 o.2.2.1]) (by simp) 1 1 (Nat.le_refl _)) (by simp)).mono fun v h2 r => r.to (by simp [longB_len, beR_len]) (by simp))) (.none rfl) rfl ?_)
                rintro _ _ ⟨A42, c42, p42, rfl, hr42, hc42, rfl⟩
                refine ⟨(by first | exact .inr fun x hx hM => hx | exact .inr fun x hx hM => List.mem_cons_of_mem _ hx | exact .inr fun x hx hM => List.mem_append_right _ hx), ?_⟩
                refine AD.to rfl (by rfl) (.cons rfl (.cons rfl (.cons rfl (.drop rfl (.drop rfl (.drop rfl .refl)))))) (by first | exact List.Perm.refl _ | exact perm_count fun x => by simp only [List.count_append, List.count_cons, List.count_nil]; omega) (hst0 ⟨b41, A42, c42, p42, b46⟩ ⟨hr42, hc42⟩)
              · intro hst1
                try dsimp only at hst1
                refine AD.many (i := 4) (l := [9]) (by kernel_rfl) (.cons ?_ (.cons ?_ (.nil)))
                · skip
                  refine AE.eff rfl (EF.buildSeq [.int .u16 o.2.2.1] rfl rfl rfl rfl) (.none rfl) rfl ?_
                  rintro _ _ ⟨b41, hf41, rfl, rfl⟩
                  refine ⟨(by first | exact .inr fun x hx hM => hx | exact .inr fun x hx hM => List.mem_cons_of_mem _ hx | exact .inr fun x hx hM => List.mem_append_right _ hx), ?_⟩
                  refine AD.many (i := 5) (l := [9]) (by kernel_rfl) (.cons ?_ (.cons ?_ (.nil)))
                  · skip
                    refine AE.eff rfl (show EF _ _ _ _ _ _ (NewS 5 1 (((longB o.1 ++ [o.2.1]) ++ beR 2 o.2.2.1).length) (((longB o.1 ++ [o.2.1]) ++ beR 2 o.2.2.1).map (fun x => Value.int .u8 x)) _) from EF.callF rfl ((put16_spec (cap := c36) (A2 := some ⟨b41, 0, none⟩) (cap2 := 1) B _ (longB o.1 ++ [o.2.1]) [o.2.2.1] ((hr36.src (h := p36) (fun x hx => hx)).mono fun x hx => by simp [hx]) (by simp [longB_len, beR_len]) (Src.of_new (el := 26) (cs := [.int .u16 o.2.2.1]) (by simp) 1 1 (Nat.le_refl _)) (by simp)).mono fun v h2 r => r.to (by simp [longB_len, beR_len]) (by simp))) (.none rfl) rfl ?_
                    rintro _ _ ⟨A42, c42, p42, rfl, hr42, hc42, rfl⟩
                    refine ⟨(by first | exact .inr fun x hx hM => hx | exact .inr fun x hx hM => List.mem_cons_of_mem _ hx | exact .inr fun x hx hM => List.mem_append_right _ hx), ?_⟩
                    refine AD.one 9 (by kernel_rfl) (AE.eff rfl (EF.buildSeq [.int .u8 o.2.2.2.1] rfl rfl rfl rfl) (.none rfl) rfl ?_)
                    rintro _ _ ⟨b46, hf46, rfl, rfl⟩
                    refine ⟨(by first | exact .inr fun x hx hM => hx | exact .inr fun x hx hM => List.mem_cons_of_mem _ hx | exact .inr fun x hx hM => List.mem_append_right _ hx), ?_⟩
                    refine AD.to rfl (by rfl) (.cons rfl (.cons rfl (.cons rfl (.drop rfl (.drop rfl (.drop rfl .refl)))))) (by first | exact List.Perm.refl _ | exact perm_count fun x => by simp only [List.count_append, List.count_cons, List.count_nil]; omega) (hst0 ⟨b41, A42, c42, p42, b46⟩ ⟨hr42, hc42⟩)
                  · skip
                    refine AE.eff rfl (EF.buildSeq [.int .u8 o.2.2.2.1] rfl rfl rfl rfl) (.none rfl) rfl ?_
                    rintro _ _ ⟨b46, hf46, rfl, rfl⟩
                    refine ⟨(by first | exact .inr fun x hx hM => hx | exact .inr fun x hx hM => List.mem_cons_of_mem _ hx | exact .inr fun x hx hM => List.mem_append_right _ hx), ?_⟩
                    refine AD.to rfl (by rfl) (.cons rfl (.cons rfl (.drop rfl (.drop rfl .refl)))) (by first | exact List.Perm.refl _ | exact perm_count fun x => by simp only [List.count_append, List.count_cons, List.count_nil]; omega) (hst1 ⟨b41, b46⟩ trivial)
                · skip
                  refine AE.eff rfl (EF.buildSeq [.int .u8 o.2.2.2.1] rfl rfl rfl rfl) (.none rfl) rfl ?_
                  rintro _ _ ⟨b46, hf46, rfl, rfl⟩
                  refine ⟨(by first | exact .inr fun x hx hM => hx | exact .inr fun x hx hM => List.mem_cons_of_mem _ hx | exact .inr fun x hx hM => List.mem_append_right _ hx), ?_⟩
                  refine AD.one 4 (by kernel_rfl) (AE.eff rfl (EF.buildSeq [.int .u16 o.2.2.1] rfl rfl rfl rfl) (.none rfl) rfl ?_)
                  rintro _ _ ⟨b41, hf41, rfl, rfl⟩
                  refine ⟨(by first | exact .inr fun x hx hM => hx | exact .inr fun x hx hM => List.mem_cons_of_mem _ hx | exact .inr fun x hx hM => List.mem_append_right _ hx), ?_⟩
                  refine AD.to rfl (by rfl) (.cons rfl (.cons rfl (.drop rfl (.drop rfl .refl)))) (by first | exact List.Perm.refl _ | exact perm_count fun x => by simp only [List.count_append, List.count_cons, List.count_nil]; omega) (hst1 ⟨b41, b46⟩ trivial)
          · intro hst0
            try dsimp only at hst0
            refine AD.many (i := 2) (l := [6]) (by kernel_rfl) (.cons ?_ (.cons ?_ (.nil)))
            · skip
              refine AE.eff rfl (show EF _ _ _ _ _ _ (NewS 5 1 ((longB o.1).length) ((longB o.1).map (fun x => Value.int .u8 x)) _) from EF.callF rfl (long_spec B _ o.1 ko.cnt)) (.none rfl) rfl ?_
              rintro _ _ ⟨A31, c31, p31, rfl, hr31, hc31, rfl⟩
              refine ⟨(by first | exact .inr fun x hx hM => hx | exact .inr fun x hx hM => List.mem_cons_of_mem _ hx | exact .inr fun x hx hM => List.mem_append_right _ hx), ?_⟩
              refine AD.one 6 (by kernel_rfl) (AE.eff rfl (EF.buildSeq [.int .u8 o.2.1] rfl rfl rfl rfl) (.none rfl) rfl ?_)
              rintro _ _ ⟨b35, hf35, rfl, rfl⟩
              refine ⟨(by first | exact .inr fun x hx hM => hx | exact .inr fun x hx hM => List.mem_cons_of_mem _ hx | exact .inr fun x hx hM => List.mem_append_right _ hx), ?_⟩
              refine AD.to rfl (by rfl) (.cons rfl (.cons rfl (.drop rfl (.drop rfl .refl)))) (by first | exact List.Perm.refl _ | exact perm_count fun x => by simp only [List.count_append, List.count_cons, List.count_nil]; omega) (hst0 ⟨A31, c31, p31, b35⟩ ⟨hr31, hc31⟩)
            · skip
              refine AE.eff rfl (EF.buildSeq [.int .u8 o.2.1] rfl rfl rfl rfl) (.none rfl) rfl ?_
              rintro _ _ ⟨b35, hf35, rfl, rfl⟩
              refine ⟨(by first | exact .inr fun x hx hM => hx | exact .inr fun x hx hM => List.mem_cons_of_mem _ hx | exact .inr fun x hx hM => List.mem_append_right _ hx), ?_⟩
              refine AD.one 2 (by kernel_rfl) (AE.eff rfl (show EF _ _ _ _ _ _ (NewS 5 1 ((longB o.1).length) ((longB o.1).map (fun x => Value.int .u8 x)) _) from EF.callF rfl (long_spec B _ o.1 ko.cnt)) (.none rfl) rfl ?_)
              rintro _ _ ⟨A31, c31, p31, rfl, hr31, hc31, rfl⟩
              refine ⟨(by first | exact .inr fun x hx hM => hx | exact .inr fun x hx hM => List.mem_cons_of_mem _ hx | exact .inr fun x hx hM => List.mem_append_right _ hx), ?_⟩
              refine AD.to rfl (by rfl) (.cons rfl (.cons rfl (.drop rfl (.drop rfl .refl)))) (by first | exact List.Perm.refl _ | exact perm_count fun x => by simp only [List.count_append, List.count_cons, List.count_nil]; omega) (hst0 ⟨A31, c31, p31, b35⟩ ⟨hr31, hc31⟩)

set_option maxHeartbeats 1000000 in
theorem rput_o_spec (B : World) (h : Own) (lo hi : Int) (o : Ord) (ko : OOk o) : Tri Try.prog B 7 [.agg #[.int .u64 lo, .int .u64 hi], .agg (encO o).toArray] h fun v h' => ∃ w, v = .tuple #[w, .int .i64 (if okO o = true then 0 else 2)] ∧ NewS 5 1 ((if okO o = true then signB lo hi (bodyB o) else [])).length (((if okO o = true then signB lo hi (bodyB o) else [])).map (fun x => Value.int .u8 x)) h w h' := by
  have hko1 := ko.cnt
  have hko2 := ko.addr
  have hko3 := ko.port
  have hko4 := ko.proto
  refine Tri.enter (n := 88) Try.func7 rfl rfl rfl ?_
  simp only [argsE, Nat.reduceAdd]
  try dsimp only [argsE]
  refine AK.seq ?_
  refine AK.region ?_
  refine AO.eff (EF.box rfl rfl) (.none rfl) rfl ?_
  rintro _ _ ⟨b2, hf2, rfl, rfl⟩
  refine AO.eff (EF.box rfl rfl) (.none rfl) rfl ?_
  rintro _ _ ⟨b3, hf3, rfl, rfl⟩
  refine AO.val (RV.assign rfl) (.none rfl) rfl ?_
  refine AO.val (RV.assign rfl) (.none rfl) rfl ?_
  refine AO.nil ?_
  refine AK.seq ?_
  refine AK.seq ?_
  refine AK.region ?_
  refine AO.val (RV.fieldAddr rfl) (.none rfl) rfl ?_
  refine AO.val (by first | exact RV.loadO rfl rfl (by simp) | exact RV.loadS rfl (by assumption) (by omega) (by simp)) (.none rfl) rfl ?_
  refine AO.val (RV.lss rfl rfl) (.none rfl) rfl ?_
  refine AO.val (RV.move rfl) (.none rfl) rfl ?_
  refine AO.caseG rfl rfl rfl ?_ ?_
  · intro hg1
    try simp only [decide_eq_true_eq, decide_eq_false_iff_not, Bool.not_eq_true', Bool.not_eq_false', beq_iff_eq] at hg1
    refine AO.pass (.some rfl rfl rfl rfl) rfl ?_
    refine AO.pass (.some rfl rfl rfl rfl) rfl ?_
    refine AO.pass (.some rfl rfl rfl rfl) rfl ?_
    refine AO.val (RV.pickT rfl rfl) (.none rfl) rfl ?_
    refine AO.val (RV.move rfl) (.none rfl) rfl ?_
    refine AO.pass (.some rfl rfl rfl rfl) rfl ?_
    refine AO.pass (.some rfl rfl rfl rfl) rfl ?_
    refine AO.pass (.some rfl rfl rfl rfl) rfl ?_
    refine AO.val (RV.pickT rfl rfl) (.none rfl) rfl ?_
    refine AO.val (RV.move rfl) (.none rfl) rfl ?_
    refine AO.pass (.some rfl rfl rfl rfl) rfl ?_
    refine AO.pass (.some rfl rfl rfl rfl) rfl ?_
    refine AO.pass (.some rfl rfl rfl rfl) rfl ?_
    refine AO.val (RV.pickT rfl rfl) (.none rfl) rfl ?_
    refine AO.val (RV.move rfl) (.none rfl) rfl ?_
    refine AO.pass (.some rfl rfl rfl rfl) rfl ?_
    refine AO.pass (.some rfl rfl rfl rfl) rfl ?_
    refine AO.pass (.some rfl rfl rfl rfl) rfl ?_
    refine AO.val (RV.pickT rfl rfl) (.none rfl) rfl ?_
    refine AO.val (RV.move rfl) (.none rfl) rfl ?_
    refine AO.pass (.some rfl rfl rfl rfl) rfl ?_
    refine AO.pass (.some rfl rfl rfl rfl) rfl ?_
    refine AO.pass (.some rfl rfl rfl rfl) rfl ?_
    refine AO.val (RV.pickT rfl rfl) (.none rfl) rfl ?_
    refine AO.val (RV.move rfl) (.none rfl) rfl ?_
    refine AO.pass (.some rfl rfl rfl rfl) rfl ?_
    refine AO.pass (.some rfl rfl rfl rfl) rfl ?_
    refine AO.pass (.some rfl rfl rfl rfl) rfl ?_
    refine AO.val (RV.pickT rfl rfl) (.none rfl) rfl ?_
    refine AO.val (RV.move rfl) (.none rfl) rfl ?_
    refine AO.pass (.some rfl rfl rfl rfl) rfl ?_
    refine AO.pass (.some rfl rfl rfl rfl) rfl ?_
    refine AO.pass (.some rfl rfl rfl rfl) rfl ?_
    refine AO.val (RV.pickT rfl rfl) (.none rfl) rfl ?_
    refine AO.nil ?_
    refine AK.condT rfl ?_
    refine AK.seq ?_
    refine AK.region ?_
    refine AO.val (RV.assign rfl) (.none rfl) rfl ?_
    refine AO.val (RV.assign rfl) (.none rfl) rfl ?_
    refine AO.nil ?_
    -- at t
    have hok : okO o = false := by simp only [okO, decide_eq_false_iff_not]; omega
    refine AK.ret (h' := h) Try.func7 (.tmp rfl (.tmp rfl .nil)) ?_ (by exact SubO.sub)
    rw [hok]
    exact ⟨_, rfl, none, 0, [], rfl, .nil, Nat.le_refl _, rfl⟩
  · intro hg1
    try simp only [decide_eq_true_eq, decide_eq_false_iff_not, Bool.not_eq_true', Bool.not_eq_false', beq_iff_eq] at hg1
    refine AO.val (RV.fieldAddr rfl) (.some rfl rfl rfl rfl) rfl ?_
    refine AO.val (by first | exact RV.loadO rfl rfl (by simp) | exact RV.loadS rfl (by assumption) (by omega) (by simp)) (.some rfl rfl rfl rfl) rfl ?_
    refine AO.val (RV.gtr rfl rfl) (.some rfl rfl rfl rfl) rfl ?_
    refine AO.val (RV.pickF rfl rfl) (.none rfl) rfl ?_
    refine AO.val (RV.move rfl) (.none rfl) rfl ?_
    refine AO.caseG rfl rfl rfl ?_ ?_
    · intro hg2
      try simp only [decide_eq_true_eq, decide_eq_false_iff_not, Bool.not_eq_true', Bool.not_eq_false', beq_iff_eq] at hg2
      refine AO.pass (.some rfl rfl rfl rfl) rfl ?_
      refine AO.pass (.some rfl rfl rfl rfl) rfl ?_
      refine AO.pass (.some rfl rfl rfl rfl) rfl ?_
      refine AO.val (RV.pickT rfl rfl) (.none rfl) rfl ?_
      refine AO.val (RV.move rfl) (.none rfl) rfl ?_
      refine AO.pass (.some rfl rfl rfl rfl) rfl ?_
      refine AO.pass (.some rfl rfl rfl rfl) rfl ?_
      refine AO.pass (.some rfl rfl rfl rfl) rfl ?_
      refine AO.val (RV.pickT rfl rfl) (.none rfl) rfl ?_
      refine AO.val (RV.move rfl) (.none rfl) rfl ?_
      refine AO.pass (.some rfl rfl rfl rfl) rfl ?_
      refine AO.pass (.some rfl rfl rfl rfl) rfl ?_
      refine AO.pass (.some rfl rfl rfl rfl) rfl ?_
      refine AO.val (RV.pickT rfl rfl) (.none rfl) rfl ?_
      refine AO.val (RV.move rfl) (.none rfl) rfl ?_
      refine AO.pass (.some rfl rfl rfl rfl) rfl ?_
      refine AO.pass (.some rfl rfl rfl rfl) rfl ?_
      refine AO.pass (.some rfl rfl rfl rfl) rfl ?_
      refine AO.val (RV.pickT rfl rfl) (.none rfl) rfl ?_
      refine AO.val (RV.move rfl) (.none rfl) rfl ?_
      refine AO.pass (.some rfl rfl rfl rfl) rfl ?_
      refine AO.pass (.some rfl rfl rfl rfl) rfl ?_
      refine AO.pass (.some rfl rfl rfl rfl) rfl ?_
      refine AO.val (RV.pickT rfl rfl) (.none rfl) rfl ?_
      refine AO.val (RV.move rfl) (.none rfl) rfl ?_
      refine AO.pass (.some rfl rfl rfl rfl) rfl ?_
      refine AO.pass (.some rfl rfl rfl rfl) rfl ?_
      refine AO.pass (.some rfl rfl rfl rfl) rfl ?_
      refine AO.val (RV.pickT rfl rfl) (.none rfl) rfl ?_
      refine AO.nil ?_
      refine AK.condT rfl ?_
      refine AK.seq ?_
      refine AK.region ?_
      refine AO.val (RV.assign rfl) (.none rfl) rfl ?_
      refine AO.val (RV.assign rfl) (.none rfl) rfl ?_
      refine AO.nil ?_
      -- at ft
      have hok : okO o = false := by simp only [okO, decide_eq_false_iff_not]; omega
      refine AK.ret (h' := h) Try.func7 (.tmp rfl (.tmp rfl .nil)) ?_ (by exact SubO.sub)
      rw [hok]
      exact ⟨_, rfl, none, 0, [], rfl, .nil, Nat.le_refl _, rfl⟩
    · intro hg2
      try simp only [decide_eq_true_eq, decide_eq_false_iff_not, Bool.not_eq_true', Bool.not_eq_false', beq_iff_eq] at hg2
      refine AO.val (RV.fieldAddr rfl) (.some rfl rfl rfl rfl) rfl ?_
      refine AO.val (by first | exact RV.loadO rfl rfl (by simp) | exact RV.loadS rfl (by assumption) (by omega) (by simp)) (.some rfl rfl rfl rfl) rfl ?_
      refine AO.val (RV.lss rfl rfl) (.some rfl rfl rfl rfl) rfl ?_
      refine AO.val (RV.pickF rfl rfl) (.none rfl) rfl ?_
      refine AO.val (RV.move rfl) (.none rfl) rfl ?_
      refine AO.caseG rfl rfl rfl ?_ ?_
      · intro hg3
        try simp only [decide_eq_true_eq, decide_eq_false_iff_not, Bool.not_eq_true', Bool.not_eq_false', beq_iff_eq] at hg3
        refine AO.pass (.some rfl rfl rfl rfl) rfl ?_
        refine AO.pass (.some rfl rfl rfl rfl) rfl ?_
        refine AO.pass (.some rfl rfl rfl rfl) rfl ?_
        refine AO.val (RV.pickT rfl rfl) (.none rfl) rfl ?_
        refine AO.val (RV.move rfl) (.none rfl) rfl ?_
        refine AO.pass (.some rfl rfl rfl rfl) rfl ?_
        refine AO.pass (.some rfl rfl rfl rfl) rfl ?_
        refine AO.pass (.some rfl rfl rfl rfl) rfl ?_
        refine AO.val (RV.pickT rfl rfl) (.none rfl) rfl ?_
        refine AO.val (RV.move rfl) (.none rfl) rfl ?_
        refine AO.pass (.some rfl rfl rfl rfl) rfl ?_
        refine AO.pass (.some rfl rfl rfl rfl) rfl ?_
        refine AO.pass (.some rfl rfl rfl rfl) rfl ?_
        refine AO.val (RV.pickT rfl rfl) (.none rfl) rfl ?_
        refine AO.val (RV.move rfl) (.none rfl) rfl ?_
        refine AO.pass (.some rfl rfl rfl rfl) rfl ?_
        refine AO.pass (.some rfl rfl rfl rfl) rfl ?_
        refine AO.pass (.some rfl rfl rfl rfl) rfl ?_
        refine AO.val (RV.pickT rfl rfl) (.none rfl) rfl ?_
        refine AO.val (RV.move rfl) (.none rfl) rfl ?_
        refine AO.pass (.some rfl rfl rfl rfl) rfl ?_
        refine AO.pass (.some rfl rfl rfl rfl) rfl ?_
        refine AO.pass (.some rfl rfl rfl rfl) rfl ?_
        refine AO.val (RV.pickT rfl rfl) (.none rfl) rfl ?_
        refine AO.nil ?_
        refine AK.condT rfl ?_
        refine AK.seq ?_
        refine AK.region ?_
        refine AO.val (RV.assign rfl) (.none rfl) rfl ?_
        refine AO.val (RV.assign rfl) (.none rfl) rfl ?_
        refine AO.nil ?_
        -- at fft
        have hok : okO o = false := by simp only [okO, decide_eq_false_iff_not]; omega
        refine AK.ret (h' := h) Try.func7 (.tmp rfl (.tmp rfl .nil)) ?_ (by exact SubO.sub)
        rw [hok]
        exact ⟨_, rfl, none, 0, [], rfl, .nil, Nat.le_refl _, rfl⟩
      · intro hg3
        try simp only [decide_eq_true_eq, decide_eq_false_iff_not, Bool.not_eq_true', Bool.not_eq_false', beq_iff_eq] at hg3
        refine AO.val (RV.fieldAddr rfl) (.some rfl rfl rfl rfl) rfl ?_
        refine AO.val (by first | exact RV.loadO rfl rfl (by simp) | exact RV.loadS rfl (by assumption) (by omega) (by simp)) (.some rfl rfl rfl rfl) rfl ?_
        refine AO.val (RV.gtr rfl rfl) (.some rfl rfl rfl rfl) rfl ?_
        refine AO.val (RV.pickF rfl rfl) (.none rfl) rfl ?_
        refine AO.val (RV.move rfl) (.none rfl) rfl ?_
        refine AO.caseG rfl rfl rfl ?_ ?_
        · intro hg4
          try simp only [decide_eq_true_eq, decide_eq_false_iff_not, Bool.not_eq_true', Bool.not_eq_false', beq_iff_eq] at hg4
          refine AO.pass (.some rfl rfl rfl rfl) rfl ?_
          refine AO.pass (.some rfl rfl rfl rfl) rfl ?_
          refine AO.pass (.some rfl rfl rfl rfl) rfl ?_
          refine AO.val (RV.pickT rfl rfl) (.none rfl) rfl ?_
          refine AO.val (RV.move rfl) (.none rfl) rfl ?_
          refine AO.pass (.some rfl rfl rfl rfl) rfl ?_
          refine AO.pass (.some rfl rfl rfl rfl) rfl ?_
          refine AO.pass (.some rfl rfl rfl rfl) rfl ?_
          refine AO.val (RV.pickT rfl rfl) (.none rfl) rfl ?_
          refine AO.val (RV.move rfl) (.none rfl) rfl ?_
          refine AO.pass (.some rfl rfl rfl rfl) rfl ?_
          refine AO.pass (.some rfl rfl rfl rfl) rfl ?_
          refine AO.pass (.some rfl rfl rfl rfl) rfl ?_
          refine AO.val (RV.pickT rfl rfl) (.none rfl) rfl ?_
          refine AO.val (RV.move rfl) (.none rfl) rfl ?_
          refine AO.pass (.some rfl rfl rfl rfl) rfl ?_
          refine AO.pass (.some rfl rfl rfl rfl) rfl ?_
          refine AO.pass (.some rfl rfl rfl rfl) rfl ?_
          refine AO.val (RV.pickT rfl rfl) (.none rfl) rfl ?_
          refine AO.nil ?_
          refine AK.condT rfl ?_
          refine AK.seq ?_
          refine AK.region ?_
          refine AO.val (RV.assign rfl) (.none rfl) rfl ?_
          refine AO.val (RV.assign rfl) (.none rfl) rfl ?_
          refine AO.nil ?_
          -- at ffft
          have hok : okO o = false := by simp only [okO, decide_eq_false_iff_not]; omega
          refine AK.ret (h' := h) Try.func7 (.tmp rfl (.tmp rfl .nil)) ?_ (by exact SubO.sub)
          rw [hok]
          exact ⟨_, rfl, none, 0, [], rfl, .nil, Nat.le_refl _, rfl⟩
        · intro hg4
          try simp only [decide_eq_true_eq, decide_eq_false_iff_not, Bool.not_eq_true', Bool.not_eq_false', beq_iff_eq] at hg4
          refine AO.val (RV.fieldAddr rfl) (.some rfl rfl rfl rfl) rfl ?_
          refine AO.val (by first | exact RV.loadO rfl rfl (by simp) | exact RV.loadS rfl (by assumption) (by omega) (by simp)) (.some rfl rfl rfl rfl) rfl ?_
          refine AO.val (RV.lss rfl rfl) (.some rfl rfl rfl rfl) rfl ?_
          refine AO.val (RV.pickF rfl rfl) (.none rfl) rfl ?_
          refine AO.val (RV.move rfl) (.none rfl) rfl ?_
          refine AO.caseG rfl rfl rfl ?_ ?_
          · intro hg5
            try simp only [decide_eq_true_eq, decide_eq_false_iff_not, Bool.not_eq_true', Bool.not_eq_false', beq_iff_eq] at hg5
            refine AO.pass (.some rfl rfl rfl rfl) rfl ?_
            refine AO.pass (.some rfl rfl rfl rfl) rfl ?_
            refine AO.pass (.some rfl rfl rfl rfl) rfl ?_
            refine AO.val (RV.pickT rfl rfl) (.none rfl) rfl ?_
            refine AO.val (RV.move rfl) (.none rfl) rfl ?_
            refine AO.pass (.some rfl rfl rfl rfl) rfl ?_
            refine AO.pass (.some rfl rfl rfl rfl) rfl ?_
            refine AO.pass (.some rfl rfl rfl rfl) rfl ?_
            refine AO.val (RV.pickT rfl rfl) (.none rfl) rfl ?_
            refine AO.val (RV.move rfl) (.none rfl) rfl ?_
            refine AO.pass (.some rfl rfl rfl rfl) rfl ?_
            refine AO.pass (.some rfl rfl rfl rfl) rfl ?_
            refine AO.pass (.some rfl rfl rfl rfl) rfl ?_
            refine AO.val (RV.pickT rfl rfl) (.none rfl) rfl ?_
            refine AO.nil ?_
            refine AK.condT rfl ?_
            refine AK.seq ?_
            refine AK.region ?_
            refine AO.val (RV.assign rfl) (.none rfl) rfl ?_
            refine AO.val (RV.assign rfl) (.none rfl) rfl ?_
            refine AO.nil ?_
            -- at fffft
            have hok : okO o = false := by simp only [okO, decide_eq_false_iff_not]; omega
            refine AK.ret (h' := h) Try.func7 (.tmp rfl (.tmp rfl .nil)) ?_ (by exact SubO.sub)
            rw [hok]
            exact ⟨_, rfl, none, 0, [], rfl, .nil, Nat.le_refl _, rfl⟩
          · intro hg5
            try simp only [decide_eq_true_eq, decide_eq_false_iff_not, Bool.not_eq_true', Bool.not_eq_false', beq_iff_eq] at hg5
            refine AO.val (RV.fieldAddr rfl) (.some rfl rfl rfl rfl) rfl ?_
            refine AO.val (by first | exact RV.loadO rfl rfl (by simp) | exact RV.loadS rfl (by assumption) (by omega) (by simp)) (.some rfl rfl rfl rfl) rfl ?_
            refine AO.val (RV.gtr rfl rfl) (.some rfl rfl rfl rfl) rfl ?_
            refine AO.val (RV.pickF rfl rfl) (.none rfl) rfl ?_
            refine AO.val (RV.move rfl) (.none rfl) rfl ?_
            refine AO.caseG rfl rfl rfl ?_ ?_
            · intro hg6
              try simp only [decide_eq_true_eq, decide_eq_false_iff_not, Bool.not_eq_true', Bool.not_eq_false', beq_iff_eq] at hg6
              refine AO.pass (.some rfl rfl rfl rfl) rfl ?_
              refine AO.pass (.some rfl rfl rfl rfl) rfl ?_
              refine AO.pass (.some rfl rfl rfl rfl) rfl ?_
              refine AO.val (RV.pickT rfl rfl) (.none rfl) rfl ?_
              refine AO.val (RV.move rfl) (.none rfl) rfl ?_
              refine AO.pass (.some rfl rfl rfl rfl) rfl ?_
              refine AO.pass (.some rfl rfl rfl rfl) rfl ?_
              refine AO.pass (.some rfl rfl rfl rfl) rfl ?_
              refine AO.val (RV.pickT rfl rfl) (.none rfl) rfl ?_
              refine AO.nil ?_
              refine AK.condT rfl ?_
              refine AK.seq ?_
              refine AK.region ?_
              refine AO.val (RV.assign rfl) (.none rfl) rfl ?_
              refine AO.val (RV.assign rfl) (.none rfl) rfl ?_
              refine AO.nil ?_
              -- at ffffft
              have hok : okO o = false := by simp only [okO, decide_eq_false_iff_not]; omega
              refine AK.ret (h' := h) Try.func7 (.tmp rfl (.tmp rfl .nil)) ?_ (by exact SubO.sub)
              rw [hok]
              exact ⟨_, rfl, none, 0, [], rfl, .nil, Nat.le_refl _, rfl⟩
            · intro hg6
              try simp only [decide_eq_true_eq, decide_eq_false_iff_not, Bool.not_eq_true', Bool.not_eq_false', beq_iff_eq] at hg6
              refine AO.val (RV.fieldAddr rfl) (.some rfl rfl rfl rfl) rfl ?_
              refine AO.val (by first | exact RV.loadO rfl rfl (by simp) | exact RV.loadS rfl (by assumption) (by omega) (by simp)) (.some rfl rfl rfl rfl) rfl ?_
              refine AO.val (RV.lss rfl rfl) (.some rfl rfl rfl rfl) rfl ?_
              refine AO.val (RV.pickF rfl rfl) (.none rfl) rfl ?_
              refine AO.val (RV.move rfl) (.none rfl) rfl ?_
              refine AO.caseG rfl rfl rfl ?_ ?_
              · intro hg7
                try simp only [decide_eq_true_eq, decide_eq_false_iff_not, Bool.not_eq_true', Bool.not_eq_false', beq_iff_eq] at hg7
                refine AO.pass (.some rfl rfl rfl rfl) rfl ?_
                refine AO.pass (.some rfl rfl rfl rfl) rfl ?_
                refine AO.pass (.some rfl rfl rfl rfl) rfl ?_
                refine AO.val (RV.pickT rfl rfl) (.none rfl) rfl ?_
                refine AO.nil ?_
                refine AK.condT rfl ?_
                refine AK.seq ?_
                refine AK.region ?_
                refine AO.val (RV.assign rfl) (.none rfl) rfl ?_
                refine AO.val (RV.assign rfl) (.none rfl) rfl ?_
                refine AO.nil ?_
                -- at fffffft
                have hok : okO o = false := by simp only [okO, decide_eq_false_iff_not]; omega
                refine AK.ret (h' := h) Try.func7 (.tmp rfl (.tmp rfl .nil)) ?_ (by exact SubO.sub)
                rw [hok]
                exact ⟨_, rfl, none, 0, [], rfl, .nil, Nat.le_refl _, rfl⟩
              · intro hg7
                try simp only [decide_eq_true_eq, decide_eq_false_iff_not, Bool.not_eq_true', Bool.not_eq_false', beq_iff_eq] at hg7
                refine AO.val (RV.fieldAddr rfl) (.some rfl rfl rfl rfl) rfl ?_
                refine AO.val (by first | exact RV.loadO rfl rfl (by simp) | exact RV.loadS rfl (by assumption) (by omega) (by simp)) (.some rfl rfl rfl rfl) rfl ?_
                refine AO.val (RV.gtr rfl rfl) (.some rfl rfl rfl rfl) rfl ?_
                refine AO.val (RV.pickF rfl rfl) (.none rfl) rfl ?_
                refine AO.nil ?_
                refine AK.cond rfl ?_ ?_
                · intro hc8
                  try simp only [decide_eq_true_eq, decide_eq_false_iff_not, Bool.not_eq_true', Bool.not_eq_false', beq_iff_eq] at hc8
                  refine AK.seq ?_
                  refine AK.region ?_
                  refine AO.val (RV.assign rfl) (.none rfl) rfl ?_
                  refine AO.val (RV.assign rfl) (.none rfl) rfl ?_
                  refine AO.nil ?_
                  -- at fffffffT
                  have hok : okO o = false := by simp only [okO, decide_eq_false_iff_not]; omega
                  refine AK.ret (h' := h) Try.func7 (.tmp rfl (.tmp rfl .nil)) ?_ (by exact SubO.sub)
                  rw [hok]
                  exact ⟨_, rfl, none, 0, [], rfl, .nil, Nat.le_refl _, rfl⟩
                · intro hc8
                  try simp only [decide_eq_true_eq, decide_eq_false_iff_not, Bool.not_eq_true', Bool.not_eq_false', beq_iff_eq] at hc8
                  have hok : okO o = true := by simp only [okO, decide_eq_true_eq]; omega
                  have hoi := okO_in hok
                  refine AK.skip ?_
                  refine AK.seq ?_
                  refine AK.draw [] [18] mixed ?_
                  refine AD.takeP 0 rfl (by kernel_rfl) (RV.fieldAddr rfl) (.none rfl) rfl ?_
                  refine AD.take 1 rfl (by kernel_rfl) (by first | exact RV.loadO rfl rfl (by simp) | exact RV.loadS rfl (by assumption) (by omega) (by simp)) (.none rfl) rfl ?_
                  refine AD.takeP 3 rfl (by kernel_rfl) (RV.fieldAddr rfl) (.none rfl) rfl ?_
                  refine AD.take 4 rfl (by kernel_rfl) (by first | exact RV.loadO rfl rfl (by simp) | exact RV.loadS rfl (by assumption) (by omega) (by simp)) (.none rfl) rfl ?_
                  refine AD.takeP 5 rfl (by kernel_rfl) (RV.convIn rfl (by simp only [kb]; omega)) (.none rfl) rfl ?_
                  refine AD.takeP 6 rfl (by kernel_rfl) (RV.fieldAddr rfl) (.none rfl) rfl ?_
                  refine AD.take 7 rfl (by kernel_rfl) (by first | exact RV.loadO rfl rfl (by simp) | exact RV.loadS rfl (by assumption) (by omega) (by simp)) (.none rfl) rfl ?_
                  refine AD.takeP 8 rfl (by kernel_rfl) (RV.quoIn rfl rfl (by simp only [kb]; omega)) (.none rfl) rfl ?_
                  refine AD.takeP 9 rfl (by kernel_rfl) (RV.convIn rfl (by simp only [kb]; omega)) (.none rfl) rfl ?_
                  refine AD.takeP 10 rfl (by kernel_rfl) (RV.fieldAddr rfl) (.none rfl) rfl ?_
                  refine AD.take 11 rfl (by kernel_rfl) (by first | exact RV.loadO rfl rfl (by simp) | exact RV.loadS rfl (by assumption) (by omega) (by simp)) (.none rfl) rfl ?_
                  refine AD.takeP 12 rfl (by kernel_rfl) (RV.remIn rfl rfl (by omega)) (.none rfl) rfl ?_
                  refine AD.takeP 13 rfl (by kernel_rfl) (RV.convIn rfl (by simp only [kb]; omega)) (.none rfl) rfl ?_
                  refine AD.takeP 14 rfl (by kernel_rfl) (RV.fieldAddr rfl) (.none rfl) rfl ?_
                  refine AD.take 15 rfl (by kernel_rfl) (by first | exact RV.loadO rfl rfl (by simp) | exact RV.loadS rfl (by assumption) (by omega) (by simp)) (.none rfl) rfl ?_
                  refine AD.takeP 16 rfl (by kernel_rfl) (RV.convIn rfl (by simp only [kb]; omega)) (.none rfl) rfl ?_
                  refine AD.cut (α := Option Addr × Nat × Own × Nat) 2 #[true, true, true, true, true, true, true, true, true, true, true, true, true, true, true, true, true, true, false, false] (fun (A47, c47, p47, b62) e => (62, .slice (some ⟨b62, 0, none⟩) 4 4) :: (47, .slice A47 ((longB o.1).length) c47) :: e) (fun (A47, c47, p47, b62) h => (b62, Blk.cells [.int .u8 o.2.1, .int .u8 (o.2.2.1 / 256), .int .u8 (o.2.2.1 % 256), .int .u8 o.2.2.2.1] 5 (0, 0)) :: (p47 ++ (h))) (fun (A47, c47, p47, b62) => (Row 5 1 (.slice A47 ((longB o.1).length) c47) ((longB o.1).length) ((longB o.1).map (fun x => Value.int .u8 x)) p47) ∧ (((longB o.1).length) ≤ c47)) ?_ ?_
                  · rintro ⟨A47, c47, p47, b62⟩ ⟨hr47, hc47⟩
                    try dsimp only
                    refine AD.one 18 (by kernel_rfl) (AE.eff rfl (show EF _ _ _ _ _ _ (NewS 5 1 ((longB o.1 ++ [o.2.1, o.2.2.1 / 256, o.2.2.1 % 256, o.2.2.2.1]).length) ((longB o.1 ++ [o.2.1, o.2.2.1 / 256, o.2.2.1 % 256, o.2.2.2.1]).map (fun x => Value.int .u8 x)) _) from EF.callF rfl (add_spec (cap := c47) (A2 := some ⟨b62, 0, none⟩) (cap2 := 4) B _ (longB o.1) [o.2.1, o.2.2.1 / 256, o.2.2.1 % 256, o.2.2.2.1] ((hr47.src (h := p47) (fun x hx => hx)).mono fun x hx => by simp [hx]) (Src.of_new (el := 5) (cs := [.int .u8 o.2.1, .int .u8 (o.2.2.1 / 256), .int .u8 (o.2.2.1 % 256), .int .u8 o.2.2.2.1]) (by simp) 4 1 (Nat.le_refl _)) (by simp [longB_len]))) (.none rfl) rfl ?_)
                    rintro _ _ ⟨A63, c63, p63, rfl, hr63, hc63, rfl⟩
                    refine ⟨.inl (by kernel_rfl), ?_⟩
                    refine AD.takeP 19 rfl (by kernel_rfl) (RV.assign rfl) (.none rfl) rfl ?_
                    refine AD.done (by kernel_rfl) ?_
                    refine AK.seq ?_
                    refine AK.region ?_
                    refine AO.val (RV.move rfl) (.none rfl) rfl ?_
                    refine AO.val (RV.fieldAddr rfl) (.none rfl) rfl ?_
                    refine AO.val (by first | exact RV.loadO rfl rfl (by simp) | exact RV.loadS rfl (by assumption) (by omega) (by simp)) (.none rfl) rfl ?_
                    refine AO.eff (EF.callF rfl ((put_spec B _ o.2.2.2.2.1 4 (by omega) (by decide)).mono fun v h2 r => r.to (n' := (beR 4 o.2.2.2.2.1).length) (ys := (beR 4 o.2.2.2.2.1).map (fun x => Value.int .u8 x)) (by rw [beR_len]; rfl) rfl)) (.none rfl) rfl ?_
                    rintro _ _ ⟨A67, c67, p67, rfl, hr67, hc67, rfl⟩
                    refine AO.eff (EF.callF rfl (add_spec B _ (longB o.1 ++ [o.2.1, o.2.2.1 / 256, o.2.2.1 % 256, o.2.2.2.1]) (beR 4 o.2.2.2.2.1) ((hr63.src (h := p63) (fun x hx => hx)).mono fun x hx => by simp [hx]) ((hr67.src (h := p67) (fun x hx => hx)).mono fun x hx => by simp [hx]) (by simp [longB_len, beR_len]))) (.none rfl) rfl ?_
                    rintro _ _ ⟨A68, c68, p68, rfl, hr68, hc68, rfl⟩
                    refine AO.val (RV.assign rfl) (.none rfl) rfl ?_
                    refine AO.nil ?_
                    refine AK.seq ?_
                    refine AK.region ?_
                    refine AO.val (RV.move rfl) (.none rfl) rfl ?_
                    refine AO.val (RV.fieldAddr rfl) (.none rfl) rfl ?_
                    refine AO.val (by first | exact RV.loadO rfl rfl (by simp) | exact RV.loadS rfl (by assumption) (by omega) (by simp)) (.none rfl) rfl ?_
                    refine AO.val (RV.quoIn rfl rfl (by simp only [kb]; omega)) (.none rfl) rfl ?_
                    refine AO.val (RV.convIn rfl (by simp only [kb]; omega)) (.none rfl) rfl ?_
                    refine AO.val (RV.fieldAddr rfl) (.none rfl) rfl ?_
                    refine AO.val (by first | exact RV.loadO rfl rfl (by simp) | exact RV.loadS rfl (by assumption) (by omega) (by simp)) (.none rfl) rfl ?_
                    refine AO.val (RV.remIn rfl rfl (by omega)) (.none rfl) rfl ?_
                    refine AO.val (RV.convIn rfl (by simp only [kb]; omega)) (.none rfl) rfl ?_
                    refine AO.val (RV.fieldAddr rfl) (.none rfl) rfl ?_
                    refine AO.val (by first | exact RV.loadO rfl rfl (by simp) | exact RV.loadS rfl (by assumption) (by omega) (by simp)) (.none rfl) rfl ?_
                    refine AO.val (RV.fieldAddr rfl) (.none rfl) rfl ?_
                    refine AO.val (by first | exact RV.loadO rfl rfl (by simp) | exact RV.loadS rfl (by assumption) (by omega) (by simp)) (.none rfl) rfl ?_
                    refine AO.val (RV.convIn rfl (by simp only [kb]; omega)) (.none rfl) rfl ?_
                    refine AO.eff (EF.buildSeq [.int .u8 (o.2.2.2.2.2.1 / 256), .int .u8 (o.2.2.2.2.2.1 % 256), .int .u8 o.2.2.2.2.2.2.1, .int .u8 o.2.2.2.2.2.2.2.1] rfl rfl rfl rfl) (.none rfl) rfl ?_
                    rintro _ _ ⟨b83, hf83, rfl, rfl⟩
                    refine AO.eff (EF.callF rfl ((add_spec (A2 := some ⟨b83, 0, none⟩) (cap2 := 4) B _ ((longB o.1 ++ [o.2.1, o.2.2.1 / 256, o.2.2.1 % 256, o.2.2.2.1]) ++ beR 4 o.2.2.2.2.1) [o.2.2.2.2.2.1 / 256, o.2.2.2.2.2.1 % 256, o.2.2.2.2.2.2.1, o.2.2.2.2.2.2.2.1] ((hr68.src (h := p68) (fun x hx => hx)).mono fun x hx => by simp [hx]) (Src.of_new (el := 5) (cs := [.int .u8 (o.2.2.2.2.2.1 / 256), .int .u8 (o.2.2.2.2.2.1 % 256), .int .u8 o.2.2.2.2.2.2.1, .int .u8 o.2.2.2.2.2.2.2.1]) (by simp) 4 1 (Nat.le_refl _)) (by simp [longB_len, beR_len])).mono fun v h2 r => r.to (n' := (bodyB o).length) (ys := (bodyB o).map (fun x => Value.int .u8 x)) rfl rfl)) (.none rfl) rfl ?_
                    rintro _ _ ⟨A84, c84, p84, rfl, hr84, hc84, rfl⟩
                    refine AO.val (RV.assign rfl) (.none rfl) rfl ?_
                    refine AO.nil ?_
                    refine AK.seq ?_
                    refine AK.region ?_
                    refine AO.val (by first | exact RV.loadAggO rfl rfl (by simp) | exact RV.loadAggP rfl rfl rfl (by simp)) (.none rfl) rfl ?_
                    refine AO.val (RV.move rfl) (.none rfl) rfl ?_
                    refine AO.eff (EF.callF rfl (rsigned_spec (cap := c84) B _ lo hi (bodyB o) ((hr84.src (h := p84) (fun x hx => hx)).mono fun x hx => by simp [hx]) (bodyB_bytes hok ko) hc84 (by rw [bodyB_len]; decide))) (.none rfl) rfl ?_
                    rintro _ _ ⟨A87, c87, p87, rfl, hr87, hc87, rfl⟩
                    refine AO.val (RV.assign rfl) (.none rfl) rfl ?_
                    refine AO.val (RV.assign rfl) (.none rfl) rfl ?_
                    refine AO.nil ?_
                    -- at fffffffF
                    refine AK.ret (h' := p87 ++ h) Try.func7 (.tmp rfl (.tmp rfl .nil)) ?_ (by exact SubO.sub)
                    rw [hok]
                    exact ⟨_, rfl, A87, c87, p87, rfl, hr87, hc87, rfl⟩
                  · intro hst0
                    try dsimp only at hst0
                    refine AD.many (i := 2) (l := [17]) (by kernel_rfl) (.cons ?_ (.cons ?_ (.nil)))
                    · skip
                      refine AE.eff rfl (show EF _ _ _ _ _ _ (NewS 5 1 ((longB o.1).length) ((longB o.1).map (fun x => Value.int .u8 x)) _) from EF.callF rfl (rlong_spec B _ o.1 ko.cnt)) (.none rfl) rfl ?_
                      rintro _ _ ⟨A47, c47, p47, rfl, hr47, hc47, rfl⟩
                      refine ⟨(by first | exact .inr fun x hx hM => hx | exact .inr fun x hx hM => List.mem_cons_of_mem _ hx | exact .inr fun x hx hM => List.mem_append_right _ hx), ?_⟩
                      refine AD.one 17 (by kernel_rfl) (AE.eff rfl (EF.buildSeq [.int .u8 o.2.1, .int .u8 (o.2.2.1 / 256), .int .u8 (o.2.2.1 % 256), .int .u8 o.2.2.2.1] rfl rfl rfl rfl) (.none rfl) rfl ?_)
                      rintro _ _ ⟨b62, hf62, rfl, rfl⟩
                      refine ⟨(by first | exact .inr fun x hx hM => hx | exact .inr fun x hx hM => List.mem_cons_of_mem _ hx | exact .inr fun x hx hM => List.mem_append_right _ hx), ?_⟩
                      refine AD.to rfl (by rfl) (.cons rfl (.cons rfl (.drop rfl (.drop rfl .refl)))) (by first | exact List.Perm.refl _ | exact perm_count fun x => by simp only [List.count_append, List.count_cons, List.count_nil]; omega) (hst0 ⟨A47, c47, p47, b62⟩ ⟨hr47, hc47⟩)
                    · skip
                      refine AE.eff rfl (EF.buildSeq [.int .u8 o.2.1, .int .u8 (o.2.2.1 / 256), .int .u8 (o.2.2.1 % 256), .int .u8 o.2.2.2.1] rfl rfl rfl rfl) (.none rfl) rfl ?_
                      rintro _ _ ⟨b62, hf62, rfl, rfl⟩
                      refine ⟨(by first | exact .inr fun x hx hM => hx | exact .inr fun x hx hM => List.mem_cons_of_mem _ hx | exact .inr fun x hx hM => List.mem_append_right _ hx), ?_⟩
                      refine AD.one 2 (by kernel_rfl) (AE.eff rfl (show EF _ _ _ _ _ _ (NewS 5 1 ((longB o.1).length) ((longB o.1).map (fun x => Value.int .u8 x)) _) from EF.callF rfl (rlong_spec B _ o.1 ko.cnt)) (.none rfl) rfl ?_)
                      rintro _ _ ⟨A47, c47, p47, rfl, hr47, hc47, rfl⟩
                      refine ⟨(by first | exact .inr fun x hx hM => hx | exact .inr fun x hx hM => List.mem_cons_of_mem _ hx | exact .inr fun x hx hM => List.mem_append_right _ hx), ?_⟩
                      refine AD.to rfl (by rfl) (.cons rfl (.cons rfl (.drop rfl (.drop rfl .refl)))) (by first | exact List.Perm.refl _ | exact perm_count fun x => by simp only [List.count_append, List.count_cons, List.count_nil]; omega) (hst0 ⟨A47, c47, p47, b62⟩ ⟨hr47, hc47⟩)

theorem count_spec (B : World) (h : Own) {A : Option Addr} {cap : Nat} (l : List Int) (hl : Src B h A l.length 1 (l.map (fun x => Value.int .u8 x))) (hb : Bytes l) (hcap : l.length ≤ cap) (hln : l.length ≤ 100000) (h8 : 8 ≤ l.length) : Tri Try.prog B 28 [.slice A l.length cap] h fun v h' => h = h' ∧ v = .int .u64 (countB l) := by
  have ht0 : thereB l 0 4 = true := by simp [thereB]; omega
  have ht4 : thereB l 4 4 = true := by simp [thereB]; omega
  have hv0 := beV_in (cutL l 0 4) (part_bytes hb _ _)
  have hv4 := beV_in (cutL l 4 4) (part_bytes hb _ _)
  rw [part_len ht0, show (256 : Int) ^ (4 : Int).toNat = 4294967296 by decide] at hv0
  rw [part_len ht4, show (256 : Int) ^ (4 : Int).toNat = 4294967296 by decide] at hv4
  have hor := (or_add (v := beV (cutL l 4 4)) (x := beV (cutL l 0 4)) (s := 32) (by decide) ⟨hv4.1, by rw [show (2 : Int) ^ 32 = 4294967296 by decide]; exact hv4.2⟩ ⟨hv0.1, by rw [show (2 : Int) ^ 32 = 4294967296 by decide]; omega⟩).2
  rw [show (2 : Int) ^ 32 = 4294967296 by decide] at hor
  refine Tri.enter (n := 23) Try.func28 rfl rfl rfl ?_
  simp only [argsE, Nat.reduceAdd]
  try dsimp only [argsE]
  refine AK.seq ?_
  refine AK.region ?_
  refine AO.val (RV.assign rfl) (.none rfl) rfl ?_
  refine AO.nil ?_
  refine AK.seq ?_
  refine AK.region ?_
  refine AO.val (RV.move rfl) (.none rfl) rfl ?_
  refine AO.eff (EF.callF rfl (get32_spec B _ l hl.sub hcap (by omega) hb 0 (by decide))) (.none rfl) rfl ?_
  rintro _ _ ⟨rfl, rfl⟩
  rw [ht0]
  simp only [if_true]
  refine AO.val (RV.move rfl) (.none rfl) rfl ?_
  refine AO.val (RV.extract rfl rfl) (.none rfl) rfl ?_
  refine AO.val (RV.extract rfl rfl) (.none rfl) rfl ?_
  refine AO.val (RV.assign rfl) (.none rfl) rfl ?_
  refine AO.val (RV.assign rfl) (.none rfl) rfl ?_
  refine AO.nil ?_
  refine AK.seq ?_
  refine AK.region ?_
  refine AO.val (RV.move rfl) (.none rfl) rfl ?_
  refine AO.eff (EF.callF rfl (get32_spec B _ l hl.sub hcap (by omega) hb 4 (by decide))) (.none rfl) rfl ?_
  rintro _ _ ⟨rfl, rfl⟩
  rw [ht4]
  simp only [if_true]
  refine AO.val (RV.move rfl) (.none rfl) rfl ?_
  refine AO.val (RV.extract rfl rfl) (.none rfl) rfl ?_
  refine AO.val (RV.extract rfl rfl) (.none rfl) rfl ?_
  refine AO.val (RV.assign rfl) (.none rfl) rfl ?_
  refine AO.val (RV.assign rfl) (.none rfl) rfl ?_
  refine AO.nil ?_
  refine AK.seq ?_
  refine AK.region ?_
  refine AO.val (RV.move rfl) (.none rfl) rfl ?_
  refine AO.val (RV.convIn rfl (by simp only [kb]; omega)) (.none rfl) rfl ?_
  refine AO.val ((RV.shl rfl rfl (by omega)).to (v' := .int .u64 (beV (cutL l 0 4) * 4294967296)) (by rw [show (2 : Int) ^ (min (32 : Int).toNat IntKind.u64.bits) = 4294967296 by decide]; rw [wrap_in] <;> simp only [kb] <;> omega)) (.none rfl) rfl ?_
  refine AO.val (RV.move rfl) (.none rfl) rfl ?_
  refine AO.val (RV.convIn rfl (by simp only [kb]; omega)) (.none rfl) rfl ?_
  refine AO.val ((RV.or rfl rfl).to (v' := .int .u64 (countB l)) (by rw [hor, count_two l h8, Int.add_comm])) (.none rfl) rfl ?_
  refine AO.val (RV.assign rfl) (.none rfl) rfl ?_
  refine AO.nil ?_
  -- at 
  refine AK.ret (h' := h) Try.func28 (.tmp rfl .nil) ?_ (by first | exact SubO.sub | exact List.Sublist.refl _ | exact .cons _ (List.Sublist.refl _) | exact .cons _ (.cons _ (List.Sublist.refl _)) | exact .cons _ (.cons _ (.cons _ (List.Sublist.refl _))))
  exact ⟨rfl, rfl⟩

theorem rcount_spec (B : World) (h : Own) {A : Option Addr} {cap : Nat} (l : List Int) (hl : Src B h A l.length 1 (l.map (fun x => Value.int .u8 x))) (hb : Bytes l) (hcap : l.length ≤ cap) (hln : l.length ≤ 100000) (h8 : 8 ≤ l.length) : Tri Try.prog B 30 [.slice A l.length cap] h fun v h' => h = h' ∧ v = .int .u64 (countB l) := by
  refine Tri.enter (n := 18) Try.func30 rfl rfl rfl ?_
  simp only [argsE, Nat.reduceAdd]
  try dsimp only [argsE]
  refine AK.seq ?_
  refine AK.region ?_
  refine AO.val (RV.assign rfl) (.none rfl) rfl ?_
  refine AO.nil ?_
  refine AK.seq ?_
  refine AK.region ?_
  refine AO.val (RV.assign rfl) (.none rfl) rfl ?_
  refine AO.nil ?_
  refine AK.seq ?_
  refine AK.seq ?_
  refine AK.region ?_
  refine AO.val (RV.assign rfl) (.none rfl) rfl ?_
  refine AO.nil ?_
  refine AK.block ?_
  refine AK.loop (α := Int) (E := fun i => [(0, .slice A l.length cap), (3, .int .u64 (beV (l.take i.toNat))), (4, .int .i64 i)]) (H := fun i => h) (Inv := fun i => 0 ≤ i ∧ i ≤ 8) (μ := fun i => (8 - i).toNat) 0 ?_ (.cons (by exact rfl) (.cons (by exact rfl) (.cons (by exact rfl) .nil))) ?_ ?_
  · exact ⟨by omega, by omega⟩
  · exact (by first | exact SubO.sub | exact List.Sublist.refl _ | exact .cons _ (List.Sublist.refl _) | exact .cons _ (.cons _ (List.Sublist.refl _)) | exact .cons _ (.cons _ (.cons _ (List.Sublist.refl _))))
  rintro i ⟨hi0, hin⟩ hih0
  try dsimp only at hih0 ⊢
  refine AK.seq ?_
  refine AK.seq ?_
  refine AK.region ?_
  refine AO.val (RV.move rfl) (.none rfl) rfl ?_
  refine AO.val (RV.lss rfl rfl) (.none rfl) rfl ?_
  refine AO.nil ?_
  refine AK.cond rfl ?_ ?_
  · intro hc1
    try simp only [decide_eq_true_eq, decide_eq_false_iff_not, Bool.not_eq_true', Bool.not_eq_false', beq_iff_eq] at hc1
    have hx := lget_bytes hb i hi0 (by omega)
    have hv := beV_in (l.take i.toNat) (bytes_take hb _)
    have hv2 := beV_seven l i hi0 (by omega) hv.2
    refine AK.skip ?_
    refine AK.seq ?_
    refine AK.block ?_
    refine AK.region ?_
    refine AO.val (RV.move rfl) (.none rfl) rfl ?_
    refine AO.val (RV.mulK rfl rfl (by simp only [kb]; omega)) (.none rfl) rfl ?_
    refine AO.val (RV.move rfl) (.none rfl) rfl ?_
    refine AO.val (RV.move rfl) (.none rfl) rfl ?_
    refine AO.val (by first | exact RV.indexS rfl rfl (by assumption) (by omega) rfl | exact RV.indexAddr rfl rfl (by omega)) (.none rfl) rfl ?_
    refine AO.val (by first | exact RV.loadO rfl rfl (by simp) | exact RV.loadS rfl (by assumption) (by omega) (by simp)) (.none rfl) rfl ?_
    refine AO.val (RV.convIn rfl (by simp only [kb]; omega)) (.none rfl) rfl ?_
    refine AO.val (RV.addK rfl rfl (by simp only [kb]; omega)) (.none rfl) rfl ?_
    refine AO.val (RV.assign rfl) (.none rfl) rfl ?_
    refine AO.nil ?_
    refine AK.inBlock ?_
    refine AK.region ?_
    refine AO.val (RV.move rfl) (.none rfl) rfl ?_
    refine AO.val (by first | exact RV.addIn rfl rfl (by omega) | exact RV.add rfl rfl) (.none rfl) rfl ?_
    refine AO.val (RV.assign rfl) (.none rfl) rfl ?_
    refine AO.nil ?_
    -- round ends at L0T
    refine AK.weak (.cons (by exact rfl) (.cons (by rw [take_snoc l i hi0 (by omega), beV_snoc]; exact rfl) (.cons (by exact rfl) .nil))) (by first | exact SubO.sub | exact List.Sublist.refl _ | exact .cons _ (List.Sublist.refl _) | exact .cons _ (.cons _ (List.Sublist.refl _)) | exact .cons _ (.cons _ (.cons _ (List.Sublist.refl _)))) (hih0 (i + 1) ?_ ?_)
    · try dsimp only
      exact ⟨by omega, by omega⟩
    · try dsimp only
      omega
  · intro hc1
    try simp only [decide_eq_true_eq, decide_eq_false_iff_not, Bool.not_eq_true', Bool.not_eq_false', beq_iff_eq] at hc1
    refine AK.exit rfl ?_
    refine AK.seq ?_
    refine AK.region ?_
    refine AO.val (RV.move rfl) (.none rfl) rfl ?_
    refine AO.val (RV.assign rfl) (.none rfl) rfl ?_
    refine AO.nil ?_
    -- at L0F
    clear hih0
    refine AK.ret (h' := h) Try.func30 (.tmp rfl .nil) ?_ (by first | exact SubO.sub | exact List.Sublist.refl _ | exact .cons _ (List.Sublist.refl _) | exact .cons _ (.cons _ (List.Sublist.refl _)) | exact .cons _ (.cons _ (.cons _ (List.Sublist.refl _))))
    refine ⟨rfl, ?_⟩
    rw [show i = 8 by omega]; rfl

end Go.Proofs.Ytiafefofomdcgaa
