/- Walks through the code: what each function that is named here gives back, from any memory that holds its arguments. Written by a program of the claim's author, out of the program's form in Lean. -/
import Derived.Test.YtahoidodkeijbaaW1
set_option linter.unusedSimpArgs false
set_option linter.unusedVariables false
namespace Go.Proofs.Ytahoidodkeijbaa
open Go.Sep Go.Sep.Sip Go.Sep.Cookie Go.RowKit Go.WideShapes Go.ChangeShapes
theorem own_ : ownKnob Try.prog.godebug = none := by kernel_rfl
theorem laidOut_ : laidOutB Try.prog = true := by kernel_rfl

theorem right_spec (B : World) (h : Own) (lo hi lo2 hi2 ep : Int) (f : Flow) (hf : FOk f) (isn : Int) (hisn : 0 ≤ isn ∧ isn ≤ 4294967295) (hep : -9223372036854775808 ≤ ep ∧ ep ≤ 9223372036854775807) (x : Int) (hx : 0 ≤ x ∧ x ≤ 4294967295) : Tri Try.prog B 6 [.agg #[.int .u64 lo, .int .u64 hi, .int .u64 lo2, .int .u64 hi2, .int .i64 ep], .agg (encF f).toArray, .int .u32 isn, .int .u32 x] h fun v h' => h = h' ∧ v = .bool (rightC lo hi lo2 hi2 ep f isn x) := by
  refine Tri.enter (n := 51) Try.func6 rfl rfl rfl ?_
  simp only [argsE, Nat.reduceAdd]
  try dsimp only [argsE]
  refine AK.seq ?_
  refine AK.region ?_
  refine AO.eff (EF.box rfl rfl) (.none rfl) rfl ?_
  rintro _ _ ⟨b4, hf4, rfl, rfl⟩
  refine AO.eff (EF.box rfl rfl) (.none rfl) rfl ?_
  rintro _ _ ⟨b5, hf5, rfl, rfl⟩
  refine AO.val (RV.assign rfl) (.none rfl) rfl ?_
  refine AO.nil ?_
  refine AK.seq ?_
  refine AK.region ?_
  refine AO.val (RV.fieldAddr rfl) (.none rfl) rfl ?_
  refine AO.val (by first | exact RV.loadO rfl rfl (by simp) | exact RV.loadS rfl (by assumption) (by omega) (by simp)) (.none rfl) rfl ?_
  refine AO.val (RV.max2 rfl rfl) (.none rfl) rfl ?_
  refine AO.val (RV.assign rfl) (.none rfl) rfl ?_
  refine AO.nil ?_
  refine AK.seq ?_
  refine AK.seq ?_
  refine AK.region ?_
  refine AO.val (RV.move rfl) (.none rfl) rfl ?_
  refine AO.eff (EF.callF rfl (epoch_spec B _ _ (by omega))) (.none rfl) rfl ?_
  rintro _ _ ⟨rfl, rfl⟩
  refine AO.val (RV.assign rfl) (.none rfl) rfl ?_
  refine AO.nil ?_
  refine AK.block ?_
  refine AK.seq ?_
  refine AK.region ?_
  refine AO.val (RV.move rfl) (.none rfl) rfl ?_
  refine AO.val (RV.move rfl) (.none rfl) rfl ?_
  refine AO.val (by first | exact RV.remIn rfl rfl (by omega) | exact RV.rem rfl rfl (by omega)) (.none rfl) rfl ?_
  refine AO.val (RV.eql rfl rfl) (.none rfl) rfl ?_
  refine AO.val (RV.assign rfl) (.none rfl) rfl ?_
  refine AO.nil ?_
  refine AK.cond rfl ?_ ?_
  · intro hc1
    try simp only [decide_eq_true_eq, decide_eq_false_iff_not, Bool.not_eq_true', Bool.not_eq_false', beq_iff_eq] at hc1
    refine AK.seq ?_
    refine AK.draw [] [8] mixed ?_
    refine AD.takeP 0 rfl (by kernel_rfl) (RV.move rfl) (.none rfl) rfl ?_
    refine AD.takeP 1 rfl (by kernel_rfl) (RV.fieldAddr rfl) (.none rfl) rfl ?_
    refine AD.take 2 rfl (by kernel_rfl) (by first | exact RV.loadAggO rfl rfl (by simp) | exact RV.loadAggP rfl rfl rfl (by simp)) (.none rfl) rfl ?_
    refine AD.take 3 rfl (by kernel_rfl) (by first | exact RV.loadAggO rfl rfl (by simp) | exact RV.loadAggP rfl rfl rfl (by simp)) (.none rfl) rfl ?_
    refine AD.takeP 4 rfl (by kernel_rfl) (RV.move rfl) (.none rfl) rfl ?_
    refine AD.takeP 5 rfl (by kernel_rfl) (RV.move rfl) (.none rfl) rfl ?_
    refine AD.takeP 6 rfl (by kernel_rfl) (RV.move rfl) (.none rfl) rfl ?_
    refine AD.one 7 (by kernel_rfl) (AE.eff rfl (EF.callF rfl (place_spec B _ _ (by omega))) (.none rfl) rfl ?_)
    rintro _ _ ⟨rfl, rfl⟩
    refine ⟨(by first | exact .inr fun x hx hM => hx | exact .inr fun x hx hM => List.mem_cons_of_mem _ hx | exact .inr fun x hx hM => List.mem_append_right _ hx), ?_⟩
    refine AD.one 8 (by kernel_rfl) (AE.eff rfl (EF.callF rfl (make_spec B _ lo hi f hf isn (x / 134217728) (x / 16777216 % 8) (by omega) (by omega) (by omega))) (.none rfl) rfl ?_)
    rintro _ _ ⟨rfl, rfl⟩
    refine ⟨.inl (by kernel_rfl), ?_⟩
    refine AD.takeP 9 rfl (by kernel_rfl) (RV.eql rfl rfl) (.none rfl) rfl ?_
    refine AD.takeP 10 rfl (by kernel_rfl) (RV.assign rfl) (.none rfl) rfl ?_
    refine AD.done (by kernel_rfl) ?_
    -- at T
    refine AK.ret (h' := h) Try.func6 (.tmp rfl .nil) ?_ (by first | exact SubO.sub | exact List.Sublist.refl _ | exact .cons _ (List.Sublist.refl _) | exact .cons _ (.cons _ (List.Sublist.refl _)) | exact .cons _ (.cons _ (.cons _ (List.Sublist.refl _))))
    refine ⟨rfl, ?_⟩
    simp only [rightC, oneOr]
    rw [if_pos (by omega)]
  · intro hc1
    try simp only [decide_eq_true_eq, decide_eq_false_iff_not, Bool.not_eq_true', Bool.not_eq_false', beq_iff_eq] at hc1
    refine AK.seq ?_
    refine AK.region ?_
    refine AO.val (RV.move rfl) (.none rfl) rfl ?_
    refine AO.val (RV.gtr rfl rfl) (.none rfl) rfl ?_
    refine AO.val (RV.move rfl) (.none rfl) rfl ?_
    refine AO.caseG rfl rfl rfl ?_ ?_
    · intro hg2
      try simp only [decide_eq_true_eq, decide_eq_false_iff_not, Bool.not_eq_true', Bool.not_eq_false', beq_iff_eq] at hg2
      refine AO.val (RV.move rfl) (.some rfl rfl rfl rfl) rfl ?_
      refine AO.val (RV.move rfl) (.some rfl rfl rfl rfl) rfl ?_
      refine AO.val (by first | exact RV.subIn rfl rfl (by omega) | exact RV.sub rfl rfl) (.some rfl rfl rfl rfl) rfl ?_
      refine AO.val (by first | exact RV.remIn rfl rfl (by omega) | exact RV.rem rfl rfl (by omega)) (.some rfl rfl rfl rfl) rfl ?_
      refine AO.val (RV.eql rfl rfl) (.some rfl rfl rfl rfl) rfl ?_
      refine AO.val (RV.pickT rfl rfl) (.none rfl) rfl ?_
      refine AO.val (RV.assign rfl) (.none rfl) rfl ?_
      refine AO.nil ?_
      refine AK.cond rfl ?_ ?_
      · intro hc3
        try simp only [decide_eq_true_eq, decide_eq_false_iff_not, Bool.not_eq_true', Bool.not_eq_false', beq_iff_eq] at hc3
        refine AK.seq ?_
        refine AK.draw [] [8] mixed ?_
        refine AD.takeP 0 rfl (by kernel_rfl) (RV.move rfl) (.none rfl) rfl ?_
        refine AD.takeP 1 rfl (by kernel_rfl) (RV.fieldAddr rfl) (.none rfl) rfl ?_
        refine AD.take 2 rfl (by kernel_rfl) (by first | exact RV.loadAggO rfl rfl (by simp) | exact RV.loadAggP rfl rfl rfl (by simp)) (.none rfl) rfl ?_
        refine AD.take 3 rfl (by kernel_rfl) (by first | exact RV.loadAggO rfl rfl (by simp) | exact RV.loadAggP rfl rfl rfl (by simp)) (.none rfl) rfl ?_
        refine AD.takeP 4 rfl (by kernel_rfl) (RV.move rfl) (.none rfl) rfl ?_
        refine AD.takeP 5 rfl (by kernel_rfl) (RV.move rfl) (.none rfl) rfl ?_
        refine AD.takeP 6 rfl (by kernel_rfl) (RV.move rfl) (.none rfl) rfl ?_
        refine AD.one 7 (by kernel_rfl) (AE.eff rfl (EF.callF rfl (place_spec B _ _ (by omega))) (.none rfl) rfl ?_)
        rintro _ _ ⟨rfl, rfl⟩
        refine ⟨(by first | exact .inr fun x hx hM => hx | exact .inr fun x hx hM => List.mem_cons_of_mem _ hx | exact .inr fun x hx hM => List.mem_append_right _ hx), ?_⟩
        refine AD.one 8 (by kernel_rfl) (AE.eff rfl (EF.callF rfl (make_spec B _ lo2 hi2 f hf isn (x / 134217728) (x / 16777216 % 8) (by omega) (by omega) (by omega))) (.none rfl) rfl ?_)
        rintro _ _ ⟨rfl, rfl⟩
        refine ⟨.inl (by kernel_rfl), ?_⟩
        refine AD.takeP 9 rfl (by kernel_rfl) (RV.eql rfl rfl) (.none rfl) rfl ?_
        refine AD.takeP 10 rfl (by kernel_rfl) (RV.assign rfl) (.none rfl) rfl ?_
        refine AD.done (by kernel_rfl) ?_
        -- at FtT
        refine AK.ret (h' := h) Try.func6 (.tmp rfl .nil) ?_ (by first | exact SubO.sub | exact List.Sublist.refl _ | exact .cons _ (List.Sublist.refl _) | exact .cons _ (.cons _ (List.Sublist.refl _)) | exact .cons _ (.cons _ (.cons _ (List.Sublist.refl _))))
        refine ⟨rfl, ?_⟩
        simp only [rightC, oneOr]
        rw [if_neg (by omega), if_pos (by omega)]
      · intro hc3
        try simp only [decide_eq_true_eq, decide_eq_false_iff_not, Bool.not_eq_true', Bool.not_eq_false', beq_iff_eq] at hc3
        refine AK.skip ?_
        refine AK.inBlock ?_
        refine AK.seq ?_
        refine AK.region ?_
        refine AO.val (RV.assign rfl) (.none rfl) rfl ?_
        refine AO.nil ?_
        -- at FtF
        refine AK.ret (h' := h) Try.func6 (.tmp rfl .nil) ?_ (by first | exact SubO.sub | exact List.Sublist.refl _ | exact .cons _ (List.Sublist.refl _) | exact .cons _ (.cons _ (List.Sublist.refl _)) | exact .cons _ (.cons _ (.cons _ (List.Sublist.refl _))))
        refine ⟨rfl, ?_⟩
        simp only [rightC, oneOr]
        rw [if_neg (by omega), if_neg (by omega)]
    · intro hg2
      try simp only [decide_eq_true_eq, decide_eq_false_iff_not, Bool.not_eq_true', Bool.not_eq_false', beq_iff_eq] at hg2
      refine AO.pass (.some rfl rfl rfl rfl) rfl ?_
      refine AO.pass (.some rfl rfl rfl rfl) rfl ?_
      refine AO.pass (.some rfl rfl rfl rfl) rfl ?_
      refine AO.pass (.some rfl rfl rfl rfl) rfl ?_
      refine AO.pass (.some rfl rfl rfl rfl) rfl ?_
      refine AO.val (RV.pickF rfl rfl) (.none rfl) rfl ?_
      refine AO.val (RV.assign rfl) (.none rfl) rfl ?_
      refine AO.nil ?_
      refine AK.condF rfl ?_
      refine AK.skip ?_
      refine AK.inBlock ?_
      refine AK.seq ?_
      refine AK.region ?_
      refine AO.val (RV.assign rfl) (.none rfl) rfl ?_
      refine AO.nil ?_
      -- at Ff
      refine AK.ret (h' := h) Try.func6 (.tmp rfl .nil) ?_ (by first | exact SubO.sub | exact List.Sublist.refl _ | exact .cons _ (List.Sublist.refl _) | exact .cons _ (.cons _ (List.Sublist.refl _)) | exact .cons _ (.cons _ (.cons _ (List.Sublist.refl _))))
      refine ⟨rfl, ?_⟩
      simp only [rightC, oneOr]
      rw [if_neg (by omega), if_neg (by omega)]

theorem rright_spec (B : World) (h : Own) (lo hi lo2 hi2 ep : Int) (f : Flow) (hf : FOk f) (isn : Int) (hisn : 0 ≤ isn ∧ isn ≤ 4294967295) (hep : -9223372036854775808 ≤ ep ∧ ep ≤ 9223372036854775807) (x : Int) (hx : 0 ≤ x ∧ x ≤ 4294967295) : Tri Try.prog B 7 [.agg #[.int .u64 lo, .int .u64 hi], .agg #[.int .u64 lo2, .int .u64 hi2], .int .i64 ep, .agg (encF f).toArray, .int .u32 isn, .int .u32 x] h fun v h' => h = h' ∧ v = .bool (rightC lo hi lo2 hi2 ep f isn x) := by
  refine Tri.enter (n := 53) Try.func7 rfl rfl rfl ?_
  simp only [argsE, Nat.reduceAdd]
  try dsimp only [argsE]
  refine AK.seq ?_
  refine AK.region ?_
  refine AO.eff (EF.box rfl rfl) (.none rfl) rfl ?_
  rintro _ _ ⟨b6, hf6, rfl, rfl⟩
  refine AO.eff (EF.box rfl rfl) (.none rfl) rfl ?_
  rintro _ _ ⟨b7, hf7, rfl, rfl⟩
  refine AO.eff (EF.box rfl rfl) (.none rfl) rfl ?_
  rintro _ _ ⟨b9, hf9, rfl, rfl⟩
  refine AO.val (RV.assign rfl) (.none rfl) rfl ?_
  refine AO.nil ?_
  refine AK.seq ?_
  refine AK.seq ?_
  refine AK.region ?_
  refine AO.val (RV.move rfl) (.none rfl) rfl ?_
  refine AO.val (RV.lss rfl rfl) (.none rfl) rfl ?_
  refine AO.nil ?_
  refine AK.cut (α := Unit) (E := fun _ => [(2, .int .i64 (max ep 0)), (4, .int .u32 isn), (5, .int .u32 x), (6, .pointer (some ⟨b6, 0, none⟩)), (7, .pointer (some ⟨b7, 0, none⟩)), (9, .pointer (some ⟨b9, 0, none⟩))]) (H := fun _ => (b9, Blk.cells (encF f) 30 (0, 0)) :: (b7, Blk.cells [.int .u64 lo2, .int .u64 hi2] 24 (0, 0)) :: (b6, Blk.cells [.int .u64 lo, .int .u64 hi] 24 (0, 0)) :: h) (Inv := fun _ => True) ?_ ?_
  · rintro _ _
    try dsimp only
    refine AK.seq ?_
    refine AK.region ?_
    refine AO.val (RV.move rfl) (.none rfl) rfl ?_
    refine AO.val (by first | exact RV.quoIn rfl rfl (by simp only [kb]; omega) | exact RV.quo rfl rfl (by omega)) (.none rfl) rfl ?_
    refine AO.val (by first | exact RV.convIn rfl (by simp only [kb]; omega) | exact RV.conv rfl) (.none rfl) rfl ?_
    refine AO.val (RV.move rfl) (.none rfl) rfl ?_
    refine AO.val (by first | exact RV.quoIn rfl rfl (by simp only [kb]; omega) | exact RV.quo rfl rfl (by omega)) (.none rfl) rfl ?_
    refine AO.val (by first | exact RV.remIn rfl rfl (by omega) | exact RV.rem rfl rfl (by omega)) (.none rfl) rfl ?_
    refine AO.val (by first | exact RV.convIn rfl (by simp only [kb]; omega) | exact RV.conv rfl) (.none rfl) rfl ?_
    refine AO.val (RV.assign rfl) (.none rfl) rfl ?_
    refine AO.val (RV.assign rfl) (.none rfl) rfl ?_
    refine AO.nil ?_
    refine AK.seq ?_
    refine AK.seq ?_
    refine AK.region ?_
    refine AO.val (RV.move rfl) (.none rfl) rfl ?_
    refine AO.val (RV.move rfl) (.none rfl) rfl ?_
    refine AO.val (by first | exact RV.remIn rfl rfl (by omega) | exact RV.rem rfl rfl (by omega)) (.none rfl) rfl ?_
    refine AO.val (RV.eql rfl rfl) (.none rfl) rfl ?_
    refine AO.nil ?_
    refine AK.cond rfl ?_ ?_
    · intro hc1
      try simp only [decide_eq_true_eq, decide_eq_false_iff_not, Bool.not_eq_true', Bool.not_eq_false', beq_iff_eq] at hc1
      refine AK.seq ?_
      refine AK.region ?_
      refine AO.val (RV.move rfl) (.none rfl) rfl ?_
      refine AO.val (by first | exact RV.loadAggO rfl rfl (by simp) | exact RV.loadAggP rfl rfl rfl (by simp)) (.none rfl) rfl ?_
      refine AO.val (by first | exact RV.loadAggO rfl rfl (by simp) | exact RV.loadAggP rfl rfl rfl (by simp)) (.none rfl) rfl ?_
      refine AO.val (RV.move rfl) (.none rfl) rfl ?_
      refine AO.val (RV.move rfl) (.none rfl) rfl ?_
      refine AO.val (RV.move rfl) (.none rfl) rfl ?_
      refine AO.eff (EF.callF rfl (rmake_spec B _ lo hi f hf isn (x / 134217728) (x / 16777216 % 8) (by omega) (by omega) (by omega))) (.none rfl) rfl ?_
      rintro _ _ ⟨rfl, rfl⟩
      refine AO.val (RV.eql rfl rfl) (.none rfl) rfl ?_
      refine AO.val (RV.assign rfl) (.none rfl) rfl ?_
      refine AO.nil ?_
      -- at Jc0T
      refine AK.ret (h' := h) Try.func7 (.tmp rfl .nil) ?_ (by first | exact SubO.sub | exact List.Sublist.refl _ | exact .cons _ (List.Sublist.refl _) | exact .cons _ (.cons _ (List.Sublist.refl _)) | exact .cons _ (.cons _ (.cons _ (List.Sublist.refl _))))
      refine ⟨rfl, ?_⟩
      simp only [rightC, oneOr]
      rw [if_pos (by omega)]
    · intro hc1
      try simp only [decide_eq_true_eq, decide_eq_false_iff_not, Bool.not_eq_true', Bool.not_eq_false', beq_iff_eq] at hc1
      refine AK.skip ?_
      refine AK.seq ?_
      refine AK.seq ?_
      refine AK.region ?_
      refine AO.val (RV.move rfl) (.none rfl) rfl ?_
      refine AO.val (RV.gtr rfl rfl) (.none rfl) rfl ?_
      refine AO.val (RV.move rfl) (.none rfl) rfl ?_
      refine AO.caseG rfl rfl rfl ?_ ?_
      · intro hg2
        try simp only [decide_eq_true_eq, decide_eq_false_iff_not, Bool.not_eq_true', Bool.not_eq_false', beq_iff_eq] at hg2
        refine AO.val (RV.move rfl) (.some rfl rfl rfl rfl) rfl ?_
        refine AO.val (RV.move rfl) (.some rfl rfl rfl rfl) rfl ?_
        refine AO.val (by first | exact RV.subIn rfl rfl (by omega) | exact RV.sub rfl rfl) (.some rfl rfl rfl rfl) rfl ?_
        refine AO.val (by first | exact RV.remIn rfl rfl (by omega) | exact RV.rem rfl rfl (by omega)) (.some rfl rfl rfl rfl) rfl ?_
        refine AO.val (RV.eql rfl rfl) (.some rfl rfl rfl rfl) rfl ?_
        refine AO.val (RV.pickT rfl rfl) (.none rfl) rfl ?_
        refine AO.nil ?_
        refine AK.cond rfl ?_ ?_
        · intro hc3
          try simp only [decide_eq_true_eq, decide_eq_false_iff_not, Bool.not_eq_true', Bool.not_eq_false', beq_iff_eq] at hc3
          refine AK.seq ?_
          refine AK.region ?_
          refine AO.val (RV.move rfl) (.none rfl) rfl ?_
          refine AO.val (by first | exact RV.loadAggO rfl rfl (by simp) | exact RV.loadAggP rfl rfl rfl (by simp)) (.none rfl) rfl ?_
          refine AO.val (by first | exact RV.loadAggO rfl rfl (by simp) | exact RV.loadAggP rfl rfl rfl (by simp)) (.none rfl) rfl ?_
          refine AO.val (RV.move rfl) (.none rfl) rfl ?_
          refine AO.val (RV.move rfl) (.none rfl) rfl ?_
          refine AO.val (RV.move rfl) (.none rfl) rfl ?_
          refine AO.eff (EF.callF rfl (rmake_spec B _ lo2 hi2 f hf isn (x / 134217728) (x / 16777216 % 8) (by omega) (by omega) (by omega))) (.none rfl) rfl ?_
          rintro _ _ ⟨rfl, rfl⟩
          refine AO.val (RV.eql rfl rfl) (.none rfl) rfl ?_
          refine AO.val (RV.assign rfl) (.none rfl) rfl ?_
          refine AO.nil ?_
          -- at Jc0FtT
          refine AK.ret (h' := h) Try.func7 (.tmp rfl .nil) ?_ (by first | exact SubO.sub | exact List.Sublist.refl _ | exact .cons _ (List.Sublist.refl _) | exact .cons _ (.cons _ (List.Sublist.refl _)) | exact .cons _ (.cons _ (.cons _ (List.Sublist.refl _))))
          refine ⟨rfl, ?_⟩
          simp only [rightC, oneOr]
          rw [if_neg (by omega), if_pos (by omega)]
        · intro hc3
          try simp only [decide_eq_true_eq, decide_eq_false_iff_not, Bool.not_eq_true', Bool.not_eq_false', beq_iff_eq] at hc3
          refine AK.skip ?_
          refine AK.seq ?_
          refine AK.region ?_
          refine AO.val (RV.assign rfl) (.none rfl) rfl ?_
          refine AO.nil ?_
          -- at Jc0FtF
          refine AK.ret (h' := h) Try.func7 (.tmp rfl .nil) ?_ (by first | exact SubO.sub | exact List.Sublist.refl _ | exact .cons _ (List.Sublist.refl _) | exact .cons _ (.cons _ (List.Sublist.refl _)) | exact .cons _ (.cons _ (.cons _ (List.Sublist.refl _))))
          refine ⟨rfl, ?_⟩
          simp only [rightC, oneOr]
          rw [if_neg (by omega), if_neg (by omega)]
      · intro hg2
        try simp only [decide_eq_true_eq, decide_eq_false_iff_not, Bool.not_eq_true', Bool.not_eq_false', beq_iff_eq] at hg2
        refine AO.pass (.some rfl rfl rfl rfl) rfl ?_
        refine AO.pass (.some rfl rfl rfl rfl) rfl ?_
        refine AO.pass (.some rfl rfl rfl rfl) rfl ?_
        refine AO.pass (.some rfl rfl rfl rfl) rfl ?_
        refine AO.pass (.some rfl rfl rfl rfl) rfl ?_
        refine AO.val (RV.pickF rfl rfl) (.none rfl) rfl ?_
        refine AO.nil ?_
        refine AK.condF rfl ?_
        refine AK.skip ?_
        refine AK.seq ?_
        refine AK.region ?_
        refine AO.val (RV.assign rfl) (.none rfl) rfl ?_
        refine AO.nil ?_
        -- at Jc0Ff
        refine AK.ret (h' := h) Try.func7 (.tmp rfl .nil) ?_ (by first | exact SubO.sub | exact List.Sublist.refl _ | exact .cons _ (List.Sublist.refl _) | exact .cons _ (.cons _ (List.Sublist.refl _)) | exact .cons _ (.cons _ (.cons _ (List.Sublist.refl _))))
        refine ⟨rfl, ?_⟩
        simp only [rightC, oneOr]
        rw [if_neg (by omega), if_neg (by omega)]
  · intro hjc0
    try dsimp only at hjc0
    refine AK.cond rfl ?_ ?_
    · intro hc4
      try simp only [decide_eq_true_eq, decide_eq_false_iff_not, Bool.not_eq_true', Bool.not_eq_false', beq_iff_eq] at hc4
      refine AK.region ?_
      refine AO.val (RV.assign rfl) (.none rfl) rfl ?_
      refine AO.nil ?_
      -- ways meet at T
      refine AK.weak (.cons (by rw [show max ep 0 = 0 by omega]; exact rfl) (.cons (by exact rfl) (.cons (by exact rfl) (.cons (by exact rfl) (.cons (by exact rfl) (.cons (by exact rfl) .nil)))))) (by first | exact SubO.sub | exact List.Sublist.refl _ | exact .cons _ (List.Sublist.refl _) | exact .cons _ (.cons _ (List.Sublist.refl _)) | exact .cons _ (.cons _ (.cons _ (List.Sublist.refl _)))) (hjc0 () ?_)
      · try dsimp only
        all_goals trivial
    · intro hc4
      try simp only [decide_eq_true_eq, decide_eq_false_iff_not, Bool.not_eq_true', Bool.not_eq_false', beq_iff_eq] at hc4
      refine AK.skip ?_
      -- ways meet at F
      refine AK.weak (.cons (by rw [show max ep 0 = ep by omega]; exact rfl) (.cons (by exact rfl) (.cons (by exact rfl) (.cons (by exact rfl) (.cons (by exact rfl) (.cons (by exact rfl) .nil)))))) (by first | exact SubO.sub | exact List.Sublist.refl _ | exact .cons _ (List.Sublist.refl _) | exact .cons _ (.cons _ (List.Sublist.refl _)) | exact .cons _ (.cons _ (.cons _ (List.Sublist.refl _)))) (hjc0 () ?_)
      · try dsimp only
        all_goals trivial

theorem issue_spec (B : World) (h : Own) (lo hi lo2 hi2 ep : Int) (f : Flow) (hf : FOk f) (isn : Int) (hisn : 0 ≤ isn ∧ isn ≤ 4294967295) (hep : -9223372036854775808 ≤ ep ∧ ep ≤ 9223372036854775807) (i : Int) (hi63 : i ≤ 9223372036854775807) : Tri Try.prog B 9 [.agg #[.int .u64 lo, .int .u64 hi, .int .u64 lo2, .int .u64 hi2, .int .i64 ep], .agg (encF f).toArray, .int .u32 isn, .int .i64 i] h fun v h' => h = h' ∧ v = .int .u32 (makeC lo hi f isn ep i) := by
  refine Tri.enter (n := 17) Try.func9 rfl rfl rfl ?_
  simp only [argsE, Nat.reduceAdd]
  try dsimp only [argsE]
  refine AK.seq ?_
  refine AK.region ?_
  refine AO.eff (EF.box rfl rfl) (.none rfl) rfl ?_
  rintro _ _ ⟨b4, hf4, rfl, rfl⟩
  refine AO.eff (EF.box rfl rfl) (.none rfl) rfl ?_
  rintro _ _ ⟨b5, hf5, rfl, rfl⟩
  refine AO.val (RV.assign rfl) (.none rfl) rfl ?_
  refine AO.nil ?_
  refine AK.seq ?_
  refine AK.region ?_
  refine AO.val (RV.fieldAddr rfl) (.none rfl) rfl ?_
  refine AO.val (by first | exact RV.loadAggO rfl rfl (by simp) | exact RV.loadAggP rfl rfl rfl (by simp)) (.none rfl) rfl ?_
  refine AO.val (by first | exact RV.loadAggO rfl rfl (by simp) | exact RV.loadAggP rfl rfl rfl (by simp)) (.none rfl) rfl ?_
  refine AO.val (RV.move rfl) (.none rfl) rfl ?_
  refine AO.val (RV.fieldAddr rfl) (.none rfl) rfl ?_
  refine AO.val (by first | exact RV.loadO rfl rfl (by simp) | exact RV.loadS rfl (by assumption) (by omega) (by simp)) (.none rfl) rfl ?_
  refine AO.val (RV.move rfl) (.none rfl) rfl ?_
  refine AO.eff (EF.callF rfl (make_spec B _ _ _ _ hf _ _ _ (by omega) (by omega) (by omega))) (.none rfl) rfl ?_
  rintro _ _ ⟨rfl, rfl⟩
  refine AO.val (RV.assign rfl) (.none rfl) rfl ?_
  refine AO.nil ?_
  -- at 
  refine AK.ret (h' := h) Try.func9 (.tmp rfl .nil) ?_ (by first | exact SubO.sub | exact List.Sublist.refl _ | exact .cons _ (List.Sublist.refl _) | exact .cons _ (.cons _ (List.Sublist.refl _)) | exact .cons _ (.cons _ (.cons _ (List.Sublist.refl _))))
  exact ⟨rfl, rfl⟩

theorem fresh_spec (B : World) (h : Own) (lo hi lo2 hi2 ep klo khi : Int) : Tri Try.prog B 10 [.agg #[.int .u64 lo, .int .u64 hi, .int .u64 lo2, .int .u64 hi2, .int .i64 ep], .agg #[.int .u64 klo, .int .u64 khi]] h fun v h' => h = h' ∧ v = .agg #[.int .u64 klo, .int .u64 khi, .int .u64 lo, .int .u64 hi, .int .i64 (min (max ep 0) 1073741824 + 1)] := by
  refine Tri.enter (n := 14) Try.func10 rfl rfl rfl ?_
  simp only [argsE, Nat.reduceAdd]
  try dsimp only [argsE]
  refine AK.seq ?_
  refine AK.region ?_
  refine AO.eff (EF.box rfl rfl) (.none rfl) rfl ?_
  rintro _ _ ⟨b2, hf2, rfl, rfl⟩
  refine AO.eff (EF.box rfl rfl) (.none rfl) rfl ?_
  rintro _ _ ⟨b3, hf3, rfl, rfl⟩
  refine AO.eff (EF.alloc) (.none rfl) rfl ?_
  rintro _ _ ⟨b4, hf4, rfl, rfl⟩
  refine AO.nil ?_
  refine AK.seq ?_
  refine AK.region ?_
  refine AO.val (by first | exact RV.loadAggO rfl rfl (by simp) | exact RV.loadAggP rfl rfl rfl (by simp)) (.none rfl) rfl ?_
  refine AO.val (RV.fieldAddr rfl) (.none rfl) rfl ?_
  refine AO.val (by first | exact RV.loadAggO rfl rfl (by simp) | exact RV.loadAggP rfl rfl rfl (by simp)) (.none rfl) rfl ?_
  refine AO.val (RV.fieldAddr rfl) (.none rfl) rfl ?_
  refine AO.val (by first | exact RV.loadO rfl rfl (by simp) | exact RV.loadS rfl (by assumption) (by omega) (by simp)) (.none rfl) rfl ?_
  refine AO.val (RV.max2 rfl rfl) (.none rfl) rfl ?_
  refine AO.val (RV.min2 rfl rfl) (.none rfl) rfl ?_
  refine AO.val (by first | exact RV.addIn rfl rfl (by omega) | exact RV.add rfl rfl) (.none rfl) rfl ?_
  refine AO.val (RV.build rfl (.cons rfl rfl rfl rfl (.cons rfl rfl rfl rfl (.cons rfl rfl rfl rfl .nil)))) (.none rfl) rfl ?_
  refine AO.effN (EF.storeO rfl rfl rfl rfl rfl rfl) (.none rfl) ?_
  rintro _ _ rfl
  refine AO.nil ?_
  -- at 
  refine AK.ret (h' := h) Try.func10 (.aggO rfl rfl .nil) ?_ (by first | exact SubO.sub | exact List.Sublist.refl _ | exact .cons _ (List.Sublist.refl _) | exact .cons _ (.cons _ (List.Sublist.refl _)) | exact .cons _ (.cons _ (.cons _ (List.Sublist.refl _))))
  exact ⟨rfl, rfl⟩

theorem key_eq (a b : Int) (w : World) : (Op.eqFields 9999 [Value.int .u64 a, .int .u64 b].toArray [Value.int .u64 a, .int .u64 b].toArray (Try.prog.fieldsOf 24).toList).run Try.prog w = .ok true w := by
  have e : (Try.prog.fieldsOf 24) = #[(Field.mk "Lo" 22 0 false "" "" 0), (Field.mk "Hi" 22 1 false "" "" 8)] := by kernel_rfl
  rw [e]
  have hu := UndIs.eq (P := Try.prog) (t := 22) (d := .int .u64)
  simp [Op.eqFields, part, UndIs.run, AggIs.run, run_equalIn_int, hu]

theorem F1_ok : FOk ((1, 0, 0, 0, 0, ()) : Flow) := by constructor <;> decide

theorem lives_spec (B : World) (h : Own)  : Tri Try.prog B 8 [] h fun v h' => h = h' ∧ v = .bool true := by
  have hmc := makeC_in 1 0 ((1, 0, 0, 0, 0, ()) : Flow) 7 33 5
  rw [show (max 33 0 % 32 : Int) = 1 by decide, show (max 5 0 % 8 : Int) = 5 by decide] at hmc
  have hri := right_issue 1 0 0 0 33 ((1, 0, 0, 0, 0, ()) : Flow) 7 5
  refine Tri.enter (n := 30) Try.func8 rfl rfl rfl ?_
  try dsimp only [argsE]
  refine AK.seq ?_
  refine AK.region ?_
  refine AO.val (RV.assign rfl) (.none rfl) rfl ?_
  refine AO.nil ?_
  refine AK.seq ?_
  refine AK.region ?_
  refine AO.val (RV.build rfl (.cons rfl rfl rfl rfl .nil)) (.none rfl) rfl ?_
  refine AO.val (RV.build rfl (.cons rfl rfl rfl rfl (.cons rfl rfl rfl rfl .nil))) (.none rfl) rfl ?_
  refine AO.eff (EF.alloc) (.none rfl) rfl ?_
  rintro _ _ ⟨b1, hf1, rfl, rfl⟩
  refine AO.effN (EF.storeO rfl rfl rfl rfl rfl rfl) (.none rfl) ?_
  rintro _ _ rfl
  refine AO.nil ?_
  refine AK.seq ?_
  refine AK.region ?_
  refine AO.val (by first | exact RV.loadAggO rfl rfl (by simp) | exact RV.loadAggP rfl rfl rfl (by simp)) (.none rfl) rfl ?_
  refine AO.val (RV.build rfl (.cons rfl rfl rfl rfl .nil)) (.none rfl) rfl ?_
  refine AO.eff (EF.callF rfl (issue_spec B _ 1 0 0 0 33 ((1, 0, 0, 0, 0, ()) : Flow) F1_ok 7 (by decide) (by decide) 5 (by decide))) (.none rfl) rfl ?_
  rintro _ _ ⟨rfl, rfl⟩
  refine AO.val (RV.assign rfl) (.none rfl) rfl ?_
  refine AO.nil ?_
  refine AK.seq ?_
  refine AK.region ?_
  refine AO.eff (EF.callF rfl (index_spec B _ _)) (.none rfl) rfl ?_
  rintro _ _ ⟨rfl, rfl⟩
  refine AO.val ((RV.eql rfl rfl).to (v' := .bool true) (by rw [show idxTo 1460 8 = 7 by decide]; rfl)) (.none rfl) rfl ?_
  refine AO.val (RV.move rfl) (.none rfl) rfl ?_
  refine AO.eff (EF.callF rfl (index_spec B _ _)) (.some rfl rfl rfl rfl) rfl ?_
  rintro _ _ ⟨rfl, rfl⟩
  refine AO.val ((RV.eql rfl rfl).to (v' := .bool true) (by rw [show idxTo 100 8 = 0 by decide]; rfl)) (.some rfl rfl rfl rfl) rfl ?_
  refine AO.val (RV.pickT rfl rfl) (.none rfl) rfl ?_
  refine AO.val (RV.move rfl) (.none rfl) rfl ?_
  refine AO.val (RV.move rfl) (.some rfl rfl rfl rfl) rfl ?_
  refine AO.eff (EF.callF rfl (epoch_spec B _ _ ⟨hmc.1, hmc.2.1⟩)) (.some rfl rfl rfl rfl) rfl ?_
  rintro _ _ ⟨rfl, rfl⟩
  refine AO.val ((RV.eql rfl rfl).to (v' := .bool true) (by simp [hmc.2.2.1])) (.some rfl rfl rfl rfl) rfl ?_
  refine AO.val (RV.pickT rfl rfl) (.none rfl) rfl ?_
  refine AO.val (RV.move rfl) (.none rfl) rfl ?_
  refine AO.val (RV.move rfl) (.some rfl rfl rfl rfl) rfl ?_
  refine AO.eff (EF.callF rfl (place_spec B _ _ ⟨hmc.1, hmc.2.1⟩)) (.some rfl rfl rfl rfl) rfl ?_
  rintro _ _ ⟨rfl, rfl⟩
  refine AO.val ((RV.eql rfl rfl).to (v' := .bool true) (by simp [hmc.2.2.2])) (.some rfl rfl rfl rfl) rfl ?_
  refine AO.val (RV.pickT rfl rfl) (.none rfl) rfl ?_
  refine AO.val (RV.move rfl) (.none rfl) rfl ?_
  refine AO.val (by first | exact RV.loadAggO rfl rfl (by simp) | exact RV.loadAggP rfl rfl rfl (by simp)) (.some rfl rfl rfl rfl) rfl ?_
  refine AO.val (RV.build rfl (.cons rfl rfl rfl rfl .nil)) (.some rfl rfl rfl rfl) rfl ?_
  refine AO.val (RV.move rfl) (.some rfl rfl rfl rfl) rfl ?_
  refine AO.eff (EF.callF rfl (right_spec B _ 1 0 0 0 33 ((1, 0, 0, 0, 0, ()) : Flow) F1_ok 7 (by decide) (by decide) _ ⟨hmc.1, hmc.2.1⟩)) (.some rfl rfl rfl rfl) rfl ?_
  rintro _ _ ⟨rfl, rfl⟩
  rw [hri]
  refine AO.val (RV.pickT rfl rfl) (.none rfl) rfl ?_
  refine AO.val (RV.assign rfl) (.none rfl) rfl ?_
  refine AO.nil ?_
  -- at 
  refine AK.ret (h' := h) Try.func8 (.tmp rfl .nil) ?_ (by first | exact SubO.sub | exact List.Sublist.refl _ | exact .cons _ (List.Sublist.refl _) | exact .cons _ (.cons _ (List.Sublist.refl _)) | exact .cons _ (.cons _ (.cons _ (List.Sublist.refl _))))
  exact ⟨rfl, rfl⟩

theorem makes_law (B : World) (h : Own) (lo hi : Int) (f : Flow) (hf : FOk f) (isn epoch i n : Int) (hisn : 0 ≤ isn ∧ isn ≤ 4294967295) (hep : epoch ≤ 9223372036854775807) (hi63 : -9223372036854775808 ≤ i ∧ i ≤ 9223372036854775807) : Tri Try.prog B 5 [.agg #[.int .u64 lo, .int .u64 hi], .agg (encF f).toArray, .int .u32 isn, .int .i64 epoch, .int .i64 i, .int .u16 n] h fun v h' => h = h' ∧ v = .bool true := by
  have hmc := makeC_in lo hi f isn epoch i
  have hid := idxTo_in (sizeS (i.tmod 8)) 8
  refine Tri.enter (n := 67) Try.func5 rfl rfl rfl ?_
  simp only [argsE, Nat.reduceAdd]
  try dsimp only [argsE]
  refine AK.seq ?_
  refine AK.region ?_
  refine AO.eff (EF.box rfl rfl) (.none rfl) rfl ?_
  rintro _ _ ⟨b6, hf6, rfl, rfl⟩
  refine AO.eff (EF.box rfl rfl) (.none rfl) rfl ?_
  rintro _ _ ⟨b7, hf7, rfl, rfl⟩
  refine AO.val (RV.assign rfl) (.none rfl) rfl ?_
  refine AO.nil ?_
  refine AK.seq ?_
  refine AK.region ?_
  refine AO.val (by first | exact RV.loadAggO rfl rfl (by simp) | exact RV.loadAggP rfl rfl rfl (by simp)) (.none rfl) rfl ?_
  refine AO.val (by first | exact RV.loadAggO rfl rfl (by simp) | exact RV.loadAggP rfl rfl rfl (by simp)) (.none rfl) rfl ?_
  refine AO.val (RV.move rfl) (.none rfl) rfl ?_
  refine AO.val (RV.move rfl) (.none rfl) rfl ?_
  refine AO.val (RV.move rfl) (.none rfl) rfl ?_
  refine AO.eff (EF.callF rfl (make_spec B _ _ _ _ hf _ _ _ (by omega) (by omega) (by omega))) (.none rfl) rfl ?_
  rintro _ _ ⟨rfl, rfl⟩
  refine AO.val (RV.assign rfl) (.none rfl) rfl ?_
  refine AO.nil ?_
  refine AK.seq ?_
  refine AK.seq ?_
  refine AK.region ?_
  refine AO.val (RV.move rfl) (.none rfl) rfl ?_
  refine AO.val (by first | exact RV.loadAggO rfl rfl (by simp) | exact RV.loadAggP rfl rfl rfl (by simp)) (.none rfl) rfl ?_
  refine AO.val (by first | exact RV.loadAggO rfl rfl (by simp) | exact RV.loadAggP rfl rfl rfl (by simp)) (.none rfl) rfl ?_
  refine AO.val (RV.move rfl) (.none rfl) rfl ?_
  refine AO.val (RV.move rfl) (.none rfl) rfl ?_
  refine AO.val (RV.move rfl) (.none rfl) rfl ?_
  refine AO.eff (EF.callF rfl (rmake_spec B _ _ _ _ hf _ _ _ (by omega) (by omega) (by omega))) (.none rfl) rfl ?_
  rintro _ _ ⟨rfl, rfl⟩
  refine AO.val ((RV.neq rfl rfl).to (v' := .bool false) (by simp)) (.none rfl) rfl ?_
  refine AO.val (RV.move rfl) (.none rfl) rfl ?_
  refine AO.val (RV.move rfl) (.some rfl rfl rfl rfl) rfl ?_
  refine AO.eff (EF.callF rfl (epoch_spec B _ _ ⟨hmc.1, hmc.2.1⟩)) (.some rfl rfl rfl rfl) rfl ?_
  rintro _ _ ⟨rfl, rfl⟩
  refine AO.val (RV.move rfl) (.some rfl rfl rfl rfl) rfl ?_
  refine AO.val (RV.quoIn rfl rfl (by simp only [kb]; omega)) (.some rfl rfl rfl rfl) rfl ?_
  refine AO.val (by first | exact RV.convIn rfl (by simp only [kb]; omega) | exact RV.conv rfl) (.some rfl rfl rfl rfl) rfl ?_
  refine AO.val ((RV.neq rfl rfl).to (v' := .bool false) (by simp)) (.some rfl rfl rfl rfl) rfl ?_
  refine AO.val (RV.pickF rfl rfl) (.none rfl) rfl ?_
  refine AO.val (RV.move rfl) (.none rfl) rfl ?_
  refine AO.val (RV.move rfl) (.some rfl rfl rfl rfl) rfl ?_
  refine AO.eff (EF.callF rfl (place_spec B _ _ ⟨hmc.1, hmc.2.1⟩)) (.some rfl rfl rfl rfl) rfl ?_
  rintro _ _ ⟨rfl, rfl⟩
  refine AO.val (RV.move rfl) (.some rfl rfl rfl rfl) rfl ?_
  refine AO.val (by first | exact RV.quoIn rfl rfl (by simp only [kb]; omega) | exact RV.quo rfl rfl (by omega)) (.some rfl rfl rfl rfl) rfl ?_
  refine AO.val (by first | exact RV.remIn rfl rfl (by omega) | exact RV.rem rfl rfl (by omega)) (.some rfl rfl rfl rfl) rfl ?_
  refine AO.val (by first | exact RV.convIn rfl (by simp only [kb]; omega) | exact RV.conv rfl) (.some rfl rfl rfl rfl) rfl ?_
  refine AO.val ((RV.neq rfl rfl).to (v' := .bool false) (by simp)) (.some rfl rfl rfl rfl) rfl ?_
  refine AO.val (RV.pickF rfl rfl) (.none rfl) rfl ?_
  refine AO.nil ?_
  refine AK.condF rfl ?_
  refine AK.skip ?_
  refine AK.seq ?_
  refine AK.region ?_
  refine AO.val (RV.move rfl) (.none rfl) rfl ?_
  refine AO.eff (EF.callF rfl (index_spec B _ _)) (.none rfl) rfl ?_
  rintro _ _ ⟨rfl, rfl⟩
  refine AO.val (RV.move rfl) (.none rfl) rfl ?_
  refine AO.eff (EF.callF rfl (rindex_spec B _ _)) (.none rfl) rfl ?_
  rintro _ _ ⟨rfl, rfl⟩
  refine AO.val ((RV.eql rfl rfl).to (v' := .bool true) (by simp)) (.none rfl) rfl ?_
  refine AO.val (RV.move rfl) (.none rfl) rfl ?_
  refine AO.val (RV.move rfl) (.some rfl rfl rfl rfl) rfl ?_
  refine AO.eff (EF.callF rfl (size_spec B _ _)) (.some rfl rfl rfl rfl) rfl ?_
  rintro _ _ ⟨rfl, rfl⟩
  refine AO.val (RV.move rfl) (.some rfl rfl rfl rfl) rfl ?_
  refine AO.eff (EF.callF rfl (rsize_spec B _ _)) (.some rfl rfl rfl rfl) rfl ?_
  rintro _ _ ⟨rfl, rfl⟩
  refine AO.val ((RV.eql rfl rfl).to (v' := .bool true) (by simp)) (.some rfl rfl rfl rfl) rfl ?_
  refine AO.val (RV.pickT rfl rfl) (.none rfl) rfl ?_
  refine AO.val (RV.move rfl) (.none rfl) rfl ?_
  refine AO.val (RV.move rfl) (.some rfl rfl rfl rfl) rfl ?_
  refine AO.val (RV.rem rfl rfl (by decide)) (.some rfl rfl rfl rfl) rfl ?_
  refine AO.eff (EF.callF rfl (rsize_spec B _ _)) (.some rfl rfl rfl rfl) rfl ?_
  rintro _ _ ⟨rfl, rfl⟩
  refine AO.eff (EF.callF rfl (index_spec B _ _)) (.some rfl rfl rfl rfl) rfl ?_
  rintro _ _ ⟨rfl, rfl⟩
  refine AO.val ((RV.geq rfl rfl).to (v' := .bool true) (by simp; exact hid.1)) (.some rfl rfl rfl rfl) rfl ?_
  refine AO.val (RV.pickT rfl rfl) (.none rfl) rfl ?_
  refine AO.val (RV.move rfl) (.none rfl) rfl ?_
  refine AO.eff (EF.callF rfl (lives_spec B _)) (.some rfl rfl rfl rfl) rfl ?_
  rintro _ _ ⟨rfl, rfl⟩
  refine AO.val (RV.pickT rfl rfl) (.none rfl) rfl ?_
  refine AO.val (RV.assign rfl) (.none rfl) rfl ?_
  refine AO.nil ?_
  -- at 
  refine AK.ret (h' := h) Try.func5 (.tmp rfl .nil) ?_ (by first | exact SubO.sub | exact List.Sublist.refl _ | exact .cons _ (List.Sublist.refl _) | exact .cons _ (.cons _ (List.Sublist.refl _)) | exact .cons _ (.cons _ (.cons _ (List.Sublist.refl _))))
  exact ⟨rfl, rfl⟩

theorem right_law (B : World) (h : Own) (lo hi lo2 hi2 ep : Int) (f : Flow) (hf : FOk f) (isn : Int) (hisn : 0 ≤ isn ∧ isn ≤ 4294967295) (hep : -9223372036854775808 ≤ ep ∧ ep ≤ 9223372036854775807) (x : Int) (hx : 0 ≤ x ∧ x ≤ 4294967295) : Tri Try.prog B 3 [.agg #[.int .u64 lo, .int .u64 hi, .int .u64 lo2, .int .u64 hi2, .int .i64 ep], .agg (encF f).toArray, .int .u32 isn, .int .u32 x] h fun v h' => h = h' ∧ v = .bool true := by
  refine Tri.enter (n := 28) Try.func3 rfl rfl rfl ?_
  simp only [argsE, Nat.reduceAdd]
  try dsimp only [argsE]
  refine AK.seq ?_
  refine AK.region ?_
  refine AO.eff (EF.box rfl rfl) (.none rfl) rfl ?_
  rintro _ _ ⟨b4, hf4, rfl, rfl⟩
  refine AO.eff (EF.box rfl rfl) (.none rfl) rfl ?_
  rintro _ _ ⟨b5, hf5, rfl, rfl⟩
  refine AO.val (RV.assign rfl) (.none rfl) rfl ?_
  refine AO.nil ?_
  refine AK.seq ?_
  refine AK.draw [] [14, 17] mixed ?_
  refine AD.take 0 rfl (by kernel_rfl) (by first | exact RV.loadAggO rfl rfl (by simp) | exact RV.loadAggP rfl rfl rfl (by simp)) (.none rfl) rfl ?_
  refine AD.take 1 rfl (by kernel_rfl) (by first | exact RV.loadAggO rfl rfl (by simp) | exact RV.loadAggP rfl rfl rfl (by simp)) (.none rfl) rfl ?_
  refine AD.takeP 2 rfl (by kernel_rfl) (RV.move rfl) (.none rfl) rfl ?_
  refine AD.takeP 3 rfl (by kernel_rfl) (RV.move rfl) (.none rfl) rfl ?_
  refine AD.takeP 5 rfl (by kernel_rfl) (RV.fieldAddr rfl) (.none rfl) rfl ?_
  refine AD.take 6 rfl (by kernel_rfl) (by first | exact RV.loadAggO rfl rfl (by simp) | exact RV.loadAggP rfl rfl rfl (by simp)) (.none rfl) rfl ?_
  refine AD.takeP 7 rfl (by kernel_rfl) (RV.fieldAddr rfl) (.none rfl) rfl ?_
  refine AD.take 8 rfl (by kernel_rfl) (by first | exact RV.loadAggO rfl rfl (by simp) | exact RV.loadAggP rfl rfl rfl (by simp)) (.none rfl) rfl ?_
  refine AD.takeP 9 rfl (by kernel_rfl) (RV.fieldAddr rfl) (.none rfl) rfl ?_
  refine AD.take 10 rfl (by kernel_rfl) (by first | exact RV.loadO rfl rfl (by simp) | exact RV.loadS rfl (by assumption) (by omega) (by simp)) (.none rfl) rfl ?_
  refine AD.take 11 rfl (by kernel_rfl) (by first | exact RV.loadAggO rfl rfl (by simp) | exact RV.loadAggP rfl rfl rfl (by simp)) (.none rfl) rfl ?_
  refine AD.takeP 12 rfl (by kernel_rfl) (RV.move rfl) (.none rfl) rfl ?_
  refine AD.takeP 13 rfl (by kernel_rfl) (RV.move rfl) (.none rfl) rfl ?_
  refine AD.one 4 (by kernel_rfl) (AE.eff rfl (EF.callF rfl (right_spec B _ _ _ _ _ _ _ hf _ (by omega) (by omega) _ (by omega))) (.none rfl) rfl ?_)
  rintro _ _ ⟨rfl, rfl⟩
  refine ⟨(by first | exact .inr fun x hx hM => hx | exact .inr fun x hx hM => List.mem_cons_of_mem _ hx | exact .inr fun x hx hM => List.mem_append_right _ hx), ?_⟩
  refine AD.one 14 (by kernel_rfl) (AE.eff rfl (EF.callF rfl (rright_spec B _ _ _ _ _ _ _ hf _ (by omega) (by omega) _ (by omega))) (.none rfl) rfl ?_)
  rintro _ _ ⟨rfl, rfl⟩
  refine ⟨.inl (by kernel_rfl), ?_⟩
  refine AD.takeP 15 rfl (by kernel_rfl) ((RV.eqlB rfl rfl).to (v' := .bool true) (by simp)) (.none rfl) rfl ?_
  refine AD.takeP 16 rfl (by kernel_rfl) (RV.move rfl) (.none rfl) rfl ?_
  refine AD.one 17 (by kernel_rfl) (AE.eff rfl (EF.callF rfl (lives_spec B _)) (.some rfl rfl rfl rfl) rfl ?_)
  rintro _ _ ⟨rfl, rfl⟩
  refine ⟨.inl (by kernel_rfl), ?_⟩
  refine AD.takeP 18 rfl (by kernel_rfl) (RV.pickT rfl rfl) (.none rfl) rfl ?_
  refine AD.takeP 19 rfl (by kernel_rfl) (RV.assign rfl) (.none rfl) rfl ?_
  refine AD.done (by kernel_rfl) ?_
  -- at 
  refine AK.ret (h' := h) Try.func3 (.tmp rfl .nil) ?_ (by first | exact SubO.sub | exact List.Sublist.refl _ | exact .cons _ (List.Sublist.refl _) | exact .cons _ (.cons _ (List.Sublist.refl _)) | exact .cons _ (.cons _ (.cons _ (List.Sublist.refl _))))
  exact ⟨rfl, rfl⟩

theorem lasts_law (B : World) (h : Own) (lo hi lo2 hi2 ep : Int) (f : Flow) (hf : FOk f) (isn : Int) (hisn : 0 ≤ isn ∧ isn ≤ 4294967295) (hep : -9223372036854775808 ≤ ep ∧ ep ≤ 9223372036854775807) (i : Int) (hi63 : i ≤ 9223372036854775807) (klo khi : Int) : Tri Try.prog B 4 [.agg #[.int .u64 lo, .int .u64 hi, .int .u64 lo2, .int .u64 hi2, .int .i64 ep], .agg (encF f).toArray, .int .u32 isn, .int .i64 i, .agg #[.int .u64 klo, .int .u64 khi]] h fun v h' => h = h' ∧ v = .bool true := by
  have hmc := makeC_in lo hi f isn ep i
  have hr1 := right_issue lo hi lo2 hi2 ep f isn i
  have hr2 := fun h0 => right_next lo hi klo khi ep h0 f isn i
  refine Tri.enter (n := 78) Try.func4 rfl rfl rfl ?_
  simp only [argsE, Nat.reduceAdd]
  try dsimp only [argsE]
  refine AK.seq ?_
  refine AK.region ?_
  refine AO.eff (EF.box rfl rfl) (.none rfl) rfl ?_
  rintro _ _ ⟨b5, hf5, rfl, rfl⟩
  refine AO.eff (EF.box rfl rfl) (.none rfl) rfl ?_
  rintro _ _ ⟨b6, hf6, rfl, rfl⟩
  refine AO.eff (EF.box rfl rfl) (.none rfl) rfl ?_
  rintro _ _ ⟨b9, hf9, rfl, rfl⟩
  refine AO.val (RV.assign rfl) (.none rfl) rfl ?_
  refine AO.nil ?_
  refine AK.seq ?_
  refine AK.seq ?_
  refine AK.region ?_
  refine AO.val (RV.fieldAddr rfl) (.none rfl) rfl ?_
  refine AO.val (by first | exact RV.loadO rfl rfl (by simp) | exact RV.loadS rfl (by assumption) (by omega) (by simp)) (.none rfl) rfl ?_
  refine AO.val (RV.lss rfl rfl) (.none rfl) rfl ?_
  refine AO.val (RV.move rfl) (.none rfl) rfl ?_
  refine AO.caseG rfl rfl rfl ?_ ?_
  · intro hg1
    try simp only [decide_eq_true_eq, decide_eq_false_iff_not, Bool.not_eq_true', Bool.not_eq_false', beq_iff_eq] at hg1
    refine AO.pass (.some rfl rfl rfl rfl) rfl ?_
    refine AO.pass (.some rfl rfl rfl rfl) rfl ?_
    refine AO.pass (.some rfl rfl rfl rfl) rfl ?_
    refine AO.val (RV.pickT rfl rfl) (.none rfl) rfl ?_
    refine AO.nil ?_
    refine AK.condT rfl ?_
    refine AK.seq ?_
    refine AK.region ?_
    refine AO.eff (EF.callF rfl (lives_spec B _)) (.none rfl) rfl ?_
    rintro _ _ ⟨rfl, rfl⟩
    refine AO.val (RV.assign rfl) (.none rfl) rfl ?_
    refine AO.nil ?_
    -- at t
    refine AK.ret (h' := h) Try.func4 (.tmp rfl .nil) ?_ (by first | exact SubO.sub | exact List.Sublist.refl _ | exact .cons _ (List.Sublist.refl _) | exact .cons _ (.cons _ (List.Sublist.refl _)) | exact .cons _ (.cons _ (.cons _ (List.Sublist.refl _))))
    exact ⟨rfl, rfl⟩
  · intro hg1
    try simp only [decide_eq_true_eq, decide_eq_false_iff_not, Bool.not_eq_true', Bool.not_eq_false', beq_iff_eq] at hg1
    refine AO.val (RV.fieldAddr rfl) (.some rfl rfl rfl rfl) rfl ?_
    refine AO.val (by first | exact RV.loadO rfl rfl (by simp) | exact RV.loadS rfl (by assumption) (by omega) (by simp)) (.some rfl rfl rfl rfl) rfl ?_
    refine AO.val (RV.gtr rfl rfl) (.some rfl rfl rfl rfl) rfl ?_
    refine AO.val (RV.pickF rfl rfl) (.none rfl) rfl ?_
    refine AO.nil ?_
    refine AK.cond rfl ?_ ?_
    · intro hc2
      try simp only [decide_eq_true_eq, decide_eq_false_iff_not, Bool.not_eq_true', Bool.not_eq_false', beq_iff_eq] at hc2
      refine AK.seq ?_
      refine AK.region ?_
      refine AO.eff (EF.callF rfl (lives_spec B _)) (.none rfl) rfl ?_
      rintro _ _ ⟨rfl, rfl⟩
      refine AO.val (RV.assign rfl) (.none rfl) rfl ?_
      refine AO.nil ?_
      -- at fT
      refine AK.ret (h' := h) Try.func4 (.tmp rfl .nil) ?_ (by first | exact SubO.sub | exact List.Sublist.refl _ | exact .cons _ (List.Sublist.refl _) | exact .cons _ (.cons _ (List.Sublist.refl _)) | exact .cons _ (.cons _ (.cons _ (List.Sublist.refl _))))
      exact ⟨rfl, rfl⟩
    · intro hc2
      try simp only [decide_eq_true_eq, decide_eq_false_iff_not, Bool.not_eq_true', Bool.not_eq_false', beq_iff_eq] at hc2
      refine AK.skip ?_
      refine AK.seq ?_
      refine AK.region ?_
      refine AO.val (by first | exact RV.loadAggO rfl rfl (by simp) | exact RV.loadAggP rfl rfl rfl (by simp)) (.none rfl) rfl ?_
      refine AO.val (by first | exact RV.loadAggO rfl rfl (by simp) | exact RV.loadAggP rfl rfl rfl (by simp)) (.none rfl) rfl ?_
      refine AO.val (RV.move rfl) (.none rfl) rfl ?_
      refine AO.val (RV.move rfl) (.none rfl) rfl ?_
      refine AO.eff (EF.callF rfl (issue_spec B _ _ _ _ _ _ _ hf _ (by omega) (by omega) _ (by omega))) (.none rfl) rfl ?_
      rintro _ _ ⟨rfl, rfl⟩
      refine AO.val (RV.assign rfl) (.none rfl) rfl ?_
      refine AO.nil ?_
      refine AK.seq ?_
      refine AK.region ?_
      refine AO.val (by first | exact RV.loadAggO rfl rfl (by simp) | exact RV.loadAggP rfl rfl rfl (by simp)) (.none rfl) rfl ?_
      refine AO.val (by first | exact RV.loadAggO rfl rfl (by simp) | exact RV.loadAggP rfl rfl rfl (by simp)) (.none rfl) rfl ?_
      refine AO.eff (EF.callF rfl (fresh_spec B _ _ _ _ _ _ _ _)) (.none rfl) rfl ?_
      rintro _ _ ⟨rfl, rfl⟩
      refine AO.eff (EF.alloc) (.none rfl) rfl ?_
      rintro _ _ ⟨b12, hf12, rfl, rfl⟩
      refine AO.effN (EF.storeO rfl rfl rfl rfl rfl rfl) (.none rfl) ?_
      rintro _ _ rfl
      refine AO.nil ?_
      refine AK.seq ?_
      refine AK.region ?_
      refine AO.val (by first | exact RV.loadAggO rfl rfl (by simp) | exact RV.loadAggP rfl rfl rfl (by simp)) (.none rfl) rfl ?_
      refine AO.val (by first | exact RV.loadAggO rfl rfl (by simp) | exact RV.loadAggP rfl rfl rfl (by simp)) (.none rfl) rfl ?_
      refine AO.val (RV.move rfl) (.none rfl) rfl ?_
      refine AO.val (RV.move rfl) (.none rfl) rfl ?_
      refine AO.eff (EF.callF rfl (right_spec B _ lo hi lo2 hi2 ep f hf isn hisn hep _ ⟨hmc.1, hmc.2.1⟩)) (.none rfl) rfl ?_
      rintro _ _ ⟨rfl, rfl⟩
      rw [hr1]
      refine AO.val (RV.move rfl) (.none rfl) rfl ?_
      refine AO.val (by first | exact RV.loadAggO rfl rfl (by simp) | exact RV.loadAggP rfl rfl rfl (by simp)) (.some rfl rfl rfl rfl) rfl ?_
      refine AO.val (by first | exact RV.loadAggO rfl rfl (by simp) | exact RV.loadAggP rfl rfl rfl (by simp)) (.some rfl rfl rfl rfl) rfl ?_
      refine AO.val (RV.move rfl) (.some rfl rfl rfl rfl) rfl ?_
      refine AO.val (RV.move rfl) (.some rfl rfl rfl rfl) rfl ?_
      refine AO.eff (EF.callF rfl (right_spec B _ klo khi lo hi _ f hf isn hisn (by omega) _ ⟨hmc.1, hmc.2.1⟩)) (.some rfl rfl rfl rfl) rfl ?_
      rintro _ _ ⟨rfl, rfl⟩
      rw [show min (max ep 0) 1073741824 + 1 = ep + 1 by omega, hr2 (by omega)]
      refine AO.val (RV.pickT rfl rfl) (.none rfl) rfl ?_
      refine AO.val (RV.move rfl) (.none rfl) rfl ?_
      refine AO.val (RV.fieldAddr rfl) (.some rfl rfl rfl rfl) rfl ?_
      refine AO.val (by first | exact RV.loadO rfl rfl (by simp) | exact RV.loadS rfl (by assumption) (by omega) (by simp)) (.some rfl rfl rfl rfl) rfl ?_
      refine AO.val (RV.fieldAddr rfl) (.some rfl rfl rfl rfl) rfl ?_
      refine AO.val (by first | exact RV.loadO rfl rfl (by simp) | exact RV.loadS rfl (by assumption) (by omega) (by simp)) (.some rfl rfl rfl rfl) rfl ?_
      refine AO.val (by first | exact RV.addIn rfl rfl (by omega) | exact RV.add rfl rfl) (.some rfl rfl rfl rfl) rfl ?_
      refine AO.val ((RV.eql rfl rfl).to (v' := .bool true) (by first | (simp; done) | (simp; omega))) (.some rfl rfl rfl rfl) rfl ?_
      refine AO.val (RV.pickT rfl rfl) (.none rfl) rfl ?_
      refine AO.val (RV.move rfl) (.none rfl) rfl ?_
      refine AO.val (RV.fieldAddr rfl) (.some rfl rfl rfl rfl) rfl ?_
      refine AO.val (by first | exact RV.loadAggO rfl rfl (by simp) | exact RV.loadAggP rfl rfl rfl (by simp)) (.some rfl rfl rfl rfl) rfl ?_
      refine AO.val (by first | exact RV.loadAggO rfl rfl (by simp) | exact RV.loadAggP rfl rfl rfl (by simp)) (.some rfl rfl rfl rfl) rfl ?_
      refine AO.val ((RV.eqlAgg (xs := [.int .u64 klo, .int .u64 khi]) (ys := [.int .u64 klo, .int .u64 khi]) (b := true) rfl rfl (by kernel_rfl) (by kernel_rfl) (by kernel_rfl) (key_eq klo khi))) (.some rfl rfl rfl rfl) rfl ?_
      refine AO.val (RV.pickT rfl rfl) (.none rfl) rfl ?_
      refine AO.val (RV.move rfl) (.none rfl) rfl ?_
      refine AO.val (RV.fieldAddr rfl) (.some rfl rfl rfl rfl) rfl ?_
      refine AO.val (by first | exact RV.loadAggO rfl rfl (by simp) | exact RV.loadAggP rfl rfl rfl (by simp)) (.some rfl rfl rfl rfl) rfl ?_
      refine AO.val (RV.fieldAddr rfl) (.some rfl rfl rfl rfl) rfl ?_
      refine AO.val (by first | exact RV.loadAggO rfl rfl (by simp) | exact RV.loadAggP rfl rfl rfl (by simp)) (.some rfl rfl rfl rfl) rfl ?_
      refine AO.val ((RV.eqlAgg (xs := [.int .u64 lo, .int .u64 hi]) (ys := [.int .u64 lo, .int .u64 hi]) (b := true) rfl rfl (by kernel_rfl) (by kernel_rfl) (by kernel_rfl) (key_eq lo hi))) (.some rfl rfl rfl rfl) rfl ?_
      refine AO.val (RV.pickT rfl rfl) (.none rfl) rfl ?_
      refine AO.val (RV.move rfl) (.none rfl) rfl ?_
      refine AO.val (RV.move rfl) (.some rfl rfl rfl rfl) rfl ?_
      refine AO.val (RV.fieldAddr rfl) (.some rfl rfl rfl rfl) rfl ?_
      refine AO.val (by first | exact RV.loadAggO rfl rfl (by simp) | exact RV.loadAggP rfl rfl rfl (by simp)) (.some rfl rfl rfl rfl) rfl ?_
      refine AO.val (by first | exact RV.loadAggO rfl rfl (by simp) | exact RV.loadAggP rfl rfl rfl (by simp)) (.some rfl rfl rfl rfl) rfl ?_
      refine AO.val (RV.move rfl) (.some rfl rfl rfl rfl) rfl ?_
      refine AO.val (RV.fieldAddr rfl) (.some rfl rfl rfl rfl) rfl ?_
      refine AO.val (by first | exact RV.loadO rfl rfl (by simp) | exact RV.loadS rfl (by assumption) (by omega) (by simp)) (.some rfl rfl rfl rfl) rfl ?_
      refine AO.val (RV.move rfl) (.some rfl rfl rfl rfl) rfl ?_
      refine AO.eff (EF.callF rfl (rmake_spec B _ _ _ _ hf _ _ _ (by omega) (by omega) (by omega))) (.some rfl rfl rfl rfl) rfl ?_
      rintro _ _ ⟨rfl, rfl⟩
      refine AO.val ((RV.eql rfl rfl).to (v' := .bool true) (by simp)) (.some rfl rfl rfl rfl) rfl ?_
      refine AO.val (RV.pickT rfl rfl) (.none rfl) rfl ?_
      refine AO.val (RV.move rfl) (.none rfl) rfl ?_
      refine AO.eff (EF.callF rfl (lives_spec B _)) (.some rfl rfl rfl rfl) rfl ?_
      rintro _ _ ⟨rfl, rfl⟩
      refine AO.val (RV.pickT rfl rfl) (.none rfl) rfl ?_
      refine AO.val (RV.assign rfl) (.none rfl) rfl ?_
      refine AO.nil ?_
      -- at fF
      refine AK.ret (h' := h) Try.func4 (.tmp rfl .nil) ?_ (by first | exact SubO.sub | exact List.Sublist.refl _ | exact .cons _ (List.Sublist.refl _) | exact .cons _ (.cons _ (List.Sublist.refl _)) | exact .cons _ (.cons _ (.cons _ (List.Sublist.refl _))))
      exact ⟨rfl, rfl⟩

set_option maxRecDepth 100000 in
theorem cookieMakes_lifted (os : Os) (started : os.Started) (H : Type) (enc : TypeId × Value → H) :
    ReturnsInHanded {} Try.checked os 5 .any (Rows.cookieMakesSpec.pre6 enc Try.prog Try.f5 Rows.cookieMakesRow.domain false) (Rows.cookieMakesSpec.post enc Try.prog Try.f5 false true false false) := by
  refine returnsInHanded_of_change (C := Try.checked) own_ started (by kernel_rfl) Try.func5
    (ChangeSpec.witness6 (enc := enc) (C := Try.checked) false ⟨#[], #[(Value.agg #[(Value.int IntKind.u64 0), (Value.int IntKind.u64 0)]), (Value.agg #[(Value.int IntKind.u32 0), (Value.int IntKind.u32 0), (Value.int IntKind.u16 0), (Value.int IntKind.u16 0), (Value.int IntKind.u8 0)]), (Value.int IntKind.u32 0), (Value.int IntKind.i64 0), (Value.int IntKind.i64 0), (Value.int IntKind.u16 0)], []⟩ 8 (by kernel_rfl) (by kernel_rfl) (by kernel_rfl) (by kernel_rfl)) ?_
  intro W base args ds gs before hval0 hW hcnd _
  have hval : ∀ (j : Nat) t v, Try.f5.params[j]? = some t → args[j]? = some v → Value.okWide Try.prog W .any base t v := hval0
  have hW' := hW
  obtain ⟨p, q, hA0, hV, rfl, hfz, hnd⟩ := hW
  have hA : DataW.TrodAll enc Try.prog W 0 (fun _ => true) true Try.f5.params.toList args.toList ds p := hA0
  rw [Try.params5] at hA hval
  obtain ⟨args⟩ := args
  simp only at hA
  obtain ⟨v0, vs0, d0, ds0, p0, q0, e0a, e0b, e0c, t0, r0⟩ := trodAll_cons hA
  obtain ⟨v1, vs1, d1, ds1, p1, q1, e1a, e1b, e1c, t1, r1⟩ := trodAll_cons r0
  obtain ⟨v2, vs2, d2, ds2, p2, q2, e2a, e2b, e2c, t2, r2⟩ := trodAll_cons r1
  obtain ⟨v3, vs3, d3, ds3, p3, q3, e3a, e3b, e3c, t3, r3⟩ := trodAll_cons r2
  obtain ⟨v4, vs4, d4, ds4, p4, q4, e4a, e4b, e4c, t4, r4⟩ := trodAll_cons r3
  obtain ⟨v5, vs5, d5, ds5, p5, q5, e5a, e5b, e5c, t5, r5⟩ := trodAll_cons r4
  subst e0a e0b e0c
  subst e1a e1b e1c
  subst e2a e2b e2c
  subst e3a e3b e3c
  subst e4a e4b e4c
  subst e5a e5b e5c
  obtain ⟨rfl, rfl, rfl⟩ := trodAll_nil r5
  obtain ⟨rfl, rfl⟩ := trodVars_none hV
  have hlt := hW'.lt
  have k0 : Value.okWide Try.prog W .any base 24 v0 := hval 0 _ v0 rfl rfl
  obtain ⟨k, w0, hk⟩ := Dec.argA k0 t0 ((.cons (off := 0) (sz := 1) (by rfl) (by kernel_rfl) (Dec.int (t := 22) (k := .u64)) (.cons (off := 1) (sz := 1) (by rfl) (by kernel_rfl) (Dec.int (t := 22) (k := .u64)) .nil))) (by kernel_rfl)
  have k1 : Value.okWide Try.prog W .any base 30 v1 := hval 1 _ v1 rfl rfl
  obtain ⟨f, w1, hf⟩ := Dec.argA k1 t1 ((.cons (off := 0) (sz := 1) (by rfl) (by kernel_rfl) (Dec.int (t := 27) (k := .u32)) (.cons (off := 1) (sz := 1) (by rfl) (by kernel_rfl) (Dec.int (t := 27) (k := .u32)) (.cons (off := 2) (sz := 1) (by rfl) (by kernel_rfl) (Dec.int (t := 28) (k := .u16)) (.cons (off := 3) (sz := 1) (by rfl) (by kernel_rfl) (Dec.int (t := 28) (k := .u16)) (.cons (off := 4) (sz := 1) (by rfl) (by kernel_rfl) (Dec.int (t := 5) (k := .u8)) .nil)))))) (by kernel_rfl)
  have k2 : Value.okWide Try.prog W .any base 27 v2 := hval 2 _ v2 rfl rfl
  obtain ⟨isn, w2, isn_lo, isn_hi⟩ := Dec.argI k2 t2
  have k3 : Value.okWide Try.prog W .any base 3 v3 := hval 3 _ v3 rfl rfl
  obtain ⟨epoch, w3, epoch_lo, epoch_hi⟩ := Dec.argI k3 t3
  have k4 : Value.okWide Try.prog W .any base 3 v4 := hval 4 _ v4 rfl rfl
  obtain ⟨i, w4, i_lo, i_hi⟩ := Dec.argI k4 t4
  have k5 : Value.okWide Try.prog W .any base 28 v5 := hval 5 _ v5 rfl rfl
  obtain ⟨n, w5, n_lo, n_hi⟩ := Dec.argI k5 t5
  have htri : Tri Try.prog W 5 [v0, v1, v2, v3, v4, v5] [] (fun v _ => v = .bool true) := by
    subst w0 w1 w2 w3 w4 w5
    exact (makes_law W [] k.1 k.2.1 f ⟨hf.1, hf.2.1, hf.2.2.1, hf.2.2.2.1, hf.2.2.2.2.1⟩ isn epoch i n ⟨isn_lo, isn_hi⟩ epoch_hi ⟨i_lo, i_hi⟩).mono fun v h2 hh => hh.2
  clear w0 w1 w2 w3 w4 w5
  refine (htri.run W (Models.start W)).mono fun e W' ⟨v, h2, he, m2, hv⟩ => ?_
  subst he; subst hv
  have hb := m2.below
  refine ⟨_, rfl, post_of_below (pa := (p0 ++ (p1 ++ (p2 ++ (p3 ++ (p4 ++ (p5 ++ ([])))))))) (pv := []) hW' (fun _ _ _ => trodAll_mk1 (shut_bool (Try.underlying4) true)) (fun sp hsp => ?_) (fun _ _ => rfl) rfl hb (ok_one (t := 4) (by kernel_rfl) rfl ?_)⟩
  · refine TAcons (WideElems.Trod_stays laidOut_ (by kernel_rfl) (of_decide_eq_true (by kernel_rfl)) t0 (fun x hx => hb.same (hlt x (by simp [hx]))) (fun x hx => hsp x (by simp [hx]))) ?_
    refine TAcons (WideElems.Trod_stays laidOut_ (by kernel_rfl) (of_decide_eq_true (by kernel_rfl)) t1 (fun x hx => hb.same (hlt x (by simp [hx]))) (fun x hx => hsp x (by simp [hx]))) ?_
    refine TAcons (WideElems.Trod_stays laidOut_ (by kernel_rfl) (of_decide_eq_true (by kernel_rfl)) t2 (fun x hx => hb.same (hlt x (by simp [hx]))) (fun x hx => hsp x (by simp [hx]))) ?_
    refine TAcons (WideElems.Trod_stays laidOut_ (by kernel_rfl) (of_decide_eq_true (by kernel_rfl)) t3 (fun x hx => hb.same (hlt x (by simp [hx]))) (fun x hx => hsp x (by simp [hx]))) ?_
    refine TAcons (WideElems.Trod_stays laidOut_ (by kernel_rfl) (of_decide_eq_true (by kernel_rfl)) t4 (fun x hx => hb.same (hlt x (by simp [hx]))) (fun x hx => hsp x (by simp [hx]))) ?_
    refine TAcons (WideElems.Trod_stays laidOut_ (by kernel_rfl) (of_decide_eq_true (by kernel_rfl)) t5 (fun x hx => hb.same (hlt x (by simp [hx]))) (fun x hx => hsp x (by simp [hx]))) ?_
    rfl
  · exact okBool Try.underlying4

theorem cookieMakes_holds : Rows.CookieMakesSaid :=
  OpenClaim.holds_of_wide 5 Try.f5 rfl rfl rfl rfl rfl rfl rfl ⟨rfl, rfl, rfl, rfl, rfl⟩ rfl rfl rfl rfl rfl (by kernel_rfl) Try.func5 (by kernel_rfl)
    (of_decide_eq_true (by kernel_rfl)) (by unfold Func.isWrapper; first | (rw [if_pos (by decide +kernel)]; kernel_rfl) | (rw [if_neg (by decide +kernel)]; exact ⟨rfl, rfl⟩))
    (fun os started H enc _ => cookieMakes_lifted os started H enc)

set_option maxRecDepth 100000 in
theorem cookieRight_lifted (os : Os) (started : os.Started) (H : Type) (enc : TypeId × Value → H) :
    ReturnsInHanded {} Try.checked os 3 .any (Rows.cookieRightSpec.pre6 enc Try.prog Try.f3 Rows.cookieRightRow.domain false) (Rows.cookieRightSpec.post enc Try.prog Try.f3 false true false false) := by
  refine returnsInHanded_of_change (C := Try.checked) own_ started (by kernel_rfl) Try.func3
    (ChangeSpec.witness6 (enc := enc) (C := Try.checked) false ⟨#[], #[(Value.agg #[(Value.int IntKind.u64 0), (Value.int IntKind.u64 0), (Value.int IntKind.u64 0), (Value.int IntKind.u64 0), (Value.int IntKind.i64 0)]), (Value.agg #[(Value.int IntKind.u32 0), (Value.int IntKind.u32 0), (Value.int IntKind.u16 0), (Value.int IntKind.u16 0), (Value.int IntKind.u8 0)]), (Value.int IntKind.u32 0), (Value.int IntKind.u32 0)], []⟩ 8 (by kernel_rfl) (by kernel_rfl) (by kernel_rfl) (by kernel_rfl)) ?_
  intro W base args ds gs before hval0 hW hcnd _
  have hval : ∀ (j : Nat) t v, Try.f3.params[j]? = some t → args[j]? = some v → Value.okWide Try.prog W .any base t v := hval0
  have hW' := hW
  obtain ⟨p, q, hA0, hV, rfl, hfz, hnd⟩ := hW
  have hA : DataW.TrodAll enc Try.prog W 0 (fun _ => true) true Try.f3.params.toList args.toList ds p := hA0
  rw [Try.params3] at hA hval
  obtain ⟨args⟩ := args
  simp only at hA
  obtain ⟨v0, vs0, d0, ds0, p0, q0, e0a, e0b, e0c, t0, r0⟩ := trodAll_cons hA
  obtain ⟨v1, vs1, d1, ds1, p1, q1, e1a, e1b, e1c, t1, r1⟩ := trodAll_cons r0
  obtain ⟨v2, vs2, d2, ds2, p2, q2, e2a, e2b, e2c, t2, r2⟩ := trodAll_cons r1
  obtain ⟨v3, vs3, d3, ds3, p3, q3, e3a, e3b, e3c, t3, r3⟩ := trodAll_cons r2
  subst e0a e0b e0c
  subst e1a e1b e1c
  subst e2a e2b e2c
  subst e3a e3b e3c
  obtain ⟨rfl, rfl, rfl⟩ := trodAll_nil r3
  obtain ⟨rfl, rfl⟩ := trodVars_none hV
  have hlt := hW'.lt
  have k0 : Value.okWide Try.prog W .any base 26 v0 := hval 0 _ v0 rfl rfl
  obtain ⟨s, w0, hs⟩ := Dec.argA k0 t0 ((.cons (off := 0) (sz := 2) (by rfl) (by kernel_rfl) (Dec.struct (t := 24) (.cons (off := 0) (sz := 1) (by rfl) (by kernel_rfl) (Dec.int (t := 22) (k := .u64)) (.cons (off := 1) (sz := 1) (by rfl) (by kernel_rfl) (Dec.int (t := 22) (k := .u64)) .nil)) (by kernel_rfl)) (.cons (off := 2) (sz := 2) (by rfl) (by kernel_rfl) (Dec.struct (t := 24) (.cons (off := 0) (sz := 1) (by rfl) (by kernel_rfl) (Dec.int (t := 22) (k := .u64)) (.cons (off := 1) (sz := 1) (by rfl) (by kernel_rfl) (Dec.int (t := 22) (k := .u64)) .nil)) (by kernel_rfl)) (.cons (off := 4) (sz := 1) (by rfl) (by kernel_rfl) (Dec.int (t := 3) (k := .i64)) .nil)))) (by kernel_rfl)
  have k1 : Value.okWide Try.prog W .any base 30 v1 := hval 1 _ v1 rfl rfl
  obtain ⟨f, w1, hf⟩ := Dec.argA k1 t1 ((.cons (off := 0) (sz := 1) (by rfl) (by kernel_rfl) (Dec.int (t := 27) (k := .u32)) (.cons (off := 1) (sz := 1) (by rfl) (by kernel_rfl) (Dec.int (t := 27) (k := .u32)) (.cons (off := 2) (sz := 1) (by rfl) (by kernel_rfl) (Dec.int (t := 28) (k := .u16)) (.cons (off := 3) (sz := 1) (by rfl) (by kernel_rfl) (Dec.int (t := 28) (k := .u16)) (.cons (off := 4) (sz := 1) (by rfl) (by kernel_rfl) (Dec.int (t := 5) (k := .u8)) .nil)))))) (by kernel_rfl)
  have k2 : Value.okWide Try.prog W .any base 27 v2 := hval 2 _ v2 rfl rfl
  obtain ⟨isn, w2, isn_lo, isn_hi⟩ := Dec.argI k2 t2
  have k3 : Value.okWide Try.prog W .any base 27 v3 := hval 3 _ v3 rfl rfl
  obtain ⟨x, w3, x_lo, x_hi⟩ := Dec.argI k3 t3
  have htri : Tri Try.prog W 3 [v0, v1, v2, v3] [] (fun v _ => v = .bool true) := by
    subst w0 w1 w2 w3
    exact (right_law W [] s.1.1 s.1.2.1 s.2.1.1 s.2.1.2.1 s.2.2.1 f ⟨hf.1, hf.2.1, hf.2.2.1, hf.2.2.2.1, hf.2.2.2.2.1⟩ isn ⟨isn_lo, isn_hi⟩ hs.2.2.1 x ⟨x_lo, x_hi⟩).mono fun v h2 hh => hh.2
  clear w0 w1 w2 w3
  refine (htri.run W (Models.start W)).mono fun e W' ⟨v, h2, he, m2, hv⟩ => ?_
  subst he; subst hv
  have hb := m2.below
  refine ⟨_, rfl, post_of_below (pa := (p0 ++ (p1 ++ (p2 ++ (p3 ++ ([])))))) (pv := []) hW' (fun _ _ _ => trodAll_mk1 (shut_bool (Try.underlying4) true)) (fun sp hsp => ?_) (fun _ _ => rfl) rfl hb (ok_one (t := 4) (by kernel_rfl) rfl ?_)⟩
  · refine TAcons (WideElems.Trod_stays laidOut_ (by kernel_rfl) (of_decide_eq_true (by kernel_rfl)) t0 (fun x hx => hb.same (hlt x (by simp [hx]))) (fun x hx => hsp x (by simp [hx]))) ?_
    refine TAcons (WideElems.Trod_stays laidOut_ (by kernel_rfl) (of_decide_eq_true (by kernel_rfl)) t1 (fun x hx => hb.same (hlt x (by simp [hx]))) (fun x hx => hsp x (by simp [hx]))) ?_
    refine TAcons (WideElems.Trod_stays laidOut_ (by kernel_rfl) (of_decide_eq_true (by kernel_rfl)) t2 (fun x hx => hb.same (hlt x (by simp [hx]))) (fun x hx => hsp x (by simp [hx]))) ?_
    refine TAcons (WideElems.Trod_stays laidOut_ (by kernel_rfl) (of_decide_eq_true (by kernel_rfl)) t3 (fun x hx => hb.same (hlt x (by simp [hx]))) (fun x hx => hsp x (by simp [hx]))) ?_
    rfl
  · exact okBool Try.underlying4

theorem cookieRight_holds : Rows.CookieRightSaid :=
  OpenClaim.holds_of_wide 3 Try.f3 rfl rfl rfl rfl rfl rfl rfl ⟨rfl, rfl, rfl, rfl, rfl⟩ rfl rfl rfl rfl rfl (by kernel_rfl) Try.func3 (by kernel_rfl)
    (of_decide_eq_true (by kernel_rfl)) (by unfold Func.isWrapper; first | (rw [if_pos (by decide +kernel)]; kernel_rfl) | (rw [if_neg (by decide +kernel)]; exact ⟨rfl, rfl⟩))
    (fun os started H enc _ => cookieRight_lifted os started H enc)

set_option maxRecDepth 100000 in
theorem cookieLasts_lifted (os : Os) (started : os.Started) (H : Type) (enc : TypeId × Value → H) :
    ReturnsInHanded {} Try.checked os 4 .any (Rows.cookieLastsSpec.pre6 enc Try.prog Try.f4 Rows.cookieLastsRow.domain false) (Rows.cookieLastsSpec.post enc Try.prog Try.f4 false true false false) := by
  refine returnsInHanded_of_change (C := Try.checked) own_ started (by kernel_rfl) Try.func4
    (ChangeSpec.witness6 (enc := enc) (C := Try.checked) false ⟨#[], #[(Value.agg #[(Value.int IntKind.u64 0), (Value.int IntKind.u64 0), (Value.int IntKind.u64 0), (Value.int IntKind.u64 0), (Value.int IntKind.i64 0)]), (Value.agg #[(Value.int IntKind.u32 0), (Value.int IntKind.u32 0), (Value.int IntKind.u16 0), (Value.int IntKind.u16 0), (Value.int IntKind.u8 0)]), (Value.int IntKind.u32 0), (Value.int IntKind.i64 0), (Value.agg #[(Value.int IntKind.u64 0), (Value.int IntKind.u64 0)])], []⟩ 8 (by kernel_rfl) (by kernel_rfl) (by kernel_rfl) (by kernel_rfl)) ?_
  intro W base args ds gs before hval0 hW hcnd _
  have hval : ∀ (j : Nat) t v, Try.f4.params[j]? = some t → args[j]? = some v → Value.okWide Try.prog W .any base t v := hval0
  have hW' := hW
  obtain ⟨p, q, hA0, hV, rfl, hfz, hnd⟩ := hW
  have hA : DataW.TrodAll enc Try.prog W 0 (fun _ => true) true Try.f4.params.toList args.toList ds p := hA0
  rw [Try.params4] at hA hval
  obtain ⟨args⟩ := args
  simp only at hA
  obtain ⟨v0, vs0, d0, ds0, p0, q0, e0a, e0b, e0c, t0, r0⟩ := trodAll_cons hA
  obtain ⟨v1, vs1, d1, ds1, p1, q1, e1a, e1b, e1c, t1, r1⟩ := trodAll_cons r0
  obtain ⟨v2, vs2, d2, ds2, p2, q2, e2a, e2b, e2c, t2, r2⟩ := trodAll_cons r1
  obtain ⟨v3, vs3, d3, ds3, p3, q3, e3a, e3b, e3c, t3, r3⟩ := trodAll_cons r2
  obtain ⟨v4, vs4, d4, ds4, p4, q4, e4a, e4b, e4c, t4, r4⟩ := trodAll_cons r3
  subst e0a e0b e0c
  subst e1a e1b e1c
  subst e2a e2b e2c
  subst e3a e3b e3c
  subst e4a e4b e4c
  obtain ⟨rfl, rfl, rfl⟩ := trodAll_nil r4
  obtain ⟨rfl, rfl⟩ := trodVars_none hV
  have hlt := hW'.lt
  have k0 : Value.okWide Try.prog W .any base 26 v0 := hval 0 _ v0 rfl rfl
  obtain ⟨s, w0, hs⟩ := Dec.argA k0 t0 ((.cons (off := 0) (sz := 2) (by rfl) (by kernel_rfl) (Dec.struct (t := 24) (.cons (off := 0) (sz := 1) (by rfl) (by kernel_rfl) (Dec.int (t := 22) (k := .u64)) (.cons (off := 1) (sz := 1) (by rfl) (by kernel_rfl) (Dec.int (t := 22) (k := .u64)) .nil)) (by kernel_rfl)) (.cons (off := 2) (sz := 2) (by rfl) (by kernel_rfl) (Dec.struct (t := 24) (.cons (off := 0) (sz := 1) (by rfl) (by kernel_rfl) (Dec.int (t := 22) (k := .u64)) (.cons (off := 1) (sz := 1) (by rfl) (by kernel_rfl) (Dec.int (t := 22) (k := .u64)) .nil)) (by kernel_rfl)) (.cons (off := 4) (sz := 1) (by rfl) (by kernel_rfl) (Dec.int (t := 3) (k := .i64)) .nil)))) (by kernel_rfl)
  have k1 : Value.okWide Try.prog W .any base 30 v1 := hval 1 _ v1 rfl rfl
  obtain ⟨f, w1, hf⟩ := Dec.argA k1 t1 ((.cons (off := 0) (sz := 1) (by rfl) (by kernel_rfl) (Dec.int (t := 27) (k := .u32)) (.cons (off := 1) (sz := 1) (by rfl) (by kernel_rfl) (Dec.int (t := 27) (k := .u32)) (.cons (off := 2) (sz := 1) (by rfl) (by kernel_rfl) (Dec.int (t := 28) (k := .u16)) (.cons (off := 3) (sz := 1) (by rfl) (by kernel_rfl) (Dec.int (t := 28) (k := .u16)) (.cons (off := 4) (sz := 1) (by rfl) (by kernel_rfl) (Dec.int (t := 5) (k := .u8)) .nil)))))) (by kernel_rfl)
  have k2 : Value.okWide Try.prog W .any base 27 v2 := hval 2 _ v2 rfl rfl
  obtain ⟨isn, w2, isn_lo, isn_hi⟩ := Dec.argI k2 t2
  have k3 : Value.okWide Try.prog W .any base 3 v3 := hval 3 _ v3 rfl rfl
  obtain ⟨i, w3, i_lo, i_hi⟩ := Dec.argI k3 t3
  have k4 : Value.okWide Try.prog W .any base 24 v4 := hval 4 _ v4 rfl rfl
  obtain ⟨k, w4, hk⟩ := Dec.argA k4 t4 ((.cons (off := 0) (sz := 1) (by rfl) (by kernel_rfl) (Dec.int (t := 22) (k := .u64)) (.cons (off := 1) (sz := 1) (by rfl) (by kernel_rfl) (Dec.int (t := 22) (k := .u64)) .nil))) (by kernel_rfl)
  have htri : Tri Try.prog W 4 [v0, v1, v2, v3, v4] [] (fun v _ => v = .bool true) := by
    subst w0 w1 w2 w3 w4
    exact (lasts_law W [] s.1.1 s.1.2.1 s.2.1.1 s.2.1.2.1 s.2.2.1 f ⟨hf.1, hf.2.1, hf.2.2.1, hf.2.2.2.1, hf.2.2.2.2.1⟩ isn ⟨isn_lo, isn_hi⟩ hs.2.2.1 i i_hi k.1 k.2.1).mono fun v h2 hh => hh.2
  clear w0 w1 w2 w3 w4
  refine (htri.run W (Models.start W)).mono fun e W' ⟨v, h2, he, m2, hv⟩ => ?_
  subst he; subst hv
  have hb := m2.below
  refine ⟨_, rfl, post_of_below (pa := (p0 ++ (p1 ++ (p2 ++ (p3 ++ (p4 ++ ([]))))))) (pv := []) hW' (fun _ _ _ => trodAll_mk1 (shut_bool (Try.underlying4) true)) (fun sp hsp => ?_) (fun _ _ => rfl) rfl hb (ok_one (t := 4) (by kernel_rfl) rfl ?_)⟩
  · refine TAcons (WideElems.Trod_stays laidOut_ (by kernel_rfl) (of_decide_eq_true (by kernel_rfl)) t0 (fun x hx => hb.same (hlt x (by simp [hx]))) (fun x hx => hsp x (by simp [hx]))) ?_
    refine TAcons (WideElems.Trod_stays laidOut_ (by kernel_rfl) (of_decide_eq_true (by kernel_rfl)) t1 (fun x hx => hb.same (hlt x (by simp [hx]))) (fun x hx => hsp x (by simp [hx]))) ?_
    refine TAcons (WideElems.Trod_stays laidOut_ (by kernel_rfl) (of_decide_eq_true (by kernel_rfl)) t2 (fun x hx => hb.same (hlt x (by simp [hx]))) (fun x hx => hsp x (by simp [hx]))) ?_
    refine TAcons (WideElems.Trod_stays laidOut_ (by kernel_rfl) (of_decide_eq_true (by kernel_rfl)) t3 (fun x hx => hb.same (hlt x (by simp [hx]))) (fun x hx => hsp x (by simp [hx]))) ?_
    refine TAcons (WideElems.Trod_stays laidOut_ (by kernel_rfl) (of_decide_eq_true (by kernel_rfl)) t4 (fun x hx => hb.same (hlt x (by simp [hx]))) (fun x hx => hsp x (by simp [hx]))) ?_
    rfl
  · exact okBool Try.underlying4

theorem cookieLasts_holds : Rows.CookieLastsSaid :=
  OpenClaim.holds_of_wide 4 Try.f4 rfl rfl rfl rfl rfl rfl rfl ⟨rfl, rfl, rfl, rfl, rfl⟩ rfl rfl rfl rfl rfl (by kernel_rfl) Try.func4 (by kernel_rfl)
    (of_decide_eq_true (by kernel_rfl)) (by unfold Func.isWrapper; first | (rw [if_pos (by decide +kernel)]; kernel_rfl) | (rw [if_neg (by decide +kernel)]; exact ⟨rfl, rfl⟩))
    (fun os started H enc _ => cookieLasts_lifted os started H enc)

end Go.Proofs.Ytahoidodkeijbaa
