/- Walks through the code: what each function that is named here gives back, from any memory that holds its arguments. Written by a program of the claim's author, out of the program's form in Lean. -/
import Derived.Test.YtimdeghcidegcaaW1
set_option linter.unusedSimpArgs false
set_option linter.unusedVariables false
namespace Go.Proofs.Ytimdeghcidegcaa
open Go.Sep Go.Sep.Score

theorem next_law (B : World) (h : Own) (u : Bool) (g b : Int) (good : Bool) (r f : Int) : Tri Try.prog B 3 [.agg #[.bool u, .int .i64 g, .int .i64 b], .bool good, .int .i64 r, .int .i64 f] h fun v h' => h = h' ∧ v = .bool true := by
  refine Tri.enter (n := 67) Try.func3 rfl rfl rfl ?_
  simp only [argsE, Nat.reduceAdd]
  try dsimp only [argsE]
  refine AK.seq ?_
  refine AK.region ?_
  refine AO.eff (EF.box rfl rfl) (.none rfl) rfl ?_
  rintro _ _ ⟨b4, hf4, rfl, rfl⟩
  refine AO.val (RV.assign rfl) (.none rfl) rfl ?_
  refine AO.nil ?_
  refine AK.seq ?_
  refine AK.region ?_
  refine AO.val (RV.loadAggO rfl rfl (by simp)) (.none rfl) rfl ?_
  refine AO.val (RV.move rfl) (.none rfl) rfl ?_
  refine AO.val (RV.move rfl) (.none rfl) rfl ?_
  refine AO.val (RV.move rfl) (.none rfl) rfl ?_
  refine AO.eff (EF.callF rfl (next_spec B _ _ _ _ _ _ _)) (.none rfl) rfl ?_
  rintro _ _ ⟨rfl, rfl⟩
  obtain ⟨u1, g1, b1, e1, hT, hF⟩ := next_facts u g b good r f
  rw [e1]
  clear e1
  refine AO.eff (EF.alloc) (.none rfl) rfl ?_
  rintro _ _ ⟨b9, hf9, rfl, rfl⟩
  refine AO.effN (EF.storeO rfl rfl rfl rfl rfl rfl) (.none rfl) ?_
  rintro _ _ rfl
  refine AO.nil ?_
  refine AK.seq ?_
  refine AK.region ?_
  refine AO.val (RV.fieldAddr rfl) (.none rfl) rfl ?_
  refine AO.val (by first | exact RV.loadO rfl rfl (by simp) | exact RV.loadS rfl (by assumption) (by omega) (by simp)) (.none rfl) rfl ?_
  refine AO.val (RV.assign rfl) (.none rfl) rfl ?_
  refine AO.nil ?_
  refine AK.seq ?_
  refine AK.seq ?_
  refine AK.region ?_
  refine AO.val (RV.move rfl) (.none rfl) rfl ?_
  refine AO.nil ?_
  refine AK.cond rfl ?_ ?_
  · intro hc1
    try simp only [decide_eq_true_eq, decide_eq_false_iff_not, Bool.not_eq_true', Bool.not_eq_false', beq_iff_eq] at hc1
    try (have hT := hT hc1; clear hF)
    try (have hF := hF hc1)
    try simp only [Int.not_lt] at hc1
    refine AK.region ?_
    refine AO.val (RV.fieldAddr rfl) (.none rfl) rfl ?_
    refine AO.val (by first | exact RV.loadO rfl rfl (by simp) | exact RV.loadS rfl (by assumption) (by omega) (by simp)) (.none rfl) rfl ?_
    refine AO.val (RV.assign rfl) (.none rfl) rfl ?_
    refine AO.nil ?_
    refine AK.seq ?_
    refine AK.seq ?_
    refine AK.region ?_
    refine AO.val (RV.move rfl) (.none rfl) rfl ?_
    refine AO.val (RV.lss rfl rfl) (.none rfl) rfl ?_
    refine AO.nil ?_
    refine AK.cond rfl ?_ ?_
    · intro hc2
      try simp only [decide_eq_true_eq, decide_eq_false_iff_not, Bool.not_eq_true', Bool.not_eq_false', beq_iff_eq] at hc2
      refine AK.region ?_
      refine AO.val (RV.assign rfl) (.none rfl) rfl ?_
      refine AO.nil ?_
      refine AK.seq ?_
      refine AK.seq ?_
      refine AK.region ?_
      refine AO.val (RV.move rfl) (.none rfl) rfl ?_
      refine AO.val (RV.gtr rfl rfl) (.none rfl) rfl ?_
      refine AO.nil ?_
      refine AK.cond rfl ?_ ?_
      · intro hc3
        try simp only [decide_eq_true_eq, decide_eq_false_iff_not, Bool.not_eq_true', Bool.not_eq_false', beq_iff_eq] at hc3
        exfalso; omega
      · intro hc3
        try simp only [decide_eq_true_eq, decide_eq_false_iff_not, Bool.not_eq_true', Bool.not_eq_false', beq_iff_eq] at hc3
        refine AK.skip ?_
        refine AK.seq ?_
        refine AK.draw [] [] mixed ?_
        refine AD.takeP 0 rfl (by kernel_rfl) (RV.fieldAddr rfl) (.none rfl) rfl ?_
        refine AD.take 1 rfl (by kernel_rfl) (by first | exact RV.loadO rfl rfl (by simp) | exact RV.loadS rfl (by assumption) (by omega) (by simp)) (.none rfl) rfl ?_
        refine AD.takeP 2 rfl (by kernel_rfl) (RV.fieldAddr rfl) (.none rfl) rfl ?_
        refine AD.take 3 rfl (by kernel_rfl) (by first | exact RV.loadO rfl rfl (by simp) | exact RV.loadS rfl (by assumption) (by omega) (by simp)) (.none rfl) rfl ?_
        refine AD.takeP 4 rfl (by kernel_rfl) (RV.move rfl) (.none rfl) rfl ?_
        refine AD.takeP 5 rfl (by kernel_rfl) (RV.assign rfl) (.none rfl) rfl ?_
        refine AD.takeP 6 rfl (by kernel_rfl) (RV.assign rfl) (.none rfl) rfl ?_
        refine AD.takeP 7 rfl (by kernel_rfl) (RV.assign rfl) (.none rfl) rfl ?_
        refine AD.done (by kernel_rfl) ?_
        refine AK.seq ?_
        refine AK.seq ?_
        refine AK.region ?_
        refine AO.val (RV.move rfl) (.none rfl) rfl ?_
        refine AO.nil ?_
        refine AK.cond rfl ?_ ?_
        · intro hc27
          try simp only [decide_eq_true_eq, decide_eq_false_iff_not, Bool.not_eq_true', Bool.not_eq_false', beq_iff_eq] at hc27
          refine AK.draw [] [] mixed ?_
          refine AD.takeP 0 rfl (by kernel_rfl) (RV.fieldAddr rfl) (.none rfl) rfl ?_
          refine AD.take 1 rfl (by kernel_rfl) (by first | exact RV.loadO rfl rfl (by simp) | exact RV.loadS rfl (by assumption) (by omega) (by simp)) (.none rfl) rfl ?_
          refine AD.takeP 2 rfl (by kernel_rfl) (RV.fieldAddr rfl) (.none rfl) rfl ?_
          refine AD.take 3 rfl (by kernel_rfl) (by first | exact RV.loadO rfl rfl (by simp) | exact RV.loadS rfl (by assumption) (by omega) (by simp)) (.none rfl) rfl ?_
          refine AD.takeP 4 rfl (by kernel_rfl) (RV.move rfl) (.none rfl) rfl ?_
          refine AD.takeP 5 rfl (by kernel_rfl) (RV.assign rfl) (.none rfl) rfl ?_
          refine AD.takeP 6 rfl (by kernel_rfl) (RV.assign rfl) (.none rfl) rfl ?_
          refine AD.takeP 7 rfl (by kernel_rfl) (RV.assign rfl) (.none rfl) rfl ?_
          refine AD.done (by kernel_rfl) ?_
          refine AK.seq ?_
          refine AK.seq ?_
          refine AK.region ?_
          refine AO.val (RV.move rfl) (.none rfl) rfl ?_
          refine AO.val (RV.lss rfl rfl) (.none rfl) rfl ?_
          refine AO.nil ?_
          refine AK.cond rfl ?_ ?_
          · intro hc28
            try simp only [decide_eq_true_eq, decide_eq_false_iff_not, Bool.not_eq_true', Bool.not_eq_false', beq_iff_eq] at hc28
            refine AK.region ?_
            refine AO.val (RV.assign rfl) (.none rfl) rfl ?_
            refine AO.nil ?_
            refine AK.seq ?_
            refine AK.seq ?_
            refine AK.region ?_
            refine AO.val (RV.move rfl) (.none rfl) rfl ?_
            refine AO.val (RV.move rfl) (.none rfl) rfl ?_
            refine AO.val (by first | exact RV.addIn rfl rfl (by omega) | exact RV.add rfl rfl) (.none rfl) rfl ?_
            refine AO.val (RV.neq rfl rfl) (.none rfl) rfl ?_
            refine AO.val (RV.move rfl) (.none rfl) rfl ?_
            refine AO.caseG rfl rfl rfl ?_ ?_
            · intro hg29
              try simp only [decide_eq_true_eq, decide_eq_false_iff_not, Bool.not_eq_true', Bool.not_eq_false', beq_iff_eq] at hg29
              refine AO.pass (.some rfl rfl rfl rfl) rfl ?_
              refine AO.pass (.some rfl rfl rfl rfl) rfl ?_
              refine AO.val (RV.pickT rfl rfl) (.none rfl) rfl ?_
              refine AO.nil ?_
              refine AK.condT rfl ?_
              refine AK.seq ?_
              refine AK.region ?_
              refine AO.val (RV.assign rfl) (.none rfl) rfl ?_
              refine AO.nil ?_
              -- at TTFTTt
              refine AK.ret (h' := h) Try.func3 (.tmp rfl .nil) ?_ (by first | exact SubO.sub | exact List.Sublist.refl _ | exact .cons _ (List.Sublist.refl _) | exact .cons _ (.cons _ (List.Sublist.refl _)) | exact .cons _ (.cons _ (.cons _ (List.Sublist.refl _))))
              first
              | exact ⟨rfl, rfl⟩
              | (exfalso; obtain ⟨q1, q2, q3, q4⟩ := hT; omega)
              | (exfalso; obtain ⟨q1, q2, q3, q4⟩ := hT; have := q3 (by omega); simp_all; done)
              | (exfalso; obtain ⟨q1, q2, q3, q4⟩ := hT; have := q4 (by omega); simp_all; done)
            · intro hg29
              try simp only [decide_eq_true_eq, decide_eq_false_iff_not, Bool.not_eq_true', Bool.not_eq_false', beq_iff_eq] at hg29
              refine AO.val (RV.move rfl) (.some rfl rfl rfl rfl) rfl ?_
              refine AO.val (RV.neq rfl rfl) (.some rfl rfl rfl rfl) rfl ?_
              refine AO.val (RV.pickF rfl rfl) (.none rfl) rfl ?_
              refine AO.nil ?_
              refine AK.cond rfl ?_ ?_
              · intro hc30
                try simp only [decide_eq_true_eq, decide_eq_false_iff_not, Bool.not_eq_true', Bool.not_eq_false', beq_iff_eq] at hc30
                refine AK.seq ?_
                refine AK.region ?_
                refine AO.val (RV.assign rfl) (.none rfl) rfl ?_
                refine AO.nil ?_
                -- at TTFTTfT
                refine AK.ret (h' := h) Try.func3 (.tmp rfl .nil) ?_ (by first | exact SubO.sub | exact List.Sublist.refl _ | exact .cons _ (List.Sublist.refl _) | exact .cons _ (.cons _ (List.Sublist.refl _)) | exact .cons _ (.cons _ (.cons _ (List.Sublist.refl _))))
                first
                | exact ⟨rfl, rfl⟩
                | (exfalso; obtain ⟨q1, q2, q3, q4⟩ := hT; omega)
                | (exfalso; obtain ⟨q1, q2, q3, q4⟩ := hT; have := q3 (by omega); simp_all; done)
                | (exfalso; obtain ⟨q1, q2, q3, q4⟩ := hT; have := q4 (by omega); simp_all; done)
              · intro hc30
                try simp only [decide_eq_true_eq, decide_eq_false_iff_not, Bool.not_eq_true', Bool.not_eq_false', beq_iff_eq] at hc30
                refine AK.skip ?_
                refine AK.seq ?_
                refine AK.seq ?_
                refine AK.region ?_
                refine AO.val (RV.move rfl) (.none rfl) rfl ?_
                refine AO.val (RV.move rfl) (.none rfl) rfl ?_
                refine AO.val (RV.geq rfl rfl) (.none rfl) rfl ?_
                refine AO.nil ?_
                refine AK.cond rfl ?_ ?_
                · intro hc31
                  try simp only [decide_eq_true_eq, decide_eq_false_iff_not, Bool.not_eq_true', Bool.not_eq_false', beq_iff_eq] at hc31
                  refine AK.seq ?_
                  refine AK.region ?_
                  refine AO.val (RV.fieldAddr rfl) (.none rfl) rfl ?_
                  refine AO.val (by first | exact RV.loadO rfl rfl (by simp) | exact RV.loadS rfl (by assumption) (by omega) (by simp)) (.none rfl) rfl ?_
                  refine AO.val (RV.move rfl) (.none rfl) rfl ?_
                  refine AO.val (RV.eqlB rfl rfl) (.none rfl) rfl ?_
                  refine AO.val (RV.move rfl) (.none rfl) rfl ?_
                  refine AO.caseG rfl rfl rfl ?_ ?_
                  · intro hg32
                    try simp only [decide_eq_true_eq, decide_eq_false_iff_not, Bool.not_eq_true', Bool.not_eq_false', beq_iff_eq] at hg32
                    refine AO.eff (EF.callF rfl (lives_spec B _)) (.some rfl rfl rfl rfl) rfl ?_
                    rintro _ _ ⟨rfl, rfl⟩
                    refine AO.val (RV.pickT rfl rfl) (.none rfl) rfl ?_
                    refine AO.val (RV.assign rfl) (.none rfl) rfl ?_
                    refine AO.nil ?_
                    -- at TTFTTfFTt
                    refine AK.ret (h' := h) Try.func3 (.tmp rfl .nil) ?_ (by first | exact SubO.sub | exact List.Sublist.refl _ | exact .cons _ (List.Sublist.refl _) | exact .cons _ (.cons _ (List.Sublist.refl _)) | exact .cons _ (.cons _ (.cons _ (List.Sublist.refl _))))
                    first
                    | exact ⟨rfl, rfl⟩
                    | (exfalso; obtain ⟨q1, q2, q3, q4⟩ := hT; omega)
                    | (exfalso; obtain ⟨q1, q2, q3, q4⟩ := hT; have := q3 (by omega); simp_all; done)
                    | (exfalso; obtain ⟨q1, q2, q3, q4⟩ := hT; have := q4 (by omega); simp_all; done)
                  · intro hg32
                    try simp only [decide_eq_true_eq, decide_eq_false_iff_not, Bool.not_eq_true', Bool.not_eq_false', beq_iff_eq] at hg32
                    refine AO.pass (.some rfl rfl rfl rfl) rfl ?_
                    refine AO.val (RV.pickF rfl rfl) (.none rfl) rfl ?_
                    refine AO.val (RV.assign rfl) (.none rfl) rfl ?_
                    refine AO.nil ?_
                    -- at TTFTTfFTf
                    refine AK.ret (h' := h) Try.func3 (.tmp rfl .nil) ?_ (by first | exact SubO.sub | exact List.Sublist.refl _ | exact .cons _ (List.Sublist.refl _) | exact .cons _ (.cons _ (List.Sublist.refl _)) | exact .cons _ (.cons _ (.cons _ (List.Sublist.refl _))))
                    first
                    | exact ⟨rfl, rfl⟩
                    | (exfalso; obtain ⟨q1, q2, q3, q4⟩ := hT; omega)
                    | (exfalso; obtain ⟨q1, q2, q3, q4⟩ := hT; have := q3 (by omega); simp_all; done)
                    | (exfalso; obtain ⟨q1, q2, q3, q4⟩ := hT; have := q4 (by omega); simp_all; done)
                · intro hc31
                  try simp only [decide_eq_true_eq, decide_eq_false_iff_not, Bool.not_eq_true', Bool.not_eq_false', beq_iff_eq] at hc31
                  refine AK.skip ?_
                  refine AK.seq ?_
                  refine AK.region ?_
                  refine AO.val (RV.fieldAddr rfl) (.none rfl) rfl ?_
                  refine AO.val (by first | exact RV.loadO rfl rfl (by simp) | exact RV.loadS rfl (by assumption) (by omega) (by simp)) (.none rfl) rfl ?_
                  refine AO.val (RV.fieldAddr rfl) (.none rfl) rfl ?_
                  refine AO.val (by first | exact RV.loadO rfl rfl (by simp) | exact RV.loadS rfl (by assumption) (by omega) (by simp)) (.none rfl) rfl ?_
                  refine AO.val (RV.eqlB rfl rfl) (.none rfl) rfl ?_
                  refine AO.val (RV.move rfl) (.none rfl) rfl ?_
                  refine AO.caseG rfl rfl rfl ?_ ?_
                  · intro hg33
                    try simp only [decide_eq_true_eq, decide_eq_false_iff_not, Bool.not_eq_true', Bool.not_eq_false', beq_iff_eq] at hg33
                    refine AO.eff (EF.callF rfl (lives_spec B _)) (.some rfl rfl rfl rfl) rfl ?_
                    rintro _ _ ⟨rfl, rfl⟩
                    refine AO.val (RV.pickT rfl rfl) (.none rfl) rfl ?_
                    refine AO.val (RV.assign rfl) (.none rfl) rfl ?_
                    refine AO.nil ?_
                    -- at TTFTTfFFt
                    refine AK.ret (h' := h) Try.func3 (.tmp rfl .nil) ?_ (by first | exact SubO.sub | exact List.Sublist.refl _ | exact .cons _ (List.Sublist.refl _) | exact .cons _ (.cons _ (List.Sublist.refl _)) | exact .cons _ (.cons _ (.cons _ (List.Sublist.refl _))))
                    first
                    | exact ⟨rfl, rfl⟩
                    | (exfalso; obtain ⟨q1, q2, q3, q4⟩ := hT; omega)
                    | (exfalso; obtain ⟨q1, q2, q3, q4⟩ := hT; have := q3 (by omega); simp_all; done)
                    | (exfalso; obtain ⟨q1, q2, q3, q4⟩ := hT; have := q4 (by omega); simp_all; done)
                  · intro hg33
                    try simp only [decide_eq_true_eq, decide_eq_false_iff_not, Bool.not_eq_true', Bool.not_eq_false', beq_iff_eq] at hg33
                    refine AO.pass (.some rfl rfl rfl rfl) rfl ?_
                    refine AO.val (RV.pickF rfl rfl) (.none rfl) rfl ?_
                    refine AO.val (RV.assign rfl) (.none rfl) rfl ?_
                    refine AO.nil ?_
                    -- at TTFTTfFFf
                    refine AK.ret (h' := h) Try.func3 (.tmp rfl .nil) ?_ (by first | exact SubO.sub | exact List.Sublist.refl _ | exact .cons _ (List.Sublist.refl _) | exact .cons _ (.cons _ (List.Sublist.refl _)) | exact .cons _ (.cons _ (.cons _ (List.Sublist.refl _))))
                    first
                    | exact ⟨rfl, rfl⟩
                    | (exfalso; obtain ⟨q1, q2, q3, q4⟩ := hT; omega)
                    | (exfalso; obtain ⟨q1, q2, q3, q4⟩ := hT; have := q3 (by omega); simp_all; done)
                    | (exfalso; obtain ⟨q1, q2, q3, q4⟩ := hT; have := q4 (by omega); simp_all; done)
          · intro hc28
            try simp only [decide_eq_true_eq, decide_eq_false_iff_not, Bool.not_eq_true', Bool.not_eq_false', beq_iff_eq] at hc28
            refine AK.skip ?_
            refine AK.seq ?_
            refine AK.seq ?_
            refine AK.region ?_
            refine AO.val (RV.move rfl) (.none rfl) rfl ?_
            refine AO.val (RV.move rfl) (.none rfl) rfl ?_
            refine AO.val (by first | exact RV.addIn rfl rfl (by omega) | exact RV.add rfl rfl) (.none rfl) rfl ?_
            refine AO.val (RV.neq rfl rfl) (.none rfl) rfl ?_
            refine AO.val (RV.move rfl) (.none rfl) rfl ?_
            refine AO.caseG rfl rfl rfl ?_ ?_
            · intro hg34
              try simp only [decide_eq_true_eq, decide_eq_false_iff_not, Bool.not_eq_true', Bool.not_eq_false', beq_iff_eq] at hg34
              refine AO.pass (.some rfl rfl rfl rfl) rfl ?_
              refine AO.pass (.some rfl rfl rfl rfl) rfl ?_
              refine AO.val (RV.pickT rfl rfl) (.none rfl) rfl ?_
              refine AO.nil ?_
              refine AK.condT rfl ?_
              refine AK.seq ?_
              refine AK.region ?_
              refine AO.val (RV.assign rfl) (.none rfl) rfl ?_
              refine AO.nil ?_
              -- at TTFTFt
              refine AK.ret (h' := h) Try.func3 (.tmp rfl .nil) ?_ (by first | exact SubO.sub | exact List.Sublist.refl _ | exact .cons _ (List.Sublist.refl _) | exact .cons _ (.cons _ (List.Sublist.refl _)) | exact .cons _ (.cons _ (.cons _ (List.Sublist.refl _))))
              first
              | exact ⟨rfl, rfl⟩
              | (exfalso; obtain ⟨q1, q2, q3, q4⟩ := hT; omega)
              | (exfalso; obtain ⟨q1, q2, q3, q4⟩ := hT; have := q3 (by omega); simp_all; done)
              | (exfalso; obtain ⟨q1, q2, q3, q4⟩ := hT; have := q4 (by omega); simp_all; done)
            · intro hg34
              try simp only [decide_eq_true_eq, decide_eq_false_iff_not, Bool.not_eq_true', Bool.not_eq_false', beq_iff_eq] at hg34
              refine AO.val (RV.move rfl) (.some rfl rfl rfl rfl) rfl ?_
              refine AO.val (RV.neq rfl rfl) (.some rfl rfl rfl rfl) rfl ?_
              refine AO.val (RV.pickF rfl rfl) (.none rfl) rfl ?_
              refine AO.nil ?_
              refine AK.cond rfl ?_ ?_
              · intro hc35
                try simp only [decide_eq_true_eq, decide_eq_false_iff_not, Bool.not_eq_true', Bool.not_eq_false', beq_iff_eq] at hc35
                refine AK.seq ?_
                refine AK.region ?_
                refine AO.val (RV.assign rfl) (.none rfl) rfl ?_
                refine AO.nil ?_
                -- at TTFTFfT
                refine AK.ret (h' := h) Try.func3 (.tmp rfl .nil) ?_ (by first | exact SubO.sub | exact List.Sublist.refl _ | exact .cons _ (List.Sublist.refl _) | exact .cons _ (.cons _ (List.Sublist.refl _)) | exact .cons _ (.cons _ (.cons _ (List.Sublist.refl _))))
                first
                | exact ⟨rfl, rfl⟩
                | (exfalso; obtain ⟨q1, q2, q3, q4⟩ := hT; omega)
                | (exfalso; obtain ⟨q1, q2, q3, q4⟩ := hT; have := q3 (by omega); simp_all; done)
                | (exfalso; obtain ⟨q1, q2, q3, q4⟩ := hT; have := q4 (by omega); simp_all; done)
              · intro hc35
                try simp only [decide_eq_true_eq, decide_eq_false_iff_not, Bool.not_eq_true', Bool.not_eq_false', beq_iff_eq] at hc35
                refine AK.skip ?_
                refine AK.seq ?_
                refine AK.seq ?_
                refine AK.region ?_
                refine AO.val (RV.move rfl) (.none rfl) rfl ?_
                refine AO.val (RV.move rfl) (.none rfl) rfl ?_
                refine AO.val (RV.geq rfl rfl) (.none rfl) rfl ?_
                refine AO.nil ?_
                refine AK.cond rfl ?_ ?_
                · intro hc36
                  try simp only [decide_eq_true_eq, decide_eq_false_iff_not, Bool.not_eq_true', Bool.not_eq_false', beq_iff_eq] at hc36
                  refine AK.seq ?_
                  refine AK.region ?_
                  refine AO.val (RV.fieldAddr rfl) (.none rfl) rfl ?_
                  refine AO.val (by first | exact RV.loadO rfl rfl (by simp) | exact RV.loadS rfl (by assumption) (by omega) (by simp)) (.none rfl) rfl ?_
                  refine AO.val (RV.move rfl) (.none rfl) rfl ?_
                  refine AO.val (RV.eqlB rfl rfl) (.none rfl) rfl ?_
                  refine AO.val (RV.move rfl) (.none rfl) rfl ?_
                  refine AO.caseG rfl rfl rfl ?_ ?_
                  · intro hg37
                    try simp only [decide_eq_true_eq, decide_eq_false_iff_not, Bool.not_eq_true', Bool.not_eq_false', beq_iff_eq] at hg37
                    refine AO.eff (EF.callF rfl (lives_spec B _)) (.some rfl rfl rfl rfl) rfl ?_
                    rintro _ _ ⟨rfl, rfl⟩
                    refine AO.val (RV.pickT rfl rfl) (.none rfl) rfl ?_
                    refine AO.val (RV.assign rfl) (.none rfl) rfl ?_
                    refine AO.nil ?_
                    -- at TTFTFfFTt
                    refine AK.ret (h' := h) Try.func3 (.tmp rfl .nil) ?_ (by first | exact SubO.sub | exact List.Sublist.refl _ | exact .cons _ (List.Sublist.refl _) | exact .cons _ (.cons _ (List.Sublist.refl _)) | exact .cons _ (.cons _ (.cons _ (List.Sublist.refl _))))
                    first
                    | exact ⟨rfl, rfl⟩
                    | (exfalso; obtain ⟨q1, q2, q3, q4⟩ := hT; omega)
                    | (exfalso; obtain ⟨q1, q2, q3, q4⟩ := hT; have := q3 (by omega); simp_all; done)
                    | (exfalso; obtain ⟨q1, q2, q3, q4⟩ := hT; have := q4 (by omega); simp_all; done)
                  · intro hg37
                    try simp only [decide_eq_true_eq, decide_eq_false_iff_not, Bool.not_eq_true', Bool.not_eq_false', beq_iff_eq] at hg37
                    refine AO.pass (.some rfl rfl rfl rfl) rfl ?_
                    refine AO.val (RV.pickF rfl rfl) (.none rfl) rfl ?_
                    refine AO.val (RV.assign rfl) (.none rfl) rfl ?_
                    refine AO.nil ?_
                    -- at TTFTFfFTf
                    refine AK.ret (h' := h) Try.func3 (.tmp rfl .nil) ?_ (by first | exact SubO.sub | exact List.Sublist.refl _ | exact .cons _ (List.Sublist.refl _) | exact .cons _ (.cons _ (List.Sublist.refl _)) | exact .cons _ (.cons _ (.cons _ (List.Sublist.refl _))))
                    first
                    | exact ⟨rfl, rfl⟩
                    | (exfalso; obtain ⟨q1, q2, q3, q4⟩ := hT; omega)
                    | (exfalso; obtain ⟨q1, q2, q3, q4⟩ := hT; have := q3 (by omega); simp_all; done)
                    | (exfalso; obtain ⟨q1, q2, q3, q4⟩ := hT; have := q4 (by omega); simp_all; done)
                · intro hc36
                  try simp only [decide_eq_true_eq, decide_eq_false_iff_not, Bool.not_eq_true', Bool.not_eq_false', beq_iff_eq] at hc36
                  refine AK.skip ?_
                  refine AK.seq ?_
                  refine AK.region ?_
                  refine AO.val (RV.fieldAddr rfl) (.none rfl) rfl ?_
                  refine AO.val (by first | exact RV.loadO rfl rfl (by simp) | exact RV.loadS rfl (by assumption) (by omega) (by simp)) (.none rfl) rfl ?_
                  refine AO.val (RV.fieldAddr rfl) (.none rfl) rfl ?_
                  refine AO.val (by first | exact RV.loadO rfl rfl (by simp) | exact RV.loadS rfl (by assumption) (by omega) (by simp)) (.none rfl) rfl ?_
                  refine AO.val (RV.eqlB rfl rfl) (.none rfl) rfl ?_
                  refine AO.val (RV.move rfl) (.none rfl) rfl ?_
                  refine AO.caseG rfl rfl rfl ?_ ?_
                  · intro hg38
                    try simp only [decide_eq_true_eq, decide_eq_false_iff_not, Bool.not_eq_true', Bool.not_eq_false', beq_iff_eq] at hg38
                    refine AO.eff (EF.callF rfl (lives_spec B _)) (.some rfl rfl rfl rfl) rfl ?_
                    rintro _ _ ⟨rfl, rfl⟩
                    refine AO.val (RV.pickT rfl rfl) (.none rfl) rfl ?_
                    refine AO.val (RV.assign rfl) (.none rfl) rfl ?_
                    refine AO.nil ?_
                    -- at TTFTFfFFt
                    refine AK.ret (h' := h) Try.func3 (.tmp rfl .nil) ?_ (by first | exact SubO.sub | exact List.Sublist.refl _ | exact .cons _ (List.Sublist.refl _) | exact .cons _ (.cons _ (List.Sublist.refl _)) | exact .cons _ (.cons _ (.cons _ (List.Sublist.refl _))))
                    first
                    | exact ⟨rfl, rfl⟩
                    | (exfalso; obtain ⟨q1, q2, q3, q4⟩ := hT; omega)
                    | (exfalso; obtain ⟨q1, q2, q3, q4⟩ := hT; have := q3 (by omega); simp_all; done)
                    | (exfalso; obtain ⟨q1, q2, q3, q4⟩ := hT; have := q4 (by omega); simp_all; done)
                  · intro hg38
                    try simp only [decide_eq_true_eq, decide_eq_false_iff_not, Bool.not_eq_true', Bool.not_eq_false', beq_iff_eq] at hg38
                    refine AO.pass (.some rfl rfl rfl rfl) rfl ?_
                    refine AO.val (RV.pickF rfl rfl) (.none rfl) rfl ?_
                    refine AO.val (RV.assign rfl) (.none rfl) rfl ?_
                    refine AO.nil ?_
                    -- at TTFTFfFFf
                    refine AK.ret (h' := h) Try.func3 (.tmp rfl .nil) ?_ (by first | exact SubO.sub | exact List.Sublist.refl _ | exact .cons _ (List.Sublist.refl _) | exact .cons _ (.cons _ (List.Sublist.refl _)) | exact .cons _ (.cons _ (.cons _ (List.Sublist.refl _))))
                    first
                    | exact ⟨rfl, rfl⟩
                    | (exfalso; obtain ⟨q1, q2, q3, q4⟩ := hT; omega)
                    | (exfalso; obtain ⟨q1, q2, q3, q4⟩ := hT; have := q3 (by omega); simp_all; done)
                    | (exfalso; obtain ⟨q1, q2, q3, q4⟩ := hT; have := q4 (by omega); simp_all; done)
        · intro hc27
          try simp only [decide_eq_true_eq, decide_eq_false_iff_not, Bool.not_eq_true', Bool.not_eq_false', beq_iff_eq] at hc27
          exfalso; simp_all
    · intro hc2
      try simp only [decide_eq_true_eq, decide_eq_false_iff_not, Bool.not_eq_true', Bool.not_eq_false', beq_iff_eq] at hc2
      refine AK.skip ?_
      refine AK.seq ?_
      refine AK.seq ?_
      refine AK.region ?_
      refine AO.val (RV.move rfl) (.none rfl) rfl ?_
      refine AO.val (RV.gtr rfl rfl) (.none rfl) rfl ?_
      refine AO.nil ?_
      refine AK.cond rfl ?_ ?_
      · intro hc50
        try simp only [decide_eq_true_eq, decide_eq_false_iff_not, Bool.not_eq_true', Bool.not_eq_false', beq_iff_eq] at hc50
        refine AK.region ?_
        refine AO.val (RV.assign rfl) (.none rfl) rfl ?_
        refine AO.nil ?_
        refine AK.seq ?_
        refine AK.draw [] [] mixed ?_
        refine AD.takeP 0 rfl (by kernel_rfl) (RV.fieldAddr rfl) (.none rfl) rfl ?_
        refine AD.take 1 rfl (by kernel_rfl) (by first | exact RV.loadO rfl rfl (by simp) | exact RV.loadS rfl (by assumption) (by omega) (by simp)) (.none rfl) rfl ?_
        refine AD.takeP 2 rfl (by kernel_rfl) (RV.fieldAddr rfl) (.none rfl) rfl ?_
        refine AD.take 3 rfl (by kernel_rfl) (by first | exact RV.loadO rfl rfl (by simp) | exact RV.loadS rfl (by assumption) (by omega) (by simp)) (.none rfl) rfl ?_
        refine AD.takeP 4 rfl (by kernel_rfl) (RV.move rfl) (.none rfl) rfl ?_
        refine AD.takeP 5 rfl (by kernel_rfl) (RV.assign rfl) (.none rfl) rfl ?_
        refine AD.takeP 6 rfl (by kernel_rfl) (RV.assign rfl) (.none rfl) rfl ?_
        refine AD.takeP 7 rfl (by kernel_rfl) (RV.assign rfl) (.none rfl) rfl ?_
        refine AD.done (by kernel_rfl) ?_
        refine AK.seq ?_
        refine AK.seq ?_
        refine AK.region ?_
        refine AO.val (RV.move rfl) (.none rfl) rfl ?_
        refine AO.nil ?_
        refine AK.cond rfl ?_ ?_
        · intro hc51
          try simp only [decide_eq_true_eq, decide_eq_false_iff_not, Bool.not_eq_true', Bool.not_eq_false', beq_iff_eq] at hc51
          refine AK.draw [] [] mixed ?_
          refine AD.takeP 0 rfl (by kernel_rfl) (RV.fieldAddr rfl) (.none rfl) rfl ?_
          refine AD.take 1 rfl (by kernel_rfl) (by first | exact RV.loadO rfl rfl (by simp) | exact RV.loadS rfl (by assumption) (by omega) (by simp)) (.none rfl) rfl ?_
          refine AD.takeP 2 rfl (by kernel_rfl) (RV.fieldAddr rfl) (.none rfl) rfl ?_
          refine AD.take 3 rfl (by kernel_rfl) (by first | exact RV.loadO rfl rfl (by simp) | exact RV.loadS rfl (by assumption) (by omega) (by simp)) (.none rfl) rfl ?_
          refine AD.takeP 4 rfl (by kernel_rfl) (RV.move rfl) (.none rfl) rfl ?_
          refine AD.takeP 5 rfl (by kernel_rfl) (RV.assign rfl) (.none rfl) rfl ?_
          refine AD.takeP 6 rfl (by kernel_rfl) (RV.assign rfl) (.none rfl) rfl ?_
          refine AD.takeP 7 rfl (by kernel_rfl) (RV.assign rfl) (.none rfl) rfl ?_
          refine AD.done (by kernel_rfl) ?_
          refine AK.seq ?_
          refine AK.seq ?_
          refine AK.region ?_
          refine AO.val (RV.move rfl) (.none rfl) rfl ?_
          refine AO.val (RV.lss rfl rfl) (.none rfl) rfl ?_
          refine AO.nil ?_
          refine AK.cond rfl ?_ ?_
          · intro hc52
            try simp only [decide_eq_true_eq, decide_eq_false_iff_not, Bool.not_eq_true', Bool.not_eq_false', beq_iff_eq] at hc52
            refine AK.region ?_
            refine AO.val (RV.assign rfl) (.none rfl) rfl ?_
            refine AO.nil ?_
            refine AK.seq ?_
            refine AK.seq ?_
            refine AK.region ?_
            refine AO.val (RV.move rfl) (.none rfl) rfl ?_
            refine AO.val (RV.move rfl) (.none rfl) rfl ?_
            refine AO.val (by first | exact RV.addIn rfl rfl (by omega) | exact RV.add rfl rfl) (.none rfl) rfl ?_
            refine AO.val (RV.neq rfl rfl) (.none rfl) rfl ?_
            refine AO.val (RV.move rfl) (.none rfl) rfl ?_
            refine AO.caseG rfl rfl rfl ?_ ?_
            · intro hg53
              try simp only [decide_eq_true_eq, decide_eq_false_iff_not, Bool.not_eq_true', Bool.not_eq_false', beq_iff_eq] at hg53
              refine AO.pass (.some rfl rfl rfl rfl) rfl ?_
              refine AO.pass (.some rfl rfl rfl rfl) rfl ?_
              refine AO.val (RV.pickT rfl rfl) (.none rfl) rfl ?_
              refine AO.nil ?_
              refine AK.condT rfl ?_
              refine AK.seq ?_
              refine AK.region ?_
              refine AO.val (RV.assign rfl) (.none rfl) rfl ?_
              refine AO.nil ?_
              -- at TFTTTt
              refine AK.ret (h' := h) Try.func3 (.tmp rfl .nil) ?_ (by first | exact SubO.sub | exact List.Sublist.refl _ | exact .cons _ (List.Sublist.refl _) | exact .cons _ (.cons _ (List.Sublist.refl _)) | exact .cons _ (.cons _ (.cons _ (List.Sublist.refl _))))
              first
              | exact ⟨rfl, rfl⟩
              | (exfalso; obtain ⟨q1, q2, q3, q4⟩ := hT; omega)
              | (exfalso; obtain ⟨q1, q2, q3, q4⟩ := hT; have := q3 (by omega); simp_all; done)
              | (exfalso; obtain ⟨q1, q2, q3, q4⟩ := hT; have := q4 (by omega); simp_all; done)
            · intro hg53
              try simp only [decide_eq_true_eq, decide_eq_false_iff_not, Bool.not_eq_true', Bool.not_eq_false', beq_iff_eq] at hg53
              refine AO.val (RV.move rfl) (.some rfl rfl rfl rfl) rfl ?_
              refine AO.val (RV.neq rfl rfl) (.some rfl rfl rfl rfl) rfl ?_
              refine AO.val (RV.pickF rfl rfl) (.none rfl) rfl ?_
              refine AO.nil ?_
              refine AK.cond rfl ?_ ?_
              · intro hc54
                try simp only [decide_eq_true_eq, decide_eq_false_iff_not, Bool.not_eq_true', Bool.not_eq_false', beq_iff_eq] at hc54
                refine AK.seq ?_
                refine AK.region ?_
                refine AO.val (RV.assign rfl) (.none rfl) rfl ?_
                refine AO.nil ?_
                -- at TFTTTfT
                refine AK.ret (h' := h) Try.func3 (.tmp rfl .nil) ?_ (by first | exact SubO.sub | exact List.Sublist.refl _ | exact .cons _ (List.Sublist.refl _) | exact .cons _ (.cons _ (List.Sublist.refl _)) | exact .cons _ (.cons _ (.cons _ (List.Sublist.refl _))))
                first
                | exact ⟨rfl, rfl⟩
                | (exfalso; obtain ⟨q1, q2, q3, q4⟩ := hT; omega)
                | (exfalso; obtain ⟨q1, q2, q3, q4⟩ := hT; have := q3 (by omega); simp_all; done)
                | (exfalso; obtain ⟨q1, q2, q3, q4⟩ := hT; have := q4 (by omega); simp_all; done)
              · intro hc54
                try simp only [decide_eq_true_eq, decide_eq_false_iff_not, Bool.not_eq_true', Bool.not_eq_false', beq_iff_eq] at hc54
                refine AK.skip ?_
                refine AK.seq ?_
                refine AK.seq ?_
                refine AK.region ?_
                refine AO.val (RV.move rfl) (.none rfl) rfl ?_
                refine AO.val (RV.move rfl) (.none rfl) rfl ?_
                refine AO.val (RV.geq rfl rfl) (.none rfl) rfl ?_
                refine AO.nil ?_
                refine AK.cond rfl ?_ ?_
                · intro hc55
                  try simp only [decide_eq_true_eq, decide_eq_false_iff_not, Bool.not_eq_true', Bool.not_eq_false', beq_iff_eq] at hc55
                  refine AK.seq ?_
                  refine AK.region ?_
                  refine AO.val (RV.fieldAddr rfl) (.none rfl) rfl ?_
                  refine AO.val (by first | exact RV.loadO rfl rfl (by simp) | exact RV.loadS rfl (by assumption) (by omega) (by simp)) (.none rfl) rfl ?_
                  refine AO.val (RV.move rfl) (.none rfl) rfl ?_
                  refine AO.val (RV.eqlB rfl rfl) (.none rfl) rfl ?_
                  refine AO.val (RV.move rfl) (.none rfl) rfl ?_
                  refine AO.caseG rfl rfl rfl ?_ ?_
                  · intro hg56
                    try simp only [decide_eq_true_eq, decide_eq_false_iff_not, Bool.not_eq_true', Bool.not_eq_false', beq_iff_eq] at hg56
                    refine AO.eff (EF.callF rfl (lives_spec B _)) (.some rfl rfl rfl rfl) rfl ?_
                    rintro _ _ ⟨rfl, rfl⟩
                    refine AO.val (RV.pickT rfl rfl) (.none rfl) rfl ?_
                    refine AO.val (RV.assign rfl) (.none rfl) rfl ?_
                    refine AO.nil ?_
                    -- at TFTTTfFTt
                    refine AK.ret (h' := h) Try.func3 (.tmp rfl .nil) ?_ (by first | exact SubO.sub | exact List.Sublist.refl _ | exact .cons _ (List.Sublist.refl _) | exact .cons _ (.cons _ (List.Sublist.refl _)) | exact .cons _ (.cons _ (.cons _ (List.Sublist.refl _))))
                    first
                    | exact ⟨rfl, rfl⟩
                    | (exfalso; obtain ⟨q1, q2, q3, q4⟩ := hT; omega)
                    | (exfalso; obtain ⟨q1, q2, q3, q4⟩ := hT; have := q3 (by omega); simp_all; done)
                    | (exfalso; obtain ⟨q1, q2, q3, q4⟩ := hT; have := q4 (by omega); simp_all; done)
                  · intro hg56
                    try simp only [decide_eq_true_eq, decide_eq_false_iff_not, Bool.not_eq_true', Bool.not_eq_false', beq_iff_eq] at hg56
                    refine AO.pass (.some rfl rfl rfl rfl) rfl ?_
                    refine AO.val (RV.pickF rfl rfl) (.none rfl) rfl ?_
                    refine AO.val (RV.assign rfl) (.none rfl) rfl ?_
                    refine AO.nil ?_
                    -- at TFTTTfFTf
                    refine AK.ret (h' := h) Try.func3 (.tmp rfl .nil) ?_ (by first | exact SubO.sub | exact List.Sublist.refl _ | exact .cons _ (List.Sublist.refl _) | exact .cons _ (.cons _ (List.Sublist.refl _)) | exact .cons _ (.cons _ (.cons _ (List.Sublist.refl _))))
                    first
                    | exact ⟨rfl, rfl⟩
                    | (exfalso; obtain ⟨q1, q2, q3, q4⟩ := hT; omega)
                    | (exfalso; obtain ⟨q1, q2, q3, q4⟩ := hT; have := q3 (by omega); simp_all; done)
                    | (exfalso; obtain ⟨q1, q2, q3, q4⟩ := hT; have := q4 (by omega); simp_all; done)
                · intro hc55
                  try simp only [decide_eq_true_eq, decide_eq_false_iff_not, Bool.not_eq_true', Bool.not_eq_false', beq_iff_eq] at hc55
                  refine AK.skip ?_
                  refine AK.seq ?_
                  refine AK.region ?_
                  refine AO.val (RV.fieldAddr rfl) (.none rfl) rfl ?_
                  refine AO.val (by first | exact RV.loadO rfl rfl (by simp) | exact RV.loadS rfl (by assumption) (by omega) (by simp)) (.none rfl) rfl ?_
                  refine AO.val (RV.fieldAddr rfl) (.none rfl) rfl ?_
                  refine AO.val (by first | exact RV.loadO rfl rfl (by simp) | exact RV.loadS rfl (by assumption) (by omega) (by simp)) (.none rfl) rfl ?_
                  refine AO.val (RV.eqlB rfl rfl) (.none rfl) rfl ?_
                  refine AO.val (RV.move rfl) (.none rfl) rfl ?_
                  refine AO.caseG rfl rfl rfl ?_ ?_
                  · intro hg57
                    try simp only [decide_eq_true_eq, decide_eq_false_iff_not, Bool.not_eq_true', Bool.not_eq_false', beq_iff_eq] at hg57
                    refine AO.eff (EF.callF rfl (lives_spec B _)) (.some rfl rfl rfl rfl) rfl ?_
                    rintro _ _ ⟨rfl, rfl⟩
                    refine AO.val (RV.pickT rfl rfl) (.none rfl) rfl ?_
                    refine AO.val (RV.assign rfl) (.none rfl) rfl ?_
                    refine AO.nil ?_
                    -- at TFTTTfFFt
                    refine AK.ret (h' := h) Try.func3 (.tmp rfl .nil) ?_ (by first | exact SubO.sub | exact List.Sublist.refl _ | exact .cons _ (List.Sublist.refl _) | exact .cons _ (.cons _ (List.Sublist.refl _)) | exact .cons _ (.cons _ (.cons _ (List.Sublist.refl _))))
                    first
                    | exact ⟨rfl, rfl⟩
                    | (exfalso; obtain ⟨q1, q2, q3, q4⟩ := hT; omega)
                    | (exfalso; obtain ⟨q1, q2, q3, q4⟩ := hT; have := q3 (by omega); simp_all; done)
                    | (exfalso; obtain ⟨q1, q2, q3, q4⟩ := hT; have := q4 (by omega); simp_all; done)
                  · intro hg57
                    try simp only [decide_eq_true_eq, decide_eq_false_iff_not, Bool.not_eq_true', Bool.not_eq_false', beq_iff_eq] at hg57
                    refine AO.pass (.some rfl rfl rfl rfl) rfl ?_
                    refine AO.val (RV.pickF rfl rfl) (.none rfl) rfl ?_
                    refine AO.val (RV.assign rfl) (.none rfl) rfl ?_
                    refine AO.nil ?_
                    -- at TFTTTfFFf
                    refine AK.ret (h' := h) Try.func3 (.tmp rfl .nil) ?_ (by first | exact SubO.sub | exact List.Sublist.refl _ | exact .cons _ (List.Sublist.refl _) | exact .cons _ (.cons _ (List.Sublist.refl _)) | exact .cons _ (.cons _ (.cons _ (List.Sublist.refl _))))
                    first
                    | exact ⟨rfl, rfl⟩
                    | (exfalso; obtain ⟨q1, q2, q3, q4⟩ := hT; omega)
                    | (exfalso; obtain ⟨q1, q2, q3, q4⟩ := hT; have := q3 (by omega); simp_all; done)
                    | (exfalso; obtain ⟨q1, q2, q3, q4⟩ := hT; have := q4 (by omega); simp_all; done)
          · intro hc52
            try simp only [decide_eq_true_eq, decide_eq_false_iff_not, Bool.not_eq_true', Bool.not_eq_false', beq_iff_eq] at hc52
            refine AK.skip ?_
            refine AK.seq ?_
            refine AK.seq ?_
            refine AK.region ?_
            refine AO.val (RV.move rfl) (.none rfl) rfl ?_
            refine AO.val (RV.move rfl) (.none rfl) rfl ?_
            refine AO.val (by first | exact RV.addIn rfl rfl (by omega) | exact RV.add rfl rfl) (.none rfl) rfl ?_
            refine AO.val (RV.neq rfl rfl) (.none rfl) rfl ?_
            refine AO.val (RV.move rfl) (.none rfl) rfl ?_
            refine AO.caseG rfl rfl rfl ?_ ?_
            · intro hg58
              try simp only [decide_eq_true_eq, decide_eq_false_iff_not, Bool.not_eq_true', Bool.not_eq_false', beq_iff_eq] at hg58
              refine AO.pass (.some rfl rfl rfl rfl) rfl ?_
              refine AO.pass (.some rfl rfl rfl rfl) rfl ?_
              refine AO.val (RV.pickT rfl rfl) (.none rfl) rfl ?_
              refine AO.nil ?_
              refine AK.condT rfl ?_
              refine AK.seq ?_
              refine AK.region ?_
              refine AO.val (RV.assign rfl) (.none rfl) rfl ?_
              refine AO.nil ?_
              -- at TFTTFt
              refine AK.ret (h' := h) Try.func3 (.tmp rfl .nil) ?_ (by first | exact SubO.sub | exact List.Sublist.refl _ | exact .cons _ (List.Sublist.refl _) | exact .cons _ (.cons _ (List.Sublist.refl _)) | exact .cons _ (.cons _ (.cons _ (List.Sublist.refl _))))
              first
              | exact ⟨rfl, rfl⟩
              | (exfalso; obtain ⟨q1, q2, q3, q4⟩ := hT; omega)
              | (exfalso; obtain ⟨q1, q2, q3, q4⟩ := hT; have := q3 (by omega); simp_all; done)
              | (exfalso; obtain ⟨q1, q2, q3, q4⟩ := hT; have := q4 (by omega); simp_all; done)
            · intro hg58
              try simp only [decide_eq_true_eq, decide_eq_false_iff_not, Bool.not_eq_true', Bool.not_eq_false', beq_iff_eq] at hg58
              refine AO.val (RV.move rfl) (.some rfl rfl rfl rfl) rfl ?_
              refine AO.val (RV.neq rfl rfl) (.some rfl rfl rfl rfl) rfl ?_
              refine AO.val (RV.pickF rfl rfl) (.none rfl) rfl ?_
              refine AO.nil ?_
              refine AK.cond rfl ?_ ?_
              · intro hc59
                try simp only [decide_eq_true_eq, decide_eq_false_iff_not, Bool.not_eq_true', Bool.not_eq_false', beq_iff_eq] at hc59
                refine AK.seq ?_
                refine AK.region ?_
                refine AO.val (RV.assign rfl) (.none rfl) rfl ?_
                refine AO.nil ?_
                -- at TFTTFfT
                refine AK.ret (h' := h) Try.func3 (.tmp rfl .nil) ?_ (by first | exact SubO.sub | exact List.Sublist.refl _ | exact .cons _ (List.Sublist.refl _) | exact .cons _ (.cons _ (List.Sublist.refl _)) | exact .cons _ (.cons _ (.cons _ (List.Sublist.refl _))))
                first
                | exact ⟨rfl, rfl⟩
                | (exfalso; obtain ⟨q1, q2, q3, q4⟩ := hT; omega)
                | (exfalso; obtain ⟨q1, q2, q3, q4⟩ := hT; have := q3 (by omega); simp_all; done)
                | (exfalso; obtain ⟨q1, q2, q3, q4⟩ := hT; have := q4 (by omega); simp_all; done)
              · intro hc59
                try simp only [decide_eq_true_eq, decide_eq_false_iff_not, Bool.not_eq_true', Bool.not_eq_false', beq_iff_eq] at hc59
                refine AK.skip ?_
                refine AK.seq ?_
                refine AK.seq ?_
                refine AK.region ?_
                refine AO.val (RV.move rfl) (.none rfl) rfl ?_
                refine AO.val (RV.move rfl) (.none rfl) rfl ?_
                refine AO.val (RV.geq rfl rfl) (.none rfl) rfl ?_
                refine AO.nil ?_
                refine AK.cond rfl ?_ ?_
                · intro hc60
                  try simp only [decide_eq_true_eq, decide_eq_false_iff_not, Bool.not_eq_true', Bool.not_eq_false', beq_iff_eq] at hc60
                  refine AK.seq ?_
                  refine AK.region ?_
                  refine AO.val (RV.fieldAddr rfl) (.none rfl) rfl ?_
                  refine AO.val (by first | exact RV.loadO rfl rfl (by simp) | exact RV.loadS rfl (by assumption) (by omega) (by simp)) (.none rfl) rfl ?_
                  refine AO.val (RV.move rfl) (.none rfl) rfl ?_
                  refine AO.val (RV.eqlB rfl rfl) (.none rfl) rfl ?_
                  refine AO.val (RV.move rfl) (.none rfl) rfl ?_
                  refine AO.caseG rfl rfl rfl ?_ ?_
                  · intro hg61
                    try simp only [decide_eq_true_eq, decide_eq_false_iff_not, Bool.not_eq_true', Bool.not_eq_false', beq_iff_eq] at hg61
                    refine AO.eff (EF.callF rfl (lives_spec B _)) (.some rfl rfl rfl rfl) rfl ?_
                    rintro _ _ ⟨rfl, rfl⟩
                    refine AO.val (RV.pickT rfl rfl) (.none rfl) rfl ?_
                    refine AO.val (RV.assign rfl) (.none rfl) rfl ?_
                    refine AO.nil ?_
                    -- at TFTTFfFTt
                    refine AK.ret (h' := h) Try.func3 (.tmp rfl .nil) ?_ (by first | exact SubO.sub | exact List.Sublist.refl _ | exact .cons _ (List.Sublist.refl _) | exact .cons _ (.cons _ (List.Sublist.refl _)) | exact .cons _ (.cons _ (.cons _ (List.Sublist.refl _))))
                    first
                    | exact ⟨rfl, rfl⟩
                    | (exfalso; obtain ⟨q1, q2, q3, q4⟩ := hT; omega)
                    | (exfalso; obtain ⟨q1, q2, q3, q4⟩ := hT; have := q3 (by omega); simp_all; done)
                    | (exfalso; obtain ⟨q1, q2, q3, q4⟩ := hT; have := q4 (by omega); simp_all; done)
                  · intro hg61
                    try simp only [decide_eq_true_eq, decide_eq_false_iff_not, Bool.not_eq_true', Bool.not_eq_false', beq_iff_eq] at hg61
                    refine AO.pass (.some rfl rfl rfl rfl) rfl ?_
                    refine AO.val (RV.pickF rfl rfl) (.none rfl) rfl ?_
                    refine AO.val (RV.assign rfl) (.none rfl) rfl ?_
                    refine AO.nil ?_
                    -- at TFTTFfFTf
                    refine AK.ret (h' := h) Try.func3 (.tmp rfl .nil) ?_ (by first | exact SubO.sub | exact List.Sublist.refl _ | exact .cons _ (List.Sublist.refl _) | exact .cons _ (.cons _ (List.Sublist.refl _)) | exact .cons _ (.cons _ (.cons _ (List.Sublist.refl _))))
                    first
                    | exact ⟨rfl, rfl⟩
                    | (exfalso; obtain ⟨q1, q2, q3, q4⟩ := hT; omega)
                    | (exfalso; obtain ⟨q1, q2, q3, q4⟩ := hT; have := q3 (by omega); simp_all; done)
                    | (exfalso; obtain ⟨q1, q2, q3, q4⟩ := hT; have := q4 (by omega); simp_all; done)
                · intro hc60
                  try simp only [decide_eq_true_eq, decide_eq_false_iff_not, Bool.not_eq_true', Bool.not_eq_false', beq_iff_eq] at hc60
                  refine AK.skip ?_
                  refine AK.seq ?_
                  refine AK.region ?_
                  refine AO.val (RV.fieldAddr rfl) (.none rfl) rfl ?_
                  refine AO.val (by first | exact RV.loadO rfl rfl (by simp) | exact RV.loadS rfl (by assumption) (by omega) (by simp)) (.none rfl) rfl ?_
                  refine AO.val (RV.fieldAddr rfl) (.none rfl) rfl ?_
                  refine AO.val (by first | exact RV.loadO rfl rfl (by simp) | exact RV.loadS rfl (by assumption) (by omega) (by simp)) (.none rfl) rfl ?_
                  refine AO.val (RV.eqlB rfl rfl) (.none rfl) rfl ?_
                  refine AO.val (RV.move rfl) (.none rfl) rfl ?_
                  refine AO.caseG rfl rfl rfl ?_ ?_
                  · intro hg62
                    try simp only [decide_eq_true_eq, decide_eq_false_iff_not, Bool.not_eq_true', Bool.not_eq_false', beq_iff_eq] at hg62
                    refine AO.eff (EF.callF rfl (lives_spec B _)) (.some rfl rfl rfl rfl) rfl ?_
                    rintro _ _ ⟨rfl, rfl⟩
                    refine AO.val (RV.pickT rfl rfl) (.none rfl) rfl ?_
                    refine AO.val (RV.assign rfl) (.none rfl) rfl ?_
                    refine AO.nil ?_
                    -- at TFTTFfFFt
                    refine AK.ret (h' := h) Try.func3 (.tmp rfl .nil) ?_ (by first | exact SubO.sub | exact List.Sublist.refl _ | exact .cons _ (List.Sublist.refl _) | exact .cons _ (.cons _ (List.Sublist.refl _)) | exact .cons _ (.cons _ (.cons _ (List.Sublist.refl _))))
                    first
                    | exact ⟨rfl, rfl⟩
                    | (exfalso; obtain ⟨q1, q2, q3, q4⟩ := hT; omega)
                    | (exfalso; obtain ⟨q1, q2, q3, q4⟩ := hT; have := q3 (by omega); simp_all; done)
                    | (exfalso; obtain ⟨q1, q2, q3, q4⟩ := hT; have := q4 (by omega); simp_all; done)
                  · intro hg62
                    try simp only [decide_eq_true_eq, decide_eq_false_iff_not, Bool.not_eq_true', Bool.not_eq_false', beq_iff_eq] at hg62
                    refine AO.pass (.some rfl rfl rfl rfl) rfl ?_
                    refine AO.val (RV.pickF rfl rfl) (.none rfl) rfl ?_
                    refine AO.val (RV.assign rfl) (.none rfl) rfl ?_
                    refine AO.nil ?_
                    -- at TFTTFfFFf
                    refine AK.ret (h' := h) Try.func3 (.tmp rfl .nil) ?_ (by first | exact SubO.sub | exact List.Sublist.refl _ | exact .cons _ (List.Sublist.refl _) | exact .cons _ (.cons _ (List.Sublist.refl _)) | exact .cons _ (.cons _ (.cons _ (List.Sublist.refl _))))
                    first
                    | exact ⟨rfl, rfl⟩
                    | (exfalso; obtain ⟨q1, q2, q3, q4⟩ := hT; omega)
                    | (exfalso; obtain ⟨q1, q2, q3, q4⟩ := hT; have := q3 (by omega); simp_all; done)
                    | (exfalso; obtain ⟨q1, q2, q3, q4⟩ := hT; have := q4 (by omega); simp_all; done)
        · intro hc51
          try simp only [decide_eq_true_eq, decide_eq_false_iff_not, Bool.not_eq_true', Bool.not_eq_false', beq_iff_eq] at hc51
          exfalso; simp_all
      · intro hc50
        try simp only [decide_eq_true_eq, decide_eq_false_iff_not, Bool.not_eq_true', Bool.not_eq_false', beq_iff_eq] at hc50
        refine AK.skip ?_
        refine AK.seq ?_
        refine AK.draw [] [] mixed ?_
        refine AD.takeP 0 rfl (by kernel_rfl) (RV.fieldAddr rfl) (.none rfl) rfl ?_
        refine AD.take 1 rfl (by kernel_rfl) (by first | exact RV.loadO rfl rfl (by simp) | exact RV.loadS rfl (by assumption) (by omega) (by simp)) (.none rfl) rfl ?_
        refine AD.takeP 2 rfl (by kernel_rfl) (RV.fieldAddr rfl) (.none rfl) rfl ?_
        refine AD.take 3 rfl (by kernel_rfl) (by first | exact RV.loadO rfl rfl (by simp) | exact RV.loadS rfl (by assumption) (by omega) (by simp)) (.none rfl) rfl ?_
        refine AD.takeP 4 rfl (by kernel_rfl) (RV.move rfl) (.none rfl) rfl ?_
        refine AD.takeP 5 rfl (by kernel_rfl) (RV.assign rfl) (.none rfl) rfl ?_
        refine AD.takeP 6 rfl (by kernel_rfl) (RV.assign rfl) (.none rfl) rfl ?_
        refine AD.takeP 7 rfl (by kernel_rfl) (RV.assign rfl) (.none rfl) rfl ?_
        refine AD.done (by kernel_rfl) ?_
        refine AK.seq ?_
        refine AK.seq ?_
        refine AK.region ?_
        refine AO.val (RV.move rfl) (.none rfl) rfl ?_
        refine AO.nil ?_
        refine AK.cond rfl ?_ ?_
        · intro hc74
          try simp only [decide_eq_true_eq, decide_eq_false_iff_not, Bool.not_eq_true', Bool.not_eq_false', beq_iff_eq] at hc74
          refine AK.draw [] [] mixed ?_
          refine AD.takeP 0 rfl (by kernel_rfl) (RV.fieldAddr rfl) (.none rfl) rfl ?_
          refine AD.take 1 rfl (by kernel_rfl) (by first | exact RV.loadO rfl rfl (by simp) | exact RV.loadS rfl (by assumption) (by omega) (by simp)) (.none rfl) rfl ?_
          refine AD.takeP 2 rfl (by kernel_rfl) (RV.fieldAddr rfl) (.none rfl) rfl ?_
          refine AD.take 3 rfl (by kernel_rfl) (by first | exact RV.loadO rfl rfl (by simp) | exact RV.loadS rfl (by assumption) (by omega) (by simp)) (.none rfl) rfl ?_
          refine AD.takeP 4 rfl (by kernel_rfl) (RV.move rfl) (.none rfl) rfl ?_
          refine AD.takeP 5 rfl (by kernel_rfl) (RV.assign rfl) (.none rfl) rfl ?_
          refine AD.takeP 6 rfl (by kernel_rfl) (RV.assign rfl) (.none rfl) rfl ?_
          refine AD.takeP 7 rfl (by kernel_rfl) (RV.assign rfl) (.none rfl) rfl ?_
          refine AD.done (by kernel_rfl) ?_
          refine AK.seq ?_
          refine AK.seq ?_
          refine AK.region ?_
          refine AO.val (RV.move rfl) (.none rfl) rfl ?_
          refine AO.val (RV.lss rfl rfl) (.none rfl) rfl ?_
          refine AO.nil ?_
          refine AK.cond rfl ?_ ?_
          · intro hc75
            try simp only [decide_eq_true_eq, decide_eq_false_iff_not, Bool.not_eq_true', Bool.not_eq_false', beq_iff_eq] at hc75
            refine AK.region ?_
            refine AO.val (RV.assign rfl) (.none rfl) rfl ?_
            refine AO.nil ?_
            refine AK.seq ?_
            refine AK.seq ?_
            refine AK.region ?_
            refine AO.val (RV.move rfl) (.none rfl) rfl ?_
            refine AO.val (RV.move rfl) (.none rfl) rfl ?_
            refine AO.val (by first | exact RV.addIn rfl rfl (by omega) | exact RV.add rfl rfl) (.none rfl) rfl ?_
            refine AO.val (RV.neq rfl rfl) (.none rfl) rfl ?_
            refine AO.val (RV.move rfl) (.none rfl) rfl ?_
            refine AO.caseG rfl rfl rfl ?_ ?_
            · intro hg76
              try simp only [decide_eq_true_eq, decide_eq_false_iff_not, Bool.not_eq_true', Bool.not_eq_false', beq_iff_eq] at hg76
              refine AO.pass (.some rfl rfl rfl rfl) rfl ?_
              refine AO.pass (.some rfl rfl rfl rfl) rfl ?_
              refine AO.val (RV.pickT rfl rfl) (.none rfl) rfl ?_
              refine AO.nil ?_
              refine AK.condT rfl ?_
              refine AK.seq ?_
              refine AK.region ?_
              refine AO.val (RV.assign rfl) (.none rfl) rfl ?_
              refine AO.nil ?_
              -- at TFFTTt
              refine AK.ret (h' := h) Try.func3 (.tmp rfl .nil) ?_ (by first | exact SubO.sub | exact List.Sublist.refl _ | exact .cons _ (List.Sublist.refl _) | exact .cons _ (.cons _ (List.Sublist.refl _)) | exact .cons _ (.cons _ (.cons _ (List.Sublist.refl _))))
              first
              | exact ⟨rfl, rfl⟩
              | (exfalso; obtain ⟨q1, q2, q3, q4⟩ := hT; omega)
              | (exfalso; obtain ⟨q1, q2, q3, q4⟩ := hT; have := q3 (by omega); simp_all; done)
              | (exfalso; obtain ⟨q1, q2, q3, q4⟩ := hT; have := q4 (by omega); simp_all; done)
            · intro hg76
              try simp only [decide_eq_true_eq, decide_eq_false_iff_not, Bool.not_eq_true', Bool.not_eq_false', beq_iff_eq] at hg76
              refine AO.val (RV.move rfl) (.some rfl rfl rfl rfl) rfl ?_
              refine AO.val (RV.neq rfl rfl) (.some rfl rfl rfl rfl) rfl ?_
              refine AO.val (RV.pickF rfl rfl) (.none rfl) rfl ?_
              refine AO.nil ?_
              refine AK.cond rfl ?_ ?_
              · intro hc77
                try simp only [decide_eq_true_eq, decide_eq_false_iff_not, Bool.not_eq_true', Bool.not_eq_false', beq_iff_eq] at hc77
                refine AK.seq ?_
                refine AK.region ?_
                refine AO.val (RV.assign rfl) (.none rfl) rfl ?_
                refine AO.nil ?_
                -- at TFFTTfT
                refine AK.ret (h' := h) Try.func3 (.tmp rfl .nil) ?_ (by first | exact SubO.sub | exact List.Sublist.refl _ | exact .cons _ (List.Sublist.refl _) | exact .cons _ (.cons _ (List.Sublist.refl _)) | exact .cons _ (.cons _ (.cons _ (List.Sublist.refl _))))
                first
                | exact ⟨rfl, rfl⟩
                | (exfalso; obtain ⟨q1, q2, q3, q4⟩ := hT; omega)
                | (exfalso; obtain ⟨q1, q2, q3, q4⟩ := hT; have := q3 (by omega); simp_all; done)
                | (exfalso; obtain ⟨q1, q2, q3, q4⟩ := hT; have := q4 (by omega); simp_all; done)
              · intro hc77
                try simp only [decide_eq_true_eq, decide_eq_false_iff_not, Bool.not_eq_true', Bool.not_eq_false', beq_iff_eq] at hc77
                refine AK.skip ?_
                refine AK.seq ?_
                refine AK.seq ?_
                refine AK.region ?_
                refine AO.val (RV.move rfl) (.none rfl) rfl ?_
                refine AO.val (RV.move rfl) (.none rfl) rfl ?_
                refine AO.val (RV.geq rfl rfl) (.none rfl) rfl ?_
                refine AO.nil ?_
                refine AK.cond rfl ?_ ?_
                · intro hc78
                  try simp only [decide_eq_true_eq, decide_eq_false_iff_not, Bool.not_eq_true', Bool.not_eq_false', beq_iff_eq] at hc78
                  refine AK.seq ?_
                  refine AK.region ?_
                  refine AO.val (RV.fieldAddr rfl) (.none rfl) rfl ?_
                  refine AO.val (by first | exact RV.loadO rfl rfl (by simp) | exact RV.loadS rfl (by assumption) (by omega) (by simp)) (.none rfl) rfl ?_
                  refine AO.val (RV.move rfl) (.none rfl) rfl ?_
                  refine AO.val (RV.eqlB rfl rfl) (.none rfl) rfl ?_
                  refine AO.val (RV.move rfl) (.none rfl) rfl ?_
                  refine AO.caseG rfl rfl rfl ?_ ?_
                  · intro hg79
                    try simp only [decide_eq_true_eq, decide_eq_false_iff_not, Bool.not_eq_true', Bool.not_eq_false', beq_iff_eq] at hg79
                    refine AO.eff (EF.callF rfl (lives_spec B _)) (.some rfl rfl rfl rfl) rfl ?_
                    rintro _ _ ⟨rfl, rfl⟩
                    refine AO.val (RV.pickT rfl rfl) (.none rfl) rfl ?_
                    refine AO.val (RV.assign rfl) (.none rfl) rfl ?_
                    refine AO.nil ?_
                    -- at TFFTTfFTt
                    refine AK.ret (h' := h) Try.func3 (.tmp rfl .nil) ?_ (by first | exact SubO.sub | exact List.Sublist.refl _ | exact .cons _ (List.Sublist.refl _) | exact .cons _ (.cons _ (List.Sublist.refl _)) | exact .cons _ (.cons _ (.cons _ (List.Sublist.refl _))))
                    first
                    | exact ⟨rfl, rfl⟩
                    | (exfalso; obtain ⟨q1, q2, q3, q4⟩ := hT; omega)
                    | (exfalso; obtain ⟨q1, q2, q3, q4⟩ := hT; have := q3 (by omega); simp_all; done)
                    | (exfalso; obtain ⟨q1, q2, q3, q4⟩ := hT; have := q4 (by omega); simp_all; done)
                  · intro hg79
                    try simp only [decide_eq_true_eq, decide_eq_false_iff_not, Bool.not_eq_true', Bool.not_eq_false', beq_iff_eq] at hg79
                    refine AO.pass (.some rfl rfl rfl rfl) rfl ?_
                    refine AO.val (RV.pickF rfl rfl) (.none rfl) rfl ?_
                    refine AO.val (RV.assign rfl) (.none rfl) rfl ?_
                    refine AO.nil ?_
                    -- at TFFTTfFTf
                    refine AK.ret (h' := h) Try.func3 (.tmp rfl .nil) ?_ (by first | exact SubO.sub | exact List.Sublist.refl _ | exact .cons _ (List.Sublist.refl _) | exact .cons _ (.cons _ (List.Sublist.refl _)) | exact .cons _ (.cons _ (.cons _ (List.Sublist.refl _))))
                    first
                    | exact ⟨rfl, rfl⟩
                    | (exfalso; obtain ⟨q1, q2, q3, q4⟩ := hT; omega)
                    | (exfalso; obtain ⟨q1, q2, q3, q4⟩ := hT; have := q3 (by omega); simp_all; done)
                    | (exfalso; obtain ⟨q1, q2, q3, q4⟩ := hT; have := q4 (by omega); simp_all; done)
                · intro hc78
                  try simp only [decide_eq_true_eq, decide_eq_false_iff_not, Bool.not_eq_true', Bool.not_eq_false', beq_iff_eq] at hc78
                  refine AK.skip ?_
                  refine AK.seq ?_
                  refine AK.region ?_
                  refine AO.val (RV.fieldAddr rfl) (.none rfl) rfl ?_
                  refine AO.val (by first | exact RV.loadO rfl rfl (by simp) | exact RV.loadS rfl (by assumption) (by omega) (by simp)) (.none rfl) rfl ?_
                  refine AO.val (RV.fieldAddr rfl) (.none rfl) rfl ?_
                  refine AO.val (by first | exact RV.loadO rfl rfl (by simp) | exact RV.loadS rfl (by assumption) (by omega) (by simp)) (.none rfl) rfl ?_
                  refine AO.val (RV.eqlB rfl rfl) (.none rfl) rfl ?_
                  refine AO.val (RV.move rfl) (.none rfl) rfl ?_
                  refine AO.caseG rfl rfl rfl ?_ ?_
                  · intro hg80
                    try simp only [decide_eq_true_eq, decide_eq_false_iff_not, Bool.not_eq_true', Bool.not_eq_false', beq_iff_eq] at hg80
                    refine AO.eff (EF.callF rfl (lives_spec B _)) (.some rfl rfl rfl rfl) rfl ?_
                    rintro _ _ ⟨rfl, rfl⟩
                    refine AO.val (RV.pickT rfl rfl) (.none rfl) rfl ?_
                    refine AO.val (RV.assign rfl) (.none rfl) rfl ?_
                    refine AO.nil ?_
                    -- at TFFTTfFFt
                    refine AK.ret (h' := h) Try.func3 (.tmp rfl .nil) ?_ (by first | exact SubO.sub | exact List.Sublist.refl _ | exact .cons _ (List.Sublist.refl _) | exact .cons _ (.cons _ (List.Sublist.refl _)) | exact .cons _ (.cons _ (.cons _ (List.Sublist.refl _))))
                    first
                    | exact ⟨rfl, rfl⟩
                    | (exfalso; obtain ⟨q1, q2, q3, q4⟩ := hT; omega)
                    | (exfalso; obtain ⟨q1, q2, q3, q4⟩ := hT; have := q3 (by omega); simp_all; done)
                    | (exfalso; obtain ⟨q1, q2, q3, q4⟩ := hT; have := q4 (by omega); simp_all; done)
                  · intro hg80
                    try simp only [decide_eq_true_eq, decide_eq_false_iff_not, Bool.not_eq_true', Bool.not_eq_false', beq_iff_eq] at hg80
                    refine AO.pass (.some rfl rfl rfl rfl) rfl ?_
                    refine AO.val (RV.pickF rfl rfl) (.none rfl) rfl ?_
                    refine AO.val (RV.assign rfl) (.none rfl) rfl ?_
                    refine AO.nil ?_
                    -- at TFFTTfFFf
                    refine AK.ret (h' := h) Try.func3 (.tmp rfl .nil) ?_ (by first | exact SubO.sub | exact List.Sublist.refl _ | exact .cons _ (List.Sublist.refl _) | exact .cons _ (.cons _ (List.Sublist.refl _)) | exact .cons _ (.cons _ (.cons _ (List.Sublist.refl _))))
                    first
                    | exact ⟨rfl, rfl⟩
                    | (exfalso; obtain ⟨q1, q2, q3, q4⟩ := hT; omega)
                    | (exfalso; obtain ⟨q1, q2, q3, q4⟩ := hT; have := q3 (by omega); simp_all; done)
                    | (exfalso; obtain ⟨q1, q2, q3, q4⟩ := hT; have := q4 (by omega); simp_all; done)
          · intro hc75
            try simp only [decide_eq_true_eq, decide_eq_false_iff_not, Bool.not_eq_true', Bool.not_eq_false', beq_iff_eq] at hc75
            refine AK.skip ?_
            refine AK.seq ?_
            refine AK.seq ?_
            refine AK.region ?_
            refine AO.val (RV.move rfl) (.none rfl) rfl ?_
            refine AO.val (RV.move rfl) (.none rfl) rfl ?_
            refine AO.val (by first | exact RV.addIn rfl rfl (by omega) | exact RV.add rfl rfl) (.none rfl) rfl ?_
            refine AO.val (RV.neq rfl rfl) (.none rfl) rfl ?_
            refine AO.val (RV.move rfl) (.none rfl) rfl ?_
            refine AO.caseG rfl rfl rfl ?_ ?_
            · intro hg81
              try simp only [decide_eq_true_eq, decide_eq_false_iff_not, Bool.not_eq_true', Bool.not_eq_false', beq_iff_eq] at hg81
              refine AO.pass (.some rfl rfl rfl rfl) rfl ?_
              refine AO.pass (.some rfl rfl rfl rfl) rfl ?_
              refine AO.val (RV.pickT rfl rfl) (.none rfl) rfl ?_
              refine AO.nil ?_
              refine AK.condT rfl ?_
              refine AK.seq ?_
              refine AK.region ?_
              refine AO.val (RV.assign rfl) (.none rfl) rfl ?_
              refine AO.nil ?_
              -- at TFFTFt
              refine AK.ret (h' := h) Try.func3 (.tmp rfl .nil) ?_ (by first | exact SubO.sub | exact List.Sublist.refl _ | exact .cons _ (List.Sublist.refl _) | exact .cons _ (.cons _ (List.Sublist.refl _)) | exact .cons _ (.cons _ (.cons _ (List.Sublist.refl _))))
              first
              | exact ⟨rfl, rfl⟩
              | (exfalso; obtain ⟨q1, q2, q3, q4⟩ := hT; omega)
              | (exfalso; obtain ⟨q1, q2, q3, q4⟩ := hT; have := q3 (by omega); simp_all; done)
              | (exfalso; obtain ⟨q1, q2, q3, q4⟩ := hT; have := q4 (by omega); simp_all; done)
            · intro hg81
              try simp only [decide_eq_true_eq, decide_eq_false_iff_not, Bool.not_eq_true', Bool.not_eq_false', beq_iff_eq] at hg81
              refine AO.val (RV.move rfl) (.some rfl rfl rfl rfl) rfl ?_
              refine AO.val (RV.neq rfl rfl) (.some rfl rfl rfl rfl) rfl ?_
              refine AO.val (RV.pickF rfl rfl) (.none rfl) rfl ?_
              refine AO.nil ?_
              refine AK.cond rfl ?_ ?_
              · intro hc82
                try simp only [decide_eq_true_eq, decide_eq_false_iff_not, Bool.not_eq_true', Bool.not_eq_false', beq_iff_eq] at hc82
                refine AK.seq ?_
                refine AK.region ?_
                refine AO.val (RV.assign rfl) (.none rfl) rfl ?_
                refine AO.nil ?_
                -- at TFFTFfT
                refine AK.ret (h' := h) Try.func3 (.tmp rfl .nil) ?_ (by first | exact SubO.sub | exact List.Sublist.refl _ | exact .cons _ (List.Sublist.refl _) | exact .cons _ (.cons _ (List.Sublist.refl _)) | exact .cons _ (.cons _ (.cons _ (List.Sublist.refl _))))
                first
                | exact ⟨rfl, rfl⟩
                | (exfalso; obtain ⟨q1, q2, q3, q4⟩ := hT; omega)
                | (exfalso; obtain ⟨q1, q2, q3, q4⟩ := hT; have := q3 (by omega); simp_all; done)
                | (exfalso; obtain ⟨q1, q2, q3, q4⟩ := hT; have := q4 (by omega); simp_all; done)
              · intro hc82
                try simp only [decide_eq_true_eq, decide_eq_false_iff_not, Bool.not_eq_true', Bool.not_eq_false', beq_iff_eq] at hc82
                refine AK.skip ?_
                refine AK.seq ?_
                refine AK.seq ?_
                refine AK.region ?_
                refine AO.val (RV.move rfl) (.none rfl) rfl ?_
                refine AO.val (RV.move rfl) (.none rfl) rfl ?_
                refine AO.val (RV.geq rfl rfl) (.none rfl) rfl ?_
                refine AO.nil ?_
                refine AK.cond rfl ?_ ?_
                · intro hc83
                  try simp only [decide_eq_true_eq, decide_eq_false_iff_not, Bool.not_eq_true', Bool.not_eq_false', beq_iff_eq] at hc83
                  refine AK.seq ?_
                  refine AK.region ?_
                  refine AO.val (RV.fieldAddr rfl) (.none rfl) rfl ?_
                  refine AO.val (by first | exact RV.loadO rfl rfl (by simp) | exact RV.loadS rfl (by assumption) (by omega) (by simp)) (.none rfl) rfl ?_
                  refine AO.val (RV.move rfl) (.none rfl) rfl ?_
                  refine AO.val (RV.eqlB rfl rfl) (.none rfl) rfl ?_
                  refine AO.val (RV.move rfl) (.none rfl) rfl ?_
                  refine AO.caseG rfl rfl rfl ?_ ?_
                  · intro hg84
                    try simp only [decide_eq_true_eq, decide_eq_false_iff_not, Bool.not_eq_true', Bool.not_eq_false', beq_iff_eq] at hg84
                    refine AO.eff (EF.callF rfl (lives_spec B _)) (.some rfl rfl rfl rfl) rfl ?_
                    rintro _ _ ⟨rfl, rfl⟩
                    refine AO.val (RV.pickT rfl rfl) (.none rfl) rfl ?_
                    refine AO.val (RV.assign rfl) (.none rfl) rfl ?_
                    refine AO.nil ?_
                    -- at TFFTFfFTt
                    refine AK.ret (h' := h) Try.func3 (.tmp rfl .nil) ?_ (by first | exact SubO.sub | exact List.Sublist.refl _ | exact .cons _ (List.Sublist.refl _) | exact .cons _ (.cons _ (List.Sublist.refl _)) | exact .cons _ (.cons _ (.cons _ (List.Sublist.refl _))))
                    first
                    | exact ⟨rfl, rfl⟩
                    | (exfalso; obtain ⟨q1, q2, q3, q4⟩ := hT; omega)
                    | (exfalso; obtain ⟨q1, q2, q3, q4⟩ := hT; have := q3 (by omega); simp_all; done)
                    | (exfalso; obtain ⟨q1, q2, q3, q4⟩ := hT; have := q4 (by omega); simp_all; done)
                  · intro hg84
                    try simp only [decide_eq_true_eq, decide_eq_false_iff_not, Bool.not_eq_true', Bool.not_eq_false', beq_iff_eq] at hg84
                    refine AO.pass (.some rfl rfl rfl rfl) rfl ?_
                    refine AO.val (RV.pickF rfl rfl) (.none rfl) rfl ?_
                    refine AO.val (RV.assign rfl) (.none rfl) rfl ?_
                    refine AO.nil ?_
                    -- at TFFTFfFTf
                    refine AK.ret (h' := h) Try.func3 (.tmp rfl .nil) ?_ (by first | exact SubO.sub | exact List.Sublist.refl _ | exact .cons _ (List.Sublist.refl _) | exact .cons _ (.cons _ (List.Sublist.refl _)) | exact .cons _ (.cons _ (.cons _ (List.Sublist.refl _))))
                    first
                    | exact ⟨rfl, rfl⟩
                    | (exfalso; obtain ⟨q1, q2, q3, q4⟩ := hT; omega)
                    | (exfalso; obtain ⟨q1, q2, q3, q4⟩ := hT; have := q3 (by omega); simp_all; done)
                    | (exfalso; obtain ⟨q1, q2, q3, q4⟩ := hT; have := q4 (by omega); simp_all; done)
                · intro hc83
                  try simp only [decide_eq_true_eq, decide_eq_false_iff_not, Bool.not_eq_true', Bool.not_eq_false', beq_iff_eq] at hc83
                  refine AK.skip ?_
                  refine AK.seq ?_
                  refine AK.region ?_
                  refine AO.val (RV.fieldAddr rfl) (.none rfl) rfl ?_
                  refine AO.val (by first | exact RV.loadO rfl rfl (by simp) | exact RV.loadS rfl (by assumption) (by omega) (by simp)) (.none rfl) rfl ?_
                  refine AO.val (RV.fieldAddr rfl) (.none rfl) rfl ?_
                  refine AO.val (by first | exact RV.loadO rfl rfl (by simp) | exact RV.loadS rfl (by assumption) (by omega) (by simp)) (.none rfl) rfl ?_
                  refine AO.val (RV.eqlB rfl rfl) (.none rfl) rfl ?_
                  refine AO.val (RV.move rfl) (.none rfl) rfl ?_
                  refine AO.caseG rfl rfl rfl ?_ ?_
                  · intro hg85
                    try simp only [decide_eq_true_eq, decide_eq_false_iff_not, Bool.not_eq_true', Bool.not_eq_false', beq_iff_eq] at hg85
                    refine AO.eff (EF.callF rfl (lives_spec B _)) (.some rfl rfl rfl rfl) rfl ?_
                    rintro _ _ ⟨rfl, rfl⟩
                    refine AO.val (RV.pickT rfl rfl) (.none rfl) rfl ?_
                    refine AO.val (RV.assign rfl) (.none rfl) rfl ?_
                    refine AO.nil ?_
                    -- at TFFTFfFFt
                    refine AK.ret (h' := h) Try.func3 (.tmp rfl .nil) ?_ (by first | exact SubO.sub | exact List.Sublist.refl _ | exact .cons _ (List.Sublist.refl _) | exact .cons _ (.cons _ (List.Sublist.refl _)) | exact .cons _ (.cons _ (.cons _ (List.Sublist.refl _))))
                    first
                    | exact ⟨rfl, rfl⟩
                    | (exfalso; obtain ⟨q1, q2, q3, q4⟩ := hT; omega)
                    | (exfalso; obtain ⟨q1, q2, q3, q4⟩ := hT; have := q3 (by omega); simp_all; done)
                    | (exfalso; obtain ⟨q1, q2, q3, q4⟩ := hT; have := q4 (by omega); simp_all; done)
                  · intro hg85
                    try simp only [decide_eq_true_eq, decide_eq_false_iff_not, Bool.not_eq_true', Bool.not_eq_false', beq_iff_eq] at hg85
                    refine AO.pass (.some rfl rfl rfl rfl) rfl ?_
                    refine AO.val (RV.pickF rfl rfl) (.none rfl) rfl ?_
                    refine AO.val (RV.assign rfl) (.none rfl) rfl ?_
                    refine AO.nil ?_
                    -- at TFFTFfFFf
                    refine AK.ret (h' := h) Try.func3 (.tmp rfl .nil) ?_ (by first | exact SubO.sub | exact List.Sublist.refl _ | exact .cons _ (List.Sublist.refl _) | exact .cons _ (.cons _ (List.Sublist.refl _)) | exact .cons _ (.cons _ (.cons _ (List.Sublist.refl _))))
                    first
                    | exact ⟨rfl, rfl⟩
                    | (exfalso; obtain ⟨q1, q2, q3, q4⟩ := hT; omega)
                    | (exfalso; obtain ⟨q1, q2, q3, q4⟩ := hT; have := q3 (by omega); simp_all; done)
                    | (exfalso; obtain ⟨q1, q2, q3, q4⟩ := hT; have := q4 (by omega); simp_all; done)
        · intro hc74
          try simp only [decide_eq_true_eq, decide_eq_false_iff_not, Bool.not_eq_true', Bool.not_eq_false', beq_iff_eq] at hc74
          exfalso; simp_all
  · intro hc1
    try simp only [decide_eq_true_eq, decide_eq_false_iff_not, Bool.not_eq_true', Bool.not_eq_false', beq_iff_eq] at hc1
    try (have hT := hT hc1; clear hF)
    try (have hF := hF hc1)
    try simp only [Int.not_lt] at hc1
    refine AK.skip ?_
    refine AK.seq ?_
    refine AK.seq ?_
    refine AK.region ?_
    refine AO.val (RV.move rfl) (.none rfl) rfl ?_
    refine AO.val (RV.lss rfl rfl) (.none rfl) rfl ?_
    refine AO.nil ?_
    refine AK.cond rfl ?_ ?_
    · intro hc97
      try simp only [decide_eq_true_eq, decide_eq_false_iff_not, Bool.not_eq_true', Bool.not_eq_false', beq_iff_eq] at hc97
      refine AK.region ?_
      refine AO.val (RV.assign rfl) (.none rfl) rfl ?_
      refine AO.nil ?_
      refine AK.seq ?_
      refine AK.seq ?_
      refine AK.region ?_
      refine AO.val (RV.move rfl) (.none rfl) rfl ?_
      refine AO.val (RV.gtr rfl rfl) (.none rfl) rfl ?_
      refine AO.nil ?_
      refine AK.cond rfl ?_ ?_
      · intro hc98
        try simp only [decide_eq_true_eq, decide_eq_false_iff_not, Bool.not_eq_true', Bool.not_eq_false', beq_iff_eq] at hc98
        exfalso; omega
      · intro hc98
        try simp only [decide_eq_true_eq, decide_eq_false_iff_not, Bool.not_eq_true', Bool.not_eq_false', beq_iff_eq] at hc98
        refine AK.skip ?_
        refine AK.seq ?_
        refine AK.draw [] [] mixed ?_
        refine AD.takeP 0 rfl (by kernel_rfl) (RV.fieldAddr rfl) (.none rfl) rfl ?_
        refine AD.take 1 rfl (by kernel_rfl) (by first | exact RV.loadO rfl rfl (by simp) | exact RV.loadS rfl (by assumption) (by omega) (by simp)) (.none rfl) rfl ?_
        refine AD.takeP 2 rfl (by kernel_rfl) (RV.fieldAddr rfl) (.none rfl) rfl ?_
        refine AD.take 3 rfl (by kernel_rfl) (by first | exact RV.loadO rfl rfl (by simp) | exact RV.loadS rfl (by assumption) (by omega) (by simp)) (.none rfl) rfl ?_
        refine AD.takeP 4 rfl (by kernel_rfl) (RV.move rfl) (.none rfl) rfl ?_
        refine AD.takeP 5 rfl (by kernel_rfl) (RV.assign rfl) (.none rfl) rfl ?_
        refine AD.takeP 6 rfl (by kernel_rfl) (RV.assign rfl) (.none rfl) rfl ?_
        refine AD.takeP 7 rfl (by kernel_rfl) (RV.assign rfl) (.none rfl) rfl ?_
        refine AD.done (by kernel_rfl) ?_
        refine AK.seq ?_
        refine AK.seq ?_
        refine AK.region ?_
        refine AO.val (RV.move rfl) (.none rfl) rfl ?_
        refine AO.nil ?_
        refine AK.cond rfl ?_ ?_
        · intro hc122
          try simp only [decide_eq_true_eq, decide_eq_false_iff_not, Bool.not_eq_true', Bool.not_eq_false', beq_iff_eq] at hc122
          exfalso; simp_all
        · intro hc122
          try simp only [decide_eq_true_eq, decide_eq_false_iff_not, Bool.not_eq_true', Bool.not_eq_false', beq_iff_eq] at hc122
          refine AK.skip ?_
          refine AK.seq ?_
          refine AK.seq ?_
          refine AK.region ?_
          refine AO.val (RV.move rfl) (.none rfl) rfl ?_
          refine AO.val (RV.lss rfl rfl) (.none rfl) rfl ?_
          refine AO.nil ?_
          refine AK.cond rfl ?_ ?_
          · intro hc134
            try simp only [decide_eq_true_eq, decide_eq_false_iff_not, Bool.not_eq_true', Bool.not_eq_false', beq_iff_eq] at hc134
            refine AK.region ?_
            refine AO.val (RV.assign rfl) (.none rfl) rfl ?_
            refine AO.nil ?_
            refine AK.seq ?_
            refine AK.seq ?_
            refine AK.region ?_
            refine AO.val (RV.move rfl) (.none rfl) rfl ?_
            refine AO.val (RV.move rfl) (.none rfl) rfl ?_
            refine AO.val (by first | exact RV.addIn rfl rfl (by omega) | exact RV.add rfl rfl) (.none rfl) rfl ?_
            refine AO.val (RV.neq rfl rfl) (.none rfl) rfl ?_
            refine AO.val (RV.move rfl) (.none rfl) rfl ?_
            refine AO.caseG rfl rfl rfl ?_ ?_
            · intro hg135
              try simp only [decide_eq_true_eq, decide_eq_false_iff_not, Bool.not_eq_true', Bool.not_eq_false', beq_iff_eq] at hg135
              refine AO.pass (.some rfl rfl rfl rfl) rfl ?_
              refine AO.pass (.some rfl rfl rfl rfl) rfl ?_
              refine AO.val (RV.pickT rfl rfl) (.none rfl) rfl ?_
              refine AO.nil ?_
              refine AK.condT rfl ?_
              refine AK.seq ?_
              refine AK.region ?_
              refine AO.val (RV.assign rfl) (.none rfl) rfl ?_
              refine AO.nil ?_
              -- at FTFFTt
              refine AK.ret (h' := h) Try.func3 (.tmp rfl .nil) ?_ (by first | exact SubO.sub | exact List.Sublist.refl _ | exact .cons _ (List.Sublist.refl _) | exact .cons _ (.cons _ (List.Sublist.refl _)) | exact .cons _ (.cons _ (.cons _ (List.Sublist.refl _))))
              first
              | exact ⟨rfl, rfl⟩
              | (exfalso; obtain ⟨q1, q2, q3, q4⟩ := hF; omega)
              | (exfalso; obtain ⟨q1, q2, q3, q4⟩ := hF; have := q3 (by omega); simp_all; done)
              | (exfalso; obtain ⟨q1, q2, q3, q4⟩ := hF; have := q4 (by omega); simp_all; done)
            · intro hg135
              try simp only [decide_eq_true_eq, decide_eq_false_iff_not, Bool.not_eq_true', Bool.not_eq_false', beq_iff_eq] at hg135
              refine AO.val (RV.move rfl) (.some rfl rfl rfl rfl) rfl ?_
              refine AO.val (RV.neq rfl rfl) (.some rfl rfl rfl rfl) rfl ?_
              refine AO.val (RV.pickF rfl rfl) (.none rfl) rfl ?_
              refine AO.nil ?_
              refine AK.cond rfl ?_ ?_
              · intro hc136
                try simp only [decide_eq_true_eq, decide_eq_false_iff_not, Bool.not_eq_true', Bool.not_eq_false', beq_iff_eq] at hc136
                refine AK.seq ?_
                refine AK.region ?_
                refine AO.val (RV.assign rfl) (.none rfl) rfl ?_
                refine AO.nil ?_
                -- at FTFFTfT
                refine AK.ret (h' := h) Try.func3 (.tmp rfl .nil) ?_ (by first | exact SubO.sub | exact List.Sublist.refl _ | exact .cons _ (List.Sublist.refl _) | exact .cons _ (.cons _ (List.Sublist.refl _)) | exact .cons _ (.cons _ (.cons _ (List.Sublist.refl _))))
                first
                | exact ⟨rfl, rfl⟩
                | (exfalso; obtain ⟨q1, q2, q3, q4⟩ := hF; omega)
                | (exfalso; obtain ⟨q1, q2, q3, q4⟩ := hF; have := q3 (by omega); simp_all; done)
                | (exfalso; obtain ⟨q1, q2, q3, q4⟩ := hF; have := q4 (by omega); simp_all; done)
              · intro hc136
                try simp only [decide_eq_true_eq, decide_eq_false_iff_not, Bool.not_eq_true', Bool.not_eq_false', beq_iff_eq] at hc136
                refine AK.skip ?_
                refine AK.seq ?_
                refine AK.seq ?_
                refine AK.region ?_
                refine AO.val (RV.move rfl) (.none rfl) rfl ?_
                refine AO.val (RV.move rfl) (.none rfl) rfl ?_
                refine AO.val (RV.geq rfl rfl) (.none rfl) rfl ?_
                refine AO.nil ?_
                refine AK.cond rfl ?_ ?_
                · intro hc137
                  try simp only [decide_eq_true_eq, decide_eq_false_iff_not, Bool.not_eq_true', Bool.not_eq_false', beq_iff_eq] at hc137
                  refine AK.seq ?_
                  refine AK.region ?_
                  refine AO.val (RV.fieldAddr rfl) (.none rfl) rfl ?_
                  refine AO.val (by first | exact RV.loadO rfl rfl (by simp) | exact RV.loadS rfl (by assumption) (by omega) (by simp)) (.none rfl) rfl ?_
                  refine AO.val (RV.move rfl) (.none rfl) rfl ?_
                  refine AO.val (RV.eqlB rfl rfl) (.none rfl) rfl ?_
                  refine AO.val (RV.move rfl) (.none rfl) rfl ?_
                  refine AO.caseG rfl rfl rfl ?_ ?_
                  · intro hg138
                    try simp only [decide_eq_true_eq, decide_eq_false_iff_not, Bool.not_eq_true', Bool.not_eq_false', beq_iff_eq] at hg138
                    refine AO.eff (EF.callF rfl (lives_spec B _)) (.some rfl rfl rfl rfl) rfl ?_
                    rintro _ _ ⟨rfl, rfl⟩
                    refine AO.val (RV.pickT rfl rfl) (.none rfl) rfl ?_
                    refine AO.val (RV.assign rfl) (.none rfl) rfl ?_
                    refine AO.nil ?_
                    -- at FTFFTfFTt
                    refine AK.ret (h' := h) Try.func3 (.tmp rfl .nil) ?_ (by first | exact SubO.sub | exact List.Sublist.refl _ | exact .cons _ (List.Sublist.refl _) | exact .cons _ (.cons _ (List.Sublist.refl _)) | exact .cons _ (.cons _ (.cons _ (List.Sublist.refl _))))
                    first
                    | exact ⟨rfl, rfl⟩
                    | (exfalso; obtain ⟨q1, q2, q3, q4⟩ := hF; omega)
                    | (exfalso; obtain ⟨q1, q2, q3, q4⟩ := hF; have := q3 (by omega); simp_all; done)
                    | (exfalso; obtain ⟨q1, q2, q3, q4⟩ := hF; have := q4 (by omega); simp_all; done)
                  · intro hg138
                    try simp only [decide_eq_true_eq, decide_eq_false_iff_not, Bool.not_eq_true', Bool.not_eq_false', beq_iff_eq] at hg138
                    refine AO.pass (.some rfl rfl rfl rfl) rfl ?_
                    refine AO.val (RV.pickF rfl rfl) (.none rfl) rfl ?_
                    refine AO.val (RV.assign rfl) (.none rfl) rfl ?_
                    refine AO.nil ?_
                    -- at FTFFTfFTf
                    refine AK.ret (h' := h) Try.func3 (.tmp rfl .nil) ?_ (by first | exact SubO.sub | exact List.Sublist.refl _ | exact .cons _ (List.Sublist.refl _) | exact .cons _ (.cons _ (List.Sublist.refl _)) | exact .cons _ (.cons _ (.cons _ (List.Sublist.refl _))))
                    first
                    | exact ⟨rfl, rfl⟩
                    | (exfalso; obtain ⟨q1, q2, q3, q4⟩ := hF; omega)
                    | (exfalso; obtain ⟨q1, q2, q3, q4⟩ := hF; have := q3 (by omega); simp_all; done)
                    | (exfalso; obtain ⟨q1, q2, q3, q4⟩ := hF; have := q4 (by omega); simp_all; done)
                · intro hc137
                  try simp only [decide_eq_true_eq, decide_eq_false_iff_not, Bool.not_eq_true', Bool.not_eq_false', beq_iff_eq] at hc137
                  refine AK.skip ?_
                  refine AK.seq ?_
                  refine AK.region ?_
                  refine AO.val (RV.fieldAddr rfl) (.none rfl) rfl ?_
                  refine AO.val (by first | exact RV.loadO rfl rfl (by simp) | exact RV.loadS rfl (by assumption) (by omega) (by simp)) (.none rfl) rfl ?_
                  refine AO.val (RV.fieldAddr rfl) (.none rfl) rfl ?_
                  refine AO.val (by first | exact RV.loadO rfl rfl (by simp) | exact RV.loadS rfl (by assumption) (by omega) (by simp)) (.none rfl) rfl ?_
                  refine AO.val (RV.eqlB rfl rfl) (.none rfl) rfl ?_
                  refine AO.val (RV.move rfl) (.none rfl) rfl ?_
                  refine AO.caseG rfl rfl rfl ?_ ?_
                  · intro hg139
                    try simp only [decide_eq_true_eq, decide_eq_false_iff_not, Bool.not_eq_true', Bool.not_eq_false', beq_iff_eq] at hg139
                    refine AO.eff (EF.callF rfl (lives_spec B _)) (.some rfl rfl rfl rfl) rfl ?_
                    rintro _ _ ⟨rfl, rfl⟩
                    refine AO.val (RV.pickT rfl rfl) (.none rfl) rfl ?_
                    refine AO.val (RV.assign rfl) (.none rfl) rfl ?_
                    refine AO.nil ?_
                    -- at FTFFTfFFt
                    refine AK.ret (h' := h) Try.func3 (.tmp rfl .nil) ?_ (by first | exact SubO.sub | exact List.Sublist.refl _ | exact .cons _ (List.Sublist.refl _) | exact .cons _ (.cons _ (List.Sublist.refl _)) | exact .cons _ (.cons _ (.cons _ (List.Sublist.refl _))))
                    first
                    | exact ⟨rfl, rfl⟩
                    | (exfalso; obtain ⟨q1, q2, q3, q4⟩ := hF; omega)
                    | (exfalso; obtain ⟨q1, q2, q3, q4⟩ := hF; have := q3 (by omega); simp_all; done)
                    | (exfalso; obtain ⟨q1, q2, q3, q4⟩ := hF; have := q4 (by omega); simp_all; done)
                  · intro hg139
                    try simp only [decide_eq_true_eq, decide_eq_false_iff_not, Bool.not_eq_true', Bool.not_eq_false', beq_iff_eq] at hg139
                    refine AO.pass (.some rfl rfl rfl rfl) rfl ?_
                    refine AO.val (RV.pickF rfl rfl) (.none rfl) rfl ?_
                    refine AO.val (RV.assign rfl) (.none rfl) rfl ?_
                    refine AO.nil ?_
                    -- at FTFFTfFFf
                    refine AK.ret (h' := h) Try.func3 (.tmp rfl .nil) ?_ (by first | exact SubO.sub | exact List.Sublist.refl _ | exact .cons _ (List.Sublist.refl _) | exact .cons _ (.cons _ (List.Sublist.refl _)) | exact .cons _ (.cons _ (.cons _ (List.Sublist.refl _))))
                    first
                    | exact ⟨rfl, rfl⟩
                    | (exfalso; obtain ⟨q1, q2, q3, q4⟩ := hF; omega)
                    | (exfalso; obtain ⟨q1, q2, q3, q4⟩ := hF; have := q3 (by omega); simp_all; done)
                    | (exfalso; obtain ⟨q1, q2, q3, q4⟩ := hF; have := q4 (by omega); simp_all; done)
          · intro hc134
            try simp only [decide_eq_true_eq, decide_eq_false_iff_not, Bool.not_eq_true', Bool.not_eq_false', beq_iff_eq] at hc134
            refine AK.skip ?_
            refine AK.seq ?_
            refine AK.seq ?_
            refine AK.region ?_
            refine AO.val (RV.move rfl) (.none rfl) rfl ?_
            refine AO.val (RV.move rfl) (.none rfl) rfl ?_
            refine AO.val (by first | exact RV.addIn rfl rfl (by omega) | exact RV.add rfl rfl) (.none rfl) rfl ?_
            refine AO.val (RV.neq rfl rfl) (.none rfl) rfl ?_
            refine AO.val (RV.move rfl) (.none rfl) rfl ?_
            refine AO.caseG rfl rfl rfl ?_ ?_
            · intro hg140
              try simp only [decide_eq_true_eq, decide_eq_false_iff_not, Bool.not_eq_true', Bool.not_eq_false', beq_iff_eq] at hg140
              refine AO.pass (.some rfl rfl rfl rfl) rfl ?_
              refine AO.pass (.some rfl rfl rfl rfl) rfl ?_
              refine AO.val (RV.pickT rfl rfl) (.none rfl) rfl ?_
              refine AO.nil ?_
              refine AK.condT rfl ?_
              refine AK.seq ?_
              refine AK.region ?_
              refine AO.val (RV.assign rfl) (.none rfl) rfl ?_
              refine AO.nil ?_
              -- at FTFFFt
              refine AK.ret (h' := h) Try.func3 (.tmp rfl .nil) ?_ (by first | exact SubO.sub | exact List.Sublist.refl _ | exact .cons _ (List.Sublist.refl _) | exact .cons _ (.cons _ (List.Sublist.refl _)) | exact .cons _ (.cons _ (.cons _ (List.Sublist.refl _))))
              first
              | exact ⟨rfl, rfl⟩
              | (exfalso; obtain ⟨q1, q2, q3, q4⟩ := hF; omega)
              | (exfalso; obtain ⟨q1, q2, q3, q4⟩ := hF; have := q3 (by omega); simp_all; done)
              | (exfalso; obtain ⟨q1, q2, q3, q4⟩ := hF; have := q4 (by omega); simp_all; done)
            · intro hg140
              try simp only [decide_eq_true_eq, decide_eq_false_iff_not, Bool.not_eq_true', Bool.not_eq_false', beq_iff_eq] at hg140
              refine AO.val (RV.move rfl) (.some rfl rfl rfl rfl) rfl ?_
              refine AO.val (RV.neq rfl rfl) (.some rfl rfl rfl rfl) rfl ?_
              refine AO.val (RV.pickF rfl rfl) (.none rfl) rfl ?_
              refine AO.nil ?_
              refine AK.cond rfl ?_ ?_
              · intro hc141
                try simp only [decide_eq_true_eq, decide_eq_false_iff_not, Bool.not_eq_true', Bool.not_eq_false', beq_iff_eq] at hc141
                refine AK.seq ?_
                refine AK.region ?_
                refine AO.val (RV.assign rfl) (.none rfl) rfl ?_
                refine AO.nil ?_
                -- at FTFFFfT
                refine AK.ret (h' := h) Try.func3 (.tmp rfl .nil) ?_ (by first | exact SubO.sub | exact List.Sublist.refl _ | exact .cons _ (List.Sublist.refl _) | exact .cons _ (.cons _ (List.Sublist.refl _)) | exact .cons _ (.cons _ (.cons _ (List.Sublist.refl _))))
                first
                | exact ⟨rfl, rfl⟩
                | (exfalso; obtain ⟨q1, q2, q3, q4⟩ := hF; omega)
                | (exfalso; obtain ⟨q1, q2, q3, q4⟩ := hF; have := q3 (by omega); simp_all; done)
                | (exfalso; obtain ⟨q1, q2, q3, q4⟩ := hF; have := q4 (by omega); simp_all; done)
              · intro hc141
                try simp only [decide_eq_true_eq, decide_eq_false_iff_not, Bool.not_eq_true', Bool.not_eq_false', beq_iff_eq] at hc141
                refine AK.skip ?_
                refine AK.seq ?_
                refine AK.seq ?_
                refine AK.region ?_
                refine AO.val (RV.move rfl) (.none rfl) rfl ?_
                refine AO.val (RV.move rfl) (.none rfl) rfl ?_
                refine AO.val (RV.geq rfl rfl) (.none rfl) rfl ?_
                refine AO.nil ?_
                refine AK.cond rfl ?_ ?_
                · intro hc142
                  try simp only [decide_eq_true_eq, decide_eq_false_iff_not, Bool.not_eq_true', Bool.not_eq_false', beq_iff_eq] at hc142
                  refine AK.seq ?_
                  refine AK.region ?_
                  refine AO.val (RV.fieldAddr rfl) (.none rfl) rfl ?_
                  refine AO.val (by first | exact RV.loadO rfl rfl (by simp) | exact RV.loadS rfl (by assumption) (by omega) (by simp)) (.none rfl) rfl ?_
                  refine AO.val (RV.move rfl) (.none rfl) rfl ?_
                  refine AO.val (RV.eqlB rfl rfl) (.none rfl) rfl ?_
                  refine AO.val (RV.move rfl) (.none rfl) rfl ?_
                  refine AO.caseG rfl rfl rfl ?_ ?_
                  · intro hg143
                    try simp only [decide_eq_true_eq, decide_eq_false_iff_not, Bool.not_eq_true', Bool.not_eq_false', beq_iff_eq] at hg143
                    refine AO.eff (EF.callF rfl (lives_spec B _)) (.some rfl rfl rfl rfl) rfl ?_
                    rintro _ _ ⟨rfl, rfl⟩
                    refine AO.val (RV.pickT rfl rfl) (.none rfl) rfl ?_
                    refine AO.val (RV.assign rfl) (.none rfl) rfl ?_
                    refine AO.nil ?_
                    -- at FTFFFfFTt
                    refine AK.ret (h' := h) Try.func3 (.tmp rfl .nil) ?_ (by first | exact SubO.sub | exact List.Sublist.refl _ | exact .cons _ (List.Sublist.refl _) | exact .cons _ (.cons _ (List.Sublist.refl _)) | exact .cons _ (.cons _ (.cons _ (List.Sublist.refl _))))
                    first
                    | exact ⟨rfl, rfl⟩
                    | (exfalso; obtain ⟨q1, q2, q3, q4⟩ := hF; omega)
                    | (exfalso; obtain ⟨q1, q2, q3, q4⟩ := hF; have := q3 (by omega); simp_all; done)
                    | (exfalso; obtain ⟨q1, q2, q3, q4⟩ := hF; have := q4 (by omega); simp_all; done)
                  · intro hg143
                    try simp only [decide_eq_true_eq, decide_eq_false_iff_not, Bool.not_eq_true', Bool.not_eq_false', beq_iff_eq] at hg143
                    refine AO.pass (.some rfl rfl rfl rfl) rfl ?_
                    refine AO.val (RV.pickF rfl rfl) (.none rfl) rfl ?_
                    refine AO.val (RV.assign rfl) (.none rfl) rfl ?_
                    refine AO.nil ?_
                    -- at FTFFFfFTf
                    refine AK.ret (h' := h) Try.func3 (.tmp rfl .nil) ?_ (by first | exact SubO.sub | exact List.Sublist.refl _ | exact .cons _ (List.Sublist.refl _) | exact .cons _ (.cons _ (List.Sublist.refl _)) | exact .cons _ (.cons _ (.cons _ (List.Sublist.refl _))))
                    first
                    | exact ⟨rfl, rfl⟩
                    | (exfalso; obtain ⟨q1, q2, q3, q4⟩ := hF; omega)
                    | (exfalso; obtain ⟨q1, q2, q3, q4⟩ := hF; have := q3 (by omega); simp_all; done)
                    | (exfalso; obtain ⟨q1, q2, q3, q4⟩ := hF; have := q4 (by omega); simp_all; done)
                · intro hc142
                  try simp only [decide_eq_true_eq, decide_eq_false_iff_not, Bool.not_eq_true', Bool.not_eq_false', beq_iff_eq] at hc142
                  refine AK.skip ?_
                  refine AK.seq ?_
                  refine AK.region ?_
                  refine AO.val (RV.fieldAddr rfl) (.none rfl) rfl ?_
                  refine AO.val (by first | exact RV.loadO rfl rfl (by simp) | exact RV.loadS rfl (by assumption) (by omega) (by simp)) (.none rfl) rfl ?_
                  refine AO.val (RV.fieldAddr rfl) (.none rfl) rfl ?_
                  refine AO.val (by first | exact RV.loadO rfl rfl (by simp) | exact RV.loadS rfl (by assumption) (by omega) (by simp)) (.none rfl) rfl ?_
                  refine AO.val (RV.eqlB rfl rfl) (.none rfl) rfl ?_
                  refine AO.val (RV.move rfl) (.none rfl) rfl ?_
                  refine AO.caseG rfl rfl rfl ?_ ?_
                  · intro hg144
                    try simp only [decide_eq_true_eq, decide_eq_false_iff_not, Bool.not_eq_true', Bool.not_eq_false', beq_iff_eq] at hg144
                    refine AO.eff (EF.callF rfl (lives_spec B _)) (.some rfl rfl rfl rfl) rfl ?_
                    rintro _ _ ⟨rfl, rfl⟩
                    refine AO.val (RV.pickT rfl rfl) (.none rfl) rfl ?_
                    refine AO.val (RV.assign rfl) (.none rfl) rfl ?_
                    refine AO.nil ?_
                    -- at FTFFFfFFt
                    refine AK.ret (h' := h) Try.func3 (.tmp rfl .nil) ?_ (by first | exact SubO.sub | exact List.Sublist.refl _ | exact .cons _ (List.Sublist.refl _) | exact .cons _ (.cons _ (List.Sublist.refl _)) | exact .cons _ (.cons _ (.cons _ (List.Sublist.refl _))))
                    first
                    | exact ⟨rfl, rfl⟩
                    | (exfalso; obtain ⟨q1, q2, q3, q4⟩ := hF; omega)
                    | (exfalso; obtain ⟨q1, q2, q3, q4⟩ := hF; have := q3 (by omega); simp_all; done)
                    | (exfalso; obtain ⟨q1, q2, q3, q4⟩ := hF; have := q4 (by omega); simp_all; done)
                  · intro hg144
                    try simp only [decide_eq_true_eq, decide_eq_false_iff_not, Bool.not_eq_true', Bool.not_eq_false', beq_iff_eq] at hg144
                    refine AO.pass (.some rfl rfl rfl rfl) rfl ?_
                    refine AO.val (RV.pickF rfl rfl) (.none rfl) rfl ?_
                    refine AO.val (RV.assign rfl) (.none rfl) rfl ?_
                    refine AO.nil ?_
                    -- at FTFFFfFFf
                    refine AK.ret (h' := h) Try.func3 (.tmp rfl .nil) ?_ (by first | exact SubO.sub | exact List.Sublist.refl _ | exact .cons _ (List.Sublist.refl _) | exact .cons _ (.cons _ (List.Sublist.refl _)) | exact .cons _ (.cons _ (.cons _ (List.Sublist.refl _))))
                    first
                    | exact ⟨rfl, rfl⟩
                    | (exfalso; obtain ⟨q1, q2, q3, q4⟩ := hF; omega)
                    | (exfalso; obtain ⟨q1, q2, q3, q4⟩ := hF; have := q3 (by omega); simp_all; done)
                    | (exfalso; obtain ⟨q1, q2, q3, q4⟩ := hF; have := q4 (by omega); simp_all; done)
    · intro hc97
      try simp only [decide_eq_true_eq, decide_eq_false_iff_not, Bool.not_eq_true', Bool.not_eq_false', beq_iff_eq] at hc97
      refine AK.skip ?_
      refine AK.seq ?_
      refine AK.seq ?_
      refine AK.region ?_
      refine AO.val (RV.move rfl) (.none rfl) rfl ?_
      refine AO.val (RV.gtr rfl rfl) (.none rfl) rfl ?_
      refine AO.nil ?_
      refine AK.cond rfl ?_ ?_
      · intro hc145
        try simp only [decide_eq_true_eq, decide_eq_false_iff_not, Bool.not_eq_true', Bool.not_eq_false', beq_iff_eq] at hc145
        refine AK.region ?_
        refine AO.val (RV.assign rfl) (.none rfl) rfl ?_
        refine AO.nil ?_
        refine AK.seq ?_
        refine AK.draw [] [] mixed ?_
        refine AD.takeP 0 rfl (by kernel_rfl) (RV.fieldAddr rfl) (.none rfl) rfl ?_
        refine AD.take 1 rfl (by kernel_rfl) (by first | exact RV.loadO rfl rfl (by simp) | exact RV.loadS rfl (by assumption) (by omega) (by simp)) (.none rfl) rfl ?_
        refine AD.takeP 2 rfl (by kernel_rfl) (RV.fieldAddr rfl) (.none rfl) rfl ?_
        refine AD.take 3 rfl (by kernel_rfl) (by first | exact RV.loadO rfl rfl (by simp) | exact RV.loadS rfl (by assumption) (by omega) (by simp)) (.none rfl) rfl ?_
        refine AD.takeP 4 rfl (by kernel_rfl) (RV.move rfl) (.none rfl) rfl ?_
        refine AD.takeP 5 rfl (by kernel_rfl) (RV.assign rfl) (.none rfl) rfl ?_
        refine AD.takeP 6 rfl (by kernel_rfl) (RV.assign rfl) (.none rfl) rfl ?_
        refine AD.takeP 7 rfl (by kernel_rfl) (RV.assign rfl) (.none rfl) rfl ?_
        refine AD.done (by kernel_rfl) ?_
        refine AK.seq ?_
        refine AK.seq ?_
        refine AK.region ?_
        refine AO.val (RV.move rfl) (.none rfl) rfl ?_
        refine AO.nil ?_
        refine AK.cond rfl ?_ ?_
        · intro hc146
          try simp only [decide_eq_true_eq, decide_eq_false_iff_not, Bool.not_eq_true', Bool.not_eq_false', beq_iff_eq] at hc146
          exfalso; simp_all
        · intro hc146
          try simp only [decide_eq_true_eq, decide_eq_false_iff_not, Bool.not_eq_true', Bool.not_eq_false', beq_iff_eq] at hc146
          refine AK.skip ?_
          refine AK.seq ?_
          refine AK.seq ?_
          refine AK.region ?_
          refine AO.val (RV.move rfl) (.none rfl) rfl ?_
          refine AO.val (RV.lss rfl rfl) (.none rfl) rfl ?_
          refine AO.nil ?_
          refine AK.cond rfl ?_ ?_
          · intro hc158
            try simp only [decide_eq_true_eq, decide_eq_false_iff_not, Bool.not_eq_true', Bool.not_eq_false', beq_iff_eq] at hc158
            refine AK.region ?_
            refine AO.val (RV.assign rfl) (.none rfl) rfl ?_
            refine AO.nil ?_
            refine AK.seq ?_
            refine AK.seq ?_
            refine AK.region ?_
            refine AO.val (RV.move rfl) (.none rfl) rfl ?_
            refine AO.val (RV.move rfl) (.none rfl) rfl ?_
            refine AO.val (by first | exact RV.addIn rfl rfl (by omega) | exact RV.add rfl rfl) (.none rfl) rfl ?_
            refine AO.val (RV.neq rfl rfl) (.none rfl) rfl ?_
            refine AO.val (RV.move rfl) (.none rfl) rfl ?_
            refine AO.caseG rfl rfl rfl ?_ ?_
            · intro hg159
              try simp only [decide_eq_true_eq, decide_eq_false_iff_not, Bool.not_eq_true', Bool.not_eq_false', beq_iff_eq] at hg159
              refine AO.pass (.some rfl rfl rfl rfl) rfl ?_
              refine AO.pass (.some rfl rfl rfl rfl) rfl ?_
              refine AO.val (RV.pickT rfl rfl) (.none rfl) rfl ?_
              refine AO.nil ?_
              refine AK.condT rfl ?_
              refine AK.seq ?_
              refine AK.region ?_
              refine AO.val (RV.assign rfl) (.none rfl) rfl ?_
              refine AO.nil ?_
              -- at FFTFTt
              refine AK.ret (h' := h) Try.func3 (.tmp rfl .nil) ?_ (by first | exact SubO.sub | exact List.Sublist.refl _ | exact .cons _ (List.Sublist.refl _) | exact .cons _ (.cons _ (List.Sublist.refl _)) | exact .cons _ (.cons _ (.cons _ (List.Sublist.refl _))))
              first
              | exact ⟨rfl, rfl⟩
              | (exfalso; obtain ⟨q1, q2, q3, q4⟩ := hF; omega)
              | (exfalso; obtain ⟨q1, q2, q3, q4⟩ := hF; have := q3 (by omega); simp_all; done)
              | (exfalso; obtain ⟨q1, q2, q3, q4⟩ := hF; have := q4 (by omega); simp_all; done)
            · intro hg159
              try simp only [decide_eq_true_eq, decide_eq_false_iff_not, Bool.not_eq_true', Bool.not_eq_false', beq_iff_eq] at hg159
              refine AO.val (RV.move rfl) (.some rfl rfl rfl rfl) rfl ?_
              refine AO.val (RV.neq rfl rfl) (.some rfl rfl rfl rfl) rfl ?_
              refine AO.val (RV.pickF rfl rfl) (.none rfl) rfl ?_
              refine AO.nil ?_
              refine AK.cond rfl ?_ ?_
              · intro hc160
                try simp only [decide_eq_true_eq, decide_eq_false_iff_not, Bool.not_eq_true', Bool.not_eq_false', beq_iff_eq] at hc160
                refine AK.seq ?_
                refine AK.region ?_
                refine AO.val (RV.assign rfl) (.none rfl) rfl ?_
                refine AO.nil ?_
                -- at FFTFTfT
                refine AK.ret (h' := h) Try.func3 (.tmp rfl .nil) ?_ (by first | exact SubO.sub | exact List.Sublist.refl _ | exact .cons _ (List.Sublist.refl _) | exact .cons _ (.cons _ (List.Sublist.refl _)) | exact .cons _ (.cons _ (.cons _ (List.Sublist.refl _))))
                first
                | exact ⟨rfl, rfl⟩
                | (exfalso; obtain ⟨q1, q2, q3, q4⟩ := hF; omega)
                | (exfalso; obtain ⟨q1, q2, q3, q4⟩ := hF; have := q3 (by omega); simp_all; done)
                | (exfalso; obtain ⟨q1, q2, q3, q4⟩ := hF; have := q4 (by omega); simp_all; done)
              · intro hc160
                try simp only [decide_eq_true_eq, decide_eq_false_iff_not, Bool.not_eq_true', Bool.not_eq_false', beq_iff_eq] at hc160
                refine AK.skip ?_
                refine AK.seq ?_
                refine AK.seq ?_
                refine AK.region ?_
                refine AO.val (RV.move rfl) (.none rfl) rfl ?_
                refine AO.val (RV.move rfl) (.none rfl) rfl ?_
                refine AO.val (RV.geq rfl rfl) (.none rfl) rfl ?_
                refine AO.nil ?_
                refine AK.cond rfl ?_ ?_
                · intro hc161
                  try simp only [decide_eq_true_eq, decide_eq_false_iff_not, Bool.not_eq_true', Bool.not_eq_false', beq_iff_eq] at hc161
                  refine AK.seq ?_
                  refine AK.region ?_
                  refine AO.val (RV.fieldAddr rfl) (.none rfl) rfl ?_
                  refine AO.val (by first | exact RV.loadO rfl rfl (by simp) | exact RV.loadS rfl (by assumption) (by omega) (by simp)) (.none rfl) rfl ?_
                  refine AO.val (RV.move rfl) (.none rfl) rfl ?_
                  refine AO.val (RV.eqlB rfl rfl) (.none rfl) rfl ?_
                  refine AO.val (RV.move rfl) (.none rfl) rfl ?_
                  refine AO.caseG rfl rfl rfl ?_ ?_
                  · intro hg162
                    try simp only [decide_eq_true_eq, decide_eq_false_iff_not, Bool.not_eq_true', Bool.not_eq_false', beq_iff_eq] at hg162
                    refine AO.eff (EF.callF rfl (lives_spec B _)) (.some rfl rfl rfl rfl) rfl ?_
                    rintro _ _ ⟨rfl, rfl⟩
                    refine AO.val (RV.pickT rfl rfl) (.none rfl) rfl ?_
                    refine AO.val (RV.assign rfl) (.none rfl) rfl ?_
                    refine AO.nil ?_
                    -- at FFTFTfFTt
                    refine AK.ret (h' := h) Try.func3 (.tmp rfl .nil) ?_ (by first | exact SubO.sub | exact List.Sublist.refl _ | exact .cons _ (List.Sublist.refl _) | exact .cons _ (.cons _ (List.Sublist.refl _)) | exact .cons _ (.cons _ (.cons _ (List.Sublist.refl _))))
                    first
                    | exact ⟨rfl, rfl⟩
                    | (exfalso; obtain ⟨q1, q2, q3, q4⟩ := hF; omega)
                    | (exfalso; obtain ⟨q1, q2, q3, q4⟩ := hF; have := q3 (by omega); simp_all; done)
                    | (exfalso; obtain ⟨q1, q2, q3, q4⟩ := hF; have := q4 (by omega); simp_all; done)
                  · intro hg162
                    try simp only [decide_eq_true_eq, decide_eq_false_iff_not, Bool.not_eq_true', Bool.not_eq_false', beq_iff_eq] at hg162
                    refine AO.pass (.some rfl rfl rfl rfl) rfl ?_
                    refine AO.val (RV.pickF rfl rfl) (.none rfl) rfl ?_
                    refine AO.val (RV.assign rfl) (.none rfl) rfl ?_
                    refine AO.nil ?_
                    -- at FFTFTfFTf
                    refine AK.ret (h' := h) Try.func3 (.tmp rfl .nil) ?_ (by first | exact SubO.sub | exact List.Sublist.refl _ | exact .cons _ (List.Sublist.refl _) | exact .cons _ (.cons _ (List.Sublist.refl _)) | exact .cons _ (.cons _ (.cons _ (List.Sublist.refl _))))
                    first
                    | exact ⟨rfl, rfl⟩
                    | (exfalso; obtain ⟨q1, q2, q3, q4⟩ := hF; omega)
                    | (exfalso; obtain ⟨q1, q2, q3, q4⟩ := hF; have := q3 (by omega); simp_all; done)
                    | (exfalso; obtain ⟨q1, q2, q3, q4⟩ := hF; have := q4 (by omega); simp_all; done)
                · intro hc161
                  try simp only [decide_eq_true_eq, decide_eq_false_iff_not, Bool.not_eq_true', Bool.not_eq_false', beq_iff_eq] at hc161
                  refine AK.skip ?_
                  refine AK.seq ?_
                  refine AK.region ?_
                  refine AO.val (RV.fieldAddr rfl) (.none rfl) rfl ?_
                  refine AO.val (by first | exact RV.loadO rfl rfl (by simp) | exact RV.loadS rfl (by assumption) (by omega) (by simp)) (.none rfl) rfl ?_
                  refine AO.val (RV.fieldAddr rfl) (.none rfl) rfl ?_
                  refine AO.val (by first | exact RV.loadO rfl rfl (by simp) | exact RV.loadS rfl (by assumption) (by omega) (by simp)) (.none rfl) rfl ?_
                  refine AO.val (RV.eqlB rfl rfl) (.none rfl) rfl ?_
                  refine AO.val (RV.move rfl) (.none rfl) rfl ?_
                  refine AO.caseG rfl rfl rfl ?_ ?_
                  · intro hg163
                    try simp only [decide_eq_true_eq, decide_eq_false_iff_not, Bool.not_eq_true', Bool.not_eq_false', beq_iff_eq] at hg163
                    refine AO.eff (EF.callF rfl (lives_spec B _)) (.some rfl rfl rfl rfl) rfl ?_
                    rintro _ _ ⟨rfl, rfl⟩
                    refine AO.val (RV.pickT rfl rfl) (.none rfl) rfl ?_
                    refine AO.val (RV.assign rfl) (.none rfl) rfl ?_
                    refine AO.nil ?_
                    -- at FFTFTfFFt
                    refine AK.ret (h' := h) Try.func3 (.tmp rfl .nil) ?_ (by first | exact SubO.sub | exact List.Sublist.refl _ | exact .cons _ (List.Sublist.refl _) | exact .cons _ (.cons _ (List.Sublist.refl _)) | exact .cons _ (.cons _ (.cons _ (List.Sublist.refl _))))
                    first
                    | exact ⟨rfl, rfl⟩
                    | (exfalso; obtain ⟨q1, q2, q3, q4⟩ := hF; omega)
                    | (exfalso; obtain ⟨q1, q2, q3, q4⟩ := hF; have := q3 (by omega); simp_all; done)
                    | (exfalso; obtain ⟨q1, q2, q3, q4⟩ := hF; have := q4 (by omega); simp_all; done)
                  · intro hg163
                    try simp only [decide_eq_true_eq, decide_eq_false_iff_not, Bool.not_eq_true', Bool.not_eq_false', beq_iff_eq] at hg163
                    refine AO.pass (.some rfl rfl rfl rfl) rfl ?_
                    refine AO.val (RV.pickF rfl rfl) (.none rfl) rfl ?_
                    refine AO.val (RV.assign rfl) (.none rfl) rfl ?_
                    refine AO.nil ?_
                    -- at FFTFTfFFf
                    refine AK.ret (h' := h) Try.func3 (.tmp rfl .nil) ?_ (by first | exact SubO.sub | exact List.Sublist.refl _ | exact .cons _ (List.Sublist.refl _) | exact .cons _ (.cons _ (List.Sublist.refl _)) | exact .cons _ (.cons _ (.cons _ (List.Sublist.refl _))))
                    first
                    | exact ⟨rfl, rfl⟩
                    | (exfalso; obtain ⟨q1, q2, q3, q4⟩ := hF; omega)
                    | (exfalso; obtain ⟨q1, q2, q3, q4⟩ := hF; have := q3 (by omega); simp_all; done)
                    | (exfalso; obtain ⟨q1, q2, q3, q4⟩ := hF; have := q4 (by omega); simp_all; done)
          · intro hc158
            try simp only [decide_eq_true_eq, decide_eq_false_iff_not, Bool.not_eq_true', Bool.not_eq_false', beq_iff_eq] at hc158
            refine AK.skip ?_
            refine AK.seq ?_
            refine AK.seq ?_
            refine AK.region ?_
            refine AO.val (RV.move rfl) (.none rfl) rfl ?_
            refine AO.val (RV.move rfl) (.none rfl) rfl ?_
            refine AO.val (by first | exact RV.addIn rfl rfl (by omega) | exact RV.add rfl rfl) (.none rfl) rfl ?_
            refine AO.val (RV.neq rfl rfl) (.none rfl) rfl ?_
            refine AO.val (RV.move rfl) (.none rfl) rfl ?_
            refine AO.caseG rfl rfl rfl ?_ ?_
            · intro hg164
              try simp only [decide_eq_true_eq, decide_eq_false_iff_not, Bool.not_eq_true', Bool.not_eq_false', beq_iff_eq] at hg164
              refine AO.pass (.some rfl rfl rfl rfl) rfl ?_
              refine AO.pass (.some rfl rfl rfl rfl) rfl ?_
              refine AO.val (RV.pickT rfl rfl) (.none rfl) rfl ?_
              refine AO.nil ?_
              refine AK.condT rfl ?_
              refine AK.seq ?_
              refine AK.region ?_
              refine AO.val (RV.assign rfl) (.none rfl) rfl ?_
              refine AO.nil ?_
              -- at FFTFFt
              refine AK.ret (h' := h) Try.func3 (.tmp rfl .nil) ?_ (by first | exact SubO.sub | exact List.Sublist.refl _ | exact .cons _ (List.Sublist.refl _) | exact .cons _ (.cons _ (List.Sublist.refl _)) | exact .cons _ (.cons _ (.cons _ (List.Sublist.refl _))))
              first
              | exact ⟨rfl, rfl⟩
              | (exfalso; obtain ⟨q1, q2, q3, q4⟩ := hF; omega)
              | (exfalso; obtain ⟨q1, q2, q3, q4⟩ := hF; have := q3 (by omega); simp_all; done)
              | (exfalso; obtain ⟨q1, q2, q3, q4⟩ := hF; have := q4 (by omega); simp_all; done)
            · intro hg164
              try simp only [decide_eq_true_eq, decide_eq_false_iff_not, Bool.not_eq_true', Bool.not_eq_false', beq_iff_eq] at hg164
              refine AO.val (RV.move rfl) (.some rfl rfl rfl rfl) rfl ?_
              refine AO.val (RV.neq rfl rfl) (.some rfl rfl rfl rfl) rfl ?_
              refine AO.val (RV.pickF rfl rfl) (.none rfl) rfl ?_
              refine AO.nil ?_
              refine AK.cond rfl ?_ ?_
              · intro hc165
                try simp only [decide_eq_true_eq, decide_eq_false_iff_not, Bool.not_eq_true', Bool.not_eq_false', beq_iff_eq] at hc165
                refine AK.seq ?_
                refine AK.region ?_
                refine AO.val (RV.assign rfl) (.none rfl) rfl ?_
                refine AO.nil ?_
                -- at FFTFFfT
                refine AK.ret (h' := h) Try.func3 (.tmp rfl .nil) ?_ (by first | exact SubO.sub | exact List.Sublist.refl _ | exact .cons _ (List.Sublist.refl _) | exact .cons _ (.cons _ (List.Sublist.refl _)) | exact .cons _ (.cons _ (.cons _ (List.Sublist.refl _))))
                first
                | exact ⟨rfl, rfl⟩
                | (exfalso; obtain ⟨q1, q2, q3, q4⟩ := hF; omega)
                | (exfalso; obtain ⟨q1, q2, q3, q4⟩ := hF; have := q3 (by omega); simp_all; done)
                | (exfalso; obtain ⟨q1, q2, q3, q4⟩ := hF; have := q4 (by omega); simp_all; done)
              · intro hc165
                try simp only [decide_eq_true_eq, decide_eq_false_iff_not, Bool.not_eq_true', Bool.not_eq_false', beq_iff_eq] at hc165
                refine AK.skip ?_
                refine AK.seq ?_
                refine AK.seq ?_
                refine AK.region ?_
                refine AO.val (RV.move rfl) (.none rfl) rfl ?_
                refine AO.val (RV.move rfl) (.none rfl) rfl ?_
                refine AO.val (RV.geq rfl rfl) (.none rfl) rfl ?_
                refine AO.nil ?_
                refine AK.cond rfl ?_ ?_
                · intro hc166
                  try simp only [decide_eq_true_eq, decide_eq_false_iff_not, Bool.not_eq_true', Bool.not_eq_false', beq_iff_eq] at hc166
                  refine AK.seq ?_
                  refine AK.region ?_
                  refine AO.val (RV.fieldAddr rfl) (.none rfl) rfl ?_
                  refine AO.val (by first | exact RV.loadO rfl rfl (by simp) | exact RV.loadS rfl (by assumption) (by omega) (by simp)) (.none rfl) rfl ?_
                  refine AO.val (RV.move rfl) (.none rfl) rfl ?_
                  refine AO.val (RV.eqlB rfl rfl) (.none rfl) rfl ?_
                  refine AO.val (RV.move rfl) (.none rfl) rfl ?_
                  refine AO.caseG rfl rfl rfl ?_ ?_
                  · intro hg167
                    try simp only [decide_eq_true_eq, decide_eq_false_iff_not, Bool.not_eq_true', Bool.not_eq_false', beq_iff_eq] at hg167
                    refine AO.eff (EF.callF rfl (lives_spec B _)) (.some rfl rfl rfl rfl) rfl ?_
                    rintro _ _ ⟨rfl, rfl⟩
                    refine AO.val (RV.pickT rfl rfl) (.none rfl) rfl ?_
                    refine AO.val (RV.assign rfl) (.none rfl) rfl ?_
                    refine AO.nil ?_
                    -- at FFTFFfFTt
                    refine AK.ret (h' := h) Try.func3 (.tmp rfl .nil) ?_ (by first | exact SubO.sub | exact List.Sublist.refl _ | exact .cons _ (List.Sublist.refl _) | exact .cons _ (.cons _ (List.Sublist.refl _)) | exact .cons _ (.cons _ (.cons _ (List.Sublist.refl _))))
                    first
                    | exact ⟨rfl, rfl⟩
                    | (exfalso; obtain ⟨q1, q2, q3, q4⟩ := hF; omega)
                    | (exfalso; obtain ⟨q1, q2, q3, q4⟩ := hF; have := q3 (by omega); simp_all; done)
                    | (exfalso; obtain ⟨q1, q2, q3, q4⟩ := hF; have := q4 (by omega); simp_all; done)
                  · intro hg167
                    try simp only [decide_eq_true_eq, decide_eq_false_iff_not, Bool.not_eq_true', Bool.not_eq_false', beq_iff_eq] at hg167
                    refine AO.pass (.some rfl rfl rfl rfl) rfl ?_
                    refine AO.val (RV.pickF rfl rfl) (.none rfl) rfl ?_
                    refine AO.val (RV.assign rfl) (.none rfl) rfl ?_
                    refine AO.nil ?_
                    -- at FFTFFfFTf
                    refine AK.ret (h' := h) Try.func3 (.tmp rfl .nil) ?_ (by first | exact SubO.sub | exact List.Sublist.refl _ | exact .cons _ (List.Sublist.refl _) | exact .cons _ (.cons _ (List.Sublist.refl _)) | exact .cons _ (.cons _ (.cons _ (List.Sublist.refl _))))
                    first
                    | exact ⟨rfl, rfl⟩
                    | (exfalso; obtain ⟨q1, q2, q3, q4⟩ := hF; omega)
                    | (exfalso; obtain ⟨q1, q2, q3, q4⟩ := hF; have := q3 (by omega); simp_all; done)
                    | (exfalso; obtain ⟨q1, q2, q3, q4⟩ := hF; have := q4 (by omega); simp_all; done)
                · intro hc166
                  try simp only [decide_eq_true_eq, decide_eq_false_iff_not, Bool.not_eq_true', Bool.not_eq_false', beq_iff_eq] at hc166
                  refine AK.skip ?_
                  refine AK.seq ?_
                  refine AK.region ?_
                  refine AO.val (RV.fieldAddr rfl) (.none rfl) rfl ?_
                  refine AO.val (by first | exact RV.loadO rfl rfl (by simp) | exact RV.loadS rfl (by assumption) (by omega) (by simp)) (.none rfl) rfl ?_
                  refine AO.val (RV.fieldAddr rfl) (.none rfl) rfl ?_
                  refine AO.val (by first | exact RV.loadO rfl rfl (by simp) | exact RV.loadS rfl (by assumption) (by omega) (by simp)) (.none rfl) rfl ?_
                  refine AO.val (RV.eqlB rfl rfl) (.none rfl) rfl ?_
                  refine AO.val (RV.move rfl) (.none rfl) rfl ?_
                  refine AO.caseG rfl rfl rfl ?_ ?_
                  · intro hg168
                    try simp only [decide_eq_true_eq, decide_eq_false_iff_not, Bool.not_eq_true', Bool.not_eq_false', beq_iff_eq] at hg168
                    refine AO.eff (EF.callF rfl (lives_spec B _)) (.some rfl rfl rfl rfl) rfl ?_
                    rintro _ _ ⟨rfl, rfl⟩
                    refine AO.val (RV.pickT rfl rfl) (.none rfl) rfl ?_
                    refine AO.val (RV.assign rfl) (.none rfl) rfl ?_
                    refine AO.nil ?_
                    -- at FFTFFfFFt
                    refine AK.ret (h' := h) Try.func3 (.tmp rfl .nil) ?_ (by first | exact SubO.sub | exact List.Sublist.refl _ | exact .cons _ (List.Sublist.refl _) | exact .cons _ (.cons _ (List.Sublist.refl _)) | exact .cons _ (.cons _ (.cons _ (List.Sublist.refl _))))
                    first
                    | exact ⟨rfl, rfl⟩
                    | (exfalso; obtain ⟨q1, q2, q3, q4⟩ := hF; omega)
                    | (exfalso; obtain ⟨q1, q2, q3, q4⟩ := hF; have := q3 (by omega); simp_all; done)
                    | (exfalso; obtain ⟨q1, q2, q3, q4⟩ := hF; have := q4 (by omega); simp_all; done)
                  · intro hg168
                    try simp only [decide_eq_true_eq, decide_eq_false_iff_not, Bool.not_eq_true', Bool.not_eq_false', beq_iff_eq] at hg168
                    refine AO.pass (.some rfl rfl rfl rfl) rfl ?_
                    refine AO.val (RV.pickF rfl rfl) (.none rfl) rfl ?_
                    refine AO.val (RV.assign rfl) (.none rfl) rfl ?_
                    refine AO.nil ?_
                    -- at FFTFFfFFf
                    refine AK.ret (h' := h) Try.func3 (.tmp rfl .nil) ?_ (by first | exact SubO.sub | exact List.Sublist.refl _ | exact .cons _ (List.Sublist.refl _) | exact .cons _ (.cons _ (List.Sublist.refl _)) | exact .cons _ (.cons _ (.cons _ (List.Sublist.refl _))))
                    first
                    | exact ⟨rfl, rfl⟩
                    | (exfalso; obtain ⟨q1, q2, q3, q4⟩ := hF; omega)
                    | (exfalso; obtain ⟨q1, q2, q3, q4⟩ := hF; have := q3 (by omega); simp_all; done)
                    | (exfalso; obtain ⟨q1, q2, q3, q4⟩ := hF; have := q4 (by omega); simp_all; done)
      · intro hc145
        try simp only [decide_eq_true_eq, decide_eq_false_iff_not, Bool.not_eq_true', Bool.not_eq_false', beq_iff_eq] at hc145
        refine AK.skip ?_
        refine AK.seq ?_
        refine AK.draw [] [] mixed ?_
        refine AD.takeP 0 rfl (by kernel_rfl) (RV.fieldAddr rfl) (.none rfl) rfl ?_
        refine AD.take 1 rfl (by kernel_rfl) (by first | exact RV.loadO rfl rfl (by simp) | exact RV.loadS rfl (by assumption) (by omega) (by simp)) (.none rfl) rfl ?_
        refine AD.takeP 2 rfl (by kernel_rfl) (RV.fieldAddr rfl) (.none rfl) rfl ?_
        refine AD.take 3 rfl (by kernel_rfl) (by first | exact RV.loadO rfl rfl (by simp) | exact RV.loadS rfl (by assumption) (by omega) (by simp)) (.none rfl) rfl ?_
        refine AD.takeP 4 rfl (by kernel_rfl) (RV.move rfl) (.none rfl) rfl ?_
        refine AD.takeP 5 rfl (by kernel_rfl) (RV.assign rfl) (.none rfl) rfl ?_
        refine AD.takeP 6 rfl (by kernel_rfl) (RV.assign rfl) (.none rfl) rfl ?_
        refine AD.takeP 7 rfl (by kernel_rfl) (RV.assign rfl) (.none rfl) rfl ?_
        refine AD.done (by kernel_rfl) ?_
        refine AK.seq ?_
        refine AK.seq ?_
        refine AK.region ?_
        refine AO.val (RV.move rfl) (.none rfl) rfl ?_
        refine AO.nil ?_
        refine AK.cond rfl ?_ ?_
        · intro hc169
          try simp only [decide_eq_true_eq, decide_eq_false_iff_not, Bool.not_eq_true', Bool.not_eq_false', beq_iff_eq] at hc169
          exfalso; simp_all
        · intro hc169
          try simp only [decide_eq_true_eq, decide_eq_false_iff_not, Bool.not_eq_true', Bool.not_eq_false', beq_iff_eq] at hc169
          refine AK.skip ?_
          refine AK.seq ?_
          refine AK.seq ?_
          refine AK.region ?_
          refine AO.val (RV.move rfl) (.none rfl) rfl ?_
          refine AO.val (RV.lss rfl rfl) (.none rfl) rfl ?_
          refine AO.nil ?_
          refine AK.cond rfl ?_ ?_
          · intro hc181
            try simp only [decide_eq_true_eq, decide_eq_false_iff_not, Bool.not_eq_true', Bool.not_eq_false', beq_iff_eq] at hc181
            refine AK.region ?_
            refine AO.val (RV.assign rfl) (.none rfl) rfl ?_
            refine AO.nil ?_
            refine AK.seq ?_
            refine AK.seq ?_
            refine AK.region ?_
            refine AO.val (RV.move rfl) (.none rfl) rfl ?_
            refine AO.val (RV.move rfl) (.none rfl) rfl ?_
            refine AO.val (by first | exact RV.addIn rfl rfl (by omega) | exact RV.add rfl rfl) (.none rfl) rfl ?_
            refine AO.val (RV.neq rfl rfl) (.none rfl) rfl ?_
            refine AO.val (RV.move rfl) (.none rfl) rfl ?_
            refine AO.caseG rfl rfl rfl ?_ ?_
            · intro hg182
              try simp only [decide_eq_true_eq, decide_eq_false_iff_not, Bool.not_eq_true', Bool.not_eq_false', beq_iff_eq] at hg182
              refine AO.pass (.some rfl rfl rfl rfl) rfl ?_
              refine AO.pass (.some rfl rfl rfl rfl) rfl ?_
              refine AO.val (RV.pickT rfl rfl) (.none rfl) rfl ?_
              refine AO.nil ?_
              refine AK.condT rfl ?_
              refine AK.seq ?_
              refine AK.region ?_
              refine AO.val (RV.assign rfl) (.none rfl) rfl ?_
              refine AO.nil ?_
              -- at FFFFTt
              refine AK.ret (h' := h) Try.func3 (.tmp rfl .nil) ?_ (by first | exact SubO.sub | exact List.Sublist.refl _ | exact .cons _ (List.Sublist.refl _) | exact .cons _ (.cons _ (List.Sublist.refl _)) | exact .cons _ (.cons _ (.cons _ (List.Sublist.refl _))))
              first
              | exact ⟨rfl, rfl⟩
              | (exfalso; obtain ⟨q1, q2, q3, q4⟩ := hF; omega)
              | (exfalso; obtain ⟨q1, q2, q3, q4⟩ := hF; have := q3 (by omega); simp_all; done)
              | (exfalso; obtain ⟨q1, q2, q3, q4⟩ := hF; have := q4 (by omega); simp_all; done)
            · intro hg182
              try simp only [decide_eq_true_eq, decide_eq_false_iff_not, Bool.not_eq_true', Bool.not_eq_false', beq_iff_eq] at hg182
              refine AO.val (RV.move rfl) (.some rfl rfl rfl rfl) rfl ?_
              refine AO.val (RV.neq rfl rfl) (.some rfl rfl rfl rfl) rfl ?_
              refine AO.val (RV.pickF rfl rfl) (.none rfl) rfl ?_
              refine AO.nil ?_
              refine AK.cond rfl ?_ ?_
              · intro hc183
                try simp only [decide_eq_true_eq, decide_eq_false_iff_not, Bool.not_eq_true', Bool.not_eq_false', beq_iff_eq] at hc183
                refine AK.seq ?_
                refine AK.region ?_
                refine AO.val (RV.assign rfl) (.none rfl) rfl ?_
                refine AO.nil ?_
                -- at FFFFTfT
                refine AK.ret (h' := h) Try.func3 (.tmp rfl .nil) ?_ (by first | exact SubO.sub | exact List.Sublist.refl _ | exact .cons _ (List.Sublist.refl _) | exact .cons _ (.cons _ (List.Sublist.refl _)) | exact .cons _ (.cons _ (.cons _ (List.Sublist.refl _))))
                first
                | exact ⟨rfl, rfl⟩
                | (exfalso; obtain ⟨q1, q2, q3, q4⟩ := hF; omega)
                | (exfalso; obtain ⟨q1, q2, q3, q4⟩ := hF; have := q3 (by omega); simp_all; done)
                | (exfalso; obtain ⟨q1, q2, q3, q4⟩ := hF; have := q4 (by omega); simp_all; done)
              · intro hc183
                try simp only [decide_eq_true_eq, decide_eq_false_iff_not, Bool.not_eq_true', Bool.not_eq_false', beq_iff_eq] at hc183
                refine AK.skip ?_
                refine AK.seq ?_
                refine AK.seq ?_
                refine AK.region ?_
                refine AO.val (RV.move rfl) (.none rfl) rfl ?_
                refine AO.val (RV.move rfl) (.none rfl) rfl ?_
                refine AO.val (RV.geq rfl rfl) (.none rfl) rfl ?_
                refine AO.nil ?_
                refine AK.cond rfl ?_ ?_
                · intro hc184
                  try simp only [decide_eq_true_eq, decide_eq_false_iff_not, Bool.not_eq_true', Bool.not_eq_false', beq_iff_eq] at hc184
                  refine AK.seq ?_
                  refine AK.region ?_
                  refine AO.val (RV.fieldAddr rfl) (.none rfl) rfl ?_
                  refine AO.val (by first | exact RV.loadO rfl rfl (by simp) | exact RV.loadS rfl (by assumption) (by omega) (by simp)) (.none rfl) rfl ?_
                  refine AO.val (RV.move rfl) (.none rfl) rfl ?_
                  refine AO.val (RV.eqlB rfl rfl) (.none rfl) rfl ?_
                  refine AO.val (RV.move rfl) (.none rfl) rfl ?_
                  refine AO.caseG rfl rfl rfl ?_ ?_
                  · intro hg185
                    try simp only [decide_eq_true_eq, decide_eq_false_iff_not, Bool.not_eq_true', Bool.not_eq_false', beq_iff_eq] at hg185
                    refine AO.eff (EF.callF rfl (lives_spec B _)) (.some rfl rfl rfl rfl) rfl ?_
                    rintro _ _ ⟨rfl, rfl⟩
                    refine AO.val (RV.pickT rfl rfl) (.none rfl) rfl ?_
                    refine AO.val (RV.assign rfl) (.none rfl) rfl ?_
                    refine AO.nil ?_
                    -- at FFFFTfFTt
                    refine AK.ret (h' := h) Try.func3 (.tmp rfl .nil) ?_ (by first | exact SubO.sub | exact List.Sublist.refl _ | exact .cons _ (List.Sublist.refl _) | exact .cons _ (.cons _ (List.Sublist.refl _)) | exact .cons _ (.cons _ (.cons _ (List.Sublist.refl _))))
                    first
                    | exact ⟨rfl, rfl⟩
                    | (exfalso; obtain ⟨q1, q2, q3, q4⟩ := hF; omega)
                    | (exfalso; obtain ⟨q1, q2, q3, q4⟩ := hF; have := q3 (by omega); simp_all; done)
                    | (exfalso; obtain ⟨q1, q2, q3, q4⟩ := hF; have := q4 (by omega); simp_all; done)
                  · intro hg185
                    try simp only [decide_eq_true_eq, decide_eq_false_iff_not, Bool.not_eq_true', Bool.not_eq_false', beq_iff_eq] at hg185
                    refine AO.pass (.some rfl rfl rfl rfl) rfl ?_
                    refine AO.val (RV.pickF rfl rfl) (.none rfl) rfl ?_
                    refine AO.val (RV.assign rfl) (.none rfl) rfl ?_
                    refine AO.nil ?_
                    -- at FFFFTfFTf
                    refine AK.ret (h' := h) Try.func3 (.tmp rfl .nil) ?_ (by first | exact SubO.sub | exact List.Sublist.refl _ | exact .cons _ (List.Sublist.refl _) | exact .cons _ (.cons _ (List.Sublist.refl _)) | exact .cons _ (.cons _ (.cons _ (List.Sublist.refl _))))
                    first
                    | exact ⟨rfl, rfl⟩
                    | (exfalso; obtain ⟨q1, q2, q3, q4⟩ := hF; omega)
                    | (exfalso; obtain ⟨q1, q2, q3, q4⟩ := hF; have := q3 (by omega); simp_all; done)
                    | (exfalso; obtain ⟨q1, q2, q3, q4⟩ := hF; have := q4 (by omega); simp_all; done)
                · intro hc184
                  try simp only [decide_eq_true_eq, decide_eq_false_iff_not, Bool.not_eq_true', Bool.not_eq_false', beq_iff_eq] at hc184
                  refine AK.skip ?_
                  refine AK.seq ?_
                  refine AK.region ?_
                  refine AO.val (RV.fieldAddr rfl) (.none rfl) rfl ?_
                  refine AO.val (by first | exact RV.loadO rfl rfl (by simp) | exact RV.loadS rfl (by assumption) (by omega) (by simp)) (.none rfl) rfl ?_
                  refine AO.val (RV.fieldAddr rfl) (.none rfl) rfl ?_
                  refine AO.val (by first | exact RV.loadO rfl rfl (by simp) | exact RV.loadS rfl (by assumption) (by omega) (by simp)) (.none rfl) rfl ?_
                  refine AO.val (RV.eqlB rfl rfl) (.none rfl) rfl ?_
                  refine AO.val (RV.move rfl) (.none rfl) rfl ?_
                  refine AO.caseG rfl rfl rfl ?_ ?_
                  · intro hg186
                    try simp only [decide_eq_true_eq, decide_eq_false_iff_not, Bool.not_eq_true', Bool.not_eq_false', beq_iff_eq] at hg186
                    refine AO.eff (EF.callF rfl (lives_spec B _)) (.some rfl rfl rfl rfl) rfl ?_
                    rintro _ _ ⟨rfl, rfl⟩
                    refine AO.val (RV.pickT rfl rfl) (.none rfl) rfl ?_
                    refine AO.val (RV.assign rfl) (.none rfl) rfl ?_
                    refine AO.nil ?_
                    -- at FFFFTfFFt
                    refine AK.ret (h' := h) Try.func3 (.tmp rfl .nil) ?_ (by first | exact SubO.sub | exact List.Sublist.refl _ | exact .cons _ (List.Sublist.refl _) | exact .cons _ (.cons _ (List.Sublist.refl _)) | exact .cons _ (.cons _ (.cons _ (List.Sublist.refl _))))
                    first
                    | exact ⟨rfl, rfl⟩
                    | (exfalso; obtain ⟨q1, q2, q3, q4⟩ := hF; omega)
                    | (exfalso; obtain ⟨q1, q2, q3, q4⟩ := hF; have := q3 (by omega); simp_all; done)
                    | (exfalso; obtain ⟨q1, q2, q3, q4⟩ := hF; have := q4 (by omega); simp_all; done)
                  · intro hg186
                    try simp only [decide_eq_true_eq, decide_eq_false_iff_not, Bool.not_eq_true', Bool.not_eq_false', beq_iff_eq] at hg186
                    refine AO.pass (.some rfl rfl rfl rfl) rfl ?_
                    refine AO.val (RV.pickF rfl rfl) (.none rfl) rfl ?_
                    refine AO.val (RV.assign rfl) (.none rfl) rfl ?_
                    refine AO.nil ?_
                    -- at FFFFTfFFf
                    refine AK.ret (h' := h) Try.func3 (.tmp rfl .nil) ?_ (by first | exact SubO.sub | exact List.Sublist.refl _ | exact .cons _ (List.Sublist.refl _) | exact .cons _ (.cons _ (List.Sublist.refl _)) | exact .cons _ (.cons _ (.cons _ (List.Sublist.refl _))))
                    first
                    | exact ⟨rfl, rfl⟩
                    | (exfalso; obtain ⟨q1, q2, q3, q4⟩ := hF; omega)
                    | (exfalso; obtain ⟨q1, q2, q3, q4⟩ := hF; have := q3 (by omega); simp_all; done)
                    | (exfalso; obtain ⟨q1, q2, q3, q4⟩ := hF; have := q4 (by omega); simp_all; done)
          · intro hc181
            try simp only [decide_eq_true_eq, decide_eq_false_iff_not, Bool.not_eq_true', Bool.not_eq_false', beq_iff_eq] at hc181
            refine AK.skip ?_
            refine AK.seq ?_
            refine AK.seq ?_
            refine AK.region ?_
            refine AO.val (RV.move rfl) (.none rfl) rfl ?_
            refine AO.val (RV.move rfl) (.none rfl) rfl ?_
            refine AO.val (by first | exact RV.addIn rfl rfl (by omega) | exact RV.add rfl rfl) (.none rfl) rfl ?_
            refine AO.val (RV.neq rfl rfl) (.none rfl) rfl ?_
            refine AO.val (RV.move rfl) (.none rfl) rfl ?_
            refine AO.caseG rfl rfl rfl ?_ ?_
            · intro hg187
              try simp only [decide_eq_true_eq, decide_eq_false_iff_not, Bool.not_eq_true', Bool.not_eq_false', beq_iff_eq] at hg187
              refine AO.pass (.some rfl rfl rfl rfl) rfl ?_
              refine AO.pass (.some rfl rfl rfl rfl) rfl ?_
              refine AO.val (RV.pickT rfl rfl) (.none rfl) rfl ?_
              refine AO.nil ?_
              refine AK.condT rfl ?_
              refine AK.seq ?_
              refine AK.region ?_
              refine AO.val (RV.assign rfl) (.none rfl) rfl ?_
              refine AO.nil ?_
              -- at FFFFFt
              refine AK.ret (h' := h) Try.func3 (.tmp rfl .nil) ?_ (by first | exact SubO.sub | exact List.Sublist.refl _ | exact .cons _ (List.Sublist.refl _) | exact .cons _ (.cons _ (List.Sublist.refl _)) | exact .cons _ (.cons _ (.cons _ (List.Sublist.refl _))))
              first
              | exact ⟨rfl, rfl⟩
              | (exfalso; obtain ⟨q1, q2, q3, q4⟩ := hF; omega)
              | (exfalso; obtain ⟨q1, q2, q3, q4⟩ := hF; have := q3 (by omega); simp_all; done)
              | (exfalso; obtain ⟨q1, q2, q3, q4⟩ := hF; have := q4 (by omega); simp_all; done)
            · intro hg187
              try simp only [decide_eq_true_eq, decide_eq_false_iff_not, Bool.not_eq_true', Bool.not_eq_false', beq_iff_eq] at hg187
              refine AO.val (RV.move rfl) (.some rfl rfl rfl rfl) rfl ?_
              refine AO.val (RV.neq rfl rfl) (.some rfl rfl rfl rfl) rfl ?_
              refine AO.val (RV.pickF rfl rfl) (.none rfl) rfl ?_
              refine AO.nil ?_
              refine AK.cond rfl ?_ ?_
              · intro hc188
                try simp only [decide_eq_true_eq, decide_eq_false_iff_not, Bool.not_eq_true', Bool.not_eq_false', beq_iff_eq] at hc188
                refine AK.seq ?_
                refine AK.region ?_
                refine AO.val (RV.assign rfl) (.none rfl) rfl ?_
                refine AO.nil ?_
                -- at FFFFFfT
                refine AK.ret (h' := h) Try.func3 (.tmp rfl .nil) ?_ (by first | exact SubO.sub | exact List.Sublist.refl _ | exact .cons _ (List.Sublist.refl _) | exact .cons _ (.cons _ (List.Sublist.refl _)) | exact .cons _ (.cons _ (.cons _ (List.Sublist.refl _))))
                first
                | exact ⟨rfl, rfl⟩
                | (exfalso; obtain ⟨q1, q2, q3, q4⟩ := hF; omega)
                | (exfalso; obtain ⟨q1, q2, q3, q4⟩ := hF; have := q3 (by omega); simp_all; done)
                | (exfalso; obtain ⟨q1, q2, q3, q4⟩ := hF; have := q4 (by omega); simp_all; done)
              · intro hc188
                try simp only [decide_eq_true_eq, decide_eq_false_iff_not, Bool.not_eq_true', Bool.not_eq_false', beq_iff_eq] at hc188
                refine AK.skip ?_
                refine AK.seq ?_
                refine AK.seq ?_
                refine AK.region ?_
                refine AO.val (RV.move rfl) (.none rfl) rfl ?_
                refine AO.val (RV.move rfl) (.none rfl) rfl ?_
                refine AO.val (RV.geq rfl rfl) (.none rfl) rfl ?_
                refine AO.nil ?_
                refine AK.cond rfl ?_ ?_
                · intro hc189
                  try simp only [decide_eq_true_eq, decide_eq_false_iff_not, Bool.not_eq_true', Bool.not_eq_false', beq_iff_eq] at hc189
                  refine AK.seq ?_
                  refine AK.region ?_
                  refine AO.val (RV.fieldAddr rfl) (.none rfl) rfl ?_
                  refine AO.val (by first | exact RV.loadO rfl rfl (by simp) | exact RV.loadS rfl (by assumption) (by omega) (by simp)) (.none rfl) rfl ?_
                  refine AO.val (RV.move rfl) (.none rfl) rfl ?_
                  refine AO.val (RV.eqlB rfl rfl) (.none rfl) rfl ?_
                  refine AO.val (RV.move rfl) (.none rfl) rfl ?_
                  refine AO.caseG rfl rfl rfl ?_ ?_
                  · intro hg190
                    try simp only [decide_eq_true_eq, decide_eq_false_iff_not, Bool.not_eq_true', Bool.not_eq_false', beq_iff_eq] at hg190
                    refine AO.eff (EF.callF rfl (lives_spec B _)) (.some rfl rfl rfl rfl) rfl ?_
                    rintro _ _ ⟨rfl, rfl⟩
                    refine AO.val (RV.pickT rfl rfl) (.none rfl) rfl ?_
                    refine AO.val (RV.assign rfl) (.none rfl) rfl ?_
                    refine AO.nil ?_
                    -- at FFFFFfFTt
                    refine AK.ret (h' := h) Try.func3 (.tmp rfl .nil) ?_ (by first | exact SubO.sub | exact List.Sublist.refl _ | exact .cons _ (List.Sublist.refl _) | exact .cons _ (.cons _ (List.Sublist.refl _)) | exact .cons _ (.cons _ (.cons _ (List.Sublist.refl _))))
                    first
                    | exact ⟨rfl, rfl⟩
                    | (exfalso; obtain ⟨q1, q2, q3, q4⟩ := hF; omega)
                    | (exfalso; obtain ⟨q1, q2, q3, q4⟩ := hF; have := q3 (by omega); simp_all; done)
                    | (exfalso; obtain ⟨q1, q2, q3, q4⟩ := hF; have := q4 (by omega); simp_all; done)
                  · intro hg190
                    try simp only [decide_eq_true_eq, decide_eq_false_iff_not, Bool.not_eq_true', Bool.not_eq_false', beq_iff_eq] at hg190
                    refine AO.pass (.some rfl rfl rfl rfl) rfl ?_
                    refine AO.val (RV.pickF rfl rfl) (.none rfl) rfl ?_
                    refine AO.val (RV.assign rfl) (.none rfl) rfl ?_
                    refine AO.nil ?_
                    -- at FFFFFfFTf
                    refine AK.ret (h' := h) Try.func3 (.tmp rfl .nil) ?_ (by first | exact SubO.sub | exact List.Sublist.refl _ | exact .cons _ (List.Sublist.refl _) | exact .cons _ (.cons _ (List.Sublist.refl _)) | exact .cons _ (.cons _ (.cons _ (List.Sublist.refl _))))
                    first
                    | exact ⟨rfl, rfl⟩
                    | (exfalso; obtain ⟨q1, q2, q3, q4⟩ := hF; omega)
                    | (exfalso; obtain ⟨q1, q2, q3, q4⟩ := hF; have := q3 (by omega); simp_all; done)
                    | (exfalso; obtain ⟨q1, q2, q3, q4⟩ := hF; have := q4 (by omega); simp_all; done)
                · intro hc189
                  try simp only [decide_eq_true_eq, decide_eq_false_iff_not, Bool.not_eq_true', Bool.not_eq_false', beq_iff_eq] at hc189
                  refine AK.skip ?_
                  refine AK.seq ?_
                  refine AK.region ?_
                  refine AO.val (RV.fieldAddr rfl) (.none rfl) rfl ?_
                  refine AO.val (by first | exact RV.loadO rfl rfl (by simp) | exact RV.loadS rfl (by assumption) (by omega) (by simp)) (.none rfl) rfl ?_
                  refine AO.val (RV.fieldAddr rfl) (.none rfl) rfl ?_
                  refine AO.val (by first | exact RV.loadO rfl rfl (by simp) | exact RV.loadS rfl (by assumption) (by omega) (by simp)) (.none rfl) rfl ?_
                  refine AO.val (RV.eqlB rfl rfl) (.none rfl) rfl ?_
                  refine AO.val (RV.move rfl) (.none rfl) rfl ?_
                  refine AO.caseG rfl rfl rfl ?_ ?_
                  · intro hg191
                    try simp only [decide_eq_true_eq, decide_eq_false_iff_not, Bool.not_eq_true', Bool.not_eq_false', beq_iff_eq] at hg191
                    refine AO.eff (EF.callF rfl (lives_spec B _)) (.some rfl rfl rfl rfl) rfl ?_
                    rintro _ _ ⟨rfl, rfl⟩
                    refine AO.val (RV.pickT rfl rfl) (.none rfl) rfl ?_
                    refine AO.val (RV.assign rfl) (.none rfl) rfl ?_
                    refine AO.nil ?_
                    -- at FFFFFfFFt
                    refine AK.ret (h' := h) Try.func3 (.tmp rfl .nil) ?_ (by first | exact SubO.sub | exact List.Sublist.refl _ | exact .cons _ (List.Sublist.refl _) | exact .cons _ (.cons _ (List.Sublist.refl _)) | exact .cons _ (.cons _ (.cons _ (List.Sublist.refl _))))
                    first
                    | exact ⟨rfl, rfl⟩
                    | (exfalso; obtain ⟨q1, q2, q3, q4⟩ := hF; omega)
                    | (exfalso; obtain ⟨q1, q2, q3, q4⟩ := hF; have := q3 (by omega); simp_all; done)
                    | (exfalso; obtain ⟨q1, q2, q3, q4⟩ := hF; have := q4 (by omega); simp_all; done)
                  · intro hg191
                    try simp only [decide_eq_true_eq, decide_eq_false_iff_not, Bool.not_eq_true', Bool.not_eq_false', beq_iff_eq] at hg191
                    refine AO.pass (.some rfl rfl rfl rfl) rfl ?_
                    refine AO.val (RV.pickF rfl rfl) (.none rfl) rfl ?_
                    refine AO.val (RV.assign rfl) (.none rfl) rfl ?_
                    refine AO.nil ?_
                    -- at FFFFFfFFf
                    refine AK.ret (h' := h) Try.func3 (.tmp rfl .nil) ?_ (by first | exact SubO.sub | exact List.Sublist.refl _ | exact .cons _ (List.Sublist.refl _) | exact .cons _ (.cons _ (List.Sublist.refl _)) | exact .cons _ (.cons _ (.cons _ (List.Sublist.refl _))))
                    first
                    | exact ⟨rfl, rfl⟩
                    | (exfalso; obtain ⟨q1, q2, q3, q4⟩ := hF; omega)
                    | (exfalso; obtain ⟨q1, q2, q3, q4⟩ := hF; have := q3 (by omega); simp_all; done)
                    | (exfalso; obtain ⟨q1, q2, q3, q4⟩ := hF; have := q4 (by omega); simp_all; done)

theorem of_law (B : World) (h : Own) {A : Option Addr} {cap : Nat} (l : List Bool) (r f : Int) (hcap : l.length ≤ cap) (hl : Src B h A l.length 1 (l.map Value.bool)) (hln : l.length ≤ 9223372036854775807) : Tri Try.prog B 5 [.slice A l.length cap, .int .i64 r, .int .i64 f] h fun v h' => h = h' ∧ v = .bool true := by
  have hl2 : Src B h A (l.take (60 : Int).toNat).length 1 ((l.take (60 : Int).toNat).map Value.bool) := by
    have := hl.take (min 60 l.length) (by omega)
    rw [Nat.mul_one, ← List.map_take] at this
    rw [List.length_take, show (60 : Int).toNat = 60 from rfl]
    have e : l.take 60 = l.take (min 60 l.length) := by rw [List.take_eq_take_min]
    rw [e]; exact this
  have hlen : (l.take (60 : Int).toNat).length ≤ 60 := by rw [List.length_take]; exact Nat.min_le_left _ _
  refine Tri.enter (n := 52) Try.func5 rfl rfl rfl ?_
  simp only [argsE, Nat.reduceAdd]
  try dsimp only [argsE]
  refine AK.seq ?_
  refine AK.region ?_
  refine AO.val (RV.assign rfl) (.none rfl) rfl ?_
  refine AO.nil ?_
  refine AK.seq ?_
  refine AK.region ?_
  refine AO.val (RV.move rfl) (.none rfl) rfl ?_
  refine AO.eff (EF.callF rfl (few_spec B _ l _ (by omega) hcap)) (.none rfl) rfl ?_
  rintro _ _ ⟨rfl, rfl⟩
  clear hl
  revert hl2 hlen
  generalize l.take (60 : Int).toNat = l2
  intro hl2 hlen
  refine AO.val (RV.assign rfl) (.none rfl) rfl ?_
  refine AO.nil ?_
  refine AK.seq ?_
  refine AK.region ?_
  refine AO.val (RV.move rfl) (.none rfl) rfl ?_
  refine AO.val (RV.move rfl) (.none rfl) rfl ?_
  refine AO.val (RV.move rfl) (.none rfl) rfl ?_
  refine AO.eff (EF.callF rfl (of_spec B _ l2 _ _ hl2 (by omega))) (.none rfl) rfl ?_
  rintro _ _ ⟨rfl, rfl⟩
  have hlaw := ofS_law r f l2 (by omega)
  generalize ofS l2 r f = s at *
  obtain ⟨u1, g1, b1⟩ := s
  refine AO.eff (EF.alloc) (.none rfl) rfl ?_
  rintro _ _ ⟨b7, hf7, rfl, rfl⟩
  refine AO.effN (EF.storeO rfl rfl rfl rfl rfl rfl) (.none rfl) ?_
  rintro _ _ rfl
  refine AO.nil ?_
  refine AK.seq ?_
  refine AK.draw [] [] mixed ?_
  refine AD.takeP 0 rfl (by kernel_rfl) (RV.fieldAddr rfl) (.none rfl) rfl ?_
  refine AD.take 1 rfl (by kernel_rfl) (by first | exact RV.loadO rfl rfl (by simp) | exact RV.loadS rfl (by assumption) (by omega) (by simp)) (.none rfl) rfl ?_
  refine AD.takeP 2 rfl (by kernel_rfl) (RV.move rfl) (.none rfl) rfl ?_
  refine AD.takeP 3 rfl (by kernel_rfl) (RV.move rfl) (.none rfl) rfl ?_
  refine AD.takeP 4 rfl (by kernel_rfl) (RV.move rfl) (.none rfl) rfl ?_
  refine AD.one 5 (by kernel_rfl) (AE.eff rfl (EF.callF rfl (up_spec B _ l2 _ _ hl2.sub (by omega))) (.none rfl) rfl ?_)
  rintro _ _ ⟨rfl, bU, rfl, hU⟩
  refine ⟨(by first | exact .inr fun x hx hM => hx | exact .inr fun x hx hM => List.mem_cons_of_mem _ hx | exact .inr fun x hx hM => List.mem_append_right _ hx), ?_⟩
  refine AD.takeP 6 rfl (by kernel_rfl) (RV.eqlB rfl rfl) (.none rfl) rfl ?_
  refine AD.takeP 7 rfl (by kernel_rfl) (RV.move rfl) (.none rfl) rfl ?_
  refine AD.caseG (d := 21) (j := 7) rfl rfl ?_ ?_
  · intro hg1
    try simp only [decide_eq_true_eq, decide_eq_false_iff_not, Bool.not_eq_true', Bool.not_eq_false', beq_iff_eq] at hg1
    refine AD.takeP 8 rfl (by kernel_rfl) (RV.fieldAddr rfl) (.some rfl rfl rfl rfl) rfl ?_
    refine AD.take 9 rfl (by kernel_rfl) (by first | exact RV.loadO rfl rfl (by simp) | exact RV.loadS rfl (by assumption) (by omega) (by simp)) (.some rfl rfl rfl rfl) rfl ?_
    refine AD.takeP 10 rfl (by kernel_rfl) (RV.move rfl) (.some rfl rfl rfl rfl) rfl ?_
    refine AD.one 11 (by kernel_rfl) (AE.eff rfl (EF.callF rfl (rlong_spec B _ l2 _ hl2.sub (by omega))) (.some rfl rfl rfl rfl) rfl ?_)
    rintro _ _ ⟨rfl, nR, rfl, hnR⟩
    refine ⟨(by first | exact .inr fun x hx hM => hx | exact .inr fun x hx hM => List.mem_cons_of_mem _ hx | exact .inr fun x hx hM => List.mem_append_right _ hx), ?_⟩
    refine AD.takeP 12 rfl (by kernel_rfl) (RV.eql rfl rfl) (.some rfl rfl rfl rfl) rfl ?_
    refine AD.takeP 13 rfl (by kernel_rfl) (RV.pickT rfl rfl) (.none rfl) rfl ?_
    refine AD.takeP 14 rfl (by kernel_rfl) (RV.move rfl) (.none rfl) rfl ?_
    refine AD.caseG (d := 28) (j := 14) rfl rfl ?_ ?_
    · intro hg2
      try simp only [decide_eq_true_eq, decide_eq_false_iff_not, Bool.not_eq_true', Bool.not_eq_false', beq_iff_eq] at hg2
      refine AD.takeP 15 rfl (by kernel_rfl) (RV.fieldAddr rfl) (.some rfl rfl rfl rfl) rfl ?_
      refine AD.take 16 rfl (by kernel_rfl) (by first | exact RV.loadO rfl rfl (by simp) | exact RV.loadS rfl (by assumption) (by omega) (by simp)) (.some rfl rfl rfl rfl) rfl ?_
      refine AD.takeP 17 rfl (by kernel_rfl) (RV.move rfl) (.some rfl rfl rfl rfl) rfl ?_
      refine AD.one 18 (by kernel_rfl) (AE.eff rfl (EF.callF rfl (rlong_spec B _ l2 _ hl2.sub (by omega))) (.some rfl rfl rfl rfl) rfl ?_)
      rintro _ _ ⟨rfl, nR, rfl, hnR⟩
      refine ⟨(by first | exact .inr fun x hx hM => hx | exact .inr fun x hx hM => List.mem_cons_of_mem _ hx | exact .inr fun x hx hM => List.mem_append_right _ hx), ?_⟩
      refine AD.takeP 19 rfl (by kernel_rfl) (RV.eql rfl rfl) (.some rfl rfl rfl rfl) rfl ?_
      refine AD.takeP 20 rfl (by kernel_rfl) (RV.pickT rfl rfl) (.none rfl) rfl ?_
      refine AD.takeP 21 rfl (by kernel_rfl) (RV.move rfl) (.none rfl) rfl ?_
      refine AD.caseG (d := 35) (j := 21) rfl rfl ?_ ?_
      · intro hg3
        try simp only [decide_eq_true_eq, decide_eq_false_iff_not, Bool.not_eq_true', Bool.not_eq_false', beq_iff_eq] at hg3
        refine AD.takeP 22 rfl (by kernel_rfl) (RV.move rfl) (.some rfl rfl rfl rfl) rfl ?_
        refine AD.takeP 24 rfl (by kernel_rfl) (RV.fieldAddr rfl) (.some rfl rfl rfl rfl) rfl ?_
        refine AD.take 25 rfl (by kernel_rfl) (by first | exact RV.loadO rfl rfl (by simp) | exact RV.loadS rfl (by assumption) (by omega) (by simp)) (.some rfl rfl rfl rfl) rfl ?_
        refine AD.one 23 (by kernel_rfl) (AE.eff rfl (EF.callF rfl (plong_spec B _ l2 _ hl2.sub (by omega))) (.some rfl rfl rfl rfl) rfl ?_)
        rintro _ _ ⟨rfl, nP, rfl, hnP⟩
        refine ⟨(by first | exact .inr fun x hx hM => hx | exact .inr fun x hx hM => List.mem_cons_of_mem _ hx | exact .inr fun x hx hM => List.mem_append_right _ hx), ?_⟩
        refine AD.takeP 26 rfl (by kernel_rfl) (RV.eql rfl rfl) (.some rfl rfl rfl rfl) rfl ?_
        refine AD.takeP 27 rfl (by kernel_rfl) (RV.pickT rfl rfl) (.none rfl) rfl ?_
        refine AD.takeP 28 rfl (by kernel_rfl) (RV.move rfl) (.none rfl) rfl ?_
        refine AD.caseG (d := 42) (j := 28) rfl rfl ?_ ?_
        · intro hg4
          try simp only [decide_eq_true_eq, decide_eq_false_iff_not, Bool.not_eq_true', Bool.not_eq_false', beq_iff_eq] at hg4
          refine AD.takeP 29 rfl (by kernel_rfl) (RV.move rfl) (.some rfl rfl rfl rfl) rfl ?_
          refine AD.takeP 31 rfl (by kernel_rfl) (RV.fieldAddr rfl) (.some rfl rfl rfl rfl) rfl ?_
          refine AD.take 32 rfl (by kernel_rfl) (by first | exact RV.loadO rfl rfl (by simp) | exact RV.loadS rfl (by assumption) (by omega) (by simp)) (.some rfl rfl rfl rfl) rfl ?_
          refine AD.one 30 (by kernel_rfl) (AE.eff rfl (EF.callF rfl (plong_spec B _ l2 _ hl2.sub (by omega))) (.some rfl rfl rfl rfl) rfl ?_)
          rintro _ _ ⟨rfl, nP, rfl, hnP⟩
          refine ⟨(by first | exact .inr fun x hx hM => hx | exact .inr fun x hx hM => List.mem_cons_of_mem _ hx | exact .inr fun x hx hM => List.mem_append_right _ hx), ?_⟩
          refine AD.takeP 33 rfl (by kernel_rfl) (RV.eql rfl rfl) (.some rfl rfl rfl rfl) rfl ?_
          refine AD.takeP 34 rfl (by kernel_rfl) (RV.pickT rfl rfl) (.none rfl) rfl ?_
          refine AD.takeP 35 rfl (by kernel_rfl) (RV.move rfl) (.none rfl) rfl ?_
          refine AD.caseG (d := 49) (j := 35) rfl rfl ?_ ?_
          · intro hg5
            try simp only [decide_eq_true_eq, decide_eq_false_iff_not, Bool.not_eq_true', Bool.not_eq_false', beq_iff_eq] at hg5
            refine AD.one 36 (by kernel_rfl) (AE.eff rfl (EF.callF rfl (lives_spec B _)) (.some rfl rfl rfl rfl) rfl ?_)
            rintro _ _ ⟨rfl, rfl⟩
            refine ⟨(by first | exact .inr fun x hx hM => hx | exact .inr fun x hx hM => List.mem_cons_of_mem _ hx | exact .inr fun x hx hM => List.mem_append_right _ hx), ?_⟩
            refine AD.takeP 37 rfl (by kernel_rfl) (RV.pickT rfl rfl) (.none rfl) rfl ?_
            refine AD.takeP 38 rfl (by kernel_rfl) (RV.assign rfl) (.none rfl) rfl ?_
            refine AD.done (by kernel_rfl) ?_
            -- at ttttt
            refine AK.ret (h' := h) Try.func5 (.tmp rfl .nil) ?_ (by first | exact SubO.sub | exact List.Sublist.refl _ | exact .cons _ (List.Sublist.refl _) | exact .cons _ (.cons _ (List.Sublist.refl _)) | exact .cons _ (.cons _ (.cons _ (List.Sublist.refl _))))
            first
            | exact ⟨rfl, rfl⟩
            | (exfalso; have e1 : u1 = bU := Bool.eq_iff_iff.2 (hlaw.1.trans hU.symm); subst e1; simp at *; done)
            | exact absurd (longP_unique hlaw.2.1 hnR) (by assumption)
            | exact absurd (longP_unique hlaw.2.2 hnR) (by assumption)
            | exact absurd (longP_unique hnP hlaw.2.1) (by assumption)
            | exact absurd (longP_unique hnP hlaw.2.2) (by assumption)
          · intro hg5
            try simp only [decide_eq_true_eq, decide_eq_false_iff_not, Bool.not_eq_true', Bool.not_eq_false', beq_iff_eq] at hg5
            refine AD.pass 36 rfl (by kernel_rfl) (.some rfl rfl rfl rfl) rfl ?_
            refine AD.takeP 37 rfl (by kernel_rfl) (RV.pickF rfl rfl) (.none rfl) rfl ?_
            refine AD.takeP 38 rfl (by kernel_rfl) (RV.assign rfl) (.none rfl) rfl ?_
            refine AD.done (by kernel_rfl) ?_
            -- at ttttf
            refine AK.ret (h' := h) Try.func5 (.tmp rfl .nil) ?_ (by first | exact SubO.sub | exact List.Sublist.refl _ | exact .cons _ (List.Sublist.refl _) | exact .cons _ (.cons _ (List.Sublist.refl _)) | exact .cons _ (.cons _ (.cons _ (List.Sublist.refl _))))
            first
            | exact ⟨rfl, rfl⟩
            | (exfalso; have e1 : u1 = bU := Bool.eq_iff_iff.2 (hlaw.1.trans hU.symm); subst e1; simp at *; done)
            | exact absurd (longP_unique hlaw.2.1 hnR) (by assumption)
            | exact absurd (longP_unique hlaw.2.2 hnR) (by assumption)
            | exact absurd (longP_unique hnP hlaw.2.1) (by assumption)
            | exact absurd (longP_unique hnP hlaw.2.2) (by assumption)
        · intro hg4
          try simp only [decide_eq_true_eq, decide_eq_false_iff_not, Bool.not_eq_true', Bool.not_eq_false', beq_iff_eq] at hg4
          refine AD.pass 29 rfl (by kernel_rfl) (.some rfl rfl rfl rfl) rfl ?_
          refine AD.pass 30 rfl (by kernel_rfl) (.some rfl rfl rfl rfl) rfl ?_
          refine AD.pass 31 rfl (by kernel_rfl) (.some rfl rfl rfl rfl) rfl ?_
          refine AD.pass 32 rfl (by kernel_rfl) (.some rfl rfl rfl rfl) rfl ?_
          refine AD.pass 33 rfl (by kernel_rfl) (.some rfl rfl rfl rfl) rfl ?_
          refine AD.takeP 34 rfl (by kernel_rfl) (RV.pickF rfl rfl) (.none rfl) rfl ?_
          refine AD.takeP 35 rfl (by kernel_rfl) (RV.move rfl) (.none rfl) rfl ?_
          refine AD.pass 36 rfl (by kernel_rfl) (.some rfl rfl rfl rfl) rfl ?_
          refine AD.takeP 37 rfl (by kernel_rfl) (RV.pickF rfl rfl) (.none rfl) rfl ?_
          refine AD.takeP 38 rfl (by kernel_rfl) (RV.assign rfl) (.none rfl) rfl ?_
          refine AD.done (by kernel_rfl) ?_
          -- at tttf
          refine AK.ret (h' := h) Try.func5 (.tmp rfl .nil) ?_ (by first | exact SubO.sub | exact List.Sublist.refl _ | exact .cons _ (List.Sublist.refl _) | exact .cons _ (.cons _ (List.Sublist.refl _)) | exact .cons _ (.cons _ (.cons _ (List.Sublist.refl _))))
          first
          | exact ⟨rfl, rfl⟩
          | (exfalso; have e1 : u1 = bU := Bool.eq_iff_iff.2 (hlaw.1.trans hU.symm); subst e1; simp at *; done)
          | exact absurd (longP_unique hlaw.2.1 hnR) (by assumption)
          | exact absurd (longP_unique hlaw.2.2 hnR) (by assumption)
          | exact absurd (longP_unique hnP hlaw.2.1) (by assumption)
          | exact absurd (longP_unique hnP hlaw.2.2) (by assumption)
      · intro hg3
        try simp only [decide_eq_true_eq, decide_eq_false_iff_not, Bool.not_eq_true', Bool.not_eq_false', beq_iff_eq] at hg3
        refine AD.pass 22 rfl (by kernel_rfl) (.some rfl rfl rfl rfl) rfl ?_
        refine AD.pass 23 rfl (by kernel_rfl) (.some rfl rfl rfl rfl) rfl ?_
        refine AD.pass 24 rfl (by kernel_rfl) (.some rfl rfl rfl rfl) rfl ?_
        refine AD.pass 25 rfl (by kernel_rfl) (.some rfl rfl rfl rfl) rfl ?_
        refine AD.pass 26 rfl (by kernel_rfl) (.some rfl rfl rfl rfl) rfl ?_
        refine AD.takeP 27 rfl (by kernel_rfl) (RV.pickF rfl rfl) (.none rfl) rfl ?_
        refine AD.takeP 28 rfl (by kernel_rfl) (RV.move rfl) (.none rfl) rfl ?_
        refine AD.pass 29 rfl (by kernel_rfl) (.some rfl rfl rfl rfl) rfl ?_
        refine AD.pass 30 rfl (by kernel_rfl) (.some rfl rfl rfl rfl) rfl ?_
        refine AD.pass 31 rfl (by kernel_rfl) (.some rfl rfl rfl rfl) rfl ?_
        refine AD.pass 32 rfl (by kernel_rfl) (.some rfl rfl rfl rfl) rfl ?_
        refine AD.pass 33 rfl (by kernel_rfl) (.some rfl rfl rfl rfl) rfl ?_
        refine AD.takeP 34 rfl (by kernel_rfl) (RV.pickF rfl rfl) (.none rfl) rfl ?_
        refine AD.takeP 35 rfl (by kernel_rfl) (RV.move rfl) (.none rfl) rfl ?_
        refine AD.pass 36 rfl (by kernel_rfl) (.some rfl rfl rfl rfl) rfl ?_
        refine AD.takeP 37 rfl (by kernel_rfl) (RV.pickF rfl rfl) (.none rfl) rfl ?_
        refine AD.takeP 38 rfl (by kernel_rfl) (RV.assign rfl) (.none rfl) rfl ?_
        refine AD.done (by kernel_rfl) ?_
        -- at ttf
        refine AK.ret (h' := h) Try.func5 (.tmp rfl .nil) ?_ (by first | exact SubO.sub | exact List.Sublist.refl _ | exact .cons _ (List.Sublist.refl _) | exact .cons _ (.cons _ (List.Sublist.refl _)) | exact .cons _ (.cons _ (.cons _ (List.Sublist.refl _))))
        first
        | exact ⟨rfl, rfl⟩
        | (exfalso; have e1 : u1 = bU := Bool.eq_iff_iff.2 (hlaw.1.trans hU.symm); subst e1; simp at *; done)
        | exact absurd (longP_unique hlaw.2.1 hnR) (by assumption)
        | exact absurd (longP_unique hlaw.2.2 hnR) (by assumption)
        | exact absurd (longP_unique hnP hlaw.2.1) (by assumption)
        | exact absurd (longP_unique hnP hlaw.2.2) (by assumption)
    · intro hg2
      try simp only [decide_eq_true_eq, decide_eq_false_iff_not, Bool.not_eq_true', Bool.not_eq_false', beq_iff_eq] at hg2
      refine AD.pass 15 rfl (by kernel_rfl) (.some rfl rfl rfl rfl) rfl ?_
      refine AD.pass 16 rfl (by kernel_rfl) (.some rfl rfl rfl rfl) rfl ?_
      refine AD.pass 17 rfl (by kernel_rfl) (.some rfl rfl rfl rfl) rfl ?_
      refine AD.pass 18 rfl (by kernel_rfl) (.some rfl rfl rfl rfl) rfl ?_
      refine AD.pass 19 rfl (by kernel_rfl) (.some rfl rfl rfl rfl) rfl ?_
      refine AD.takeP 20 rfl (by kernel_rfl) (RV.pickF rfl rfl) (.none rfl) rfl ?_
      refine AD.takeP 21 rfl (by kernel_rfl) (RV.move rfl) (.none rfl) rfl ?_
      refine AD.pass 22 rfl (by kernel_rfl) (.some rfl rfl rfl rfl) rfl ?_
      refine AD.pass 23 rfl (by kernel_rfl) (.some rfl rfl rfl rfl) rfl ?_
      refine AD.pass 24 rfl (by kernel_rfl) (.some rfl rfl rfl rfl) rfl ?_
      refine AD.pass 25 rfl (by kernel_rfl) (.some rfl rfl rfl rfl) rfl ?_
      refine AD.pass 26 rfl (by kernel_rfl) (.some rfl rfl rfl rfl) rfl ?_
      refine AD.takeP 27 rfl (by kernel_rfl) (RV.pickF rfl rfl) (.none rfl) rfl ?_
      refine AD.takeP 28 rfl (by kernel_rfl) (RV.move rfl) (.none rfl) rfl ?_
      refine AD.pass 29 rfl (by kernel_rfl) (.some rfl rfl rfl rfl) rfl ?_
      refine AD.pass 30 rfl (by kernel_rfl) (.some rfl rfl rfl rfl) rfl ?_
      refine AD.pass 31 rfl (by kernel_rfl) (.some rfl rfl rfl rfl) rfl ?_
      refine AD.pass 32 rfl (by kernel_rfl) (.some rfl rfl rfl rfl) rfl ?_
      refine AD.pass 33 rfl (by kernel_rfl) (.some rfl rfl rfl rfl) rfl ?_
      refine AD.takeP 34 rfl (by kernel_rfl) (RV.pickF rfl rfl) (.none rfl) rfl ?_
      refine AD.takeP 35 rfl (by kernel_rfl) (RV.move rfl) (.none rfl) rfl ?_
      refine AD.pass 36 rfl (by kernel_rfl) (.some rfl rfl rfl rfl) rfl ?_
      refine AD.takeP 37 rfl (by kernel_rfl) (RV.pickF rfl rfl) (.none rfl) rfl ?_
      refine AD.takeP 38 rfl (by kernel_rfl) (RV.assign rfl) (.none rfl) rfl ?_
      refine AD.done (by kernel_rfl) ?_
      -- at tf
      refine AK.ret (h' := h) Try.func5 (.tmp rfl .nil) ?_ (by first | exact SubO.sub | exact List.Sublist.refl _ | exact .cons _ (List.Sublist.refl _) | exact .cons _ (.cons _ (List.Sublist.refl _)) | exact .cons _ (.cons _ (.cons _ (List.Sublist.refl _))))
      first
      | exact ⟨rfl, rfl⟩
      | (exfalso; have e1 : u1 = bU := Bool.eq_iff_iff.2 (hlaw.1.trans hU.symm); subst e1; simp at *; done)
      | exact absurd (longP_unique hlaw.2.1 hnR) (by assumption)
      | exact absurd (longP_unique hlaw.2.2 hnR) (by assumption)
      | exact absurd (longP_unique hnP hlaw.2.1) (by assumption)
      | exact absurd (longP_unique hnP hlaw.2.2) (by assumption)
  · intro hg1
    try simp only [decide_eq_true_eq, decide_eq_false_iff_not, Bool.not_eq_true', Bool.not_eq_false', beq_iff_eq] at hg1
    refine AD.pass 8 rfl (by kernel_rfl) (.some rfl rfl rfl rfl) rfl ?_
    refine AD.pass 9 rfl (by kernel_rfl) (.some rfl rfl rfl rfl) rfl ?_
    refine AD.pass 10 rfl (by kernel_rfl) (.some rfl rfl rfl rfl) rfl ?_
    refine AD.pass 11 rfl (by kernel_rfl) (.some rfl rfl rfl rfl) rfl ?_
    refine AD.pass 12 rfl (by kernel_rfl) (.some rfl rfl rfl rfl) rfl ?_
    refine AD.takeP 13 rfl (by kernel_rfl) (RV.pickF rfl rfl) (.none rfl) rfl ?_
    refine AD.takeP 14 rfl (by kernel_rfl) (RV.move rfl) (.none rfl) rfl ?_
    refine AD.pass 15 rfl (by kernel_rfl) (.some rfl rfl rfl rfl) rfl ?_
    refine AD.pass 16 rfl (by kernel_rfl) (.some rfl rfl rfl rfl) rfl ?_
    refine AD.pass 17 rfl (by kernel_rfl) (.some rfl rfl rfl rfl) rfl ?_
    refine AD.pass 18 rfl (by kernel_rfl) (.some rfl rfl rfl rfl) rfl ?_
    refine AD.pass 19 rfl (by kernel_rfl) (.some rfl rfl rfl rfl) rfl ?_
    refine AD.takeP 20 rfl (by kernel_rfl) (RV.pickF rfl rfl) (.none rfl) rfl ?_
    refine AD.takeP 21 rfl (by kernel_rfl) (RV.move rfl) (.none rfl) rfl ?_
    refine AD.pass 22 rfl (by kernel_rfl) (.some rfl rfl rfl rfl) rfl ?_
    refine AD.pass 23 rfl (by kernel_rfl) (.some rfl rfl rfl rfl) rfl ?_
    refine AD.pass 24 rfl (by kernel_rfl) (.some rfl rfl rfl rfl) rfl ?_
    refine AD.pass 25 rfl (by kernel_rfl) (.some rfl rfl rfl rfl) rfl ?_
    refine AD.pass 26 rfl (by kernel_rfl) (.some rfl rfl rfl rfl) rfl ?_
    refine AD.takeP 27 rfl (by kernel_rfl) (RV.pickF rfl rfl) (.none rfl) rfl ?_
    refine AD.takeP 28 rfl (by kernel_rfl) (RV.move rfl) (.none rfl) rfl ?_
    refine AD.pass 29 rfl (by kernel_rfl) (.some rfl rfl rfl rfl) rfl ?_
    refine AD.pass 30 rfl (by kernel_rfl) (.some rfl rfl rfl rfl) rfl ?_
    refine AD.pass 31 rfl (by kernel_rfl) (.some rfl rfl rfl rfl) rfl ?_
    refine AD.pass 32 rfl (by kernel_rfl) (.some rfl rfl rfl rfl) rfl ?_
    refine AD.pass 33 rfl (by kernel_rfl) (.some rfl rfl rfl rfl) rfl ?_
    refine AD.takeP 34 rfl (by kernel_rfl) (RV.pickF rfl rfl) (.none rfl) rfl ?_
    refine AD.takeP 35 rfl (by kernel_rfl) (RV.move rfl) (.none rfl) rfl ?_
    refine AD.pass 36 rfl (by kernel_rfl) (.some rfl rfl rfl rfl) rfl ?_
    refine AD.takeP 37 rfl (by kernel_rfl) (RV.pickF rfl rfl) (.none rfl) rfl ?_
    refine AD.takeP 38 rfl (by kernel_rfl) (RV.assign rfl) (.none rfl) rfl ?_
    refine AD.done (by kernel_rfl) ?_
    -- at f
    refine AK.ret (h' := h) Try.func5 (.tmp rfl .nil) ?_ (by first | exact SubO.sub | exact List.Sublist.refl _ | exact .cons _ (List.Sublist.refl _) | exact .cons _ (.cons _ (List.Sublist.refl _)) | exact .cons _ (.cons _ (.cons _ (List.Sublist.refl _))))
    first
    | exact ⟨rfl, rfl⟩
    | (exfalso; have e1 : u1 = bU := Bool.eq_iff_iff.2 (hlaw.1.trans hU.symm); subst e1; simp at *; done)
    | exact absurd (longP_unique hlaw.2.1 hnR) (by assumption)
    | exact absurd (longP_unique hlaw.2.2 hnR) (by assumption)
    | exact absurd (longP_unique hnP hlaw.2.1) (by assumption)
    | exact absurd (longP_unique hnP hlaw.2.2) (by assumption)

theorem parts_law (B : World) (h : Own) {A A2 : Option Addr} {cap cap2 : Nat} (l m : List Bool) (r f : Int) (hcap : l.length ≤ cap) (hcap2 : m.length ≤ cap2) (hl : Src B h A l.length 1 (l.map Value.bool)) (hm : Src B h A2 m.length 1 (m.map Value.bool)) (hln : l.length ≤ 9223372036854775807) (hmn : m.length ≤ 9223372036854775807) : Tri Try.prog B 4 [.slice A l.length cap, .slice A2 m.length cap2, .int .i64 r, .int .i64 f] h fun v h' => h = h' ∧ v = .bool true := by
  have hl2 : Src B h A (l.take (40 : Int).toNat).length 1 ((l.take (40 : Int).toNat).map Value.bool) := by
    have := hl.take (min 40 l.length) (by omega)
    rw [Nat.mul_one, ← List.map_take] at this
    rw [List.length_take, show (40 : Int).toNat = 40 from rfl]
    have e : l.take 40 = l.take (min 40 l.length) := by rw [List.take_eq_take_min]
    rw [e]; exact this
  have hlen : (l.take (40 : Int).toNat).length ≤ 40 := by rw [List.length_take]; exact Nat.min_le_left _ _
  have hm2 : Src B h A2 (m.take (40 : Int).toNat).length 1 ((m.take (40 : Int).toNat).map Value.bool) := by
    have := hm.take (min 40 m.length) (by omega)
    rw [Nat.mul_one, ← List.map_take] at this
    rw [List.length_take, show (40 : Int).toNat = 40 from rfl]
    have e : m.take 40 = m.take (min 40 m.length) := by rw [List.take_eq_take_min]
    rw [e]; exact this
  have hmlen : (m.take (40 : Int).toNat).length ≤ 40 := by rw [List.length_take]; exact Nat.min_le_left _ _
  refine Tri.enter (n := 49) Try.func4 rfl rfl rfl ?_
  simp only [argsE, Nat.reduceAdd]
  try dsimp only [argsE]
  refine AK.seq ?_
  refine AK.region ?_
  refine AO.val (RV.assign rfl) (.none rfl) rfl ?_
  refine AO.nil ?_
  refine AK.seq ?_
  refine AK.region ?_
  refine AO.val (RV.move rfl) (.none rfl) rfl ?_
  refine AO.eff (EF.callF rfl (few_spec B _ l _ (by omega) hcap)) (.none rfl) rfl ?_
  rintro _ _ ⟨rfl, rfl⟩
  clear hl
  revert hl2 hlen
  generalize l.take (40 : Int).toNat = l2
  intro hl2 hlen
  refine AO.val (RV.move rfl) (.none rfl) rfl ?_
  refine AO.eff (EF.callF rfl (few_spec B _ m _ (by omega) hcap2)) (.none rfl) rfl ?_
  rintro _ _ ⟨rfl, rfl⟩
  clear hm
  revert hm2 hmlen
  generalize m.take (40 : Int).toNat = m2
  intro hm2 hmlen
  refine AO.val (RV.assign rfl) (.none rfl) rfl ?_
  refine AO.val (RV.assign rfl) (.none rfl) rfl ?_
  refine AO.nil ?_
  refine AK.seq ?_
  refine AK.region ?_
  refine AO.val (RV.move rfl) (.none rfl) rfl ?_
  refine AO.val (RV.move rfl) (.none rfl) rfl ?_
  refine AO.val (RV.move rfl) (.none rfl) rfl ?_
  refine AO.eff (EF.callF rfl (of_spec B _ l2 _ _ hl2.sub (by omega))) (.none rfl) rfl ?_
  rintro _ _ ⟨rfl, rfl⟩
  refine AO.eff (EF.alloc) (.none rfl) rfl ?_
  rintro _ _ ⟨b9, hf9, rfl, rfl⟩
  refine AO.effN (EF.storeO rfl rfl rfl rfl rfl rfl) (.none rfl) ?_
  rintro _ _ rfl
  refine AO.nil ?_
  refine AK.seq ?_
  refine AK.seq ?_
  refine AK.region ?_
  refine AO.val (RV.assign rfl) (.none rfl) rfl ?_
  refine AO.nil ?_
  refine AK.block ?_
  refine AK.loop (α := Int × (Bool × Int × Int)) (E := fun (i, s) => [(0, .slice A l2.length cap), (1, .slice A2 m2.length cap2), (2, .int .i64 r), (3, .int .i64 f), (9, .pointer (some ⟨b9, 0, none⟩)), (10, .int .i64 i)]) (H := fun (i, s) => (b9, .cells [.bool s.1, .int .i64 s.2.1, .int .i64 s.2.2] 23 (0, 0)) :: h) (Inv := fun (i, s) => 0 ≤ i ∧ i ≤ m2.length ∧ s = ofS (l2 ++ m2.take i.toNat) r f) (μ := fun (i, s) => (m2.length - i).toNat) (0, ofS l2 r f) ?_ (.cons (by exact rfl) (.cons (by exact rfl) (.cons (by exact rfl) (.cons (by exact rfl) (.cons (by exact rfl) (.cons (by exact rfl) .nil)))))) ?_ ?_
  · exact ⟨by omega, by omega, by simp⟩
  · exact (by first | exact SubO.sub | exact List.Sublist.refl _ | exact .cons _ (List.Sublist.refl _) | exact .cons _ (.cons _ (List.Sublist.refl _)) | exact .cons _ (.cons _ (.cons _ (List.Sublist.refl _))))
  rintro ⟨i, s⟩ ⟨hi0, hin, hs⟩ hih0
  try dsimp only at hih0 ⊢
  refine AK.seq ?_
  refine AK.seq ?_
  refine AK.region ?_
  refine AO.val (RV.move rfl) (.none rfl) rfl ?_
  refine AO.val (RV.move rfl) (.none rfl) rfl ?_
  refine AO.val (RV.lenS rfl) (.none rfl) rfl ?_
  refine AO.val (RV.lss rfl rfl) (.none rfl) rfl ?_
  refine AO.nil ?_
  refine AK.cond rfl ?_ ?_
  · intro hc1
    try simp only [decide_eq_true_eq, decide_eq_false_iff_not, Bool.not_eq_true', Bool.not_eq_false', beq_iff_eq] at hc1
    refine AK.skip ?_
    refine AK.seq ?_
    refine AK.block ?_
    refine AK.draw [] [7, 8] mixed ?_
    refine AD.take 0 rfl (by kernel_rfl) (RV.loadAggO rfl rfl (by simp)) (.none rfl) rfl ?_
    refine AD.takeP 1 rfl (by kernel_rfl) (RV.move rfl) (.none rfl) rfl ?_
    refine AD.takeP 2 rfl (by kernel_rfl) (RV.move rfl) (.none rfl) rfl ?_
    refine AD.takeP 3 rfl (by kernel_rfl) (by first | exact RV.indexS rfl rfl (by assumption) (by omega) rfl | exact RV.indexAddr rfl rfl (by omega)) (.none rfl) rfl ?_
    refine AD.take 4 rfl (by kernel_rfl) (by first | exact RV.loadO rfl rfl (by simp) | exact RV.loadS rfl (by assumption) (by omega) (by simp)) (.none rfl) rfl ?_
    refine AD.takeP 5 rfl (by kernel_rfl) (RV.move rfl) (.none rfl) rfl ?_
    refine AD.takeP 6 rfl (by kernel_rfl) (RV.move rfl) (.none rfl) rfl ?_
    refine AD.one 7 (by kernel_rfl) (AE.eff rfl (EF.callF rfl (next_spec B _ _ _ _ _ _ _)) (.none rfl) rfl ?_)
    rintro _ _ ⟨rfl, rfl⟩
    refine ⟨.inl (by kernel_rfl), ?_⟩
    refine AD.one 8 (by kernel_rfl) (AE.effN rfl (EF.storeO rfl rfl rfl rfl rfl rfl) (.none rfl) ?_)
    rintro _ _ rfl
    refine ⟨.inl (by kernel_rfl), ?_⟩
    refine AD.done (by kernel_rfl) ?_
    refine AK.inBlock ?_
    refine AK.region ?_
    refine AO.val (RV.move rfl) (.none rfl) rfl ?_
    refine AO.val (by first | exact RV.addIn rfl rfl (by omega) | exact RV.add rfl rfl) (.none rfl) rfl ?_
    refine AO.val (RV.assign rfl) (.none rfl) rfl ?_
    refine AO.nil ?_
    -- round ends at L0T
    refine AK.weak (.cons (by exact rfl) (.cons (by exact rfl) (.cons (by exact rfl) (.cons (by exact rfl) (.cons (by exact rfl) (.cons (by exact rfl) .nil)))))) (by first | exact SubO.sub | exact List.Sublist.refl _ | exact .cons _ (List.Sublist.refl _) | exact .cons _ (.cons _ (List.Sublist.refl _)) | exact .cons _ (.cons _ (.cons _ (List.Sublist.refl _)))) (hih0 (i + 1, nextS s.1 s.2.1 s.2.2 (lget m2 i) r f) ?_ ?_)
    · exact ⟨by omega, by omega, by rw [take_snoc m2 i hi0 (by omega), ← List.append_assoc, ofS_snoc, ← hs]⟩
    · (try simp only); omega
  · intro hc1
    try simp only [decide_eq_true_eq, decide_eq_false_iff_not, Bool.not_eq_true', Bool.not_eq_false', beq_iff_eq] at hc1
    refine AK.exit rfl ?_
    refine AK.seq ?_
    refine AK.region ?_
    refine AO.eff (EF.buildSlice rfl rfl rfl .nil) (.none rfl) rfl ?_
    rintro _ _ ⟨b34, hf34, rfl, rfl⟩
    refine AO.val (RV.assign rfl) (.none rfl) rfl ?_
    refine AO.nil ?_
    refine AK.seq ?_
    refine AK.region ?_
    refine AO.val (RV.move rfl) (.none rfl) rfl ?_
    refine AO.val (RV.move rfl) (.none rfl) rfl ?_
    refine AO.eff (EF.append rfl rfl (Row.new rfl) (List.Perm.refl _) hl2.sub rfl (by decide) (by simp [Value.oneCell']) (by simp; omega) (by simp; omega)) (.none rfl) rfl ?_
    rintro v37 _ ⟨p1, hr1, rfl⟩
    refine AO.val (RV.move rfl) (.none rfl) rfl ?_
    refine AO.eff (EF.append rfl rfl hr1 (List.Perm.refl _) hm2.sub rfl (by decide) (by simp [Value.oneCell']) (by simp; omega) (by simp; omega)) (.none rfl) rfl ?_
    rintro v39 _ ⟨p2, hr2, rfl⟩
    obtain ⟨A3, c3, rfl, hc3, hall⟩ := hr2.slice
    have hlen2 : 0 + l2.length + m2.length = (l2 ++ m2).length := by simp
    clear hr2
    rw [hlen2] at hall ⊢
    simp only [zerosL, List.nil_append, ← List.map_append] at hall
    refine AO.val (RV.assign rfl) (.none rfl) rfl ?_
    refine AO.nil ?_
    refine AK.seq ?_
    refine AK.draw [] [] mixed ?_
    refine AD.take 0 rfl (by kernel_rfl) (RV.loadAggO rfl rfl (by simp)) (.none rfl) rfl ?_
    refine AD.takeP 1 rfl (by kernel_rfl) (RV.move rfl) (.none rfl) rfl ?_
    refine AD.takeP 2 rfl (by kernel_rfl) (RV.move rfl) (.none rfl) rfl ?_
    refine AD.takeP 3 rfl (by kernel_rfl) (RV.move rfl) (.none rfl) rfl ?_
    refine AD.one 4 (by kernel_rfl) (AE.eff rfl (EF.callF rfl (of_spec B _ (l2 ++ m2) _ _ (by simpa using hall B _ (fun x hx => List.mem_append_left _ hx)) (by simp; omega))) (.none rfl) rfl ?_)
    rintro _ _ ⟨rfl, rfl⟩
    refine ⟨(by first | exact .inr fun x hx hM => hx | exact .inr fun x hx hM => List.mem_cons_of_mem _ hx | exact .inr fun x hx hM => List.mem_append_right _ hx), ?_⟩
    refine AD.takeP 5 rfl (by kernel_rfl) (RV.binAgg rfl rfl (by kernel_rfl) (eq23 _ _ _ _ _ _)) (.none rfl) rfl ?_
    refine AD.takeP 6 rfl (by kernel_rfl) (RV.move rfl) (.none rfl) rfl ?_
    refine AD.caseG (d := 46) (j := 6) rfl rfl ?_ ?_
    · intro hg2
      try simp only [decide_eq_true_eq, decide_eq_false_iff_not, Bool.not_eq_true', Bool.not_eq_false', beq_iff_eq] at hg2
      refine AD.one 7 (by kernel_rfl) (AE.eff rfl (EF.callF rfl (lives_spec B _)) (.some rfl rfl rfl rfl) rfl ?_)
      rintro _ _ ⟨rfl, rfl⟩
      refine ⟨(by first | exact .inr fun x hx hM => hx | exact .inr fun x hx hM => List.mem_cons_of_mem _ hx | exact .inr fun x hx hM => List.mem_append_right _ hx), ?_⟩
      refine AD.takeP 8 rfl (by kernel_rfl) (RV.pickT rfl rfl) (.none rfl) rfl ?_
      refine AD.takeP 9 rfl (by kernel_rfl) (RV.assign rfl) (.none rfl) rfl ?_
      refine AD.done (by kernel_rfl) ?_
      -- at L0Ft
      clear hih0
      have ht : m2.take i.toNat = m2 := List.take_of_length_le (by omega)
      rw [ht] at hs
      refine AK.ret (h' := h) Try.func4 (.tmp rfl .nil) ?_ (by first | exact SubO.sub | simp)
      exact ⟨rfl, rfl⟩
    · intro hg2
      try simp only [decide_eq_true_eq, decide_eq_false_iff_not, Bool.not_eq_true', Bool.not_eq_false', beq_iff_eq] at hg2
      refine AD.pass 7 rfl (by kernel_rfl) (.some rfl rfl rfl rfl) rfl ?_
      refine AD.takeP 8 rfl (by kernel_rfl) (RV.pickF rfl rfl) (.none rfl) rfl ?_
      refine AD.takeP 9 rfl (by kernel_rfl) (RV.assign rfl) (.none rfl) rfl ?_
      refine AD.done (by kernel_rfl) ?_
      -- at L0Ff
      clear hih0
      have ht : m2.take i.toNat = m2 := List.take_of_length_le (by omega)
      rw [ht] at hs
      refine AK.ret (h' := h) Try.func4 (.tmp rfl .nil) ?_ (by first | exact SubO.sub | simp)
      exfalso; subst hs; simp at *

end Go.Proofs.Ytimdeghcidegcaa
