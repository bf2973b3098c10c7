/- Walks through the code: what each function that is named here gives back, from any memory that holds its arguments. Written by a program of the claim's author, out of the program's form in Lean. -/
import Derived.Test.YtbdlohjmifgcaaaS01R2
import Derived.Test.YtbdlohjmifgcaaaS13W2
import Derived.Test.YtbdlohjmifgcaaaPlain18
set_option linter.unusedSimpArgs false
set_option linter.unusedVariables false
namespace Go.Proofs.Ytbdlohjmifgcaaa
open Go.Sep Go.Sep.Sip Go.Sep.Perm

theorem punder_spec (B : World) (h : Own) (lo hi n : Int) (hn : n ≤ 9223372036854775807) {A : Option Addr} {cap : Nat} (l : List Int) (hl : Src B h A l.length 1 (l.map (fun x => Value.int .u8 x))) (hb : Bytes l) (hln : l.length ≤ cap) (hcp : l.length ≤ 9223372036854775807) : Tri Try.prog B 68 [.agg #[.int .u64 lo, .int .u64 hi], .slice A l.length cap, .int .i64 n] h fun v h' => h = h' ∧ v = .int .i64 (underS lo hi l n) := by
  refine Tri.enter (n := 16) Try.func68 rfl rfl rfl ?_
  simp only [argsE, Nat.reduceAdd]
  try dsimp only [argsE]
  refine AK.seq ?_
  refine AK.region ?_
  refine AO.eff (EF.box rfl rfl) (.none rfl) rfl ?_
  rintro _ _ ⟨b3, hf3, rfl, rfl⟩
  refine AO.val (RV.assign rfl) (.none rfl) rfl ?_
  refine AO.nil ?_
  refine AK.seq ?_
  refine AK.seq ?_
  refine AK.region ?_
  refine AO.val (RV.move rfl) (.none rfl) rfl ?_
  refine AO.val (RV.lss rfl rfl) (.none rfl) rfl ?_
  refine AO.nil ?_
  refine AK.cond rfl ?_ ?_
  · intro hc1
    try simp only [decide_eq_true_eq, decide_eq_false_iff_not, Bool.not_eq_true', Bool.not_eq_false', beq_iff_eq] at hc1
    refine AK.seq ?_
    refine AK.region ?_
    refine AO.val (RV.assign rfl) (.none rfl) rfl ?_
    refine AO.nil ?_
    -- at T
    refine AK.ret (h' := h) Try.func68 (.tmp rfl .nil) ?_ (by first | exact SubO.sub | exact List.Sublist.refl _ | exact .cons _ (List.Sublist.refl _) | exact .cons _ (.cons _ (List.Sublist.refl _)) | exact .cons _ (.cons _ (.cons _ (List.Sublist.refl _))))
    refine ⟨rfl, ?_⟩
    simp [underS, oneOr, *]
  · intro hc1
    try simp only [decide_eq_true_eq, decide_eq_false_iff_not, Bool.not_eq_true', Bool.not_eq_false', beq_iff_eq] at hc1
    have hu := sumS_U lo hi l
    simp only [U] at hu
    have hm0 := Int.emod_nonneg (sumS lo hi l) (show n ≠ 0 by omega)
    have hm1 := Int.emod_lt_of_pos (sumS lo hi l) (show 0 < n by omega)
    refine AK.skip ?_
    refine AK.seq ?_
    refine AK.region ?_
    refine AO.val (by first | exact RV.loadAggO rfl rfl (by first | simp | assumption) | exact RV.loadAggP rfl rfl rfl (by first | simp | assumption)) (.none rfl) rfl ?_
    refine AO.val (RV.move rfl) (.none rfl) rfl ?_
    refine AO.eff (EF.callF rfl (sum_spec B _ lo hi l hl.sub hb hln hcp)) (.none rfl) rfl ?_
    rintro _ _ ⟨rfl, rfl⟩
    refine AO.val (RV.move rfl) (.none rfl) rfl ?_
    refine AO.val (by first | exact RV.convIn rfl (by simp only [kb]; omega) | exact RV.conv rfl) (.none rfl) rfl ?_
    refine AO.val (by first | exact RV.remIn rfl rfl (by omega) | exact RV.rem rfl rfl (by omega)) (.none rfl) rfl ?_
    refine AO.val (by first | exact RV.convIn rfl (by simp only [kb]; omega) | exact RV.conv rfl) (.none rfl) rfl ?_
    refine AO.val (RV.assign rfl) (.none rfl) rfl ?_
    refine AO.nil ?_
    -- at F
    refine AK.ret (h' := h) Try.func68 (.tmp rfl .nil) ?_ (by first | exact SubO.sub | exact List.Sublist.refl _ | exact .cons _ (List.Sublist.refl _) | exact .cons _ (.cons _ (List.Sublist.refl _)) | exact .cons _ (.cons _ (.cons _ (List.Sublist.refl _))))
    refine ⟨rfl, ?_⟩
    simp [underS, oneOr, *]

theorem prime_spec (B : World) (h : Own) (m : Int) : Tri Try.prog B 44 [.int .i64 m] h fun v h' => h = h' ∧ v = .bool (prB m) := by
  refine Tri.enter (n := 21) Try.func44 rfl rfl rfl ?_
  simp only [argsE, Nat.reduceAdd]
  try dsimp only [argsE]
  refine AK.seq ?_
  refine AK.region ?_
  refine AO.val (RV.assign rfl) (.none rfl) rfl ?_
  refine AO.nil ?_
  refine AK.seq ?_
  refine AK.seq ?_
  refine AK.region ?_
  refine AO.val (RV.move rfl) (.none rfl) rfl ?_
  refine AO.val (RV.lss rfl rfl) (.none rfl) rfl ?_
  refine AO.val (RV.move rfl) (.none rfl) rfl ?_
  refine AO.caseG rfl rfl rfl ?_ ?_
  · intro hg1
    try simp only [decide_eq_true_eq, decide_eq_false_iff_not, Bool.not_eq_true', Bool.not_eq_false', beq_iff_eq] at hg1
    refine AO.pass (.some rfl rfl rfl rfl) rfl ?_
    refine AO.pass (.some rfl rfl rfl rfl) rfl ?_
    refine AO.val (RV.pickT rfl rfl) (.none rfl) rfl ?_
    refine AO.nil ?_
    refine AK.condT rfl ?_
    refine AK.seq ?_
    refine AK.region ?_
    refine AO.val (RV.assign rfl) (.none rfl) rfl ?_
    refine AO.nil ?_
    -- at t
    refine AK.ret (h' := h) Try.func44 (.tmp rfl .nil) ?_ (by first | exact SubO.sub | exact List.Sublist.refl _ | exact .cons _ (List.Sublist.refl _) | exact .cons _ (.cons _ (List.Sublist.refl _)) | exact .cons _ (.cons _ (.cons _ (List.Sublist.refl _))))
    refine ⟨rfl, ?_⟩
    rw [show prB m = false from by rw [Bool.eq_false_iff]; intro hp; have hp := (prB_iff m).1 hp; have := hp.1; have := hp.2.1; omega]; rfl
  · intro hg1
    try simp only [decide_eq_true_eq, decide_eq_false_iff_not, Bool.not_eq_true', Bool.not_eq_false', beq_iff_eq] at hg1
    refine AO.val (RV.move rfl) (.some rfl rfl rfl rfl) rfl ?_
    refine AO.val (RV.gtr rfl rfl) (.some rfl rfl rfl rfl) rfl ?_
    refine AO.val (RV.pickF rfl rfl) (.none rfl) rfl ?_
    refine AO.nil ?_
    refine AK.cond rfl ?_ ?_
    · intro hc2
      try simp only [decide_eq_true_eq, decide_eq_false_iff_not, Bool.not_eq_true', Bool.not_eq_false', beq_iff_eq] at hc2
      refine AK.seq ?_
      refine AK.region ?_
      refine AO.val (RV.assign rfl) (.none rfl) rfl ?_
      refine AO.nil ?_
      -- at fT
      refine AK.ret (h' := h) Try.func44 (.tmp rfl .nil) ?_ (by first | exact SubO.sub | exact List.Sublist.refl _ | exact .cons _ (List.Sublist.refl _) | exact .cons _ (.cons _ (List.Sublist.refl _)) | exact .cons _ (.cons _ (.cons _ (List.Sublist.refl _))))
      refine ⟨rfl, ?_⟩
      rw [show prB m = false from by rw [Bool.eq_false_iff]; intro hp; have hp := (prB_iff m).1 hp; have := hp.1; have := hp.2.1; omega]; rfl
    · intro hc2
      try simp only [decide_eq_true_eq, decide_eq_false_iff_not, Bool.not_eq_true', Bool.not_eq_false', beq_iff_eq] at hc2
      refine AK.skip ?_
      refine AK.seq ?_
      refine AK.seq ?_
      refine AK.region ?_
      refine AO.val (RV.assign rfl) (.none rfl) rfl ?_
      refine AO.nil ?_
      refine AK.block ?_
      refine AK.loop (α := Int) (E := fun d => [(0, .int .i64 m), (3, .int .i64 d)]) (H := fun d => h) (Inv := fun d => 2 ≤ d ∧ d ≤ 251 ∧ ∀ i : Int, 2 ≤ i → i < d → m % i ≠ 0) (μ := fun d => (252 - d).toNat) 2 ?_ (.cons (by exact rfl) (.cons (by exact rfl) .nil)) ?_ ?_
      · exact ⟨by omega, by omega, fun i h1 h2 => by omega⟩
      · exact (by first | exact SubO.sub | exact List.Sublist.refl _ | exact .cons _ (List.Sublist.refl _) | exact .cons _ (.cons _ (List.Sublist.refl _)) | exact .cons _ (.cons _ (.cons _ (List.Sublist.refl _))))
      rintro d ⟨hd0, hd1, hall⟩ hih0
      try dsimp only at hih0 ⊢
      have hd2 := Int.mul_le_mul hd0 (Int.le_refl d) (by omega) (by omega)
      have hdd : 0 ≤ d * d ∧ d * d ≤ 63001 := mul_in ⟨by omega, by omega⟩ ⟨by omega, by omega⟩
      refine AK.seq ?_
      refine AK.seq ?_
      refine AK.region ?_
      refine AO.val (RV.move rfl) (.none rfl) rfl ?_
      refine AO.val (RV.move rfl) (.none rfl) rfl ?_
      refine AO.val (RV.mulIn rfl rfl (by omega)) (.none rfl) rfl ?_
      refine AO.val (RV.move rfl) (.none rfl) rfl ?_
      refine AO.val (RV.leq rfl rfl) (.none rfl) rfl ?_
      refine AO.nil ?_
      refine AK.cond rfl ?_ ?_
      · intro hc3
        try simp only [decide_eq_true_eq, decide_eq_false_iff_not, Bool.not_eq_true', Bool.not_eq_false', beq_iff_eq] at hc3
        refine AK.skip ?_
        refine AK.seq ?_
        refine AK.block ?_
        refine AK.seq ?_
        refine AK.region ?_
        refine AO.val (RV.move rfl) (.none rfl) rfl ?_
        refine AO.val (RV.move rfl) (.none rfl) rfl ?_
        refine AO.val (RV.remIn rfl rfl (by omega)) (.none rfl) rfl ?_
        refine AO.val (RV.eql rfl rfl) (.none rfl) rfl ?_
        refine AO.nil ?_
        refine AK.cond rfl ?_ ?_
        · intro hc4
          try simp only [decide_eq_true_eq, decide_eq_false_iff_not, Bool.not_eq_true', Bool.not_eq_false', beq_iff_eq] at hc4
          refine AK.seq ?_
          refine AK.region ?_
          refine AO.val (RV.assign rfl) (.none rfl) rfl ?_
          refine AO.nil ?_
          -- at fFL0TT
          clear hih0
          refine AK.ret (h' := h) Try.func44 (.tmp rfl .nil) ?_ (by first | exact SubO.sub | exact List.Sublist.refl _ | exact .cons _ (List.Sublist.refl _) | exact .cons _ (.cons _ (List.Sublist.refl _)) | exact .cons _ (.cons _ (.cons _ (List.Sublist.refl _))))
          refine ⟨rfl, ?_⟩
          rw [show prB m = false from by rw [Bool.eq_false_iff]; intro hp; have hp := (prB_iff m).1 hp; exact hp.2.2 d (by omega) (by omega) (by assumption)]; rfl
        · intro hc4
          try simp only [decide_eq_true_eq, decide_eq_false_iff_not, Bool.not_eq_true', Bool.not_eq_false', beq_iff_eq] at hc4
          refine AK.skip ?_
          refine AK.inBlock ?_
          refine AK.region ?_
          refine AO.val (RV.move rfl) (.none rfl) rfl ?_
          refine AO.val (by first | exact RV.addIn rfl rfl (by omega) | exact RV.add rfl rfl) (.none rfl) rfl ?_
          refine AO.val (RV.assign rfl) (.none rfl) rfl ?_
          refine AO.nil ?_
          -- round ends at fFL0TF
          have hd250 : d < 251 := by
            rcases Int.lt_or_le d 16 with h | h
            · omega
            · have := Int.mul_le_mul h h (by omega) (by omega); omega
          refine AK.weak (.cons (by exact rfl) (.cons (by exact rfl) .nil)) (by first | exact SubO.sub | exact List.Sublist.refl _ | exact .cons _ (List.Sublist.refl _) | exact .cons _ (.cons _ (List.Sublist.refl _)) | exact .cons _ (.cons _ (.cons _ (List.Sublist.refl _)))) (hih0 (d + 1) ?_ ?_)
          · try dsimp only
            refine ⟨by omega, by omega, fun i h1 h2 => ?_⟩
            by_cases hj : i = d
            · subst hj; assumption
            · exact hall i h1 (by omega)
          · try dsimp only
            omega
      · intro hc3
        try simp only [decide_eq_true_eq, decide_eq_false_iff_not, Bool.not_eq_true', Bool.not_eq_false', beq_iff_eq] at hc3
        refine AK.exit rfl ?_
        refine AK.seq ?_
        refine AK.region ?_
        refine AO.val (RV.assign rfl) (.none rfl) rfl ?_
        refine AO.nil ?_
        -- at fFL0F
        clear hih0
        refine AK.ret (h' := h) Try.func44 (.tmp rfl .nil) ?_ (by first | exact SubO.sub | exact List.Sublist.refl _ | exact .cons _ (List.Sublist.refl _) | exact .cons _ (.cons _ (List.Sublist.refl _)) | exact .cons _ (.cons _ (.cons _ (List.Sublist.refl _))))
        refine ⟨rfl, ?_⟩
        rw [show prB m = true from (prB_iff m).2 (pr_root (d := d) (by omega) (by omega) hd0 (by omega) hall)]; rfl

theorem rprime_spec (B : World) (h : Own) (m : Int) : Tri Try.prog B 6 [.int .i64 m] h fun v h' => h = h' ∧ v = .bool (prB m) := by
  refine Tri.enter (n := 19) Try.func6 rfl rfl rfl ?_
  simp only [argsE, Nat.reduceAdd]
  try dsimp only [argsE]
  refine AK.seq ?_
  refine AK.region ?_
  refine AO.val (RV.assign rfl) (.none rfl) rfl ?_
  refine AO.nil ?_
  refine AK.seq ?_
  refine AK.seq ?_
  refine AK.region ?_
  refine AO.val (RV.move rfl) (.none rfl) rfl ?_
  refine AO.val (RV.lss rfl rfl) (.none rfl) rfl ?_
  refine AO.val (RV.move rfl) (.none rfl) rfl ?_
  refine AO.caseG rfl rfl rfl ?_ ?_
  · intro hg1
    try simp only [decide_eq_true_eq, decide_eq_false_iff_not, Bool.not_eq_true', Bool.not_eq_false', beq_iff_eq] at hg1
    refine AO.pass (.some rfl rfl rfl rfl) rfl ?_
    refine AO.pass (.some rfl rfl rfl rfl) rfl ?_
    refine AO.val (RV.pickT rfl rfl) (.none rfl) rfl ?_
    refine AO.nil ?_
    refine AK.condT rfl ?_
    refine AK.seq ?_
    refine AK.region ?_
    refine AO.val (RV.assign rfl) (.none rfl) rfl ?_
    refine AO.nil ?_
    -- at t
    refine AK.ret (h' := h) Try.func6 (.tmp rfl .nil) ?_ (by first | exact SubO.sub | exact List.Sublist.refl _ | exact .cons _ (List.Sublist.refl _) | exact .cons _ (.cons _ (List.Sublist.refl _)) | exact .cons _ (.cons _ (.cons _ (List.Sublist.refl _))))
    refine ⟨rfl, ?_⟩
    rw [show prB m = false from by rw [Bool.eq_false_iff]; intro hp; have hp := (prB_iff m).1 hp; have := hp.1; have := hp.2.1; omega]; rfl
  · intro hg1
    try simp only [decide_eq_true_eq, decide_eq_false_iff_not, Bool.not_eq_true', Bool.not_eq_false', beq_iff_eq] at hg1
    refine AO.val (RV.move rfl) (.some rfl rfl rfl rfl) rfl ?_
    refine AO.val (RV.gtr rfl rfl) (.some rfl rfl rfl rfl) rfl ?_
    refine AO.val (RV.pickF rfl rfl) (.none rfl) rfl ?_
    refine AO.nil ?_
    refine AK.cond rfl ?_ ?_
    · intro hc2
      try simp only [decide_eq_true_eq, decide_eq_false_iff_not, Bool.not_eq_true', Bool.not_eq_false', beq_iff_eq] at hc2
      refine AK.seq ?_
      refine AK.region ?_
      refine AO.val (RV.assign rfl) (.none rfl) rfl ?_
      refine AO.nil ?_
      -- at fT
      refine AK.ret (h' := h) Try.func6 (.tmp rfl .nil) ?_ (by first | exact SubO.sub | exact List.Sublist.refl _ | exact .cons _ (List.Sublist.refl _) | exact .cons _ (.cons _ (List.Sublist.refl _)) | exact .cons _ (.cons _ (.cons _ (List.Sublist.refl _))))
      refine ⟨rfl, ?_⟩
      rw [show prB m = false from by rw [Bool.eq_false_iff]; intro hp; have hp := (prB_iff m).1 hp; have := hp.1; have := hp.2.1; omega]; rfl
    · intro hc2
      try simp only [decide_eq_true_eq, decide_eq_false_iff_not, Bool.not_eq_true', Bool.not_eq_false', beq_iff_eq] at hc2
      refine AK.skip ?_
      refine AK.seq ?_
      refine AK.seq ?_
      refine AK.region ?_
      refine AO.val (RV.assign rfl) (.none rfl) rfl ?_
      refine AO.nil ?_
      refine AK.block ?_
      refine AK.loop (α := Int) (E := fun d => [(0, .int .i64 m), (3, .int .i64 d)]) (H := fun d => h) (Inv := fun d => 2 ≤ d ∧ d ≤ 251 ∧ ∀ i : Int, 2 ≤ i → i < d → m % i ≠ 0) (μ := fun d => (252 - d).toNat) 2 ?_ (.cons (by exact rfl) (.cons (by exact rfl) .nil)) ?_ ?_
      · exact ⟨by omega, by omega, fun i h1 h2 => by omega⟩
      · exact (by first | exact SubO.sub | exact List.Sublist.refl _ | exact .cons _ (List.Sublist.refl _) | exact .cons _ (.cons _ (List.Sublist.refl _)) | exact .cons _ (.cons _ (.cons _ (List.Sublist.refl _))))
      rintro d ⟨hd0, hd1, hall⟩ hih0
      try dsimp only at hih0 ⊢
      refine AK.seq ?_
      refine AK.seq ?_
      refine AK.region ?_
      refine AO.val (RV.move rfl) (.none rfl) rfl ?_
      refine AO.val (RV.move rfl) (.none rfl) rfl ?_
      refine AO.val (RV.lss rfl rfl) (.none rfl) rfl ?_
      refine AO.nil ?_
      refine AK.cond rfl ?_ ?_
      · intro hc3
        try simp only [decide_eq_true_eq, decide_eq_false_iff_not, Bool.not_eq_true', Bool.not_eq_false', beq_iff_eq] at hc3
        refine AK.skip ?_
        refine AK.seq ?_
        refine AK.block ?_
        refine AK.seq ?_
        refine AK.region ?_
        refine AO.val (RV.move rfl) (.none rfl) rfl ?_
        refine AO.val (RV.move rfl) (.none rfl) rfl ?_
        refine AO.val (RV.remIn rfl rfl (by omega)) (.none rfl) rfl ?_
        refine AO.val (RV.eql rfl rfl) (.none rfl) rfl ?_
        refine AO.nil ?_
        refine AK.cond rfl ?_ ?_
        · intro hc4
          try simp only [decide_eq_true_eq, decide_eq_false_iff_not, Bool.not_eq_true', Bool.not_eq_false', beq_iff_eq] at hc4
          refine AK.seq ?_
          refine AK.region ?_
          refine AO.val (RV.assign rfl) (.none rfl) rfl ?_
          refine AO.nil ?_
          -- at fFL0TT
          clear hih0
          refine AK.ret (h' := h) Try.func6 (.tmp rfl .nil) ?_ (by first | exact SubO.sub | exact List.Sublist.refl _ | exact .cons _ (List.Sublist.refl _) | exact .cons _ (.cons _ (List.Sublist.refl _)) | exact .cons _ (.cons _ (.cons _ (List.Sublist.refl _))))
          refine ⟨rfl, ?_⟩
          rw [show prB m = false from by rw [Bool.eq_false_iff]; intro hp; have hp := (prB_iff m).1 hp; exact hp.2.2 d (by omega) (by omega) (by assumption)]; rfl
        · intro hc4
          try simp only [decide_eq_true_eq, decide_eq_false_iff_not, Bool.not_eq_true', Bool.not_eq_false', beq_iff_eq] at hc4
          refine AK.skip ?_
          refine AK.inBlock ?_
          refine AK.region ?_
          refine AO.val (RV.move rfl) (.none rfl) rfl ?_
          refine AO.val (by first | exact RV.addIn rfl rfl (by omega) | exact RV.add rfl rfl) (.none rfl) rfl ?_
          refine AO.val (RV.assign rfl) (.none rfl) rfl ?_
          refine AO.nil ?_
          -- round ends at fFL0TF
          refine AK.weak (.cons (by exact rfl) (.cons (by exact rfl) .nil)) (by first | exact SubO.sub | exact List.Sublist.refl _ | exact .cons _ (List.Sublist.refl _) | exact .cons _ (.cons _ (List.Sublist.refl _)) | exact .cons _ (.cons _ (.cons _ (List.Sublist.refl _)))) (hih0 (d + 1) ?_ ?_)
          · try dsimp only
            refine ⟨by omega, by omega, fun i h1 h2 => ?_⟩
            by_cases hj : i = d
            · subst hj; assumption
            · exact hall i h1 (by omega)
          · try dsimp only
            omega
      · intro hc3
        try simp only [decide_eq_true_eq, decide_eq_false_iff_not, Bool.not_eq_true', Bool.not_eq_false', beq_iff_eq] at hc3
        refine AK.exit rfl ?_
        refine AK.seq ?_
        refine AK.region ?_
        refine AO.val (RV.assign rfl) (.none rfl) rfl ?_
        refine AO.nil ?_
        -- at fFL0F
        clear hih0
        refine AK.ret (h' := h) Try.func6 (.tmp rfl .nil) ?_ (by first | exact SubO.sub | exact List.Sublist.refl _ | exact .cons _ (List.Sublist.refl _) | exact .cons _ (.cons _ (List.Sublist.refl _)) | exact .cons _ (.cons _ (.cons _ (List.Sublist.refl _))))
        refine ⟨rfl, ?_⟩
        rw [show prB m = true from (prB_iff m).2 ⟨by omega, by omega, fun i h1 h2 => hall i h1 (by omega)⟩]; rfl

theorem start_spec (B : World) (h : Own) (lo hi id m : Int) (hid : -9223372036854775808 ≤ id ∧ id ≤ 9223372036854775807) : Tri Try.prog B 67 [.agg #[.int .u64 lo, .int .u64 hi], .int .i64 id, .int .i64 m] h fun v h' => h = h' ∧ v = .tuple #[.int .i64 (startA lo hi id m), .int .i64 (startB lo hi id m)] := by
  refine Tri.enter (n := 29) Try.func67 rfl rfl rfl ?_
  simp only [argsE, Nat.reduceAdd]
  try dsimp only [argsE]
  refine AK.seq ?_
  refine AK.region ?_
  refine AO.eff (EF.box rfl rfl) (.none rfl) rfl ?_
  rintro _ _ ⟨b3, hf3, rfl, rfl⟩
  refine AO.val (RV.assign rfl) (.none rfl) rfl ?_
  refine AO.val (RV.assign rfl) (.none rfl) rfl ?_
  refine AO.nil ?_
  refine AK.seq ?_
  refine AK.seq ?_
  refine AK.region ?_
  refine AO.val (RV.move rfl) (.none rfl) rfl ?_
  refine AO.eff (EF.callF rfl (prime_spec B _ _)) (.none rfl) rfl ?_
  rintro _ _ ⟨rfl, rfl⟩
  refine AO.val (RV.not rfl) (.none rfl) rfl ?_
  refine AO.nil ?_
  refine AK.cond rfl ?_ ?_
  · intro hc1
    try simp only [decide_eq_true_eq, decide_eq_false_iff_not, Bool.not_eq_true', Bool.not_eq_false', beq_iff_eq] at hc1
    refine AK.seq ?_
    refine AK.region ?_
    refine AO.val (RV.assign rfl) (.none rfl) rfl ?_
    refine AO.val (RV.assign rfl) (.none rfl) rfl ?_
    refine AO.nil ?_
    -- at T
    refine AK.ret (h' := h) Try.func67 (.tmp rfl (.tmp rfl .nil)) ?_ (by first | exact SubO.sub | exact List.Sublist.refl _ | exact .cons _ (List.Sublist.refl _) | exact .cons _ (.cons _ (List.Sublist.refl _)) | exact .cons _ (.cons _ (.cons _ (List.Sublist.refl _))))
    refine ⟨rfl, ?_⟩
    simp [startA, startB, hc1, oneOr]
  · intro hc1
    try simp only [decide_eq_true_eq, decide_eq_false_iff_not, Bool.not_eq_true', Bool.not_eq_false', beq_iff_eq] at hc1
    have hm := prB_in hc1
    have hst := start_in lo hi id hc1
    have hin1 := underS_in lo hi (idB id 1) (m - 1) (by omega)
    refine AK.skip ?_
    refine AK.seq ?_
    refine AK.draw [] [6] mixed ?_
    refine AD.take 0 rfl (by kernel_rfl) (by first | exact RV.loadAggO rfl rfl (by first | simp | assumption) | exact RV.loadAggP rfl rfl rfl (by first | simp | assumption)) (.none rfl) rfl ?_
    refine AD.takeP 1 rfl (by kernel_rfl) (RV.move rfl) (.none rfl) rfl ?_
    refine AD.takeP 2 rfl (by kernel_rfl) ((RV.conv rfl).to (v' := .int .u32 (id % 4294967296)) (by simp only [IntKind.wrap, IntKind.bits, IntKind.signed]; rfl)) (.none rfl) rfl ?_
    refine AD.takeP 5 rfl (by kernel_rfl) (RV.move rfl) (.none rfl) rfl ?_
    refine AD.one 3 (by kernel_rfl) (AE.eff rfl (EF.buildSeq [.int .u32 (id % 4294967296), .int .u32 0] rfl rfl rfl rfl) (.none rfl) rfl ?_)
    rintro _ _ ⟨b15, hf15, rfl, rfl⟩
    refine ⟨(by first | exact .inr fun x hx hM => hx | exact .inr fun x hx hM => List.mem_cons_of_mem _ hx | exact .inr fun x hx hM => List.mem_append_right _ hx), ?_⟩
    refine AD.one 4 (by kernel_rfl) (AE.eff rfl (EF.callF rfl (((put32_spec (A := none) (cap := 0) (A2 := some ⟨b15, 0, none⟩) (cap2 := 2) B _ [] [(id % 4294967296), 0] ⟨rfl, by simp⟩ (by decide) (Src.of_new (el := 26) (cs := [.int .u32 (id % 4294967296), .int .u32 0]) (by simp) 2 1 (Nat.le_refl _)) (by simp)).mono fun v h2 r => r.to (n' := (idB id 0).length) (ys := (idB id 0).map (fun x => Value.int .u8 x)) (by simp [idB_len]) (by simp [idB]; rfl)))) (.none rfl) rfl ?_)
    rintro _ _ ⟨A16, c16, p16, rfl, hr16, hc16, rfl⟩
    refine ⟨(by first | exact .inr fun x hx hM => hx | exact .inr fun x hx hM => List.mem_cons_of_mem _ hx | exact .inr fun x hx hM => List.mem_append_right _ hx), ?_⟩
    refine AD.one 6 (by kernel_rfl) (AE.eff rfl (EF.callF rfl (punder_spec (cap := c16) B _ lo hi m (by omega) (idB id 0) ((hr16.src (h := p16) (fun x hx => hx)).mono fun x hx => by simp [hx]) (idB_bytes _ _ (by decide)) hc16 (by rw [idB_len]; decide))) (.none rfl) rfl ?_)
    rintro _ _ ⟨rfl, rfl⟩
    refine ⟨.inl (by kernel_rfl), ?_⟩
    refine AD.takeP 7 rfl (by kernel_rfl) (RV.assign rfl) (.none rfl) rfl ?_
    refine AD.done (by kernel_rfl) ?_
    refine AK.seq ?_
    refine AK.draw [] [8] mixed ?_
    refine AD.takeP 0 rfl (by kernel_rfl) (RV.move rfl) (.none rfl) rfl ?_
    refine AD.take 1 rfl (by kernel_rfl) (by first | exact RV.loadAggO rfl rfl (by first | simp | assumption) | exact RV.loadAggP rfl rfl rfl (by first | simp | assumption)) (.none rfl) rfl ?_
    refine AD.takeP 2 rfl (by kernel_rfl) (RV.move rfl) (.none rfl) rfl ?_
    refine AD.takeP 3 rfl (by kernel_rfl) ((RV.conv rfl).to (v' := .int .u32 (id % 4294967296)) (by simp only [IntKind.wrap, IntKind.bits, IntKind.signed]; rfl)) (.none rfl) rfl ?_
    refine AD.takeP 6 rfl (by kernel_rfl) (RV.move rfl) (.none rfl) rfl ?_
    refine AD.takeP 7 rfl (by kernel_rfl) (by first | exact RV.subIn rfl rfl (by omega) | exact RV.sub rfl rfl) (.none rfl) rfl ?_
    refine AD.one 4 (by kernel_rfl) (AE.eff rfl (EF.buildSeq [.int .u32 (id % 4294967296), .int .u32 1] rfl rfl rfl rfl) (.none rfl) rfl ?_)
    rintro _ _ ⟨b23, hf23, rfl, rfl⟩
    refine ⟨(by first | exact .inr fun x hx hM => hx | exact .inr fun x hx hM => List.mem_cons_of_mem _ hx | exact .inr fun x hx hM => List.mem_append_right _ hx), ?_⟩
    refine AD.one 5 (by kernel_rfl) (AE.eff rfl (EF.callF rfl (((put32_spec (A := none) (cap := 0) (A2 := some ⟨b23, 0, none⟩) (cap2 := 2) B _ [] [(id % 4294967296), 1] ⟨rfl, by simp⟩ (by decide) (Src.of_new (el := 26) (cs := [.int .u32 (id % 4294967296), .int .u32 1]) (by simp) 2 1 (Nat.le_refl _)) (by simp)).mono fun v h2 r => r.to (n' := (idB id 1).length) (ys := (idB id 1).map (fun x => Value.int .u8 x)) (by simp [idB_len]) (by simp [idB]; rfl)))) (.none rfl) rfl ?_)
    rintro _ _ ⟨A17, c17, p17, rfl, hr17, hc17, rfl⟩
    refine ⟨(by first | exact .inr fun x hx hM => hx | exact .inr fun x hx hM => List.mem_cons_of_mem _ hx | exact .inr fun x hx hM => List.mem_append_right _ hx), ?_⟩
    refine AD.one 8 (by kernel_rfl) (AE.eff rfl (EF.callF rfl (punder_spec (cap := c17) B _ lo hi (m - 1) (by omega) (idB id 1) ((hr17.src (h := p17) (fun x hx => hx)).mono fun x hx => by simp [hx]) (idB_bytes _ _ (by decide)) hc17 (by rw [idB_len]; decide))) (.none rfl) rfl ?_)
    rintro _ _ ⟨rfl, rfl⟩
    refine ⟨.inl (by kernel_rfl), ?_⟩
    refine AD.takeP 9 rfl (by kernel_rfl) (by first | exact RV.addIn rfl rfl (by omega) | exact RV.add rfl rfl) (.none rfl) rfl ?_
    refine AD.takeP 10 rfl (by kernel_rfl) (RV.assign rfl) (.none rfl) rfl ?_
    refine AD.takeP 11 rfl (by kernel_rfl) (RV.assign rfl) (.none rfl) rfl ?_
    refine AD.done (by kernel_rfl) ?_
    -- at F
    refine AK.ret (h' := h) Try.func67 (.tmp rfl (.tmp rfl .nil)) ?_ (by first | exact SubO.sub | exact List.Sublist.refl _ | exact .cons _ (List.Sublist.refl _) | exact .cons _ (.cons _ (List.Sublist.refl _)) | exact .cons _ (.cons _ (.cons _ (List.Sublist.refl _))))
    refine ⟨rfl, ?_⟩
    simp [startA, startB, hc1, oneOr]

theorem rstart_spec (B : World) (h : Own) (lo hi id m : Int) (hid : -9223372036854775808 ≤ id ∧ id ≤ 9223372036854775807) (hp : prB m = true) : Tri Try.prog B 65 [.agg #[.int .u64 lo, .int .u64 hi], .int .i64 id, .int .i64 m] h fun v h' => h = h' ∧ v = .tuple #[.int .i64 (startA lo hi id m), .int .i64 (startB lo hi id m)] := by
  have hm := prB_in hp
  refine Tri.enter (n := 34) Try.func65 rfl rfl rfl ?_
  simp only [argsE, Nat.reduceAdd]
  try dsimp only [argsE]
  refine AK.seq ?_
  refine AK.region ?_
  refine AO.eff (EF.box rfl rfl) (.none rfl) rfl ?_
  rintro _ _ ⟨b3, hf3, rfl, rfl⟩
  refine AO.val (RV.assign rfl) (.none rfl) rfl ?_
  refine AO.val (RV.assign rfl) (.none rfl) rfl ?_
  refine AO.nil ?_
  refine AK.seq ?_
  refine AK.region ?_
  refine AO.val (RV.move rfl) (.none rfl) rfl ?_
  refine AO.val ((RV.conv rfl).to (v' := .int .u32 (id % 4294967296)) (by simp only [IntKind.wrap, IntKind.bits, IntKind.signed]; rfl)) (.none rfl) rfl ?_
  refine AO.eff (EF.callF rfl ((put_spec B _ (id % 4294967296) 4 (by omega) (by decide)).mono fun v h2 r => r.to (n' := (beR 4 (id % 4294967296)).length) (ys := (beR 4 (id % 4294967296)).map (fun x => Value.int .u8 x)) (by rw [beR_len]; rfl) rfl)) (.none rfl) rfl ?_
  rintro _ _ ⟨A12, c12, p12, rfl, hr12, hc12, rfl⟩
  refine AO.val (RV.assign rfl) (.none rfl) rfl ?_
  refine AO.nil ?_
  refine AK.seq ?_
  refine AK.draw [] [4] mixed ?_
  refine AD.take 0 rfl (by kernel_rfl) (by first | exact RV.loadAggO rfl rfl (by first | simp | assumption) | exact RV.loadAggP rfl rfl rfl (by first | simp | assumption)) (.none rfl) rfl ?_
  refine AD.takeP 1 rfl (by kernel_rfl) (RV.move rfl) (.none rfl) rfl ?_
  refine AD.takeP 5 rfl (by kernel_rfl) (RV.move rfl) (.none rfl) rfl ?_
  refine AD.takeP 6 rfl (by kernel_rfl) (by first | exact RV.convIn rfl (by simp only [kb]; omega) | exact RV.conv rfl) (.none rfl) rfl ?_
  refine AD.one 2 (by kernel_rfl) (AE.eff rfl (EF.buildSeq [.int .u8 0, .int .u8 0, .int .u8 0, .int .u8 0] rfl rfl rfl rfl) (.none rfl) rfl ?_)
  rintro _ _ ⟨b15, hf15, rfl, rfl⟩
  refine ⟨(by first | exact .inr fun x hx hM => hx | exact .inr fun x hx hM => List.mem_cons_of_mem _ hx | exact .inr fun x hx hM => List.mem_append_right _ hx), ?_⟩
  refine AD.one 3 (by kernel_rfl) (AE.eff rfl (EF.callF rfl ((add_spec (A2 := some ⟨b15, 0, none⟩) (cap2 := 4) B _ (beR 4 (id % 4294967296)) [0, 0, 0, 0] ((hr12.src (h := p12) (fun x hx => hx)).mono fun x hx => by simp [hx]) (Src.of_new (el := 5) (cs := [.int .u8 0, .int .u8 0, .int .u8 0, .int .u8 0]) (by simp) 4 1 (Nat.le_refl _)) (by simp [beR_len])).mono fun v h2 r => r.to (n' := (idB id 0).length) (ys := (idB id 0).map (fun x => Value.int .u8 x)) rfl rfl)) (.none rfl) rfl ?_)
  rintro _ _ ⟨A16, c16, p16, rfl, hr16, hc16, rfl⟩
  refine ⟨(by first | exact .inr fun x hx hM => hx | exact .inr fun x hx hM => List.mem_cons_of_mem _ hx | exact .inr fun x hx hM => List.mem_append_right _ hx), ?_⟩
  refine AD.one 4 (by kernel_rfl) (AE.eff rfl (EF.callF rfl (rsum_spec (cap := c16) B _ lo hi (idB id 0) ((hr16.src (h := p16) (fun x hx => hx)).mono fun x hx => by simp [hx]) (idB_bytes _ _ (by decide)) hc16 (by rw [idB_len]; decide))) (.none rfl) rfl ?_)
  rintro _ _ ⟨rfl, rfl⟩
  have hu16 := sumS_U lo hi (idB id 0)
  simp only [U] at hu16
  have hm16 := Int.emod_nonneg (sumS lo hi (idB id 0)) (show m ≠ 0 by omega)
  have hn16 := Int.emod_lt_of_pos (sumS lo hi (idB id 0)) (show 0 < m by omega)
  refine ⟨.inl (by kernel_rfl), ?_⟩
  refine AD.takeP 7 rfl (by kernel_rfl) (by first | exact RV.remIn rfl rfl (by omega) | exact RV.rem rfl rfl (by omega)) (.none rfl) rfl ?_
  refine AD.takeP 8 rfl (by kernel_rfl) (by first | exact RV.convIn rfl (by simp only [kb]; omega) | exact RV.conv rfl) (.none rfl) rfl ?_
  refine AD.takeP 9 rfl (by kernel_rfl) (RV.assign rfl) (.none rfl) rfl ?_
  refine AD.done (by kernel_rfl) ?_
  refine AK.seq ?_
  refine AK.draw [] [5] mixed ?_
  refine AD.takeP 0 rfl (by kernel_rfl) (RV.move rfl) (.none rfl) rfl ?_
  refine AD.take 1 rfl (by kernel_rfl) (by first | exact RV.loadAggO rfl rfl (by first | simp | assumption) | exact RV.loadAggP rfl rfl rfl (by first | simp | assumption)) (.none rfl) rfl ?_
  refine AD.takeP 2 rfl (by kernel_rfl) (RV.move rfl) (.none rfl) rfl ?_
  refine AD.takeP 6 rfl (by kernel_rfl) (RV.move rfl) (.none rfl) rfl ?_
  refine AD.takeP 7 rfl (by kernel_rfl) (by first | exact RV.subIn rfl rfl (by omega) | exact RV.sub rfl rfl) (.none rfl) rfl ?_
  refine AD.takeP 8 rfl (by kernel_rfl) (by first | exact RV.convIn rfl (by simp only [kb]; omega) | exact RV.conv rfl) (.none rfl) rfl ?_
  refine AD.one 3 (by kernel_rfl) (AE.eff rfl (EF.buildSeq [.int .u8 0, .int .u8 0, .int .u8 0, .int .u8 1] rfl rfl rfl rfl) (.none rfl) rfl ?_)
  rintro _ _ ⟨b25, hf25, rfl, rfl⟩
  refine ⟨(by first | exact .inr fun x hx hM => hx | exact .inr fun x hx hM => List.mem_cons_of_mem _ hx | exact .inr fun x hx hM => List.mem_append_right _ hx), ?_⟩
  refine AD.one 4 (by kernel_rfl) (AE.eff rfl (EF.callF rfl ((add_spec (A2 := some ⟨b25, 0, none⟩) (cap2 := 4) B _ (beR 4 (id % 4294967296)) [0, 0, 0, 1] ((hr12.src (h := p12) (fun x hx => hx)).mono fun x hx => by simp [hx]) (Src.of_new (el := 5) (cs := [.int .u8 0, .int .u8 0, .int .u8 0, .int .u8 1]) (by simp) 4 1 (Nat.le_refl _)) (by simp [beR_len])).mono fun v h2 r => r.to (n' := (idB id 1).length) (ys := (idB id 1).map (fun x => Value.int .u8 x)) rfl rfl)) (.none rfl) rfl ?_)
  rintro _ _ ⟨A26, c26, p26, rfl, hr26, hc26, rfl⟩
  refine ⟨(by first | exact .inr fun x hx hM => hx | exact .inr fun x hx hM => List.mem_cons_of_mem _ hx | exact .inr fun x hx hM => List.mem_append_right _ hx), ?_⟩
  refine AD.one 5 (by kernel_rfl) (AE.eff rfl (EF.callF rfl (rsum_spec (cap := c26) B _ lo hi (idB id 1) ((hr26.src (h := p26) (fun x hx => hx)).mono fun x hx => by simp [hx]) (idB_bytes _ _ (by decide)) hc26 (by rw [idB_len]; decide))) (.none rfl) rfl ?_)
  rintro _ _ ⟨rfl, rfl⟩
  have hu26 := sumS_U lo hi (idB id 1)
  simp only [U] at hu26
  have hm26 := Int.emod_nonneg (sumS lo hi (idB id 1)) (show (m - 1) ≠ 0 by omega)
  have hn26 := Int.emod_lt_of_pos (sumS lo hi (idB id 1)) (show 0 < (m - 1) by omega)
  refine ⟨.inl (by kernel_rfl), ?_⟩
  refine AD.takeP 9 rfl (by kernel_rfl) (by first | exact RV.remIn rfl rfl (by omega) | exact RV.rem rfl rfl (by omega)) (.none rfl) rfl ?_
  refine AD.takeP 10 rfl (by kernel_rfl) (by first | exact RV.convIn rfl (by simp only [kb]; omega) | exact RV.conv rfl) (.none rfl) rfl ?_
  refine AD.takeP 11 rfl (by kernel_rfl) (by first | exact RV.addIn rfl rfl (by omega) | exact RV.add rfl rfl) (.none rfl) rfl ?_
  refine AD.takeP 12 rfl (by kernel_rfl) (RV.assign rfl) (.none rfl) rfl ?_
  refine AD.takeP 13 rfl (by kernel_rfl) (RV.assign rfl) (.none rfl) rfl ?_
  refine AD.done (by kernel_rfl) ?_
  -- at 
  refine AK.ret (h' := h) Try.func65 (.tmp rfl (.tmp rfl .nil)) ?_ (by first | exact SubO.sub | exact List.Sublist.refl _ | exact .cons _ (List.Sublist.refl _) | exact .cons _ (.cons _ (List.Sublist.refl _)) | exact .cons _ (.cons _ (.cons _ (List.Sublist.refl _))))
  refine ⟨rfl, ?_⟩
  simp [startA, startB, hp, oneOr, underS, show ¬ m < 1 by omega, show ¬ m - 1 < 1 by omega]

theorem row_spec (B : World) (h : Own) (lo hi id m : Int) (hid : -9223372036854775808 ≤ id ∧ id ≤ 9223372036854775807) : Tri Try.prog B 61 [.agg #[.int .u64 lo, .int .u64 hi], .int .i64 id, .int .i64 m] h fun v h' => NewS 3 1 (rowS lo hi id m).length ((rowS lo hi id m).map (fun x => Value.int .i64 x)) h v h' := by
  refine Tri.enter (n := 34) Try.func61 rfl rfl rfl ?_
  simp only [argsE, Nat.reduceAdd]
  try dsimp only [argsE]
  refine AK.seq ?_
  refine AK.region ?_
  refine AO.eff (EF.box rfl rfl) (.none rfl) rfl ?_
  rintro _ _ ⟨b3, hf3, rfl, rfl⟩
  refine AO.val (RV.assign rfl) (.none rfl) rfl ?_
  refine AO.nil ?_
  refine AK.seq ?_
  refine AK.region ?_
  refine AO.val (by first | exact RV.loadAggO rfl rfl (by first | simp | assumption) | exact RV.loadAggP rfl rfl rfl (by first | simp | assumption)) (.none rfl) rfl ?_
  refine AO.val (RV.move rfl) (.none rfl) rfl ?_
  refine AO.val (RV.move rfl) (.none rfl) rfl ?_
  refine AO.eff (EF.callF rfl (start_spec B _ lo hi id m hid)) (.none rfl) rfl ?_
  rintro _ _ ⟨rfl, rfl⟩
  refine AO.val (RV.move rfl) (.none rfl) rfl ?_
  refine AO.val (RV.extract rfl rfl) (.none rfl) rfl ?_
  refine AO.val (RV.extract rfl rfl) (.none rfl) rfl ?_
  refine AO.val (RV.assign rfl) (.none rfl) rfl ?_
  refine AO.val (RV.assign rfl) (.none rfl) rfl ?_
  refine AO.nil ?_
  refine AK.seq ?_
  refine AK.region ?_
  refine AO.val (RV.assign rfl) (.none rfl) rfl ?_
  refine AO.nil ?_
  refine AK.seq ?_
  refine AK.seq ?_
  refine AK.region ?_
  refine AO.val (RV.move rfl) (.none rfl) rfl ?_
  refine AO.val (RV.eql rfl rfl) (.none rfl) rfl ?_
  refine AO.nil ?_
  refine AK.cond rfl ?_ ?_
  · intro hc1
    try simp only [decide_eq_true_eq, decide_eq_false_iff_not, Bool.not_eq_true', Bool.not_eq_false', beq_iff_eq] at hc1
    refine AK.seq ?_
    refine AK.region ?_
    refine AO.val (RV.move rfl) (.none rfl) rfl ?_
    refine AO.val (RV.assign rfl) (.none rfl) rfl ?_
    refine AO.nil ?_
    -- at T
    have hp : prB m = false := by
      cases hq : prB m with
      | false => rfl
      | true => have := start_in lo hi id hq; omega
    have hrs : rowS lo hi id m = [] := by simp [rowS, hp]
    rw [hrs]
    refine AK.ret (h' := h) Try.func61 (.tmp rfl .nil) ?_ (by first | exact SubO.sub | exact List.Sublist.refl _ | exact .cons _ (List.Sublist.refl _) | exact .cons _ (.cons _ (List.Sublist.refl _)) | exact .cons _ (.cons _ (.cons _ (List.Sublist.refl _))))
    exact ⟨none, 0, [], rfl, .nil, Nat.le_refl _, rfl⟩
  · intro hc1
    try simp only [decide_eq_true_eq, decide_eq_false_iff_not, Bool.not_eq_true', Bool.not_eq_false', beq_iff_eq] at hc1
    have hp : prB m = true := by
      cases hq : prB m with
      | true => rfl
      | false => simp [startB, hq] at hc1
    have hst := start_in lo hi id hp
    refine AK.skip ?_
    refine AK.seq ?_
    refine AK.seq ?_
    refine AK.region ?_
    refine AO.val (RV.move rfl) (.none rfl) rfl ?_
    refine AO.val (RV.move rfl) (.none rfl) rfl ?_
    refine AO.nil ?_
    refine AK.block ?_
    refine AK.loop (α := Nat × Option Addr × Nat × Own) (E := fun (i, A', c', p) => [(2, .int .i64 m), (20, .int .i64 m), (8, .int .i64 (startB lo hi id m)), (9, .slice A' i c'), (21, .int .i64 i), (7, .int .i64 ((startA lo hi id m + (i : Int) * startB lo hi id m) % m))]) (H := fun (i, A', c', p) => p ++ h) (Inv := fun (i, A', c', p) => i ≤ m.toNat ∧ Row 3 1 (.slice A' i c') i ((rowK lo hi id m i).map (fun x => Value.int .i64 x)) p ∧ i ≤ c') (μ := fun (i, A', c', p) => m.toNat - i) (0, none, 0, []) ?_ (.cons (by exact rfl) (.cons (by exact rfl) (.cons (by exact rfl) (.cons (by exact rfl) (.cons (by exact rfl) (.cons (by rw [show (startA lo hi id m + ((0 : Nat) : Int) * startB lo hi id m) % m = startA lo hi id m by rw [Int.natCast_zero, Int.zero_mul, Int.add_zero]; exact Int.emod_eq_of_lt (by omega) (by omega)]; exact rfl) .nil)))))) ?_ ?_
    · exact ⟨by omega, .nil, Nat.le_refl _⟩
    · exact (by first | exact SubO.sub | exact List.Sublist.refl _ | exact .cons _ (List.Sublist.refl _) | exact .cons _ (.cons _ (List.Sublist.refl _)) | exact .cons _ (.cons _ (.cons _ (List.Sublist.refl _))))
    rintro ⟨i, A', c', p⟩ ⟨hik, hr, hc⟩ hih0
    try dsimp only at hih0 ⊢
    have hjb := mul_in (j := (i : Int)) (b := startB lo hi id m) ⟨by omega, by omega⟩ ⟨by omega, by omega⟩
    have hx0 := Int.emod_nonneg (startA lo hi id m + (i : Int) * startB lo hi id m) (show m ≠ 0 by omega)
    have hx1 := Int.emod_lt_of_pos (startA lo hi id m + (i : Int) * startB lo hi id m) (show 0 < m by omega)
    refine AK.seq ?_
    refine AK.region ?_
    refine AO.val (RV.lss rfl rfl) (.none rfl) rfl ?_
    refine AO.nil ?_
    refine AK.seq ?_
    refine AK.cond rfl ?_ ?_
    · intro hc2
      try simp only [decide_eq_true_eq, decide_eq_false_iff_not, Bool.not_eq_true', Bool.not_eq_false', beq_iff_eq] at hc2
      refine AK.skip ?_
      refine AK.seq ?_
      refine AK.block ?_
      refine AK.seq ?_
      refine AK.region ?_
      refine AO.val (RV.move rfl) (.none rfl) rfl ?_
      refine AO.val (RV.move rfl) (.none rfl) rfl ?_
      refine AO.eff (EF.buildSeq [.int .i64 ((startA lo hi id m + (i : Int) * startB lo hi id m) % m)] rfl rfl rfl rfl) (.none rfl) rfl ?_
      rintro _ _ ⟨b28, hf28, rfl, rfl⟩
      refine AO.eff (EF.appendS (n' := i + 1) (ys := (rowK lo hi id m (i + 1)).map (fun x => Value.int .i64 x)) rfl rfl hr (Src.of_new (el := 3) (cs := [.int .i64 ((startA lo hi id m + (i : Int) * startB lo hi id m) % m)]) (by simp) 1 1 (Nat.le_refl _)) rfl (by rw [rowK_succ, List.map_append]; rfl) rfl (by decide) rfl (by omega) (by omega)) (.none rfl) rfl ?_
      rintro v9 _ ⟨A1, c1, p1, rfl, hr1, hc1q, rfl⟩
      refine AO.val (RV.assign rfl) (.none rfl) rfl ?_
      refine AO.nil ?_
      refine AK.region ?_
      refine AO.val (RV.move rfl) (.none rfl) rfl ?_
      refine AO.val (RV.move rfl) (.none rfl) rfl ?_
      refine AO.val (by first | exact RV.addIn rfl rfl (by omega) | exact RV.add rfl rfl) (.none rfl) rfl ?_
      refine AO.val (RV.move rfl) (.none rfl) rfl ?_
      refine AO.val (RV.remIn rfl rfl (by omega)) (.none rfl) rfl ?_
      refine AO.val (RV.assign rfl) (.none rfl) rfl ?_
      refine AO.nil ?_
      refine AK.inBlock ?_
      refine AK.region ?_
      refine AO.val (by first | exact RV.addIn rfl rfl (by omega) | exact RV.add rfl rfl) (.none rfl) rfl ?_
      refine AO.val (RV.move rfl) (.none rfl) rfl ?_
      refine AO.nil ?_
      -- round ends at FL0T
      refine AK.weak (.cons (by exact rfl) (.cons (by exact rfl) (.cons (by exact rfl) (.cons (by exact rfl) (.cons (by exact rfl) (.cons (by rw [← step_mod]; exact rfl) .nil)))))) (by exact List.Sublist.append_left (by exact SubO.sub) _) (hih0 (i + 1, A1, c1, p1) ?_ ?_)
      · try dsimp only
        exact ⟨by omega, hr1, hc1q⟩
      · try dsimp only
        omega
    · intro hc2
      try simp only [decide_eq_true_eq, decide_eq_false_iff_not, Bool.not_eq_true', Bool.not_eq_false', beq_iff_eq] at hc2
      refine AK.exit rfl ?_
      refine AK.seq ?_
      refine AK.region ?_
      refine AO.val (RV.move rfl) (.none rfl) rfl ?_
      refine AO.val (RV.assign rfl) (.none rfl) rfl ?_
      refine AO.nil ?_
      -- at FL0F
      clear hih0
      have him : i = m.toNat := by omega
      subst him
      have hrs : rowS lo hi id m = rowK lo hi id m m.toNat := by simp [rowS, hp]
      have hrl : (rowS lo hi id m).length = m.toNat := by rw [hrs, rowK_len]
      refine AK.ret (h' := p ++ h) Try.func61 (.tmp rfl .nil) ?_ (by first | exact SubO.sub | exact List.Sublist.refl _ | exact .cons _ (List.Sublist.refl _) | exact .cons _ (.cons _ (List.Sublist.refl _)) | exact .cons _ (.cons _ (.cons _ (List.Sublist.refl _))))
      rw [hrl, hrs]
      exact ⟨A', c', p, rfl, hr, hc, rfl⟩

theorem rrow_spec (B : World) (h : Own) (lo hi id m : Int) (hid : -9223372036854775808 ≤ id ∧ id ≤ 9223372036854775807) : Tri Try.prog B 56 [.agg #[.int .u64 lo, .int .u64 hi], .int .i64 id, .int .i64 m] h fun v h' => NewS 3 1 (rowS lo hi id m).length ((rowS lo hi id m).map (fun x => Value.int .i64 x)) h v h' := by
  refine Tri.enter (n := 39) Try.func56 rfl rfl rfl ?_
  simp only [argsE, Nat.reduceAdd]
  try dsimp only [argsE]
  refine AK.seq ?_
  refine AK.region ?_
  refine AO.eff (EF.box rfl rfl) (.none rfl) rfl ?_
  rintro _ _ ⟨b3, hf3, rfl, rfl⟩
  refine AO.val (RV.assign rfl) (.none rfl) rfl ?_
  refine AO.nil ?_
  refine AK.seq ?_
  refine AK.region ?_
  refine AO.eff (EF.buildSeq [] rfl rfl rfl rfl) (.none rfl) rfl ?_
  rintro _ _ ⟨b11, hf11, rfl, rfl⟩
  refine AO.val (RV.assign rfl) (.none rfl) rfl ?_
  refine AO.nil ?_
  refine AK.seq ?_
  refine AK.seq ?_
  refine AK.region ?_
  refine AO.val (RV.move rfl) (.none rfl) rfl ?_
  refine AO.eff (EF.callF rfl (rprime_spec B _ _)) (.none rfl) rfl ?_
  rintro _ _ ⟨rfl, rfl⟩
  refine AO.val (RV.not rfl) (.none rfl) rfl ?_
  refine AO.nil ?_
  refine AK.cond rfl ?_ ?_
  · intro hc1
    try simp only [decide_eq_true_eq, decide_eq_false_iff_not, Bool.not_eq_true', Bool.not_eq_false', beq_iff_eq] at hc1
    refine AK.seq ?_
    refine AK.region ?_
    refine AO.val (RV.move rfl) (.none rfl) rfl ?_
    refine AO.val (RV.assign rfl) (.none rfl) rfl ?_
    refine AO.nil ?_
    -- at T
    have hp : prB m = false := by simpa using hc1
    have hrs : rowS lo hi id m = [] := by simp [rowS, hp]
    rw [hrs]
    refine AK.ret (h' := (b11, Blk.cells [] 3 (0, 0)) :: h) Try.func56 (.tmp rfl .nil) ?_ (by first | exact SubO.sub | exact List.Sublist.refl _ | exact .cons _ (List.Sublist.refl _) | exact .cons _ (.cons _ (List.Sublist.refl _)) | exact .cons _ (.cons _ (.cons _ (List.Sublist.refl _))))
    exact ⟨some ⟨b11, 0, none⟩, 0, [(b11, _)], rfl, Row.new (cs := []) rfl, Nat.le_refl _, rfl⟩
  · intro hc1
    try simp only [decide_eq_true_eq, decide_eq_false_iff_not, Bool.not_eq_true', Bool.not_eq_false', beq_iff_eq] at hc1
    have hp : prB m = true := by simpa using hc1
    have hst := start_in lo hi id hp
    refine AK.skip ?_
    refine AK.seq ?_
    refine AK.region ?_
    refine AO.val (by first | exact RV.loadAggO rfl rfl (by first | simp | assumption) | exact RV.loadAggP rfl rfl rfl (by first | simp | assumption)) (.none rfl) rfl ?_
    refine AO.val (RV.move rfl) (.none rfl) rfl ?_
    refine AO.val (RV.move rfl) (.none rfl) rfl ?_
    refine AO.eff (EF.callF rfl (rstart_spec B _ lo hi id m hid hp)) (.none rfl) rfl ?_
    rintro _ _ ⟨rfl, rfl⟩
    refine AO.val (RV.move rfl) (.none rfl) rfl ?_
    refine AO.val (RV.extract rfl rfl) (.none rfl) rfl ?_
    refine AO.val (RV.extract rfl rfl) (.none rfl) rfl ?_
    refine AO.val (RV.assign rfl) (.none rfl) rfl ?_
    refine AO.val (RV.assign rfl) (.none rfl) rfl ?_
    refine AO.nil ?_
    refine AK.seq ?_
    refine AK.seq ?_
    refine AK.region ?_
    refine AO.val (RV.assign rfl) (.none rfl) rfl ?_
    refine AO.nil ?_
    refine AK.block ?_
    refine AK.loop (α := Nat × Option Addr × Nat × Own) (E := fun (i, A', c', p) => [(2, .int .i64 m), (9, .int .i64 (startB lo hi id m)), (7, .slice A' i c'), (10, .int .i64 i), (8, .int .i64 (startA lo hi id m))]) (H := fun (i, A', c', p) => p ++ h) (Inv := fun (i, A', c', p) => i ≤ m.toNat ∧ Row 3 1 (.slice A' i c') i ((rowK lo hi id m i).map (fun x => Value.int .i64 x)) p ∧ i ≤ c') (μ := fun (i, A', c', p) => m.toNat - i) (0, some ⟨b11, 0, none⟩, 0, [(b11, Blk.cells [] 3 (0, 0))]) ?_ (.cons (by exact rfl) (.cons (by exact rfl) (.cons (by exact rfl) (.cons (by exact rfl) (.cons (by exact rfl) .nil))))) ?_ ?_
    · exact ⟨by omega, Row.new (cs := []) rfl, Nat.le_refl _⟩
    · exact List.Sublist.cons_cons _ (List.sublist_cons_self _ _)
    rintro ⟨i, A', c', p⟩ ⟨hik, hr, hc⟩ hih0
    try dsimp only at hih0 ⊢
    have hjb := mul_in (j := (i : Int)) (b := startB lo hi id m) ⟨by omega, by omega⟩ ⟨by omega, by omega⟩
    have hx0 := Int.emod_nonneg (startA lo hi id m + (i : Int) * startB lo hi id m) (show m ≠ 0 by omega)
    have hx1 := Int.emod_lt_of_pos (startA lo hi id m + (i : Int) * startB lo hi id m) (show 0 < m by omega)
    refine AK.seq ?_
    refine AK.seq ?_
    refine AK.region ?_
    refine AO.val (RV.move rfl) (.none rfl) rfl ?_
    refine AO.val (RV.move rfl) (.none rfl) rfl ?_
    refine AO.val (RV.lss rfl rfl) (.none rfl) rfl ?_
    refine AO.nil ?_
    refine AK.cond rfl ?_ ?_
    · intro hc2
      try simp only [decide_eq_true_eq, decide_eq_false_iff_not, Bool.not_eq_true', Bool.not_eq_false', beq_iff_eq] at hc2
      refine AK.skip ?_
      refine AK.seq ?_
      refine AK.block ?_
      refine AK.region ?_
      refine AO.val (RV.move rfl) (.none rfl) rfl ?_
      refine AO.val (RV.move rfl) (.none rfl) rfl ?_
      refine AO.val (RV.move rfl) (.none rfl) rfl ?_
      refine AO.val (RV.move rfl) (.none rfl) rfl ?_
      refine AO.val (by first | exact RV.mulIn rfl rfl (by omega) | exact RV.mul rfl rfl) (.none rfl) rfl ?_
      refine AO.val (by first | exact RV.addIn rfl rfl (by omega) | exact RV.add rfl rfl) (.none rfl) rfl ?_
      refine AO.val (RV.move rfl) (.none rfl) rfl ?_
      refine AO.val (RV.remIn rfl rfl (by omega)) (.none rfl) rfl ?_
      refine AO.eff (EF.buildSeq [.int .i64 ((startA lo hi id m + (i : Int) * startB lo hi id m) % m)] rfl rfl rfl rfl) (.none rfl) rfl ?_
      rintro _ _ ⟨b28, hf28, rfl, rfl⟩
      refine AO.eff (EF.appendS (n' := i + 1) (ys := (rowK lo hi id m (i + 1)).map (fun x => Value.int .i64 x)) rfl rfl hr (Src.of_new (el := 3) (cs := [.int .i64 ((startA lo hi id m + (i : Int) * startB lo hi id m) % m)]) (by simp) 1 1 (Nat.le_refl _)) rfl (by rw [rowK_succ, List.map_append]; rfl) rfl (by decide) rfl (by omega) (by omega)) (.none rfl) rfl ?_
      rintro v9 _ ⟨A1, c1, p1, rfl, hr1, hc1q, rfl⟩
      refine AO.val (RV.assign rfl) (.none rfl) rfl ?_
      refine AO.nil ?_
      refine AK.inBlock ?_
      refine AK.region ?_
      refine AO.val (RV.move rfl) (.none rfl) rfl ?_
      refine AO.val (by first | exact RV.addIn rfl rfl (by omega) | exact RV.add rfl rfl) (.none rfl) rfl ?_
      refine AO.val (RV.assign rfl) (.none rfl) rfl ?_
      refine AO.nil ?_
      -- round ends at FL0T
      refine AK.weak (.cons (by exact rfl) (.cons (by exact rfl) (.cons (by exact rfl) (.cons (by exact rfl) (.cons (by exact rfl) .nil))))) (by exact List.Sublist.append_left (by exact SubO.sub) _) (hih0 (i + 1, A1, c1, p1) ?_ ?_)
      · try dsimp only
        exact ⟨by omega, hr1, hc1q⟩
      · try dsimp only
        omega
    · intro hc2
      try simp only [decide_eq_true_eq, decide_eq_false_iff_not, Bool.not_eq_true', Bool.not_eq_false', beq_iff_eq] at hc2
      refine AK.exit rfl ?_
      refine AK.seq ?_
      refine AK.region ?_
      refine AO.val (RV.move rfl) (.none rfl) rfl ?_
      refine AO.val (RV.assign rfl) (.none rfl) rfl ?_
      refine AO.nil ?_
      -- at FL0F
      clear hih0
      have him : i = m.toNat := by omega
      subst him
      have hrs : rowS lo hi id m = rowK lo hi id m m.toNat := by simp [rowS, hp]
      have hrl : (rowS lo hi id m).length = m.toNat := by rw [hrs, rowK_len]
      refine AK.ret (h' := p ++ h) Try.func56 (.tmp rfl .nil) ?_ (by first | exact SubO.sub | exact List.Sublist.refl _ | exact .cons _ (List.Sublist.refl _) | exact .cons _ (.cons _ (List.Sublist.refl _)) | exact .cons _ (.cons _ (.cons _ (List.Sublist.refl _))))
      rw [hrl, hrs]
      exact ⟨A', c', p, rfl, hr, hc, rfl⟩

theorem psame_spec (B : World) (h : Own) {A A2 : Option Addr} {cap cap2 : Nat} (l : List Int) (hl : Src B h A l.length 1 (l.map (fun x => Value.int .i64 x))) (hm : Src B h A2 l.length 1 (l.map (fun x => Value.int .i64 x))) (hlen : l.length ≤ 1000) : Tri Try.prog B 15 [.slice A l.length cap, .slice A2 l.length cap2] h fun v h' => h = h' ∧ v = .bool true := by
  refine Tri.enter (n := 26) Try.func15 rfl rfl rfl ?_
  simp only [argsE, Nat.reduceAdd]
  try dsimp only [argsE]
  refine AK.seq ?_
  refine AK.region ?_
  refine AO.val (RV.assign rfl) (.none rfl) rfl ?_
  refine AO.nil ?_
  refine AK.seq ?_
  refine AK.seq ?_
  refine AK.region ?_
  refine AO.val (RV.move rfl) (.none rfl) rfl ?_
  refine AO.val (RV.lenS rfl) (.none rfl) rfl ?_
  refine AO.val (RV.move rfl) (.none rfl) rfl ?_
  refine AO.val (RV.lenS rfl) (.none rfl) rfl ?_
  refine AO.val ((RV.neq rfl rfl).to (v' := .bool false) (by simp)) (.none rfl) rfl ?_
  refine AO.nil ?_
  refine AK.condF rfl ?_
  refine AK.skip ?_
  refine AK.seq ?_
  refine AK.seq ?_
  refine AK.region ?_
  refine AO.val (RV.assign rfl) (.none rfl) rfl ?_
  refine AO.nil ?_
  refine AK.block ?_
  refine AK.loop (α := Int) (E := fun i => [(0, .slice A l.length cap), (1, .slice A2 l.length cap2), (5, .int .i64 i)]) (H := fun i => h) (Inv := fun i => 0 ≤ i ∧ i ≤ l.length) (μ := fun i => (l.length - i).toNat) 0 ?_ (.cons (by exact rfl) (.cons (by exact rfl) (.cons (by exact rfl) .nil))) ?_ ?_
  · exact ⟨by omega, by omega⟩
  · exact (by first | exact SubO.sub | exact List.Sublist.refl _ | exact .cons _ (List.Sublist.refl _) | exact .cons _ (.cons _ (List.Sublist.refl _)) | exact .cons _ (.cons _ (.cons _ (List.Sublist.refl _))))
  rintro i ⟨hi0, hin⟩ hih0
  try dsimp only at hih0 ⊢
  refine AK.seq ?_
  refine AK.seq ?_
  refine AK.region ?_
  refine AO.val (RV.move rfl) (.none rfl) rfl ?_
  refine AO.val (RV.move rfl) (.none rfl) rfl ?_
  refine AO.val (RV.lenS rfl) (.none rfl) rfl ?_
  refine AO.val (RV.lss rfl rfl) (.none rfl) rfl ?_
  refine AO.nil ?_
  refine AK.cond rfl ?_ ?_
  · intro hc1
    try simp only [decide_eq_true_eq, decide_eq_false_iff_not, Bool.not_eq_true', Bool.not_eq_false', beq_iff_eq] at hc1
    refine AK.skip ?_
    refine AK.seq ?_
    refine AK.block ?_
    refine AK.seq ?_
    refine AK.draw [] [] mixed ?_
    refine AD.takeP 0 rfl (by kernel_rfl) (RV.move rfl) (.none rfl) rfl ?_
    refine AD.takeP 1 rfl (by kernel_rfl) (RV.move rfl) (.none rfl) rfl ?_
    refine AD.takeP 2 rfl (by kernel_rfl) (by first | exact RV.indexS rfl rfl (by assumption) (by omega) rfl | exact RV.indexAddr rfl rfl (by omega)) (.none rfl) rfl ?_
    refine AD.take 3 rfl (by kernel_rfl) (RV.loadS (enc := Value.int .i64) (l := l) rfl hl (by omega) (by simp)) (.none rfl) rfl ?_
    refine AD.takeP 4 rfl (by kernel_rfl) (RV.move rfl) (.none rfl) rfl ?_
    refine AD.takeP 5 rfl (by kernel_rfl) (RV.move rfl) (.none rfl) rfl ?_
    refine AD.takeP 6 rfl (by kernel_rfl) (by first | exact RV.indexS rfl rfl (by assumption) (by omega) rfl | exact RV.indexAddr rfl rfl (by omega)) (.none rfl) rfl ?_
    refine AD.take 7 rfl (by kernel_rfl) (RV.loadS (enc := Value.int .i64) (l := l) rfl hm (by omega) (by simp)) (.none rfl) rfl ?_
    refine AD.takeP 8 rfl (by kernel_rfl) ((RV.neq rfl rfl).to (v' := .bool false) (by simp)) (.none rfl) rfl ?_
    refine AD.done (by kernel_rfl) ?_
    refine AK.condF rfl ?_
    refine AK.skip ?_
    refine AK.inBlock ?_
    refine AK.region ?_
    refine AO.val (RV.move rfl) (.none rfl) rfl ?_
    refine AO.val (by first | exact RV.addIn rfl rfl (by omega) | exact RV.add rfl rfl) (.none rfl) rfl ?_
    refine AO.val (RV.assign rfl) (.none rfl) rfl ?_
    refine AO.nil ?_
    -- round ends at L0T
    refine AK.weak (.cons (by exact rfl) (.cons (by exact rfl) (.cons (by exact rfl) .nil))) (by first | exact SubO.sub | exact List.Sublist.refl _ | exact .cons _ (List.Sublist.refl _) | exact .cons _ (.cons _ (List.Sublist.refl _)) | exact .cons _ (.cons _ (.cons _ (List.Sublist.refl _)))) (hih0 (i + 1) ?_ ?_)
    · try dsimp only
      exact ⟨by omega, by omega⟩
    · try dsimp only
      omega
  · intro hc1
    try simp only [decide_eq_true_eq, decide_eq_false_iff_not, Bool.not_eq_true', Bool.not_eq_false', beq_iff_eq] at hc1
    refine AK.exit rfl ?_
    refine AK.seq ?_
    refine AK.region ?_
    refine AO.val (RV.assign rfl) (.none rfl) rfl ?_
    refine AO.nil ?_
    -- at L0F
    clear hih0
    refine AK.ret (h' := h) Try.func15 (.tmp rfl .nil) ?_ (by first | exact SubO.sub | exact List.Sublist.refl _ | exact .cons _ (List.Sublist.refl _) | exact .cons _ (.cons _ (List.Sublist.refl _)) | exact .cons _ (.cons _ (.cons _ (List.Sublist.refl _))))
    exact ⟨rfl, rfl⟩

end Go.Proofs.Ytbdlohjmifgcaaa
