/- Walks through the code: what each function that is named here gives back, from any memory that holds its arguments. Written by a program of the claim's author, out of the program's form in Lean. -/
import Derived.Test.YtjhflpangoddaaaW2
set_option linter.unusedSimpArgs false
set_option linter.unusedVariables false
namespace Go.Proofs.Ytjhflpangoddaaa
open Go.Sep Go.Sep.Ring Go.RowKit Go.WideShapes Go.ChangeShapes
theorem own_ : ownKnob Try.prog.godebug = none := by kernel_rfl
theorem laidOut_ : laidOutB Try.prog = true := by kernel_rfl

theorem size_none (B : World) (h : Own)  : Tri Try.prog B 8 [.pointer none] h fun v h' => h = h' ∧ v = .int .i64 0 := by
  refine Tri.enter (n := 10) Try.func8 rfl rfl rfl ?_
  simp only [argsE, Nat.reduceAdd]
  try dsimp only [argsE]
  refine AK.seq ?_
  refine AK.region ?_
  refine AO.val (RV.assign rfl) (.none rfl) rfl ?_
  refine AO.nil ?_
  refine AK.seq ?_
  refine AK.seq ?_
  refine AK.region ?_
  refine AO.val (RV.move rfl) (.none rfl) rfl ?_
  refine AO.val (RV.eqlP rfl rfl) (.none rfl) rfl ?_
  refine AO.nil ?_
  refine AK.condT rfl ?_
  refine AK.seq ?_
  refine AK.region ?_
  refine AO.val (RV.assign rfl) (.none rfl) rfl ?_
  refine AO.nil ?_
  -- at 
  refine AK.ret (h' := h) Try.func8 (.tmp rfl .nil) ?_ (by first | exact SubO.sub | exact List.Sublist.refl _ | exact .cons _ (List.Sublist.refl _) | exact .cons _ (.cons _ (List.Sublist.refl _)) | exact .cons _ (.cons _ (.cons _ (List.Sublist.refl _))))
  exact ⟨rfl, rfl⟩

theorem next_none (B : World) (h : Own)  : Tri Try.prog B 15 [.pointer none] h fun v h' => h = h' ∧ v = .tuple #[.int .i64 0, .bool false] := by
  refine Tri.enter (n := 32) Try.func15 rfl rfl rfl ?_
  simp only [argsE, Nat.reduceAdd]
  try dsimp only [argsE]
  refine AK.seq ?_
  refine AK.region ?_
  refine AO.val (RV.assign rfl) (.none rfl) rfl ?_
  refine AO.val (RV.assign rfl) (.none rfl) rfl ?_
  refine AO.nil ?_
  refine AK.seq ?_
  refine AK.seq ?_
  refine AK.draw [] [] mixed ?_
  refine AD.takeP 0 rfl (by kernel_rfl) (RV.move rfl) (.none rfl) rfl ?_
  refine AD.one 1 (by kernel_rfl) (AE.eff rfl (EF.callF rfl (size_none B _)) (.none rfl) rfl ?_)
  rintro _ _ ⟨rfl, rfl⟩
  refine ⟨(by first | exact .inr fun x hx hM => hx | exact .inr fun x hx hM => List.mem_cons_of_mem _ hx | exact .inr fun x hx hM => List.mem_append_right _ hx), ?_⟩
  refine AD.takeP 2 rfl (by kernel_rfl) (RV.eql rfl rfl) (.none rfl) rfl ?_
  refine AD.takeP 3 rfl (by kernel_rfl) (RV.move rfl) (.none rfl) rfl ?_
  refine AD.caseG (d := 7) (j := 3) rfl rfl ?_ ?_
  · intro hg1
    try simp only [decide_eq_true_eq, decide_eq_false_iff_not, Bool.not_eq_true', Bool.not_eq_false', beq_iff_eq] at hg1
    refine AD.pass 4 rfl (by kernel_rfl) (.some rfl rfl rfl rfl) rfl ?_
    refine AD.pass 5 rfl (by kernel_rfl) (.some rfl rfl rfl rfl) rfl ?_
    refine AD.pass 6 rfl (by kernel_rfl) (.some rfl rfl rfl rfl) rfl ?_
    refine AD.pass 7 rfl (by kernel_rfl) (.some rfl rfl rfl rfl) rfl ?_
    refine AD.pass 8 rfl (by kernel_rfl) (.some rfl rfl rfl rfl) rfl ?_
    refine AD.pass 9 rfl (by kernel_rfl) (.some rfl rfl rfl rfl) rfl ?_
    refine AD.pass 10 rfl (by kernel_rfl) (.some rfl rfl rfl rfl) rfl ?_
    refine AD.pass 11 rfl (by kernel_rfl) (.some rfl rfl rfl rfl) rfl ?_
    refine AD.pass 12 rfl (by kernel_rfl) (.some rfl rfl rfl rfl) rfl ?_
    refine AD.pass 13 rfl (by kernel_rfl) (.some rfl rfl rfl rfl) rfl ?_
    refine AD.pass 14 rfl (by kernel_rfl) (.some rfl rfl rfl rfl) rfl ?_
    refine AD.pass 15 rfl (by kernel_rfl) (.some rfl rfl rfl rfl) rfl ?_
    refine AD.takeP 16 rfl (by kernel_rfl) (RV.pickT rfl rfl) (.none rfl) rfl ?_
    refine AD.done (by kernel_rfl) ?_
    refine AK.condT rfl ?_
    refine AK.seq ?_
    refine AK.region ?_
    refine AO.val (RV.assign rfl) (.none rfl) rfl ?_
    refine AO.val (RV.assign rfl) (.none rfl) rfl ?_
    refine AO.nil ?_
    -- at t
    refine AK.ret (h' := h) Try.func15 (.tmp rfl (.tmp rfl .nil)) ?_ (by first | exact SubO.sub | exact List.Sublist.refl _ | exact .cons _ (List.Sublist.refl _) | exact .cons _ (.cons _ (List.Sublist.refl _)) | exact .cons _ (.cons _ (.cons _ (List.Sublist.refl _))))
    exact ⟨rfl, rfl⟩
  · intro hg1
    try simp only [decide_eq_true_eq, decide_eq_false_iff_not, Bool.not_eq_true', Bool.not_eq_false', beq_iff_eq] at hg1
    exfalso; simp_all

theorem post_none (B : World) (h : Own) (i : Int) : Tri Try.prog B 9 [.pointer none, .int .i64 i] h fun v h' => h = h' ∧ v = .bool false := by
  refine Tri.enter (n := 41) Try.func9 rfl rfl rfl ?_
  simp only [argsE, Nat.reduceAdd]
  try dsimp only [argsE]
  refine AK.seq ?_
  refine AK.region ?_
  refine AO.val (RV.assign rfl) (.none rfl) rfl ?_
  refine AO.nil ?_
  refine AK.seq ?_
  refine AK.seq ?_
  refine AK.draw [] [] mixed ?_
  refine AD.takeP 0 rfl (by kernel_rfl) (RV.move rfl) (.none rfl) rfl ?_
  refine AD.one 1 (by kernel_rfl) (AE.eff rfl (EF.callF rfl (size_none B _)) (.none rfl) rfl ?_)
  rintro _ _ ⟨rfl, rfl⟩
  refine ⟨(by first | exact .inr fun x hx hM => hx | exact .inr fun x hx hM => List.mem_cons_of_mem _ hx | exact .inr fun x hx hM => List.mem_append_right _ hx), ?_⟩
  refine AD.takeP 2 rfl (by kernel_rfl) (RV.eql rfl rfl) (.none rfl) rfl ?_
  refine AD.takeP 3 rfl (by kernel_rfl) (RV.move rfl) (.none rfl) rfl ?_
  refine AD.caseG (d := 8) (j := 3) rfl rfl ?_ ?_
  · intro hg1
    try simp only [decide_eq_true_eq, decide_eq_false_iff_not, Bool.not_eq_true', Bool.not_eq_false', beq_iff_eq] at hg1
    refine AD.pass 4 rfl (by kernel_rfl) (.some rfl rfl rfl rfl) rfl ?_
    refine AD.pass 5 rfl (by kernel_rfl) (.some rfl rfl rfl rfl) rfl ?_
    refine AD.pass 6 rfl (by kernel_rfl) (.some rfl rfl rfl rfl) rfl ?_
    refine AD.pass 7 rfl (by kernel_rfl) (.some rfl rfl rfl rfl) rfl ?_
    refine AD.pass 8 rfl (by kernel_rfl) (.some rfl rfl rfl rfl) rfl ?_
    refine AD.pass 9 rfl (by kernel_rfl) (.some rfl rfl rfl rfl) rfl ?_
    refine AD.pass 10 rfl (by kernel_rfl) (.some rfl rfl rfl rfl) rfl ?_
    refine AD.pass 11 rfl (by kernel_rfl) (.some rfl rfl rfl rfl) rfl ?_
    refine AD.pass 12 rfl (by kernel_rfl) (.some rfl rfl rfl rfl) rfl ?_
    refine AD.pass 13 rfl (by kernel_rfl) (.some rfl rfl rfl rfl) rfl ?_
    refine AD.pass 14 rfl (by kernel_rfl) (.some rfl rfl rfl rfl) rfl ?_
    refine AD.takeP 15 rfl (by kernel_rfl) (RV.pickT rfl rfl) (.none rfl) rfl ?_
    refine AD.done (by kernel_rfl) ?_
    refine AK.condT rfl ?_
    refine AK.seq ?_
    refine AK.region ?_
    refine AO.val (RV.assign rfl) (.none rfl) rfl ?_
    refine AO.nil ?_
    -- at t
    refine AK.ret (h' := h) Try.func9 (.tmp rfl .nil) ?_ (by first | exact SubO.sub | exact List.Sublist.refl _ | exact .cons _ (List.Sublist.refl _) | exact .cons _ (.cons _ (List.Sublist.refl _)) | exact .cons _ (.cons _ (.cons _ (List.Sublist.refl _))))
    exact ⟨rfl, rfl⟩
  · intro hg1
    try simp only [decide_eq_true_eq, decide_eq_false_iff_not, Bool.not_eq_true', Bool.not_eq_false', beq_iff_eq] at hg1
    exfalso; simp_all

theorem done_none (B : World) (h : Own)  : Tri Try.prog B 11 [.pointer none] h fun v h' => h = h' ∧ v = .bool false := by
  refine Tri.enter (n := 31) Try.func11 rfl rfl rfl ?_
  simp only [argsE, Nat.reduceAdd]
  try dsimp only [argsE]
  refine AK.seq ?_
  refine AK.region ?_
  refine AO.val (RV.assign rfl) (.none rfl) rfl ?_
  refine AO.nil ?_
  refine AK.seq ?_
  refine AK.seq ?_
  refine AK.region ?_
  refine AO.val (RV.move rfl) (.none rfl) rfl ?_
  refine AO.eff (EF.callF rfl (next_none B _)) (.none rfl) rfl ?_
  rintro _ _ ⟨rfl, rfl⟩
  refine AO.val (RV.move rfl) (.none rfl) rfl ?_
  refine AO.val (RV.extract rfl rfl) (.none rfl) rfl ?_
  refine AO.val (RV.extract rfl rfl) (.none rfl) rfl ?_
  refine AO.val (RV.assign rfl) (.none rfl) rfl ?_
  refine AO.val (RV.assign rfl) (.none rfl) rfl ?_
  refine AO.nil ?_
  refine AK.seq ?_
  refine AK.region ?_
  refine AO.val (RV.move rfl) (.none rfl) rfl ?_
  refine AO.val (RV.not rfl) (.none rfl) rfl ?_
  refine AO.nil ?_
  refine AK.condT rfl ?_
  refine AK.seq ?_
  refine AK.region ?_
  refine AO.val (RV.assign rfl) (.none rfl) rfl ?_
  refine AO.nil ?_
  -- at 
  refine AK.ret (h' := h) Try.func11 (.tmp rfl .nil) ?_ (by first | exact SubO.sub | exact List.Sublist.refl _ | exact .cons _ (List.Sublist.refl _) | exact .cons _ (.cons _ (List.Sublist.refl _)) | exact .cons _ (.cons _ (.cons _ (List.Sublist.refl _))))
  exact ⟨rfl, rfl⟩

theorem reap_none (B : World) (h : Own)  : Tri Try.prog B 13 [.pointer none] h fun v h' => h = h' ∧ v = .tuple #[.int .i64 0, .bool false] := by
  refine Tri.enter (n := 66) Try.func13 rfl rfl rfl ?_
  simp only [argsE, Nat.reduceAdd]
  try dsimp only [argsE]
  refine AK.seq ?_
  refine AK.region ?_
  refine AO.val (RV.assign rfl) (.none rfl) rfl ?_
  refine AO.val (RV.assign rfl) (.none rfl) rfl ?_
  refine AO.nil ?_
  refine AK.seq ?_
  refine AK.seq ?_
  refine AK.draw [] [] mixed ?_
  refine AD.takeP 0 rfl (by kernel_rfl) (RV.move rfl) (.none rfl) rfl ?_
  refine AD.one 1 (by kernel_rfl) (AE.eff rfl (EF.callF rfl (size_none B _)) (.none rfl) rfl ?_)
  rintro _ _ ⟨rfl, rfl⟩
  refine ⟨(by first | exact .inr fun x hx hM => hx | exact .inr fun x hx hM => List.mem_cons_of_mem _ hx | exact .inr fun x hx hM => List.mem_append_right _ hx), ?_⟩
  refine AD.takeP 2 rfl (by kernel_rfl) (RV.eql rfl rfl) (.none rfl) rfl ?_
  refine AD.takeP 3 rfl (by kernel_rfl) (RV.move rfl) (.none rfl) rfl ?_
  refine AD.caseG (d := 8) (j := 3) rfl rfl ?_ ?_
  · intro hg1
    try simp only [decide_eq_true_eq, decide_eq_false_iff_not, Bool.not_eq_true', Bool.not_eq_false', beq_iff_eq] at hg1
    refine AD.pass 4 rfl (by kernel_rfl) (.some rfl rfl rfl rfl) rfl ?_
    refine AD.pass 5 rfl (by kernel_rfl) (.some rfl rfl rfl rfl) rfl ?_
    refine AD.pass 6 rfl (by kernel_rfl) (.some rfl rfl rfl rfl) rfl ?_
    refine AD.pass 7 rfl (by kernel_rfl) (.some rfl rfl rfl rfl) rfl ?_
    refine AD.pass 8 rfl (by kernel_rfl) (.some rfl rfl rfl rfl) rfl ?_
    refine AD.pass 9 rfl (by kernel_rfl) (.some rfl rfl rfl rfl) rfl ?_
    refine AD.pass 10 rfl (by kernel_rfl) (.some rfl rfl rfl rfl) rfl ?_
    refine AD.pass 11 rfl (by kernel_rfl) (.some rfl rfl rfl rfl) rfl ?_
    refine AD.pass 12 rfl (by kernel_rfl) (.some rfl rfl rfl rfl) rfl ?_
    refine AD.pass 13 rfl (by kernel_rfl) (.some rfl rfl rfl rfl) rfl ?_
    refine AD.pass 14 rfl (by kernel_rfl) (.some rfl rfl rfl rfl) rfl ?_
    refine AD.takeP 15 rfl (by kernel_rfl) (RV.pickT rfl rfl) (.none rfl) rfl ?_
    refine AD.takeP 16 rfl (by kernel_rfl) (RV.move rfl) (.none rfl) rfl ?_
    refine AD.pass 17 rfl (by kernel_rfl) (.some rfl rfl rfl rfl) rfl ?_
    refine AD.pass 18 rfl (by kernel_rfl) (.some rfl rfl rfl rfl) rfl ?_
    refine AD.pass 19 rfl (by kernel_rfl) (.some rfl rfl rfl rfl) rfl ?_
    refine AD.pass 20 rfl (by kernel_rfl) (.some rfl rfl rfl rfl) rfl ?_
    refine AD.pass 21 rfl (by kernel_rfl) (.some rfl rfl rfl rfl) rfl ?_
    refine AD.pass 22 rfl (by kernel_rfl) (.some rfl rfl rfl rfl) rfl ?_
    refine AD.pass 23 rfl (by kernel_rfl) (.some rfl rfl rfl rfl) rfl ?_
    refine AD.pass 24 rfl (by kernel_rfl) (.some rfl rfl rfl rfl) rfl ?_
    refine AD.pass 25 rfl (by kernel_rfl) (.some rfl rfl rfl rfl) rfl ?_
    refine AD.pass 26 rfl (by kernel_rfl) (.some rfl rfl rfl rfl) rfl ?_
    refine AD.pass 27 rfl (by kernel_rfl) (.some rfl rfl rfl rfl) rfl ?_
    refine AD.pass 28 rfl (by kernel_rfl) (.some rfl rfl rfl rfl) rfl ?_
    refine AD.takeP 29 rfl (by kernel_rfl) (RV.pickT rfl rfl) (.none rfl) rfl ?_
    refine AD.done (by kernel_rfl) ?_
    refine AK.condT rfl ?_
    refine AK.seq ?_
    refine AK.region ?_
    refine AO.val (RV.assign rfl) (.none rfl) rfl ?_
    refine AO.val (RV.assign rfl) (.none rfl) rfl ?_
    refine AO.nil ?_
    -- at t
    refine AK.ret (h' := h) Try.func13 (.tmp rfl (.tmp rfl .nil)) ?_ (by first | exact SubO.sub | exact List.Sublist.refl _ | exact .cons _ (List.Sublist.refl _) | exact .cons _ (.cons _ (List.Sublist.refl _)) | exact .cons _ (.cons _ (.cons _ (List.Sublist.refl _))))
    exact ⟨rfl, rfl⟩
  · intro hg1
    try simp only [decide_eq_true_eq, decide_eq_false_iff_not, Bool.not_eq_true', Bool.not_eq_false', beq_iff_eq] at hg1
    exfalso; simp_all

theorem own_none (B : World) (h : Own) (k : Int) : Tri Try.prog B 20 [.pointer none, .int .i64 k] h fun v h' => h = h' ∧ v = .bool false := by
  refine Tri.enter (n := 23) Try.func20 rfl rfl rfl ?_
  simp only [argsE, Nat.reduceAdd]
  try dsimp only [argsE]
  refine AK.seq ?_
  refine AK.region ?_
  refine AO.val (RV.assign rfl) (.none rfl) rfl ?_
  refine AO.nil ?_
  refine AK.seq ?_
  refine AK.region ?_
  refine AO.val (RV.move rfl) (.none rfl) rfl ?_
  refine AO.val (RV.geq rfl rfl) (.none rfl) rfl ?_
  refine AO.val (RV.move rfl) (.none rfl) rfl ?_
  refine AO.caseG rfl rfl rfl ?_ ?_
  · intro hg1
    try simp only [decide_eq_true_eq, decide_eq_false_iff_not, Bool.not_eq_true', Bool.not_eq_false', beq_iff_eq] at hg1
    refine AO.val (RV.move rfl) (.some rfl rfl rfl rfl) rfl ?_
    refine AO.val (RV.move rfl) (.some rfl rfl rfl rfl) rfl ?_
    refine AO.eff (EF.callF rfl (size_none B _)) (.some rfl rfl rfl rfl) rfl ?_
    rintro _ _ ⟨rfl, rfl⟩
    refine AO.val ((RV.lss rfl rfl).to (v' := .bool false) (by simp; omega)) (.some rfl rfl rfl rfl) rfl ?_
    refine AO.val (RV.pickT rfl rfl) (.none rfl) rfl ?_
    refine AO.val (RV.move rfl) (.none rfl) rfl ?_
    refine AO.pass (.some rfl rfl rfl rfl) rfl ?_
    refine AO.pass (.some rfl rfl rfl rfl) rfl ?_
    refine AO.pass (.some rfl rfl rfl rfl) rfl ?_
    refine AO.pass (.some rfl rfl rfl rfl) rfl ?_
    refine AO.pass (.some rfl rfl rfl rfl) rfl ?_
    refine AO.pass (.some rfl rfl rfl rfl) rfl ?_
    refine AO.pass (.some rfl rfl rfl rfl) rfl ?_
    refine AO.pass (.some rfl rfl rfl rfl) rfl ?_
    refine AO.val (RV.pickF rfl rfl) (.none rfl) rfl ?_
    refine AO.val (RV.assign rfl) (.none rfl) rfl ?_
    refine AO.nil ?_
    -- at t
    refine AK.ret (h' := h) Try.func20 (.tmp rfl .nil) ?_ (by first | exact SubO.sub | exact List.Sublist.refl _ | exact .cons _ (List.Sublist.refl _) | exact .cons _ (.cons _ (List.Sublist.refl _)) | exact .cons _ (.cons _ (.cons _ (List.Sublist.refl _))))
    exact ⟨rfl, rfl⟩
  · intro hg1
    try simp only [decide_eq_true_eq, decide_eq_false_iff_not, Bool.not_eq_true', Bool.not_eq_false', beq_iff_eq] at hg1
    refine AO.pass (.some rfl rfl rfl rfl) rfl ?_
    refine AO.pass (.some rfl rfl rfl rfl) rfl ?_
    refine AO.pass (.some rfl rfl rfl rfl) rfl ?_
    refine AO.pass (.some rfl rfl rfl rfl) rfl ?_
    refine AO.val (RV.pickF rfl rfl) (.none rfl) rfl ?_
    refine AO.val (RV.move rfl) (.none rfl) rfl ?_
    refine AO.pass (.some rfl rfl rfl rfl) rfl ?_
    refine AO.pass (.some rfl rfl rfl rfl) rfl ?_
    refine AO.pass (.some rfl rfl rfl rfl) rfl ?_
    refine AO.pass (.some rfl rfl rfl rfl) rfl ?_
    refine AO.pass (.some rfl rfl rfl rfl) rfl ?_
    refine AO.pass (.some rfl rfl rfl rfl) rfl ?_
    refine AO.pass (.some rfl rfl rfl rfl) rfl ?_
    refine AO.pass (.some rfl rfl rfl rfl) rfl ?_
    refine AO.val (RV.pickF rfl rfl) (.none rfl) rfl ?_
    refine AO.val (RV.assign rfl) (.none rfl) rfl ?_
    refine AO.nil ?_
    -- at f
    refine AK.ret (h' := h) Try.func20 (.tmp rfl .nil) ?_ (by first | exact SubO.sub | exact List.Sublist.refl _ | exact .cons _ (List.Sublist.refl _) | exact .cons _ (.cons _ (List.Sublist.refl _)) | exact .cons _ (.cons _ (.cons _ (List.Sublist.refl _))))
    exact ⟨rfl, rfl⟩

theorem count_none (B : World) (h : Own) (x : Nat) : Tri Try.prog B 25 [.pointer none, .func (.func x) #[] #[]] h fun v h' => h = h' ∧ v = .int .i64 0 := by
  refine Tri.enter (n := 25) Try.func25 rfl rfl rfl ?_
  simp only [argsE, Nat.reduceAdd]
  try dsimp only [argsE]
  refine AK.seq ?_
  refine AK.region ?_
  refine AO.val (RV.assign rfl) (.none rfl) rfl ?_
  refine AO.nil ?_
  refine AK.seq ?_
  refine AK.region ?_
  refine AO.val (RV.assign rfl) (.none rfl) rfl ?_
  refine AO.nil ?_
  refine AK.seq ?_
  refine AK.seq ?_
  refine AK.region ?_
  refine AO.val (RV.move rfl) (.none rfl) rfl ?_
  refine AO.eff (EF.callF rfl (size_none B _)) (.none rfl) rfl ?_
  rintro _ _ ⟨rfl, rfl⟩
  refine AO.val (RV.move rfl) (.none rfl) rfl ?_
  refine AO.nil ?_
  refine AK.block ?_
  refine AK.loop (α := Int) (E := fun i => [(5, .int .i64 0), (8, .int .i64 0), (9, .int .i64 i)]) (H := fun i => h) (Inv := fun i => i = 0) (μ := fun i => 0) 0 ?_ (.cons (by exact rfl) (.cons (by exact rfl) (.cons (by exact rfl) .nil))) ?_ ?_
  · rfl
  · exact (by first | exact SubO.sub | exact List.Sublist.refl _ | exact .cons _ (List.Sublist.refl _) | exact .cons _ (.cons _ (List.Sublist.refl _)) | exact .cons _ (.cons _ (.cons _ (List.Sublist.refl _))))
  rintro i rfl hih0
  try dsimp only at hih0 ⊢
  refine AK.seq ?_
  refine AK.region ?_
  refine AO.val (RV.lss rfl rfl) (.none rfl) rfl ?_
  refine AO.nil ?_
  refine AK.seq ?_
  refine AK.cond rfl ?_ ?_
  · intro hc1
    try simp only [decide_eq_true_eq, decide_eq_false_iff_not, Bool.not_eq_true', Bool.not_eq_false', beq_iff_eq] at hc1
    exfalso; omega
  · intro hc1
    try simp only [decide_eq_true_eq, decide_eq_false_iff_not, Bool.not_eq_true', Bool.not_eq_false', beq_iff_eq] at hc1
    refine AK.exit rfl ?_
    refine AK.seq ?_
    refine AK.region ?_
    refine AO.val (RV.move rfl) (.none rfl) rfl ?_
    refine AO.val (RV.assign rfl) (.none rfl) rfl ?_
    refine AO.nil ?_
    -- at L0F
    clear hih0
    refine AK.ret (h' := h) Try.func25 (.tmp rfl .nil) ?_ (by first | exact SubO.sub | exact List.Sublist.refl _ | exact .cons _ (List.Sublist.refl _) | exact .cons _ (.cons _ (List.Sublist.refl _)) | exact .cons _ (.cons _ (.cons _ (List.Sublist.refl _))))
    exact ⟨rfl, rfl⟩

theorem posted_none (B : World) (h : Own)  : Tri Try.prog B 17 [.pointer none] h fun v h' => h = h' ∧ v = .int .i64 0 := by
  refine Tri.enter (n := 5) Try.func17 rfl rfl rfl ?_
  simp only [argsE, Nat.reduceAdd]
  try dsimp only [argsE]
  refine AK.seq ?_
  refine AK.region ?_
  refine AO.val (RV.assign rfl) (.none rfl) rfl ?_
  refine AO.nil ?_
  refine AK.seq ?_
  refine AK.region ?_
  refine AO.val (RV.move rfl) (.none rfl) rfl ?_
  refine AO.eff (EF.callF rfl (count_none B _ 26)) (.none rfl) rfl ?_
  rintro _ _ ⟨rfl, rfl⟩
  refine AO.val (RV.assign rfl) (.none rfl) rfl ?_
  refine AO.nil ?_
  -- at 
  refine AK.ret (h' := h) Try.func17 (.tmp rfl .nil) ?_ (by first | exact SubO.sub | exact List.Sublist.refl _ | exact .cons _ (List.Sublist.refl _) | exact .cons _ (.cons _ (List.Sublist.refl _)) | exact .cons _ (.cons _ (.cons _ (List.Sublist.refl _))))
  exact ⟨rfl, rfl⟩

theorem ready_none (B : World) (h : Own)  : Tri Try.prog B 18 [.pointer none] h fun v h' => h = h' ∧ v = .int .i64 0 := by
  refine Tri.enter (n := 5) Try.func18 rfl rfl rfl ?_
  simp only [argsE, Nat.reduceAdd]
  try dsimp only [argsE]
  refine AK.seq ?_
  refine AK.region ?_
  refine AO.val (RV.assign rfl) (.none rfl) rfl ?_
  refine AO.nil ?_
  refine AK.seq ?_
  refine AK.region ?_
  refine AO.val (RV.move rfl) (.none rfl) rfl ?_
  refine AO.eff (EF.callF rfl (count_none B _ 27)) (.none rfl) rfl ?_
  rintro _ _ ⟨rfl, rfl⟩
  refine AO.val (RV.assign rfl) (.none rfl) rfl ?_
  refine AO.nil ?_
  -- at 
  refine AK.ret (h' := h) Try.func18 (.tmp rfl .nil) ?_ (by first | exact SubO.sub | exact List.Sublist.refl _ | exact .cons _ (List.Sublist.refl _) | exact .cons _ (.cons _ (List.Sublist.refl _)) | exact .cons _ (.cons _ (.cons _ (List.Sublist.refl _))))
  exact ⟨rfl, rfl⟩

theorem room_none (B : World) (h : Own)  : Tri Try.prog B 19 [.pointer none] h fun v h' => h = h' ∧ v = .int .i64 0 := by
  refine Tri.enter (n := 5) Try.func19 rfl rfl rfl ?_
  simp only [argsE, Nat.reduceAdd]
  try dsimp only [argsE]
  refine AK.seq ?_
  refine AK.region ?_
  refine AO.val (RV.assign rfl) (.none rfl) rfl ?_
  refine AO.nil ?_
  refine AK.seq ?_
  refine AK.region ?_
  refine AO.val (RV.move rfl) (.none rfl) rfl ?_
  refine AO.eff (EF.callF rfl (count_none B _ 28)) (.none rfl) rfl ?_
  rintro _ _ ⟨rfl, rfl⟩
  refine AO.val (RV.assign rfl) (.none rfl) rfl ?_
  refine AO.nil ?_
  -- at 
  refine AK.ret (h' := h) Try.func19 (.tmp rfl .nil) ?_ (by first | exact SubO.sub | exact List.Sublist.refl _ | exact .cons _ (List.Sublist.refl _) | exact .cons _ (.cons _ (List.Sublist.refl _)) | exact .cons _ (.cons _ (.cons _ (List.Sublist.refl _))))
  exact ⟨rfl, rfl⟩

theorem lives_spec (B : World) (h : Own)  : Tri Try.prog B 22 [] h fun v h' => v = .bool true := by
  have r0 := rel_new 1
  have r1 := (rel_post r0 7).1
  have r2 := (rel_post r1 8).1
  have r3 := (rel_done r2).1
  have r4 := (rel_post r3 8).1
  have r5 := (rel_reap r4).1
  have r6 := (rel_post r5 8).1
  have e0 : (postR (newR 1) 7).2 = true := by decide +kernel
  have e1 : (postR (postR (newR 1) 7).1 8).2 = false := by decide +kernel
  have e2 : (doneR (postR (postR (newR 1) 7).1 8).1).2 = true := by decide +kernel
  have e3 : (postR (doneR (postR (postR (newR 1) 7).1 8).1).1 8).2 = false := by decide +kernel
  have e4 : (reapR (postR (doneR (postR (postR (newR 1) 7).1 8).1).1 8).1).2.1 = 7 := by decide +kernel
  have e5 : (postR (reapR (postR (doneR (postR (postR (newR 1) 7).1 8).1).1 8).1).1 8).2 = true := by decide +kernel
  have e7 : (reapR (postR (doneR (postR (postR (newR 1) 7).1 8).1).1 8).1).2.2 = true := by decide +kernel
  have e8 : ownR (postR (reapR (postR (doneR (postR (postR (newR 1) 7).1 8).1).1 8).1).1 8).1 0 = true := by decide +kernel
  refine Tri.enter (n := 39) Try.func22 rfl rfl rfl ?_
  try dsimp only [argsE]
  refine AK.seq ?_
  refine AK.region ?_
  refine AO.val (RV.assign rfl) (.none rfl) rfl ?_
  refine AO.nil ?_
  refine AK.seq ?_
  refine AK.region ?_
  refine AO.eff (EF.callF rfl (new_spec B _ 1)) (.none rfl) rfl ?_
  rintro _ _ ⟨p, q, rfl, rfl⟩
  refine AO.val (RV.assign rfl) (.none rfl) rfl ?_
  refine AO.nil ?_
  refine AK.seq ?_
  refine AK.seq ?_
  refine AK.region ?_
  refine AO.val (RV.move rfl) (.none rfl) rfl ?_
  refine AO.eff (EF.callF rfl (post_spec B [] _ p q (newR 1).sl.length (newR 1) r0.ok rfl 7)) (.none rfl) rfl ?_
  rintro _ _ ⟨rfl, rfl⟩
  simp only [List.nil_append]
  rw [e0]
  refine AO.val (RV.not rfl) (.none rfl) rfl ?_
  refine AO.val (RV.move rfl) (.none rfl) rfl ?_
  refine AO.val (RV.move rfl) (.some rfl rfl rfl rfl) rfl ?_
  refine AO.eff (EF.callF rfl (post_spec B [] _ p q (newR 1).sl.length (postR (newR 1) 7).1 r1.ok rfl 8)) (.some rfl rfl rfl rfl) rfl ?_
  rintro _ _ ⟨rfl, rfl⟩
  simp only [List.nil_append]
  rw [e1]
  refine AO.val (RV.pickF rfl rfl) (.none rfl) rfl ?_
  refine AO.val (RV.move rfl) (.none rfl) rfl ?_
  refine AO.val (RV.move rfl) (.some rfl rfl rfl rfl) rfl ?_
  refine AO.eff (EF.callF rfl (done_spec B [] _ p q (newR 1).sl.length (postR (postR (newR 1) 7).1 8).1 r2.ok rfl)) (.some rfl rfl rfl rfl) rfl ?_
  rintro _ _ ⟨rfl, rfl⟩
  simp only [List.nil_append]
  rw [e2]
  refine AO.val (RV.not rfl) (.some rfl rfl rfl rfl) rfl ?_
  refine AO.val (RV.pickF rfl rfl) (.none rfl) rfl ?_
  refine AO.val (RV.move rfl) (.none rfl) rfl ?_
  refine AO.val (RV.move rfl) (.some rfl rfl rfl rfl) rfl ?_
  refine AO.eff (EF.callF rfl (post_spec B [] _ p q (newR 1).sl.length (doneR (postR (postR (newR 1) 7).1 8).1).1 r3.ok rfl 8)) (.some rfl rfl rfl rfl) rfl ?_
  rintro _ _ ⟨rfl, rfl⟩
  simp only [List.nil_append]
  rw [e3]
  refine AO.val (RV.pickF rfl rfl) (.none rfl) rfl ?_
  refine AO.nil ?_
  refine AK.condF rfl ?_
  refine AK.skip ?_
  refine AK.seq ?_
  refine AK.region ?_
  refine AO.val (RV.move rfl) (.none rfl) rfl ?_
  refine AO.eff (EF.callF rfl (reap_spec B [] _ p q (newR 1).sl.length (postR (doneR (postR (postR (newR 1) 7).1 8).1).1 8).1 r4.ok rfl)) (.none rfl) rfl ?_
  rintro _ _ ⟨rfl, rfl⟩
  simp only [List.nil_append]
  rw [e4, e7]
  refine AO.val (RV.move rfl) (.none rfl) rfl ?_
  refine AO.val (RV.extract rfl rfl) (.none rfl) rfl ?_
  refine AO.val (RV.extract rfl rfl) (.none rfl) rfl ?_
  refine AO.val (RV.assign rfl) (.none rfl) rfl ?_
  refine AO.val (RV.assign rfl) (.none rfl) rfl ?_
  refine AO.nil ?_
  refine AK.seq ?_
  refine AK.region ?_
  refine AO.val (RV.move rfl) (.none rfl) rfl ?_
  refine AO.val ((RV.eql rfl rfl).to (v' := .bool true) (by simp)) (.none rfl) rfl ?_
  refine AO.val (RV.move rfl) (.none rfl) rfl ?_
  refine AO.val (RV.move rfl) (.some rfl rfl rfl rfl) rfl ?_
  refine AO.val (RV.pickT rfl rfl) (.none rfl) rfl ?_
  refine AO.val (RV.move rfl) (.none rfl) rfl ?_
  refine AO.val (RV.move rfl) (.some rfl rfl rfl rfl) rfl ?_
  refine AO.eff (EF.callF rfl (post_spec B [] _ p q (newR 1).sl.length (reapR (postR (doneR (postR (postR (newR 1) 7).1 8).1).1 8).1).1 r5.ok rfl 8)) (.some rfl rfl rfl rfl) rfl ?_
  rintro _ _ ⟨rfl, rfl⟩
  simp only [List.nil_append]
  rw [e5]
  refine AO.val (RV.pickT rfl rfl) (.none rfl) rfl ?_
  refine AO.val (RV.move rfl) (.none rfl) rfl ?_
  refine AO.val (RV.move rfl) (.some rfl rfl rfl rfl) rfl ?_
  refine AO.eff (EF.callF rfl (own_spec B [] _ p q (newR 1).sl.length (postR (reapR (postR (doneR (postR (postR (newR 1) 7).1 8).1).1 8).1).1 8).1 r6.ok rfl 0)) (.some rfl rfl rfl rfl) rfl ?_
  rintro _ _ ⟨rfl, rfl⟩
  simp only [List.nil_append]
  rw [e8]
  refine AO.val (RV.pickT rfl rfl) (.none rfl) rfl ?_
  refine AO.val (RV.assign rfl) (.none rfl) rfl ?_
  refine AO.nil ?_
  -- at 
  refine AK.ret (h' := []) Try.func22 (.tmp rfl .nil) ?_ (List.nil_sublist _)
  rfl

theorem none_law (B : World) (h : Own) (i : Int) : Tri Try.prog B 5 [.int .i64 i] h fun v h' => v = .bool true := by
  refine Tri.enter (n := 66) Try.func5 rfl rfl rfl ?_
  simp only [argsE, Nat.reduceAdd]
  try dsimp only [argsE]
  refine AK.seq ?_
  refine AK.region ?_
  refine AO.val (RV.assign rfl) (.none rfl) rfl ?_
  refine AO.nil ?_
  refine AK.seq ?_
  refine AK.region ?_
  refine AO.val (RV.assign rfl) (.none rfl) rfl ?_
  refine AO.nil ?_
  refine AK.seq ?_
  refine AK.region ?_
  refine AO.val (RV.move rfl) (.none rfl) rfl ?_
  refine AO.eff (EF.callF rfl (next_none B _)) (.none rfl) rfl ?_
  rintro _ _ ⟨rfl, rfl⟩
  refine AO.val (RV.move rfl) (.none rfl) rfl ?_
  refine AO.val (RV.extract rfl rfl) (.none rfl) rfl ?_
  refine AO.val (RV.extract rfl rfl) (.none rfl) rfl ?_
  refine AO.val (RV.assign rfl) (.none rfl) rfl ?_
  refine AO.val (RV.assign rfl) (.none rfl) rfl ?_
  refine AO.nil ?_
  refine AK.seq ?_
  refine AK.region ?_
  refine AO.val (RV.move rfl) (.none rfl) rfl ?_
  refine AO.eff (EF.callF rfl (reap_none B _)) (.none rfl) rfl ?_
  rintro _ _ ⟨rfl, rfl⟩
  refine AO.val (RV.move rfl) (.none rfl) rfl ?_
  refine AO.val (RV.extract rfl rfl) (.none rfl) rfl ?_
  refine AO.val (RV.extract rfl rfl) (.none rfl) rfl ?_
  refine AO.val (RV.assign rfl) (.none rfl) rfl ?_
  refine AO.val (RV.assign rfl) (.none rfl) rfl ?_
  refine AO.nil ?_
  refine AK.seq ?_
  refine AK.region ?_
  refine AO.val (RV.move rfl) (.none rfl) rfl ?_
  refine AO.val ((RV.eql rfl rfl).to (v' := .bool true) (by simp)) (.none rfl) rfl ?_
  refine AO.val (RV.move rfl) (.none rfl) rfl ?_
  refine AO.val (RV.move rfl) (.some rfl rfl rfl rfl) rfl ?_
  refine AO.val (RV.not rfl) (.some rfl rfl rfl rfl) rfl ?_
  refine AO.val (RV.pickT rfl rfl) (.none rfl) rfl ?_
  refine AO.val (RV.move rfl) (.none rfl) rfl ?_
  refine AO.val (RV.move rfl) (.some rfl rfl rfl rfl) rfl ?_
  refine AO.val ((RV.eql rfl rfl).to (v' := .bool true) (by simp)) (.some rfl rfl rfl rfl) rfl ?_
  refine AO.val (RV.pickT rfl rfl) (.none rfl) rfl ?_
  refine AO.val (RV.move rfl) (.none rfl) rfl ?_
  refine AO.val (RV.move rfl) (.some rfl rfl rfl rfl) rfl ?_
  refine AO.val (RV.not rfl) (.some rfl rfl rfl rfl) rfl ?_
  refine AO.val (RV.pickT rfl rfl) (.none rfl) rfl ?_
  refine AO.val (RV.move rfl) (.none rfl) rfl ?_
  refine AO.val (RV.move rfl) (.some rfl rfl rfl rfl) rfl ?_
  refine AO.val (RV.move rfl) (.some rfl rfl rfl rfl) rfl ?_
  refine AO.eff (EF.callF rfl (post_none B _ _)) (.some rfl rfl rfl rfl) rfl ?_
  rintro _ _ ⟨rfl, rfl⟩
  refine AO.val (RV.not rfl) (.some rfl rfl rfl rfl) rfl ?_
  refine AO.val (RV.pickT rfl rfl) (.none rfl) rfl ?_
  refine AO.val (RV.move rfl) (.none rfl) rfl ?_
  refine AO.val (RV.move rfl) (.some rfl rfl rfl rfl) rfl ?_
  refine AO.eff (EF.callF rfl (done_none B _)) (.some rfl rfl rfl rfl) rfl ?_
  rintro _ _ ⟨rfl, rfl⟩
  refine AO.val (RV.not rfl) (.some rfl rfl rfl rfl) rfl ?_
  refine AO.val (RV.pickT rfl rfl) (.none rfl) rfl ?_
  refine AO.val (RV.move rfl) (.none rfl) rfl ?_
  refine AO.val (RV.move rfl) (.some rfl rfl rfl rfl) rfl ?_
  refine AO.eff (EF.callF rfl (posted_none B _)) (.some rfl rfl rfl rfl) rfl ?_
  rintro _ _ ⟨rfl, rfl⟩
  refine AO.val (RV.move rfl) (.some rfl rfl rfl rfl) rfl ?_
  refine AO.eff (EF.callF rfl (ready_none B _)) (.some rfl rfl rfl rfl) rfl ?_
  rintro _ _ ⟨rfl, rfl⟩
  refine AO.val (by first | exact RV.addIn rfl rfl (by omega) | exact RV.add rfl rfl) (.some rfl rfl rfl rfl) rfl ?_
  refine AO.val (RV.move rfl) (.some rfl rfl rfl rfl) rfl ?_
  refine AO.eff (EF.callF rfl (room_none B _)) (.some rfl rfl rfl rfl) rfl ?_
  rintro _ _ ⟨rfl, rfl⟩
  refine AO.val (by first | exact RV.addIn rfl rfl (by omega) | exact RV.add rfl rfl) (.some rfl rfl rfl rfl) rfl ?_
  refine AO.val (RV.move rfl) (.some rfl rfl rfl rfl) rfl ?_
  refine AO.eff (EF.callF rfl (size_none B _)) (.some rfl rfl rfl rfl) rfl ?_
  rintro _ _ ⟨rfl, rfl⟩
  refine AO.val (by first | exact RV.addIn rfl rfl (by omega) | exact RV.add rfl rfl) (.some rfl rfl rfl rfl) rfl ?_
  refine AO.val ((RV.eql rfl rfl).to (v' := .bool true) (by simp)) (.some rfl rfl rfl rfl) rfl ?_
  refine AO.val (RV.pickT rfl rfl) (.none rfl) rfl ?_
  refine AO.val (RV.move rfl) (.none rfl) rfl ?_
  refine AO.val (RV.move rfl) (.some rfl rfl rfl rfl) rfl ?_
  refine AO.val (RV.move rfl) (.some rfl rfl rfl rfl) rfl ?_
  refine AO.eff (EF.callF rfl (own_none B _ _)) (.some rfl rfl rfl rfl) rfl ?_
  rintro _ _ ⟨rfl, rfl⟩
  refine AO.val (RV.not rfl) (.some rfl rfl rfl rfl) rfl ?_
  refine AO.val (RV.pickT rfl rfl) (.none rfl) rfl ?_
  refine AO.val (RV.move rfl) (.none rfl) rfl ?_
  refine AO.eff (EF.callF rfl (lives_spec B _)) (.some rfl rfl rfl rfl) rfl ?_
  rintro _ _ rfl
  refine AO.val (RV.pickT rfl rfl) (.none rfl) rfl ?_
  refine AO.val (RV.assign rfl) (.none rfl) rfl ?_
  refine AO.nil ?_
  -- at 
  refine AK.ret (h' := []) Try.func5 (.tmp rfl .nil) ?_ (List.nil_sublist _)
  rfl

set_option maxRecDepth 100000 in
theorem ringNone_lifted (os : Os) (started : os.Started) (H : Type) (enc : TypeId × Value → H) :
    ReturnsInHanded {} Try.checked os 5 .any (Rows.ringNoneSpec.pre6 enc Try.prog Try.f5 Rows.ringNoneRow.domain false) (Rows.ringNoneSpec.post enc Try.prog Try.f5 false true false false) := by
  refine returnsInHanded_of_change (C := Try.checked) own_ started (by kernel_rfl) Try.func5
    (ChangeSpec.witness6 (enc := enc) (C := Try.checked) false ⟨#[], #[(Value.int IntKind.i64 0)], []⟩ 8 (by kernel_rfl) (by kernel_rfl) (by kernel_rfl) (by kernel_rfl)) ?_
  intro W base args ds gs before hval0 hW hcnd _
  have hval : ∀ (j : Nat) t v, Try.f5.params[j]? = some t → args[j]? = some v → Value.okWide Try.prog W .any base t v := hval0
  have hW' := hW
  obtain ⟨p, q, hA0, hV, rfl, hfz, hnd⟩ := hW
  have hA : DataW.TrodAll enc Try.prog W 0 (fun _ => true) true Try.f5.params.toList args.toList ds p := hA0
  rw [Try.params5] at hA hval
  obtain ⟨args⟩ := args
  simp only at hA
  obtain ⟨v0, vs0, d0, ds0, p0, q0, e0a, e0b, e0c, t0, r0⟩ := trodAll_cons hA
  subst e0a e0b e0c
  obtain ⟨rfl, rfl, rfl⟩ := trodAll_nil r0
  obtain ⟨rfl, rfl⟩ := trodVars_none hV
  have hlt := hW'.lt
  have k0 : Value.okWide Try.prog W .any base 3 v0 := hval 0 _ v0 rfl rfl
  obtain ⟨i, w0, i_lo, i_hi⟩ := Dec.argI k0 t0
  have htri : Tri Try.prog W 5 [v0] [] (fun v _ => v = .bool true) := by
    subst w0
    exact none_law W [] i
  clear w0
  refine (htri.run W (Models.start W)).mono fun e W' ⟨v, h2, he, m2, hv⟩ => ?_
  subst he; subst hv
  have hb := m2.below
  refine ⟨_, rfl, post_of_below (pa := (p0 ++ ([]))) (pv := []) hW' (fun _ _ _ => trodAll_mk1 (shut_bool (Try.underlying4) true)) (fun sp hsp => ?_) (fun _ _ => rfl) rfl hb (ok_one (t := 4) (by kernel_rfl) rfl ?_)⟩
  · refine TAcons (WideElems.Trod_stays laidOut_ (by kernel_rfl) (of_decide_eq_true (by kernel_rfl)) t0 (fun x hx => hb.same (hlt x (by simp [hx]))) (fun x hx => hsp x (by simp [hx]))) ?_
    rfl
  · exact okBool Try.underlying4

theorem ringNone_holds : Rows.RingNoneSaid :=
  OpenClaim.holds_of_wide 5 Try.f5 rfl rfl rfl rfl rfl rfl rfl ⟨rfl, rfl, rfl, rfl, rfl⟩ rfl rfl rfl rfl rfl (by kernel_rfl) Try.func5 (by kernel_rfl)
    (of_decide_eq_true (by kernel_rfl)) (by unfold Func.isWrapper; first | (rw [if_pos (by decide +kernel)]; kernel_rfl) | (rw [if_neg (by decide +kernel)]; exact ⟨rfl, rfl⟩))
    (fun os started H enc _ => ringNone_lifted os started H enc)

theorem does_law (B : World) (n look : Int) {A : Option Addr} {cap : Nat} (l : List Deed) (hcap : l.length ≤ cap) (hln : l.length ≤ 9223372036854775807) (hl : Src B [] A l.length 2 (flat encD l)) : Tri Try.prog B 3 [.int .i64 n, .slice A l.length cap, .int .i64 look] [] fun v h' => v = .bool true := by
  refine Tri.enter (n := 176) Try.func3 rfl rfl rfl ?_
  simp only [argsE, Nat.reduceAdd]
  try dsimp only [argsE]
  refine AK.seq ?_
  refine AK.region ?_
  refine AO.val (RV.assign rfl) (.none rfl) rfl ?_
  refine AO.nil ?_
  refine AK.seq ?_
  refine AK.region ?_
  refine AO.val (RV.move rfl) (.none rfl) rfl ?_
  refine AO.eff (EF.callF rfl (new_spec B _ n)) (.none rfl) rfl ?_
  rintro _ _ ⟨p, q, rfl, rfl⟩
  refine AO.val (RV.move rfl) (.none rfl) rfl ?_
  refine AO.eff (EF.callF rfl (rnew_spec B _ n)) (.none rfl) rfl ?_
  rintro _ _ ⟨c, rfl, rfl⟩
  refine AO.val (RV.assign rfl) (.none rfl) rfl ?_
  refine AO.val (RV.assign rfl) (.none rfl) rfl ?_
  refine AO.nil ?_
  refine AK.seq ?_
  refine AK.seq ?_
  refine AK.draw [] [] mixed ?_
  refine AD.takeP 0 rfl (by kernel_rfl) (RV.move rfl) (.none rfl) rfl ?_
  refine AD.takeP 1 rfl (by kernel_rfl) (RV.eqlP rfl rfl) (.none rfl) rfl ?_
  refine AD.takeP 2 rfl (by kernel_rfl) (RV.move rfl) (.none rfl) rfl ?_
  refine AD.takeP 3 rfl (by kernel_rfl) (RV.move rfl) (.some rfl rfl rfl rfl) rfl ?_
  refine AD.takeP 5 rfl (by kernel_rfl) (RV.move rfl) (.some rfl rfl rfl rfl) rfl ?_
  refine AD.takeP 6 rfl (by kernel_rfl) (RV.nilCheck rfl) (.some rfl rfl rfl rfl) rfl ?_
  refine AD.takeP 7 rfl (by kernel_rfl) (by first | exact RV.fieldAddr rfl | exact RV.fieldAddrA rfl) (.some rfl rfl rfl rfl) rfl ?_
  refine AD.take 8 rfl (by kernel_rfl) (by first | exact RV.loadO rfl rfl (by simp) | exact RV.loadSF rfl (by assumption) (fun _ => rfl) (by omega) rfl rfl (by simp) | exact RV.loadS rfl (by assumption) (by omega) (by simp)) (.some rfl rfl rfl rfl) rfl ?_
  refine AD.one 4 (by kernel_rfl) (AE.eff rfl (EF.callF rfl (size_spec B [(c, _)] [] p q (newR n).sl.length (newR n) (rel_new n).ok rfl)) (.some rfl rfl rfl rfl) rfl ?_)
  rintro _ _ ⟨rfl, rfl⟩
  simp only [List.nil_append, List.cons_append]
  refine ⟨(by first | exact .inr fun x hx hM => hx | exact .inr fun x hx hM => List.mem_cons_of_mem _ hx | exact .inr fun x hx hM => List.mem_append_right _ hx), ?_⟩
  refine AD.takeP 9 rfl (by kernel_rfl) ((RV.neq rfl rfl).to (v' := .bool false) (by simp; exact newR_N n)) (.some rfl rfl rfl rfl) rfl ?_
  refine AD.takeP 10 rfl (by kernel_rfl) (RV.pickF rfl rfl) (.none rfl) rfl ?_
  refine AD.done (by kernel_rfl) ?_
  refine AK.condF rfl ?_
  refine AK.skip ?_
  refine AK.seq ?_
  refine AK.seq ?_
  refine AK.region ?_
  refine AO.val (RV.assign rfl) (.none rfl) rfl ?_
  refine AO.nil ?_
  refine AK.block ?_
  refine AK.perm (h' := [(p, Blk.cells [.slice (some ⟨q, 0, none⟩) (newR n).sl.length (newR n).sl.length, .int .i64 ((newR n)).post, .int .i64 ((newR n)).work, .int .i64 ((newR n)).reap] 41 (0, 0)), (q, Blk.cells (flat encS ((newR n)).sl) 44 (0, 0)), (c, Blk.cells [.int .i64 (min (max n 1) 64), .slice none (newQ).posted.length 0, .slice none (newQ).ready.length 0, .int .i64 (newQ).ever, .int .i64 (newQ).worked] 30 (0, 0))]) (by exact (List.perm_append_comm (l₁ := [_]) (l₂ := [_, _]))) ?_
  refine AK.loop (α := Int × RS × QS × Option Addr × Nat × Option Addr × Nat × Own) (E := fun (i, s, t, Ap, cp, Ar, cr, D) => [(1, .slice A l.length cap), (2, .int .i64 look), (7, .pointer (some ⟨p, 0, none⟩)), (8, .pointer (some ⟨c, 0, none⟩)), (9, .int .i64 i)]) (H := fun (i, s, t, Ap, cp, Ar, cr, D) => (p, Blk.cells [.slice (some ⟨q, 0, none⟩) (newR n).sl.length (newR n).sl.length, .int .i64 (s).post, .int .i64 (s).work, .int .i64 (s).reap] 41 (0, 0)) :: (q, Blk.cells (flat encS (s).sl) 44 (0, 0)) :: (c, Blk.cells [.int .i64 (min (max n 1) 64), .slice Ap (t).posted.length cp, .slice Ar (t).ready.length cr, .int .i64 (t).ever, .int .i64 (t).worked] 30 (0, 0)) :: D) (Inv := fun (i, s, t, Ap, cp, Ar, cr, D) => 0 ≤ i ∧ i ≤ l.length ∧ i ≤ 80 ∧ RI B D n i s t Ap cp Ar cr) (μ := fun (i, s, t, Ap, cp, Ar, cr, D) => (l.length - i).toNat) (0, newR n, newQ, none, 0, none, 0, []) ?_ (.cons (by exact rfl) (.cons (by exact rfl) (.cons (by exact rfl) (.cons (by exact rfl) (.cons (by exact rfl) .nil))))) ?_ ?_
  · exact ⟨by omega, by omega, by omega, rel_new n, rfl, ⟨⟨rfl, by simp [newQ]⟩, ⟨rfl, by simp [newQ]⟩, by simp [newQ], by simp [newQ]⟩, by simp [newQ]⟩
  · exact (by first | exact SubO.sub | exact List.Sublist.refl _ | exact .cons _ (List.Sublist.refl _) | exact .cons _ (.cons _ (List.Sublist.refl _)) | exact .cons _ (.cons _ (.cons _ (List.Sublist.refl _))))
  rintro ⟨i, s, t, Ap, cp, Ar, cr, D⟩ ⟨hi0, hin, hi80, ri⟩ hih0
  try dsimp only at hih0 ⊢
  refine AK.seq ?_
  refine AK.seq ?_
  refine AK.region ?_
  refine AO.val (RV.move rfl) (.none rfl) rfl ?_
  refine AO.val (RV.move rfl) (.none rfl) rfl ?_
  refine AO.val (RV.lenS rfl) (.none rfl) rfl ?_
  refine AO.val (RV.lss rfl rfl) (.none rfl) rfl ?_
  refine AO.val (RV.move rfl) (.none rfl) rfl ?_
  refine AO.caseG rfl rfl rfl ?_ ?_
  · intro hg1
    try simp only [decide_eq_true_eq, decide_eq_false_iff_not, Bool.not_eq_true', Bool.not_eq_false', beq_iff_eq] at hg1
    refine AO.val (RV.move rfl) (.some rfl rfl rfl rfl) rfl ?_
    refine AO.val (RV.lss rfl rfl) (.some rfl rfl rfl rfl) rfl ?_
    refine AO.val (RV.pickT rfl rfl) (.none rfl) rfl ?_
    refine AO.nil ?_
    refine AK.cond rfl ?_ ?_
    · intro hc2
      try simp only [decide_eq_true_eq, decide_eq_false_iff_not, Bool.not_eq_true', Bool.not_eq_false', beq_iff_eq] at hc2
      have rel := ri.rel
      have ok := rel.ok
      have hsl := ri.sl
      have qm := ri.qm
      have hc0 := rel.c0
      have hwe := rel.we
      have hnm := rel.nm
      have hev := ri.ev
      have hNN := ri.N
      rw [hNN] at hnm
      have hn1 : 1 ≤ (min (max n 1) 64) ∧ (min (max n 1) 64) ≤ 64 := by omega
      have hb1 : 0 ≤ t.ever ∧ t.ever ≤ 1000 := by omega
      have hb2 : 0 ≤ t.worked ∧ t.worked ≤ 1000 := by omega
      obtain ⟨r1, e1⟩ := rel_post rel (lget l i).2.1
      rw [hNN] at r1 e1
      obtain ⟨r2, e2⟩ := rel_done rel
      obtain ⟨r3, e3⟩ := rel_reap rel
      refine AK.skip ?_
      refine AK.seq ?_
      refine AK.block ?_
      refine AK.seq ?_
      refine AK.seq ?_
      refine AK.region ?_
      refine AO.val (RV.move rfl) (.none rfl) rfl ?_
      refine AO.val (RV.move rfl) (.none rfl) rfl ?_
      refine AO.val (by first | exact RV.indexS rfl rfl (by assumption) (by omega) rfl | exact RV.indexAddr rfl rfl (by omega)) (.none rfl) rfl ?_
      refine AO.val (by first | exact RV.fieldAddr rfl | exact RV.fieldAddrA rfl) (.none rfl) rfl ?_
      refine AO.val (RV.loadSF rfl hl (fun _ => rfl) (by omega) rfl rfl (by simp)) (.none rfl) rfl ?_
      refine AO.nil ?_
      refine AK.cut (α := RS × QS × Option Addr × Nat × Option Addr × Nat × Own) (E := fun (s, t, Ap, cp, Ar, cr, D) => [(1, .slice A l.length cap), (2, .int .i64 look), (7, .pointer (some ⟨p, 0, none⟩)), (8, .pointer (some ⟨c, 0, none⟩)), (9, .int .i64 i)]) (H := fun (s, t, Ap, cp, Ar, cr, D) => (p, Blk.cells [.slice (some ⟨q, 0, none⟩) (newR n).sl.length (newR n).sl.length, .int .i64 (s).post, .int .i64 (s).work, .int .i64 (s).reap] 41 (0, 0)) :: (q, Blk.cells (flat encS (s).sl) 44 (0, 0)) :: (c, Blk.cells [.int .i64 (min (max n 1) 64), .slice Ap (t).posted.length cp, .slice Ar (t).ready.length cr, .int .i64 (t).ever, .int .i64 (t).worked] 30 (0, 0)) :: D) (Inv := fun (s, t, Ap, cp, Ar, cr, D) => RI B D n (i + 1) s t Ap cp Ar cr) ?_ ?_
      · rintro ⟨s, t, Ap, cp, Ar, cr, D⟩ ri
        try dsimp only
        clear ok hsl qm hc0 hwe hnm hev hNN hn1 hb1 hb2 r1 e1 r2 e2 r3 e3
        have rel := ri.rel
        have ok := rel.ok
        have hsl := ri.sl
        have qm := ri.qm
        have hc0 := rel.c0
        have hwe := rel.we
        have hnm := rel.nm
        have hev := ri.ev
        have hNN := ri.N
        rw [hNN] at hnm
        have hn1 : 1 ≤ (min (max n 1) 64) ∧ (min (max n 1) 64) ≤ 64 := by omega
        have hb1 : 0 ≤ t.ever ∧ t.ever ≤ 1000 := by omega
        have hb2 : 0 ≤ t.worked ∧ t.worked ≤ 1000 := by omega
        refine AK.seq ?_
        refine AK.region ?_
        refine AO.val (RV.move rfl) (.none rfl) rfl ?_
        refine AO.eff (EF.callF rfl (next_spec B [] _ p q (newR n).sl.length s ok hsl)) (.none rfl) rfl ?_
        rintro _ _ ⟨rfl, rfl⟩
        simp only [List.nil_append, List.cons_append]
        refine AO.val (RV.move rfl) (.none rfl) rfl ?_
        refine AO.val (RV.extract rfl rfl) (.none rfl) rfl ?_
        refine AO.val (RV.extract rfl rfl) (.none rfl) rfl ?_
        refine AO.val (RV.assign rfl) (.none rfl) rfl ?_
        refine AO.val (RV.assign rfl) (.none rfl) rfl ?_
        refine AO.nil ?_
        refine AK.seq ?_
        refine AK.region ?_
        refine AO.val (RV.move rfl) (.none rfl) rfl ?_
        refine AO.eff (EF.callF rfl (rnext_spec B [(p, _), (q, _)] D c (min (max n 1) 64) t qm hn1 hnm hb1 hb2)) (.none rfl) rfl ?_
        rintro _ _ ⟨rfl, rfl⟩
        simp only [List.nil_append, List.cons_append]
        refine AO.val (RV.move rfl) (.none rfl) rfl ?_
        refine AO.val (RV.extract rfl rfl) (.none rfl) rfl ?_
        refine AO.val (RV.extract rfl rfl) (.none rfl) rfl ?_
        refine AO.val (RV.assign rfl) (.none rfl) rfl ?_
        refine AO.val (RV.assign rfl) (.none rfl) rfl ?_
        refine AO.nil ?_
        refine AK.seq ?_
        refine AK.draw [] [] mixed ?_
        refine AD.takeP 0 rfl (by kernel_rfl) (RV.move rfl) (.none rfl) rfl ?_
        refine AD.takeP 1 rfl (by kernel_rfl) (RV.move rfl) (.none rfl) rfl ?_
        refine AD.takeP 2 rfl (by kernel_rfl) ((RV.neq rfl rfl).to (v' := .bool false) (by simp; rw [rel_next rel])) (.none rfl) rfl ?_
        refine AD.takeP 3 rfl (by kernel_rfl) (RV.move rfl) (.none rfl) rfl ?_
        refine AD.takeP 4 rfl (by kernel_rfl) (RV.move rfl) (.some rfl rfl rfl rfl) rfl ?_
        refine AD.takeP 5 rfl (by kernel_rfl) (RV.move rfl) (.some rfl rfl rfl rfl) rfl ?_
        refine AD.takeP 6 rfl (by kernel_rfl) ((RV.neqB rfl rfl).to (v' := .bool false) (by simp; rw [rel_next rel])) (.some rfl rfl rfl rfl) rfl ?_
        refine AD.takeP 7 rfl (by kernel_rfl) (RV.pickF rfl rfl) (.none rfl) rfl ?_
        refine AD.takeP 8 rfl (by kernel_rfl) (RV.move rfl) (.none rfl) rfl ?_
        refine AD.takeP 9 rfl (by kernel_rfl) (RV.move rfl) (.some rfl rfl rfl rfl) rfl ?_
        refine AD.takeP 11 rfl (by kernel_rfl) (RV.move rfl) (.some rfl rfl rfl rfl) rfl ?_
        refine AD.takeP 12 rfl (by kernel_rfl) (RV.nilCheck rfl) (.some rfl rfl rfl rfl) rfl ?_
        refine AD.takeP 13 rfl (by kernel_rfl) (by first | exact RV.fieldAddr rfl | exact RV.fieldAddrA rfl) (.some rfl rfl rfl rfl) rfl ?_
        refine AD.take 14 rfl (by kernel_rfl) (by first | exact RV.loadO rfl rfl (by simp) | exact RV.loadSF rfl (by assumption) (fun _ => rfl) (by omega) rfl rfl (by simp) | exact RV.loadS rfl (by assumption) (by omega) (by simp)) (.some rfl rfl rfl rfl) rfl ?_
        refine AD.takeP 15 rfl (by kernel_rfl) (RV.lenS rfl) (.some rfl rfl rfl rfl) rfl ?_
        refine AD.one 10 (by kernel_rfl) (AE.eff rfl (EF.callF rfl (posted_spec B [] _ p q (newR n).sl.length s ok hsl)) (.some rfl rfl rfl rfl) rfl ?_)
        rintro _ _ ⟨rfl, rfl⟩
        simp only [List.nil_append, List.cons_append]
        refine ⟨(by first | exact .inr fun x hx hM => hx | exact .inr fun x hx hM => List.mem_cons_of_mem _ hx | exact .inr fun x hx hM => List.mem_append_right _ hx), ?_⟩
        refine AD.takeP 16 rfl (by kernel_rfl) ((RV.neq rfl rfl).to (v' := .bool false) (by simp; exact rel.cown)) (.some rfl rfl rfl rfl) rfl ?_
        refine AD.takeP 17 rfl (by kernel_rfl) (RV.pickF rfl rfl) (.none rfl) rfl ?_
        refine AD.takeP 18 rfl (by kernel_rfl) (RV.move rfl) (.none rfl) rfl ?_
        refine AD.takeP 19 rfl (by kernel_rfl) (RV.move rfl) (.some rfl rfl rfl rfl) rfl ?_
        refine AD.takeP 21 rfl (by kernel_rfl) (RV.move rfl) (.some rfl rfl rfl rfl) rfl ?_
        refine AD.takeP 22 rfl (by kernel_rfl) (RV.nilCheck rfl) (.some rfl rfl rfl rfl) rfl ?_
        refine AD.takeP 23 rfl (by kernel_rfl) (by first | exact RV.fieldAddr rfl | exact RV.fieldAddrA rfl) (.some rfl rfl rfl rfl) rfl ?_
        refine AD.take 24 rfl (by kernel_rfl) (by first | exact RV.loadO rfl rfl (by simp) | exact RV.loadSF rfl (by assumption) (fun _ => rfl) (by omega) rfl rfl (by simp) | exact RV.loadS rfl (by assumption) (by omega) (by simp)) (.some rfl rfl rfl rfl) rfl ?_
        refine AD.takeP 25 rfl (by kernel_rfl) (RV.lenS rfl) (.some rfl rfl rfl rfl) rfl ?_
        refine AD.one 20 (by kernel_rfl) (AE.eff rfl (EF.callF rfl (ready_spec B [] _ p q (newR n).sl.length s ok hsl)) (.some rfl rfl rfl rfl) rfl ?_)
        rintro _ _ ⟨rfl, rfl⟩
        simp only [List.nil_append, List.cons_append]
        refine ⟨(by first | exact .inr fun x hx hM => hx | exact .inr fun x hx hM => List.mem_cons_of_mem _ hx | exact .inr fun x hx hM => List.mem_append_right _ hx), ?_⟩
        refine AD.takeP 26 rfl (by kernel_rfl) ((RV.neq rfl rfl).to (v' := .bool false) (by simp; exact rel.cready)) (.some rfl rfl rfl rfl) rfl ?_
        refine AD.takeP 27 rfl (by kernel_rfl) (RV.pickF rfl rfl) (.none rfl) rfl ?_
        refine AD.takeP 28 rfl (by kernel_rfl) (RV.move rfl) (.none rfl) rfl ?_
        refine AD.takeP 29 rfl (by kernel_rfl) (RV.move rfl) (.some rfl rfl rfl rfl) rfl ?_
        refine AD.takeP 31 rfl (by kernel_rfl) (RV.move rfl) (.some rfl rfl rfl rfl) rfl ?_
        refine AD.takeP 32 rfl (by kernel_rfl) (RV.nilCheck rfl) (.some rfl rfl rfl rfl) rfl ?_
        refine AD.takeP 33 rfl (by kernel_rfl) (by first | exact RV.fieldAddr rfl | exact RV.fieldAddrA rfl) (.some rfl rfl rfl rfl) rfl ?_
        refine AD.take 34 rfl (by kernel_rfl) (by first | exact RV.loadO rfl rfl (by simp) | exact RV.loadSF rfl (by assumption) (fun _ => rfl) (by omega) rfl rfl (by simp) | exact RV.loadS rfl (by assumption) (by omega) (by simp)) (.some rfl rfl rfl rfl) rfl ?_
        refine AD.takeP 35 rfl (by kernel_rfl) (RV.move rfl) (.some rfl rfl rfl rfl) rfl ?_
        refine AD.takeP 36 rfl (by kernel_rfl) (RV.nilCheck rfl) (.some rfl rfl rfl rfl) rfl ?_
        refine AD.takeP 37 rfl (by kernel_rfl) (by first | exact RV.fieldAddr rfl | exact RV.fieldAddrA rfl) (.some rfl rfl rfl rfl) rfl ?_
        refine AD.take 38 rfl (by kernel_rfl) (by first | exact RV.loadO rfl rfl (by simp) | exact RV.loadSF rfl (by assumption) (fun _ => rfl) (by omega) rfl rfl (by simp) | exact RV.loadS rfl (by assumption) (by omega) (by simp)) (.some rfl rfl rfl rfl) rfl ?_
        refine AD.takeP 39 rfl (by kernel_rfl) (RV.lenS rfl) (.some rfl rfl rfl rfl) rfl ?_
        refine AD.takeP 40 rfl (by kernel_rfl) (by first | exact RV.subIn rfl rfl (by omega) | exact RV.sub rfl rfl) (.some rfl rfl rfl rfl) rfl ?_
        refine AD.takeP 41 rfl (by kernel_rfl) (RV.move rfl) (.some rfl rfl rfl rfl) rfl ?_
        refine AD.takeP 42 rfl (by kernel_rfl) (RV.nilCheck rfl) (.some rfl rfl rfl rfl) rfl ?_
        refine AD.takeP 43 rfl (by kernel_rfl) (by first | exact RV.fieldAddr rfl | exact RV.fieldAddrA rfl) (.some rfl rfl rfl rfl) rfl ?_
        refine AD.take 44 rfl (by kernel_rfl) (by first | exact RV.loadO rfl rfl (by simp) | exact RV.loadSF rfl (by assumption) (fun _ => rfl) (by omega) rfl rfl (by simp) | exact RV.loadS rfl (by assumption) (by omega) (by simp)) (.some rfl rfl rfl rfl) rfl ?_
        refine AD.takeP 45 rfl (by kernel_rfl) (RV.lenS rfl) (.some rfl rfl rfl rfl) rfl ?_
        refine AD.takeP 46 rfl (by kernel_rfl) (by first | exact RV.subIn rfl rfl (by omega) | exact RV.sub rfl rfl) (.some rfl rfl rfl rfl) rfl ?_
        refine AD.one 30 (by kernel_rfl) (AE.eff rfl (EF.callF rfl (room_spec B [] _ p q (newR n).sl.length s ok hsl)) (.some rfl rfl rfl rfl) rfl ?_)
        rintro _ _ ⟨rfl, rfl⟩
        simp only [List.nil_append, List.cons_append]
        refine ⟨(by first | exact .inr fun x hx hM => hx | exact .inr fun x hx hM => List.mem_cons_of_mem _ hx | exact .inr fun x hx hM => List.mem_append_right _ hx), ?_⟩
        refine AD.takeP 47 rfl (by kernel_rfl) ((RV.neq rfl rfl).to (v' := .bool false) (by simp; have := rel.croom; rw [hNN] at this; exact this)) (.some rfl rfl rfl rfl) rfl ?_
        refine AD.takeP 48 rfl (by kernel_rfl) (RV.pickF rfl rfl) (.none rfl) rfl ?_
        refine AD.takeP 49 rfl (by kernel_rfl) (RV.move rfl) (.none rfl) rfl ?_
        refine AD.takeP 50 rfl (by kernel_rfl) (RV.move rfl) (.some rfl rfl rfl rfl) rfl ?_
        refine AD.takeP 51 rfl (by kernel_rfl) (RV.move rfl) (.some rfl rfl rfl rfl) rfl ?_
        refine AD.takeP 53 rfl (by kernel_rfl) (RV.move rfl) (.some rfl rfl rfl rfl) rfl ?_
        refine AD.takeP 54 rfl (by kernel_rfl) (RV.move rfl) (.some rfl rfl rfl rfl) rfl ?_
        refine AD.one 52 (by kernel_rfl) (AE.eff rfl (EF.callF rfl (own_spec B [] _ p q (newR n).sl.length s ok hsl _)) (.some rfl rfl rfl rfl) rfl ?_)
        rintro _ _ ⟨rfl, rfl⟩
        simp only [List.nil_append, List.cons_append]
        refine ⟨(by first | exact .inr fun x hx hM => hx | exact .inr fun x hx hM => List.mem_cons_of_mem _ hx | exact .inr fun x hx hM => List.mem_append_right _ hx), ?_⟩
        refine AD.one 55 (by kernel_rfl) (AE.eff rfl (EF.callF rfl (rown_spec B [(p, _), (q, _)] D c (min (max n 1) 64) t qm hn1 hnm hb1 hb2 look)) (.some rfl rfl rfl rfl) rfl ?_)
        rintro _ _ ⟨rfl, bo, rfl, hbo⟩
        simp only [List.nil_append, List.cons_append]
        refine ⟨(by first | exact .inr fun x hx hM => hx | exact .inr fun x hx hM => List.mem_cons_of_mem _ hx | exact .inr fun x hx hM => List.mem_append_right _ hx), ?_⟩
        refine AD.takeP 56 rfl (by kernel_rfl) ((RV.neqB rfl rfl).to (v' := .bool false) (by simp; rw [Bool.eq_iff_iff, rel_own rel, hNN, hbo])) (.some rfl rfl rfl rfl) rfl ?_
        refine AD.takeP 57 rfl (by kernel_rfl) (RV.pickF rfl rfl) (.none rfl) rfl ?_
        refine AD.takeP 58 rfl (by kernel_rfl) (RV.move rfl) (.none rfl) rfl ?_
        refine AD.takeP 59 rfl (by kernel_rfl) (RV.move rfl) (.some rfl rfl rfl rfl) rfl ?_
        refine AD.takeP 60 rfl (by kernel_rfl) (RV.move rfl) (.some rfl rfl rfl rfl) rfl ?_
        refine AD.takeP 61 rfl (by kernel_rfl) (RV.move rfl) (.some rfl rfl rfl rfl) rfl ?_
        refine AD.takeP 62 rfl (by kernel_rfl) (by first | exact RV.indexS rfl rfl (by assumption) (by omega) rfl | exact RV.indexAddr rfl rfl (by omega)) (.some rfl rfl rfl rfl) rfl ?_
        refine AD.takeP 63 rfl (by kernel_rfl) (by first | exact RV.fieldAddr rfl | exact RV.fieldAddrA rfl) (.some rfl rfl rfl rfl) rfl ?_
        refine AD.takeP 64 rfl (by kernel_rfl) (by first | exact RV.loadO rfl rfl (by simp) | exact RV.loadSF rfl (by assumption) (fun _ => rfl) (by omega) rfl rfl (by simp) | exact RV.loadS rfl (by assumption) (by omega) (by simp)) (.some rfl rfl rfl rfl) rfl ?_
        refine AD.takeP 66 rfl (by kernel_rfl) (RV.move rfl) (.some rfl rfl rfl rfl) rfl ?_
        refine AD.takeP 67 rfl (by kernel_rfl) (RV.move rfl) (.some rfl rfl rfl rfl) rfl ?_
        refine AD.takeP 68 rfl (by kernel_rfl) (RV.move rfl) (.some rfl rfl rfl rfl) rfl ?_
        refine AD.takeP 69 rfl (by kernel_rfl) (by first | exact RV.indexS rfl rfl (by assumption) (by omega) rfl | exact RV.indexAddr rfl rfl (by omega)) (.some rfl rfl rfl rfl) rfl ?_
        refine AD.takeP 70 rfl (by kernel_rfl) (by first | exact RV.fieldAddr rfl | exact RV.fieldAddrA rfl) (.some rfl rfl rfl rfl) rfl ?_
        refine AD.takeP 71 rfl (by kernel_rfl) (by first | exact RV.loadO rfl rfl (by simp) | exact RV.loadSF rfl (by assumption) (fun _ => rfl) (by omega) rfl rfl (by simp) | exact RV.loadS rfl (by assumption) (by omega) (by simp)) (.some rfl rfl rfl rfl) rfl ?_
        refine AD.one 65 (by kernel_rfl) (AE.eff rfl (EF.callF rfl (own_spec B [] _ p q (newR n).sl.length s ok hsl _)) (.some rfl rfl rfl rfl) rfl ?_)
        rintro _ _ ⟨rfl, rfl⟩
        simp only [List.nil_append, List.cons_append]
        refine ⟨(by first | exact .inr fun x hx hM => hx | exact .inr fun x hx hM => List.mem_cons_of_mem _ hx | exact .inr fun x hx hM => List.mem_append_right _ hx), ?_⟩
        refine AD.one 72 (by kernel_rfl) (AE.eff rfl (EF.callF rfl (rown_spec B [(p, _), (q, _)] D c (min (max n 1) 64) t qm hn1 hnm hb1 hb2 (lget l i).2.1)) (.some rfl rfl rfl rfl) rfl ?_)
        rintro _ _ ⟨rfl, bp, rfl, hbp⟩
        simp only [List.nil_append, List.cons_append]
        refine ⟨(by first | exact .inr fun x hx hM => hx | exact .inr fun x hx hM => List.mem_cons_of_mem _ hx | exact .inr fun x hx hM => List.mem_append_right _ hx), ?_⟩
        refine AD.takeP 73 rfl (by kernel_rfl) ((RV.neqB rfl rfl).to (v' := .bool false) (by simp; rw [Bool.eq_iff_iff, rel_own rel, hNN, hbp])) (.some rfl rfl rfl rfl) rfl ?_
        refine AD.takeP 74 rfl (by kernel_rfl) (RV.pickF rfl rfl) (.none rfl) rfl ?_
        refine AD.done (by kernel_rfl) ?_
        refine AK.condF rfl ?_
        refine AK.skip ?_
        refine AK.inBlock ?_
        refine AK.region ?_
        refine AO.val (RV.move rfl) (.none rfl) rfl ?_
        refine AO.val (by first | exact RV.addIn rfl rfl (by omega) | exact RV.add rfl rfl) (.none rfl) rfl ?_
        refine AO.val (RV.assign rfl) (.none rfl) rfl ?_
        refine AO.nil ?_
        -- round ends at L0tTJb2
        refine AK.weak (.cons (by exact rfl) (.cons (by exact rfl) (.cons (by exact rfl) (.cons (by exact rfl) (.cons (by exact rfl) .nil))))) (by first | exact SubO.sub | exact List.Sublist.refl _ | exact .cons _ (List.Sublist.refl _) | exact .cons _ (.cons _ (List.Sublist.refl _)) | exact .cons _ (.cons _ (.cons _ (List.Sublist.refl _)))) (hih0 (i + 1, s, t, Ap, cp, Ar, cr, D) ?_ ?_)
        · try dsimp only
          exact ⟨by omega, by omega, by omega, ri⟩
        · try dsimp only
          omega
      · intro hjb2
        try dsimp only at hjb2
        refine AK.block ?_
        refine AK.seq ?_
        refine AK.region ?_
        refine AO.val (RV.eql rfl rfl) (.none rfl) rfl ?_
        refine AO.val (RV.assign rfl) (.none rfl) rfl ?_
        refine AO.nil ?_
        refine AK.cond rfl ?_ ?_
        · intro hc3
          try simp only [decide_eq_true_eq, decide_eq_false_iff_not, Bool.not_eq_true', Bool.not_eq_false', beq_iff_eq] at hc3
          refine AK.seq ?_
          refine AK.draw [] [6, 13] mixed ?_
          refine AD.takeP 0 rfl (by kernel_rfl) (RV.move rfl) (.none rfl) rfl ?_
          refine AD.takeP 1 rfl (by kernel_rfl) (RV.move rfl) (.none rfl) rfl ?_
          refine AD.takeP 2 rfl (by kernel_rfl) (RV.move rfl) (.none rfl) rfl ?_
          refine AD.takeP 3 rfl (by kernel_rfl) (by first | exact RV.indexS rfl rfl (by assumption) (by omega) rfl | exact RV.indexAddr rfl rfl (by omega)) (.none rfl) rfl ?_
          refine AD.takeP 4 rfl (by kernel_rfl) (by first | exact RV.fieldAddr rfl | exact RV.fieldAddrA rfl) (.none rfl) rfl ?_
          refine AD.takeP 5 rfl (by kernel_rfl) (by first | exact RV.loadO rfl rfl (by simp) | exact RV.loadSF rfl (by assumption) (fun _ => rfl) (by omega) rfl rfl (by simp) | exact RV.loadS rfl (by assumption) (by omega) (by simp)) (.none rfl) rfl ?_
          refine AD.takeP 7 rfl (by kernel_rfl) (RV.move rfl) (.none rfl) rfl ?_
          refine AD.takeP 8 rfl (by kernel_rfl) (RV.move rfl) (.none rfl) rfl ?_
          refine AD.takeP 9 rfl (by kernel_rfl) (RV.move rfl) (.none rfl) rfl ?_
          refine AD.takeP 10 rfl (by kernel_rfl) (by first | exact RV.indexS rfl rfl (by assumption) (by omega) rfl | exact RV.indexAddr rfl rfl (by omega)) (.none rfl) rfl ?_
          refine AD.takeP 11 rfl (by kernel_rfl) (by first | exact RV.fieldAddr rfl | exact RV.fieldAddrA rfl) (.none rfl) rfl ?_
          refine AD.takeP 12 rfl (by kernel_rfl) (by first | exact RV.loadO rfl rfl (by simp) | exact RV.loadSF rfl (by assumption) (fun _ => rfl) (by omega) rfl rfl (by simp) | exact RV.loadS rfl (by assumption) (by omega) (by simp)) (.none rfl) rfl ?_
          refine AD.one 6 (by kernel_rfl) (AE.eff rfl (EF.callF rfl (post_spec B [] _ p q (newR n).sl.length s ok hsl _)) (.none rfl) rfl ?_)
          rintro _ _ ⟨rfl, rfl⟩
          simp only [List.nil_append, List.cons_append]
          refine ⟨.inl (by kernel_rfl), ?_⟩
          refine AD.one 13 (by kernel_rfl) (AE.eff rfl (EF.callF rfl (rpost_spec B [(p, _), (q, _)] D c (min (max n 1) 64) t qm hn1 hnm hb1 hb2 _)) (.none rfl) rfl ?_)
          rintro _ _ ⟨rfl, Ap', cp', Ar', cr', part, rfl, qm'⟩
          simp only [List.nil_append, List.cons_append]
          refine ⟨.inl (by kernel_rfl), ?_⟩
          refine AD.takeP 14 rfl (by kernel_rfl) ((RV.neqB rfl rfl).to (v' := .bool false) (by simp; exact e1)) (.none rfl) rfl ?_
          refine AD.done (by kernel_rfl) ?_
          refine AK.condF rfl ?_
          refine AK.skip ?_
          refine AK.inBlock ?_
          -- ways meet at L0tTT
          refine AK.weak (.cons (by exact rfl) (.cons (by exact rfl) (.cons (by exact rfl) (.cons (by exact rfl) (.cons (by exact rfl) .nil))))) (by first | exact SubO.sub | exact List.Sublist.refl _ | exact .cons _ (List.Sublist.refl _) | exact .cons _ (.cons _ (List.Sublist.refl _)) | exact .cons _ (.cons _ (.cons _ (List.Sublist.refl _)))) (hjb2 ((postR s (lget l i).2.1).1, (postQ (min (max n 1) 64) t (lget l i).2.1).1, Ap', cp', Ar', cr', part ++ D) ?_)
          · try dsimp only
            have := ever_post (min (max n 1) 64) t (lget l i).2.1
            exact ⟨r1, (len_post _ _).trans hsl, qm', by omega⟩
        · intro hc3
          try simp only [decide_eq_true_eq, decide_eq_false_iff_not, Bool.not_eq_true', Bool.not_eq_false', beq_iff_eq] at hc3
          refine AK.seq ?_
          refine AK.region ?_
          refine AO.val (RV.eql rfl rfl) (.none rfl) rfl ?_
          refine AO.val (RV.assign rfl) (.none rfl) rfl ?_
          refine AO.nil ?_
          refine AK.cond rfl ?_ ?_
          · intro hc4
            try simp only [decide_eq_true_eq, decide_eq_false_iff_not, Bool.not_eq_true', Bool.not_eq_false', beq_iff_eq] at hc4
            refine AK.seq ?_
            refine AK.region ?_
            refine AO.val (RV.move rfl) (.none rfl) rfl ?_
            refine AO.eff (EF.callF rfl (done_spec B [] _ p q (newR n).sl.length s ok hsl)) (.none rfl) rfl ?_
            rintro _ _ ⟨rfl, rfl⟩
            simp only [List.nil_append, List.cons_append]
            refine AO.val (RV.move rfl) (.none rfl) rfl ?_
            refine AO.eff (EF.callF rfl (rdone_spec B [(p, _), (q, _)] D c (min (max n 1) 64) t qm hn1 hnm hb1 hb2)) (.none rfl) rfl ?_
            rintro _ _ ⟨rfl, Ap', cp', Ar', cr', part, rfl, qm'⟩
            simp only [List.nil_append, List.cons_append]
            refine AO.val ((RV.neqB rfl rfl).to (v' := .bool false) (by simp; exact e2)) (.none rfl) rfl ?_
            refine AO.nil ?_
            refine AK.condF rfl ?_
            refine AK.skip ?_
            refine AK.inBlock ?_
            -- ways meet at L0tTFT
            refine AK.weak (.cons (by exact rfl) (.cons (by exact rfl) (.cons (by exact rfl) (.cons (by exact rfl) (.cons (by exact rfl) .nil))))) (by first | exact SubO.sub | exact List.Sublist.refl _ | exact .cons _ (List.Sublist.refl _) | exact .cons _ (.cons _ (List.Sublist.refl _)) | exact .cons _ (.cons _ (.cons _ (List.Sublist.refl _)))) (hjb2 ((doneR s).1, (doneQ t).1, Ap', cp', Ar', cr', part ++ D) ?_)
            · try dsimp only
              have := ever_done t
              exact ⟨r2, (len_done _).trans hsl, qm', by omega⟩
          · intro hc4
            try simp only [decide_eq_true_eq, decide_eq_false_iff_not, Bool.not_eq_true', Bool.not_eq_false', beq_iff_eq] at hc4
            refine AK.seq ?_
            refine AK.region ?_
            refine AO.val (RV.move rfl) (.none rfl) rfl ?_
            refine AO.eff (EF.callF rfl (reap_spec B [] _ p q (newR n).sl.length s ok hsl)) (.none rfl) rfl ?_
            rintro _ _ ⟨rfl, rfl⟩
            simp only [List.nil_append, List.cons_append]
            refine AO.val (RV.move rfl) (.none rfl) rfl ?_
            refine AO.val (RV.extract rfl rfl) (.none rfl) rfl ?_
            refine AO.val (RV.extract rfl rfl) (.none rfl) rfl ?_
            refine AO.val (RV.assign rfl) (.none rfl) rfl ?_
            refine AO.val (RV.assign rfl) (.none rfl) rfl ?_
            refine AO.nil ?_
            refine AK.seq ?_
            refine AK.region ?_
            refine AO.val (RV.move rfl) (.none rfl) rfl ?_
            refine AO.eff (EF.callF rfl (rreap_spec B [(p, _), (q, _)] D c (min (max n 1) 64) t qm hn1 hnm hb1 hb2)) (.none rfl) rfl ?_
            rintro _ _ ⟨rfl, Ap', cp', Ar', cr', part, rfl, qm'⟩
            simp only [List.nil_append, List.cons_append]
            refine AO.val (RV.move rfl) (.none rfl) rfl ?_
            refine AO.val (RV.extract rfl rfl) (.none rfl) rfl ?_
            refine AO.val (RV.extract rfl rfl) (.none rfl) rfl ?_
            refine AO.val (RV.assign rfl) (.none rfl) rfl ?_
            refine AO.val (RV.assign rfl) (.none rfl) rfl ?_
            refine AO.nil ?_
            refine AK.seq ?_
            refine AK.region ?_
            refine AO.val (RV.move rfl) (.none rfl) rfl ?_
            refine AO.val (RV.move rfl) (.none rfl) rfl ?_
            refine AO.val ((RV.neq rfl rfl).to (v' := .bool false) (by simp; rw [e3])) (.none rfl) rfl ?_
            refine AO.val (RV.move rfl) (.none rfl) rfl ?_
            refine AO.val (RV.move rfl) (.some rfl rfl rfl rfl) rfl ?_
            refine AO.val (RV.move rfl) (.some rfl rfl rfl rfl) rfl ?_
            refine AO.val ((RV.neqB rfl rfl).to (v' := .bool false) (by simp; rw [e3])) (.some rfl rfl rfl rfl) rfl ?_
            refine AO.val (RV.pickF rfl rfl) (.none rfl) rfl ?_
            refine AO.nil ?_
            refine AK.condF rfl ?_
            refine AK.skip ?_
            refine AK.inBlock ?_
            -- ways meet at L0tTFF
            refine AK.weak (.cons (by exact rfl) (.cons (by exact rfl) (.cons (by exact rfl) (.cons (by exact rfl) (.cons (by exact rfl) .nil))))) (by first | exact SubO.sub | exact List.Sublist.refl _ | exact .cons _ (List.Sublist.refl _) | exact .cons _ (.cons _ (List.Sublist.refl _)) | exact .cons _ (.cons _ (.cons _ (List.Sublist.refl _)))) (hjb2 ((reapR s).1, (reapQ t).1, Ap', cp', Ar', cr', part ++ D) ?_)
            · try dsimp only
              have := ever_reap t
              exact ⟨r3, (len_reap _).trans hsl, qm', by omega⟩
    · intro hc2
      try simp only [decide_eq_true_eq, decide_eq_false_iff_not, Bool.not_eq_true', Bool.not_eq_false', beq_iff_eq] at hc2
      refine AK.exit rfl ?_
      refine AK.seq ?_
      refine AK.region ?_
      refine AO.eff (EF.callF rfl (lives_spec B _)) (.none rfl) rfl ?_
      rintro _ _ rfl
      refine AO.val (RV.assign rfl) (.none rfl) rfl ?_
      refine AO.nil ?_
      -- at L0tF
      clear hih0
      refine AK.ret (h' := []) Try.func3 (.tmp rfl .nil) ?_ (List.nil_sublist _)
      rfl
  · intro hg1
    try simp only [decide_eq_true_eq, decide_eq_false_iff_not, Bool.not_eq_true', Bool.not_eq_false', beq_iff_eq] at hg1
    refine AO.pass (.some rfl rfl rfl rfl) rfl ?_
    refine AO.pass (.some rfl rfl rfl rfl) rfl ?_
    refine AO.val (RV.pickF rfl rfl) (.none rfl) rfl ?_
    refine AO.nil ?_
    refine AK.condF rfl ?_
    refine AK.exit rfl ?_
    refine AK.seq ?_
    refine AK.region ?_
    refine AO.eff (EF.callF rfl (lives_spec B _)) (.none rfl) rfl ?_
    rintro _ _ rfl
    refine AO.val (RV.assign rfl) (.none rfl) rfl ?_
    refine AO.nil ?_
    -- at L0f
    clear hih0
    refine AK.ret (h' := []) Try.func3 (.tmp rfl .nil) ?_ (List.nil_sublist _)
    rfl

theorem order_law (B : World) (n : Int) {A : Option Addr} {cap : Nat} (l : List Deed) (hcap : l.length ≤ cap) (hln : l.length ≤ 9223372036854775807) (hl : Src B [] A l.length 2 (flat encD l)) : Tri Try.prog B 4 [.int .i64 n, .slice A l.length cap] [] fun v h' => v = .bool true := by
  refine Tri.enter (n := 78) Try.func4 rfl rfl rfl ?_
  simp only [argsE, Nat.reduceAdd]
  try dsimp only [argsE]
  refine AK.seq ?_
  refine AK.region ?_
  refine AO.val (RV.assign rfl) (.none rfl) rfl ?_
  refine AO.nil ?_
  refine AK.seq ?_
  refine AK.region ?_
  refine AO.val (RV.move rfl) (.none rfl) rfl ?_
  refine AO.eff (EF.callF rfl (new_spec B _ n)) (.none rfl) rfl ?_
  rintro _ _ ⟨p, q, rfl, rfl⟩
  refine AO.val (RV.assign rfl) (.none rfl) rfl ?_
  refine AO.nil ?_
  refine AK.seq ?_
  refine AK.seq ?_
  refine AK.region ?_
  refine AO.val (RV.move rfl) (.none rfl) rfl ?_
  refine AO.val (RV.eqlP rfl rfl) (.none rfl) rfl ?_
  refine AO.nil ?_
  refine AK.condF rfl ?_
  refine AK.skip ?_
  refine AK.seq ?_
  refine AK.region ?_
  refine AO.val (RV.assign rfl) (.none rfl) rfl ?_
  refine AO.val (RV.assign rfl) (.none rfl) rfl ?_
  refine AO.nil ?_
  refine AK.seq ?_
  refine AK.seq ?_
  refine AK.region ?_
  refine AO.val (RV.assign rfl) (.none rfl) rfl ?_
  refine AO.nil ?_
  refine AK.block ?_
  refine AK.loop (α := Int × RS × QS × Int × Int) (E := fun (i, s, t, nx, rp) => [(1, .slice A l.length cap), (5, .pointer (some ⟨p, 0, none⟩)), (6, .int .i64 nx), (7, .int .i64 rp), (8, .int .i64 i)]) (H := fun (i, s, t, nx, rp) => (p, Blk.cells [.slice (some ⟨q, 0, none⟩) (newR n).sl.length (newR n).sl.length, .int .i64 (s).post, .int .i64 (s).work, .int .i64 (s).reap] 41 (0, 0)) :: (q, Blk.cells (flat encS (s).sl) 44 (0, 0)) :: []) (Inv := fun (i, s, t, nx, rp) => 0 ≤ i ∧ i ≤ l.length ∧ i ≤ 80 ∧ Rel s t ∧ s.sl.length = (newR n).sl.length ∧ Ord t nx rp ∧ t.ever ≤ i) (μ := fun (i, s, t, nx, rp) => (l.length - i).toNat) (0, newR n, newQ, 0, 0) ?_ (.cons (by exact rfl) (.cons (by exact rfl) (.cons (by exact rfl) (.cons (by exact rfl) (.cons (by exact rfl) .nil))))) ?_ ?_
  · exact ⟨by omega, by omega, by omega, rel_new n, rfl, ord_new, by simp [newQ]⟩
  · exact (by first | exact SubO.sub | exact List.Sublist.refl _ | exact .cons _ (List.Sublist.refl _) | exact .cons _ (.cons _ (List.Sublist.refl _)) | exact .cons _ (.cons _ (.cons _ (List.Sublist.refl _))))
  rintro ⟨i, s, t, nx, rp⟩ ⟨hi0, hin, hi80, rel, hsl, o, hev⟩ hih0
  try dsimp only at hih0 ⊢
  refine AK.seq ?_
  refine AK.seq ?_
  refine AK.region ?_
  refine AO.val (RV.move rfl) (.none rfl) rfl ?_
  refine AO.val (RV.move rfl) (.none rfl) rfl ?_
  refine AO.val (RV.lenS rfl) (.none rfl) rfl ?_
  refine AO.val (RV.lss rfl rfl) (.none rfl) rfl ?_
  refine AO.val (RV.move rfl) (.none rfl) rfl ?_
  refine AO.caseG rfl rfl rfl ?_ ?_
  · intro hg1
    try simp only [decide_eq_true_eq, decide_eq_false_iff_not, Bool.not_eq_true', Bool.not_eq_false', beq_iff_eq] at hg1
    refine AO.val (RV.move rfl) (.some rfl rfl rfl rfl) rfl ?_
    refine AO.val (RV.lss rfl rfl) (.some rfl rfl rfl rfl) rfl ?_
    refine AO.val (RV.pickT rfl rfl) (.none rfl) rfl ?_
    refine AO.nil ?_
    refine AK.cond rfl ?_ ?_
    · intro hc2
      try simp only [decide_eq_true_eq, decide_eq_false_iff_not, Bool.not_eq_true', Bool.not_eq_false', beq_iff_eq] at hc2
      have ok := rel.ok
      have hc0 := rel.c0
      have hwe := rel.we
      have hnm := rel.nm
      have hco := rel.cown
      have hcr := rel.cready
      have hcm := rel.croom
      have oe := o.ev
      have ob := o.ba
      have hNN : s.N = (newR n).sl.length := hsl ▸ rfl
      have hN6 := newR_N n
      obtain ⟨r1, e1⟩ := rel_post rel nx
      have o1 := ord_post (N := s.N) o hwe
      rw [← e1] at o1
      obtain ⟨r2, e2⟩ := rel_done rel
      have o2 := ord_done o
      obtain ⟨r3, e3⟩ := rel_reap rel
      obtain ⟨hx3, o3⟩ := ord_reap o
      refine AK.skip ?_
      refine AK.seq ?_
      refine AK.block ?_
      refine AK.seq ?_
      refine AK.seq ?_
      refine AK.region ?_
      refine AO.val (RV.move rfl) (.none rfl) rfl ?_
      refine AO.val (RV.move rfl) (.none rfl) rfl ?_
      refine AO.val (by first | exact RV.indexS rfl rfl (by assumption) (by omega) rfl | exact RV.indexAddr rfl rfl (by omega)) (.none rfl) rfl ?_
      refine AO.val (by first | exact RV.fieldAddr rfl | exact RV.fieldAddrA rfl) (.none rfl) rfl ?_
      refine AO.val (by first | exact RV.loadO rfl rfl (by simp) | exact RV.loadSF rfl (by assumption) (fun _ => rfl) (by omega) rfl rfl (by simp) | exact RV.loadS rfl (by assumption) (by omega) (by simp)) (.none rfl) rfl ?_
      refine AO.nil ?_
      refine AK.cut (α := RS × QS × Int × Int) (E := fun (s, t, nx, rp) => [(1, .slice A l.length cap), (5, .pointer (some ⟨p, 0, none⟩)), (6, .int .i64 nx), (7, .int .i64 rp), (8, .int .i64 i)]) (H := fun (s, t, nx, rp) => (p, Blk.cells [.slice (some ⟨q, 0, none⟩) (newR n).sl.length (newR n).sl.length, .int .i64 (s).post, .int .i64 (s).work, .int .i64 (s).reap] 41 (0, 0)) :: (q, Blk.cells (flat encS (s).sl) 44 (0, 0)) :: []) (Inv := fun (s, t, nx, rp) => Rel s t ∧ s.sl.length = (newR n).sl.length ∧ Ord t nx rp ∧ t.ever ≤ i + 1) ?_ ?_
      · rintro ⟨s, t, nx, rp⟩ ⟨rel, hsl, o, hev⟩
        try dsimp only
        clear ok hc0 hwe hnm hco hcr hcm oe ob hNN hN6 r1 e1 o1 r2 e2 o2 r3 e3 hx3 o3
        have ok := rel.ok
        have hc0 := rel.c0
        have hwe := rel.we
        have hnm := rel.nm
        have hco := rel.cown
        have hcr := rel.cready
        have hcm := rel.croom
        have oe := o.ev
        have ob := o.ba
        have hNN : s.N = (newR n).sl.length := hsl ▸ rfl
        have hN6 := newR_N n
        refine AK.seq ?_
        refine AK.region ?_
        refine AO.val (RV.move rfl) (.none rfl) rfl ?_
        refine AO.eff (EF.callF rfl (posted_spec B [] _ p q (newR n).sl.length s ok hsl)) (.none rfl) rfl ?_
        rintro _ _ ⟨rfl, rfl⟩
        simp only [List.nil_append, List.cons_append]
        refine AO.val (RV.move rfl) (.none rfl) rfl ?_
        refine AO.eff (EF.callF rfl (ready_spec B [] _ p q (newR n).sl.length s ok hsl)) (.none rfl) rfl ?_
        rintro _ _ ⟨rfl, rfl⟩
        simp only [List.nil_append, List.cons_append]
        refine AO.val (by first | exact RV.addIn rfl rfl (by omega) | exact RV.add rfl rfl) (.none rfl) rfl ?_
        refine AO.val (RV.move rfl) (.none rfl) rfl ?_
        refine AO.eff (EF.callF rfl (room_spec B [] _ p q (newR n).sl.length s ok hsl)) (.none rfl) rfl ?_
        rintro _ _ ⟨rfl, rfl⟩
        simp only [List.nil_append, List.cons_append]
        refine AO.val (by first | exact RV.addIn rfl rfl (by omega) | exact RV.add rfl rfl) (.none rfl) rfl ?_
        refine AO.val (RV.move rfl) (.none rfl) rfl ?_
        refine AO.eff (EF.callF rfl (size_spec B [] _ p q (newR n).sl.length s ok hsl)) (.none rfl) rfl ?_
        rintro _ _ ⟨rfl, rfl⟩
        simp only [List.nil_append, List.cons_append]
        refine AO.val ((RV.neq rfl rfl).to (v' := .bool false) (by simp; omega)) (.none rfl) rfl ?_
        refine AO.val (RV.move rfl) (.none rfl) rfl ?_
        refine AO.val (RV.move rfl) (.some rfl rfl rfl rfl) rfl ?_
        refine AO.eff (EF.callF rfl (posted_spec B [] _ p q (newR n).sl.length s ok hsl)) (.some rfl rfl rfl rfl) rfl ?_
        rintro _ _ ⟨rfl, rfl⟩
        simp only [List.nil_append, List.cons_append]
        refine AO.val (RV.move rfl) (.some rfl rfl rfl rfl) rfl ?_
        refine AO.eff (EF.callF rfl (ready_spec B [] _ p q (newR n).sl.length s ok hsl)) (.some rfl rfl rfl rfl) rfl ?_
        rintro _ _ ⟨rfl, rfl⟩
        simp only [List.nil_append, List.cons_append]
        refine AO.val (by first | exact RV.addIn rfl rfl (by omega) | exact RV.add rfl rfl) (.some rfl rfl rfl rfl) rfl ?_
        refine AO.val (RV.move rfl) (.some rfl rfl rfl rfl) rfl ?_
        refine AO.val (RV.move rfl) (.some rfl rfl rfl rfl) rfl ?_
        refine AO.val (by first | exact RV.subIn rfl rfl (by omega) | exact RV.sub rfl rfl) (.some rfl rfl rfl rfl) rfl ?_
        refine AO.val ((RV.neq rfl rfl).to (v' := .bool false) (by simp; omega)) (.some rfl rfl rfl rfl) rfl ?_
        refine AO.val (RV.pickF rfl rfl) (.none rfl) rfl ?_
        refine AO.nil ?_
        refine AK.condF rfl ?_
        refine AK.skip ?_
        refine AK.inBlock ?_
        refine AK.region ?_
        refine AO.val (RV.move rfl) (.none rfl) rfl ?_
        refine AO.val (by first | exact RV.addIn rfl rfl (by omega) | exact RV.add rfl rfl) (.none rfl) rfl ?_
        refine AO.val (RV.assign rfl) (.none rfl) rfl ?_
        refine AO.nil ?_
        -- round ends at L0tTJb2
        refine AK.weak (.cons (by exact rfl) (.cons (by exact rfl) (.cons (by exact rfl) (.cons (by exact rfl) (.cons (by exact rfl) .nil))))) (by first | exact SubO.sub | exact List.Sublist.refl _ | exact .cons _ (List.Sublist.refl _) | exact .cons _ (.cons _ (List.Sublist.refl _)) | exact .cons _ (.cons _ (.cons _ (List.Sublist.refl _)))) (hih0 (i + 1, s, t, nx, rp) ?_ ?_)
        · try dsimp only
          exact ⟨by omega, by omega, by omega, rel, hsl, o, hev⟩
        · try dsimp only
          omega
      · intro hjb2
        try dsimp only at hjb2
        refine AK.block ?_
        refine AK.seq ?_
        refine AK.region ?_
        refine AO.val (RV.eql rfl rfl) (.none rfl) rfl ?_
        refine AO.val (RV.assign rfl) (.none rfl) rfl ?_
        refine AO.nil ?_
        refine AK.cond rfl ?_ ?_
        · intro hc3
          try simp only [decide_eq_true_eq, decide_eq_false_iff_not, Bool.not_eq_true', Bool.not_eq_false', beq_iff_eq] at hc3
          refine AK.seq ?_
          refine AK.region ?_
          refine AO.val (RV.move rfl) (.none rfl) rfl ?_
          refine AO.val (RV.move rfl) (.none rfl) rfl ?_
          refine AO.eff (EF.callF rfl (post_spec B [] _ p q (newR n).sl.length s ok hsl _)) (.none rfl) rfl ?_
          rintro _ _ ⟨rfl, rfl⟩
          simp only [List.nil_append, List.cons_append]
          refine AO.nil ?_
          refine AK.cond rfl ?_ ?_
          · intro hc4
            try simp only [decide_eq_true_eq, decide_eq_false_iff_not, Bool.not_eq_true', Bool.not_eq_false', beq_iff_eq] at hc4
            refine AK.region ?_
            refine AO.val (RV.move rfl) (.none rfl) rfl ?_
            refine AO.val (by first | exact RV.addIn rfl rfl (by omega) | exact RV.add rfl rfl) (.none rfl) rfl ?_
            refine AO.val (RV.assign rfl) (.none rfl) rfl ?_
            refine AO.nil ?_
            refine AK.inBlock ?_
            -- ways meet at L0tTTT
            rw [if_pos hc4] at o1
            refine AK.weak (.cons (by exact rfl) (.cons (by exact rfl) (.cons (by exact rfl) (.cons (by exact rfl) (.cons (by exact rfl) .nil))))) (by first | exact SubO.sub | exact List.Sublist.refl _ | exact .cons _ (List.Sublist.refl _) | exact .cons _ (.cons _ (List.Sublist.refl _)) | exact .cons _ (.cons _ (.cons _ (List.Sublist.refl _)))) (hjb2 ((postR s nx).1, (postQ s.N t nx).1, nx + 1, rp) ?_)
            · try dsimp only
              have := ever_post s.N t nx
              exact ⟨r1, (len_post _ _).trans hsl, o1, by omega⟩
          · intro hc4
            try simp only [decide_eq_true_eq, decide_eq_false_iff_not, Bool.not_eq_true', Bool.not_eq_false', beq_iff_eq] at hc4
            refine AK.skip ?_
            refine AK.inBlock ?_
            -- ways meet at L0tTTF
            rw [if_neg (by simp_all)] at o1
            refine AK.weak (.cons (by exact rfl) (.cons (by exact rfl) (.cons (by exact rfl) (.cons (by exact rfl) (.cons (by exact rfl) .nil))))) (by first | exact SubO.sub | exact List.Sublist.refl _ | exact .cons _ (List.Sublist.refl _) | exact .cons _ (.cons _ (List.Sublist.refl _)) | exact .cons _ (.cons _ (.cons _ (List.Sublist.refl _)))) (hjb2 ((postR s nx).1, (postQ s.N t nx).1, nx, rp) ?_)
            · try dsimp only
              have := ever_post s.N t nx
              exact ⟨r1, (len_post _ _).trans hsl, o1, by omega⟩
        · intro hc3
          try simp only [decide_eq_true_eq, decide_eq_false_iff_not, Bool.not_eq_true', Bool.not_eq_false', beq_iff_eq] at hc3
          refine AK.seq ?_
          refine AK.region ?_
          refine AO.val (RV.eql rfl rfl) (.none rfl) rfl ?_
          refine AO.val (RV.assign rfl) (.none rfl) rfl ?_
          refine AO.nil ?_
          refine AK.cond rfl ?_ ?_
          · intro hc5
            try simp only [decide_eq_true_eq, decide_eq_false_iff_not, Bool.not_eq_true', Bool.not_eq_false', beq_iff_eq] at hc5
            refine AK.region ?_
            refine AO.val (RV.move rfl) (.none rfl) rfl ?_
            refine AO.eff (EF.callF rfl (done_spec B [] _ p q (newR n).sl.length s ok hsl)) (.none rfl) rfl ?_
            rintro _ _ ⟨rfl, rfl⟩
            simp only [List.nil_append, List.cons_append]
            refine AO.nil ?_
            refine AK.inBlock ?_
            -- ways meet at L0tTFT
            refine AK.weak (.cons (by exact rfl) (.cons (by exact rfl) (.cons (by exact rfl) (.cons (by exact rfl) (.cons (by exact rfl) .nil))))) (by first | exact SubO.sub | exact List.Sublist.refl _ | exact .cons _ (List.Sublist.refl _) | exact .cons _ (.cons _ (List.Sublist.refl _)) | exact .cons _ (.cons _ (.cons _ (List.Sublist.refl _)))) (hjb2 ((doneR s).1, (doneQ t).1, nx, rp) ?_)
            · try dsimp only
              have := ever_done t
              exact ⟨r2, (len_done _).trans hsl, o2, by omega⟩
          · intro hc5
            try simp only [decide_eq_true_eq, decide_eq_false_iff_not, Bool.not_eq_true', Bool.not_eq_false', beq_iff_eq] at hc5
            refine AK.seq ?_
            refine AK.region ?_
            refine AO.val (RV.move rfl) (.none rfl) rfl ?_
            refine AO.eff (EF.callF rfl (reap_spec B [] _ p q (newR n).sl.length s ok hsl)) (.none rfl) rfl ?_
            rintro _ _ ⟨rfl, rfl⟩
            simp only [List.nil_append, List.cons_append]
            refine AO.val (RV.move rfl) (.none rfl) rfl ?_
            refine AO.val (RV.extract rfl rfl) (.none rfl) rfl ?_
            refine AO.val (RV.extract rfl rfl) (.none rfl) rfl ?_
            refine AO.val (RV.assign rfl) (.none rfl) rfl ?_
            refine AO.val (RV.assign rfl) (.none rfl) rfl ?_
            refine AO.nil ?_
            refine AK.seq ?_
            refine AK.seq ?_
            refine AK.region ?_
            refine AO.val (RV.move rfl) (.none rfl) rfl ?_
            refine AO.val (RV.move rfl) (.none rfl) rfl ?_
            refine AO.caseG rfl rfl rfl ?_ ?_
            · intro hg6
              try simp only [decide_eq_true_eq, decide_eq_false_iff_not, Bool.not_eq_true', Bool.not_eq_false', beq_iff_eq] at hg6
              refine AO.val (RV.move rfl) (.some rfl rfl rfl rfl) rfl ?_
              refine AO.val (RV.move rfl) (.some rfl rfl rfl rfl) rfl ?_
              refine AO.val (RV.neq rfl rfl) (.some rfl rfl rfl rfl) rfl ?_
              refine AO.val (RV.pickT rfl rfl) (.none rfl) rfl ?_
              refine AO.nil ?_
              refine AK.cond rfl ?_ ?_
              · intro hc7
                try simp only [decide_eq_true_eq, decide_eq_false_iff_not, Bool.not_eq_true', Bool.not_eq_false', beq_iff_eq] at hc7
                exfalso; have := hx3 (by rw [← e3]; simp_all); rw [← e3] at this; simp_all
              · intro hc7
                try simp only [decide_eq_true_eq, decide_eq_false_iff_not, Bool.not_eq_true', Bool.not_eq_false', beq_iff_eq] at hc7
                refine AK.skip ?_
                refine AK.seq ?_
                refine AK.region ?_
                refine AO.val (RV.move rfl) (.none rfl) rfl ?_
                refine AO.nil ?_
                refine AK.cond rfl ?_ ?_
                · intro hc8
                  try simp only [decide_eq_true_eq, decide_eq_false_iff_not, Bool.not_eq_true', Bool.not_eq_false', beq_iff_eq] at hc8
                  refine AK.region ?_
                  refine AO.val (RV.move rfl) (.none rfl) rfl ?_
                  refine AO.val (by first | exact RV.addIn rfl rfl (by omega) | exact RV.add rfl rfl) (.none rfl) rfl ?_
                  refine AO.val (RV.assign rfl) (.none rfl) rfl ?_
                  refine AO.nil ?_
                  refine AK.inBlock ?_
                  -- ways meet at L0tTFFtFT
                  rw [if_pos (by rw [← e3]; simp_all)] at o3
                  refine AK.weak (.cons (by exact rfl) (.cons (by exact rfl) (.cons (by exact rfl) (.cons (by exact rfl) (.cons (by exact rfl) .nil))))) (by first | exact SubO.sub | exact List.Sublist.refl _ | exact .cons _ (List.Sublist.refl _) | exact .cons _ (.cons _ (List.Sublist.refl _)) | exact .cons _ (.cons _ (.cons _ (List.Sublist.refl _)))) (hjb2 ((reapR s).1, (reapQ t).1, nx, rp + 1) ?_)
                  · try dsimp only
                    have := ever_reap t
                    exact ⟨r3, (len_reap _).trans hsl, o3, by omega⟩
                · intro hc8
                  try simp only [decide_eq_true_eq, decide_eq_false_iff_not, Bool.not_eq_true', Bool.not_eq_false', beq_iff_eq] at hc8
                  refine AK.skip ?_
                  refine AK.inBlock ?_
                  -- ways meet at L0tTFFtFF
                  rw [if_neg (by rw [← e3]; simp_all)] at o3
                  refine AK.weak (.cons (by exact rfl) (.cons (by exact rfl) (.cons (by exact rfl) (.cons (by exact rfl) (.cons (by exact rfl) .nil))))) (by first | exact SubO.sub | exact List.Sublist.refl _ | exact .cons _ (List.Sublist.refl _) | exact .cons _ (.cons _ (List.Sublist.refl _)) | exact .cons _ (.cons _ (.cons _ (List.Sublist.refl _)))) (hjb2 ((reapR s).1, (reapQ t).1, nx, rp) ?_)
                  · try dsimp only
                    have := ever_reap t
                    exact ⟨r3, (len_reap _).trans hsl, o3, by omega⟩
            · intro hg6
              try simp only [decide_eq_true_eq, decide_eq_false_iff_not, Bool.not_eq_true', Bool.not_eq_false', beq_iff_eq] at hg6
              refine AO.pass (.some rfl rfl rfl rfl) rfl ?_
              refine AO.pass (.some rfl rfl rfl rfl) rfl ?_
              refine AO.pass (.some rfl rfl rfl rfl) rfl ?_
              refine AO.val (RV.pickF rfl rfl) (.none rfl) rfl ?_
              refine AO.nil ?_
              refine AK.condF rfl ?_
              refine AK.skip ?_
              refine AK.seq ?_
              refine AK.region ?_
              refine AO.val (RV.move rfl) (.none rfl) rfl ?_
              refine AO.nil ?_
              refine AK.cond rfl ?_ ?_
              · intro hc9
                try simp only [decide_eq_true_eq, decide_eq_false_iff_not, Bool.not_eq_true', Bool.not_eq_false', beq_iff_eq] at hc9
                refine AK.region ?_
                refine AO.val (RV.move rfl) (.none rfl) rfl ?_
                refine AO.val (by first | exact RV.addIn rfl rfl (by omega) | exact RV.add rfl rfl) (.none rfl) rfl ?_
                refine AO.val (RV.assign rfl) (.none rfl) rfl ?_
                refine AO.nil ?_
                refine AK.inBlock ?_
                -- ways meet at L0tTFFfT
                rw [if_pos (by rw [← e3]; simp_all)] at o3
                refine AK.weak (.cons (by exact rfl) (.cons (by exact rfl) (.cons (by exact rfl) (.cons (by exact rfl) (.cons (by exact rfl) .nil))))) (by first | exact SubO.sub | exact List.Sublist.refl _ | exact .cons _ (List.Sublist.refl _) | exact .cons _ (.cons _ (List.Sublist.refl _)) | exact .cons _ (.cons _ (.cons _ (List.Sublist.refl _)))) (hjb2 ((reapR s).1, (reapQ t).1, nx, rp + 1) ?_)
                · try dsimp only
                  have := ever_reap t
                  exact ⟨r3, (len_reap _).trans hsl, o3, by omega⟩
              · intro hc9
                try simp only [decide_eq_true_eq, decide_eq_false_iff_not, Bool.not_eq_true', Bool.not_eq_false', beq_iff_eq] at hc9
                refine AK.skip ?_
                refine AK.inBlock ?_
                -- ways meet at L0tTFFfF
                rw [if_neg (by rw [← e3]; simp_all)] at o3
                refine AK.weak (.cons (by exact rfl) (.cons (by exact rfl) (.cons (by exact rfl) (.cons (by exact rfl) (.cons (by exact rfl) .nil))))) (by first | exact SubO.sub | exact List.Sublist.refl _ | exact .cons _ (List.Sublist.refl _) | exact .cons _ (.cons _ (List.Sublist.refl _)) | exact .cons _ (.cons _ (.cons _ (List.Sublist.refl _)))) (hjb2 ((reapR s).1, (reapQ t).1, nx, rp) ?_)
                · try dsimp only
                  have := ever_reap t
                  exact ⟨r3, (len_reap _).trans hsl, o3, by omega⟩
    · intro hc2
      try simp only [decide_eq_true_eq, decide_eq_false_iff_not, Bool.not_eq_true', Bool.not_eq_false', beq_iff_eq] at hc2
      refine AK.exit rfl ?_
      refine AK.seq ?_
      refine AK.region ?_
      refine AO.eff (EF.callF rfl (lives_spec B _)) (.none rfl) rfl ?_
      rintro _ _ rfl
      refine AO.val (RV.assign rfl) (.none rfl) rfl ?_
      refine AO.nil ?_
      -- at L0tF
      clear hih0
      refine AK.ret (h' := []) Try.func4 (.tmp rfl .nil) ?_ (List.nil_sublist _)
      rfl
  · intro hg1
    try simp only [decide_eq_true_eq, decide_eq_false_iff_not, Bool.not_eq_true', Bool.not_eq_false', beq_iff_eq] at hg1
    refine AO.pass (.some rfl rfl rfl rfl) rfl ?_
    refine AO.pass (.some rfl rfl rfl rfl) rfl ?_
    refine AO.val (RV.pickF rfl rfl) (.none rfl) rfl ?_
    refine AO.nil ?_
    refine AK.condF rfl ?_
    refine AK.exit rfl ?_
    refine AK.seq ?_
    refine AK.region ?_
    refine AO.eff (EF.callF rfl (lives_spec B _)) (.none rfl) rfl ?_
    rintro _ _ rfl
    refine AO.val (RV.assign rfl) (.none rfl) rfl ?_
    refine AO.nil ?_
    -- at L0f
    clear hih0
    refine AK.ret (h' := []) Try.func4 (.tmp rfl .nil) ?_ (List.nil_sublist _)
    rfl

set_option maxRecDepth 100000 in
theorem ringOrder_lifted (os : Os) (started : os.Started) (H : Type) (enc : TypeId × Value → H) :
    ReturnsInHanded {} Try.checked os 4 .any (Rows.ringOrderSpec.pre6 enc Try.prog Try.f4 Rows.ringOrderRow.domain false) (Rows.ringOrderSpec.post enc Try.prog Try.f4 false true false false) := by
  refine returnsInHanded_of_change (C := Try.checked) own_ started (by kernel_rfl) Try.func4
    (ChangeSpec.witness6 (enc := enc) (C := Try.checked) false ⟨#[], #[(Value.int IntKind.i64 0), (Value.slice none 0 0)], []⟩ 8 (by kernel_rfl) (by kernel_rfl) (by kernel_rfl) (by kernel_rfl)) ?_
  intro W base args ds gs before hval0 hW hcnd _
  have hval : ∀ (j : Nat) t v, Try.f4.params[j]? = some t → args[j]? = some v → Value.okWide Try.prog W .any base t v := hval0
  have hW' := hW
  obtain ⟨p, q, hA0, hV, rfl, hfz, hnd⟩ := hW
  have hA : DataW.TrodAll enc Try.prog W 0 (fun _ => true) true Try.f4.params.toList args.toList ds p := hA0
  rw [Try.params4] at hA hval
  obtain ⟨args⟩ := args
  simp only at hA
  obtain ⟨v0, vs0, d0, ds0, p0, q0, e0a, e0b, e0c, t0, r0⟩ := trodAll_cons hA
  obtain ⟨v1, vs1, d1, ds1, p1, q1, e1a, e1b, e1c, t1, r1⟩ := trodAll_cons r0
  subst e0a e0b e0c
  subst e1a e1b e1c
  obtain ⟨rfl, rfl, rfl⟩ := trodAll_nil r1
  obtain ⟨rfl, rfl⟩ := trodVars_none hV
  have hlt := hW'.lt
  have k0 : Value.okWide Try.prog W .any base 3 v0 := hval 0 _ v0 rfl rfl
  obtain ⟨n, w0, n_lo, n_hi⟩ := Dec.argI k0 t0
  have k1 : Value.okWide Try.prog W .any base 22 v1 := hval 1 _ v1 rfl rfl
  obtain ⟨l, w1, hl⟩ := Dec.argS k1 t1 ((Dec.struct (t := 32) (.cons (off := 0) (sz := 1) (by rfl) (by kernel_rfl) (Dec.int (t := 3) (k := .i64)) (.cons (off := 1) (sz := 1) (by rfl) (by kernel_rfl) (Dec.int (t := 3) (k := .i64)) .nil)) (by kernel_rfl))) (by decide)
  have htri : Tri Try.prog W 4 [v0, v1] [] (fun v _ => v = .bool true) := by
    subst w0 w1
    exact order_law W n l.l hl.2.1 (by have := hl.2.1; have := hl.2.2.1; omega) hl.1
  clear w0 w1
  refine (htri.run W (Models.start W)).mono fun e W' ⟨v, h2, he, m2, hv⟩ => ?_
  subst he; subst hv
  have hb := m2.below
  refine ⟨_, rfl, post_of_below (pa := (p0 ++ (p1 ++ ([])))) (pv := []) hW' (fun _ _ _ => trodAll_mk1 (shut_bool (Try.underlying4) true)) (fun sp hsp => ?_) (fun _ _ => rfl) rfl hb (ok_one (t := 4) (by kernel_rfl) rfl ?_)⟩
  · refine TAcons (WideElems.Trod_stays laidOut_ (by kernel_rfl) (of_decide_eq_true (by kernel_rfl)) t0 (fun x hx => hb.same (hlt x (by simp [hx]))) (fun x hx => hsp x (by simp [hx]))) ?_
    refine TAcons (WideElems.Trod_stays laidOut_ (by kernel_rfl) (of_decide_eq_true (by kernel_rfl)) t1 (fun x hx => hb.same (hlt x (by simp [hx]))) (fun x hx => hsp x (by simp [hx]))) ?_
    rfl
  · exact okBool Try.underlying4

theorem ringOrder_holds : Rows.RingOrderSaid :=
  OpenClaim.holds_of_wide 4 Try.f4 rfl rfl rfl rfl rfl rfl rfl ⟨rfl, rfl, rfl, rfl, rfl⟩ rfl rfl rfl rfl rfl (by kernel_rfl) Try.func4 (by kernel_rfl)
    (of_decide_eq_true (by kernel_rfl)) (by unfold Func.isWrapper; first | (rw [if_pos (by decide +kernel)]; kernel_rfl) | (rw [if_neg (by decide +kernel)]; exact ⟨rfl, rfl⟩))
    (fun os started H enc _ => ringOrder_lifted os started H enc)

set_option maxRecDepth 100000 in
theorem ringDoes_lifted (os : Os) (started : os.Started) (H : Type) (enc : TypeId × Value → H) :
    ReturnsInHanded {} Try.checked os 3 .any (Rows.ringDoesSpec.pre6 enc Try.prog Try.f3 Rows.ringDoesRow.domain false) (Rows.ringDoesSpec.post enc Try.prog Try.f3 false true false false) := by
  refine returnsInHanded_of_change (C := Try.checked) own_ started (by kernel_rfl) Try.func3
    (ChangeSpec.witness6 (enc := enc) (C := Try.checked) false ⟨#[], #[(Value.int IntKind.i64 0), (Value.slice none 0 0), (Value.int IntKind.i64 0)], []⟩ 8 (by kernel_rfl) (by kernel_rfl) (by kernel_rfl) (by kernel_rfl)) ?_
  intro W base args ds gs before hval0 hW hcnd _
  have hval : ∀ (j : Nat) t v, Try.f3.params[j]? = some t → args[j]? = some v → Value.okWide Try.prog W .any base t v := hval0
  have hW' := hW
  obtain ⟨p, q, hA0, hV, rfl, hfz, hnd⟩ := hW
  have hA : DataW.TrodAll enc Try.prog W 0 (fun _ => true) true Try.f3.params.toList args.toList ds p := hA0
  rw [Try.params3] at hA hval
  obtain ⟨args⟩ := args
  simp only at hA
  obtain ⟨v0, vs0, d0, ds0, p0, q0, e0a, e0b, e0c, t0, r0⟩ := trodAll_cons hA
  obtain ⟨v1, vs1, d1, ds1, p1, q1, e1a, e1b, e1c, t1, r1⟩ := trodAll_cons r0
  obtain ⟨v2, vs2, d2, ds2, p2, q2, e2a, e2b, e2c, t2, r2⟩ := trodAll_cons r1
  subst e0a e0b e0c
  subst e1a e1b e1c
  subst e2a e2b e2c
  obtain ⟨rfl, rfl, rfl⟩ := trodAll_nil r2
  obtain ⟨rfl, rfl⟩ := trodVars_none hV
  have hlt := hW'.lt
  have k0 : Value.okWide Try.prog W .any base 3 v0 := hval 0 _ v0 rfl rfl
  obtain ⟨n, w0, n_lo, n_hi⟩ := Dec.argI k0 t0
  have k1 : Value.okWide Try.prog W .any base 22 v1 := hval 1 _ v1 rfl rfl
  obtain ⟨l, w1, hl⟩ := Dec.argS k1 t1 ((Dec.struct (t := 32) (.cons (off := 0) (sz := 1) (by rfl) (by kernel_rfl) (Dec.int (t := 3) (k := .i64)) (.cons (off := 1) (sz := 1) (by rfl) (by kernel_rfl) (Dec.int (t := 3) (k := .i64)) .nil)) (by kernel_rfl))) (by decide)
  have k2 : Value.okWide Try.prog W .any base 3 v2 := hval 2 _ v2 rfl rfl
  obtain ⟨look, w2, look_lo, look_hi⟩ := Dec.argI k2 t2
  have htri : Tri Try.prog W 3 [v0, v1, v2] [] (fun v _ => v = .bool true) := by
    subst w0 w1 w2
    exact does_law W n look l.l hl.2.1 (by have := hl.2.1; have := hl.2.2.1; omega) hl.1
  clear w0 w1 w2
  refine (htri.run W (Models.start W)).mono fun e W' ⟨v, h2, he, m2, hv⟩ => ?_
  subst he; subst hv
  have hb := m2.below
  refine ⟨_, rfl, post_of_below (pa := (p0 ++ (p1 ++ (p2 ++ ([]))))) (pv := []) hW' (fun _ _ _ => trodAll_mk1 (shut_bool (Try.underlying4) true)) (fun sp hsp => ?_) (fun _ _ => rfl) rfl hb (ok_one (t := 4) (by kernel_rfl) rfl ?_)⟩
  · refine TAcons (WideElems.Trod_stays laidOut_ (by kernel_rfl) (of_decide_eq_true (by kernel_rfl)) t0 (fun x hx => hb.same (hlt x (by simp [hx]))) (fun x hx => hsp x (by simp [hx]))) ?_
    refine TAcons (WideElems.Trod_stays laidOut_ (by kernel_rfl) (of_decide_eq_true (by kernel_rfl)) t1 (fun x hx => hb.same (hlt x (by simp [hx]))) (fun x hx => hsp x (by simp [hx]))) ?_
    refine TAcons (WideElems.Trod_stays laidOut_ (by kernel_rfl) (of_decide_eq_true (by kernel_rfl)) t2 (fun x hx => hb.same (hlt x (by simp [hx]))) (fun x hx => hsp x (by simp [hx]))) ?_
    rfl
  · exact okBool Try.underlying4

theorem ringDoes_holds : Rows.RingDoesSaid :=
  OpenClaim.holds_of_wide 3 Try.f3 rfl rfl rfl rfl rfl rfl rfl ⟨rfl, rfl, rfl, rfl, rfl⟩ rfl rfl rfl rfl rfl (by kernel_rfl) Try.func3 (by kernel_rfl)
    (of_decide_eq_true (by kernel_rfl)) (by unfold Func.isWrapper; first | (rw [if_pos (by decide +kernel)]; kernel_rfl) | (rw [if_neg (by decide +kernel)]; exact ⟨rfl, rfl⟩))
    (fun os started H enc _ => ringDoes_lifted os started H enc)

end Go.Proofs.Ytjhflpangoddaaa
