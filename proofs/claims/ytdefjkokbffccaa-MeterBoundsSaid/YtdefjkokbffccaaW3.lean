/- Walks through the code: what each function that is named here gives back, from any memory that holds its arguments. Written by a program of the claim's author, out of the program's form in Lean. -/
import Derived.Test.YtdefjkokbffccaaW2
set_option linter.unusedSimpArgs false
set_option linter.unusedVariables false
namespace Go.Proofs.Ytdefjkokbffccaa
open Go.Sep Go.Sep.Meter

theorem older_spec (B : World) (h : Own) (x y : Int) (a b a2 b2 : Int) : Tri Try.prog B 18 [.int .u32 x, .agg #[.int .i64 a, .int .i64 b], .int .u32 y, .agg #[.int .i64 a2, .int .i64 b2]] h fun v h' => h = h' ∧ v = .bool (olderB x (a, b) y (a2, b2)) := by
  refine Tri.enter (n := 22) Try.func18 rfl rfl rfl ?_
  simp only [argsE, Nat.reduceAdd]
  try dsimp only [argsE]
  refine AK.seq ?_
  refine AK.region ?_
  refine AO.eff (EF.box rfl rfl) (.none rfl) rfl ?_
  rintro _ _ ⟨b5, hf5, rfl, rfl⟩
  refine AO.eff (EF.box rfl rfl) (.none rfl) rfl ?_
  rintro _ _ ⟨b7, hf7, rfl, rfl⟩
  refine AO.val (RV.assign rfl) (.none rfl) rfl ?_
  refine AO.nil ?_
  refine AK.seq ?_
  refine AK.seq ?_
  refine AK.region ?_
  refine AO.val (RV.fieldAddr rfl) (.none rfl) rfl ?_
  refine AO.val (by first | exact RV.loadO rfl rfl (by simp) | exact RV.loadS rfl (by assumption) (by omega) (by simp)) (.none rfl) rfl ?_
  refine AO.val (RV.fieldAddr rfl) (.none rfl) rfl ?_
  refine AO.val (by first | exact RV.loadO rfl rfl (by simp) | exact RV.loadS rfl (by assumption) (by omega) (by simp)) (.none rfl) rfl ?_
  refine AO.val (RV.neq rfl rfl) (.none rfl) rfl ?_
  refine AO.nil ?_
  refine AK.cond rfl ?_ ?_
  · intro hc1
    try simp only [decide_eq_true_eq, decide_eq_false_iff_not, Bool.not_eq_true', Bool.not_eq_false', beq_iff_eq] at hc1
    refine AK.seq ?_
    refine AK.region ?_
    refine AO.val (RV.fieldAddr rfl) (.none rfl) rfl ?_
    refine AO.val (by first | exact RV.loadO rfl rfl (by simp) | exact RV.loadS rfl (by assumption) (by omega) (by simp)) (.none rfl) rfl ?_
    refine AO.val (RV.fieldAddr rfl) (.none rfl) rfl ?_
    refine AO.val (by first | exact RV.loadO rfl rfl (by simp) | exact RV.loadS rfl (by assumption) (by omega) (by simp)) (.none rfl) rfl ?_
    refine AO.val (RV.lss rfl rfl) (.none rfl) rfl ?_
    refine AO.val (RV.assign rfl) (.none rfl) rfl ?_
    refine AO.nil ?_
    -- at T
    refine AK.ret (h' := h) Try.func18 (.tmp rfl .nil) ?_ (by first | exact SubO.sub | exact List.Sublist.refl _ | exact .cons _ (List.Sublist.refl _) | exact .cons _ (.cons _ (List.Sublist.refl _)) | exact .cons _ (.cons _ (.cons _ (List.Sublist.refl _))))
    refine ⟨rfl, ?_⟩
    simp [olderB, oneOr, *]
  · intro hc1
    try simp only [decide_eq_true_eq, decide_eq_false_iff_not, Bool.not_eq_true', Bool.not_eq_false', beq_iff_eq] at hc1
    refine AK.skip ?_
    refine AK.seq ?_
    refine AK.region ?_
    refine AO.val (RV.move rfl) (.none rfl) rfl ?_
    refine AO.val (RV.move rfl) (.none rfl) rfl ?_
    refine AO.val (RV.lss rfl rfl) (.none rfl) rfl ?_
    refine AO.val (RV.assign rfl) (.none rfl) rfl ?_
    refine AO.nil ?_
    -- at F
    refine AK.ret (h' := h) Try.func18 (.tmp rfl .nil) ?_ (by first | exact SubO.sub | exact List.Sublist.refl _ | exact .cons _ (List.Sublist.refl _) | exact .cons _ (.cons _ (List.Sublist.refl _)) | exact .cons _ (.cons _ (.cons _ (List.Sublist.refl _))))
    refine ⟨rfl, ?_⟩
    simp [olderB, oneOr, *]

theorem forget_spec (B : World) (pre h : Own) (p bm : Nat) (s : MS) (mi : MI s) (hk : KeysOk s.l) (hst : StampT s.l s.c) (hne : s.l ≠ []) : Tri Try.prog B 17 [.pointer (some ⟨p, 0, none⟩)] (pre ++ ((p, Blk.cells [.int .i64 (s).size, .int .i64 (s).rate, .int .i64 (s).burst, .int .i64 (s).now, .map (some bm)] 48 (0, 0)) :: (bm, mapB .u32 evB (s).l (s).c) :: h)) fun v h' => ∃ x ∈ s.l, (∀ y ∈ s.l, olderB y.1 y.2.1 x.1 x.2.1 = false) ∧ h' = pre ++ ((p, Blk.cells [.int .i64 ((⟨s.size, s.rate, s.burst, s.now, delT s.l x.1, s.c⟩ : MS)).size, .int .i64 ((⟨s.size, s.rate, s.burst, s.now, delT s.l x.1, s.c⟩ : MS)).rate, .int .i64 ((⟨s.size, s.rate, s.burst, s.now, delT s.l x.1, s.c⟩ : MS)).burst, .int .i64 ((⟨s.size, s.rate, s.burst, s.now, delT s.l x.1, s.c⟩ : MS)).now, .map (some bm)] 48 (0, 0)) :: (bm, mapB .u32 evB ((⟨s.size, s.rate, s.burst, s.now, delT s.l x.1, s.c⟩ : MS)).l ((⟨s.size, s.rate, s.burst, s.now, delT s.l x.1, s.c⟩ : MS)).c) :: h) := by
  refine Tri.enter (n := 36) Try.func17 rfl rfl rfl ?_
  simp only [argsE, Nat.reduceAdd]
  try dsimp only [argsE]
  refine AK.seq ?_
  refine AK.region ?_
  refine AO.val (RV.assign rfl) (.none rfl) rfl ?_
  refine AO.nil ?_
  refine AK.seq ?_
  refine AK.region ?_
  refine AO.val (RV.assign rfl) (.none rfl) rfl ?_
  refine AO.nil ?_
  refine AK.seq ?_
  refine AK.seq ?_
  refine AK.region ?_
  refine AO.val (RV.move rfl) (.none rfl) rfl ?_
  refine AO.val (RV.nilCheck rfl) (.none rfl) rfl ?_
  refine AO.val (RV.fieldAddr rfl) (.none rfl) rfl ?_
  refine AO.val (by first | exact RV.loadO rfl rfl (by simp) | exact RV.loadS rfl (by assumption) (by omega) (by simp)) (.none rfl) rfl ?_
  refine AO.eff (EF.range rfl) (.none rfl) rfl ?_
  rintro _ _ ⟨b10, hf10, rfl, rfl⟩
  refine AO.nil ?_
  refine AK.block ?_
  refine AK.loop (α := List Nat × Nat × Bool × Int) (E := fun (V, cc, fd, g) => [(0, .pointer (some ⟨p, 0, none⟩)), (2, .int .u32 g), (3, .bool fd), (10, .pointer (some ⟨b10, 0, none⟩))]) (H := fun (V, cc, fd, g) => (b10, itB bm s.c V cc) :: (pre ++ ((p, Blk.cells [.int .i64 (s).size, .int .i64 (s).rate, .int .i64 (s).burst, .int .i64 (s).now, .map (some bm)] 48 (0, 0)) :: (bm, mapB .u32 evB (s).l (s).c) :: h))) (Inv := fun (V, cc, fd, g) => s.c ≤ cc ∧ Oldest s.l V fd g) (μ := fun (V, cc, fd, g) => leftN s.l V) ([], s.c, false, 0) ?_ (.cons (by exact rfl) (.cons (by exact rfl) (.cons (by exact rfl) (.cons (by exact rfl) .nil)))) ?_ ?_
  · exact ⟨Nat.le_refl _, fun _ => rfl, fun h => by cases h⟩
  · exact List.Sublist.refl _
  rintro ⟨V, cc, fd, g⟩ ⟨hcc, ho⟩ hih0
  try dsimp only at hih0 ⊢
  refine AK.seq ?_
  refine AK.region ?_
  refine AO.eff (EF.next rfl hst hcc) (.none rfl) rfl ?_
  rintro _ _ (⟨hall, rfl, rfl⟩ | ⟨yy, hyl, hyn, rfl, rfl⟩)
  · try dsimp only
    refine AO.val (RV.extract rfl rfl) (.none rfl) rfl ?_
    refine AO.nil ?_
    refine AK.seq ?_
    refine AK.condF rfl ?_
    refine AK.exit rfl ?_
    refine AK.region ?_
    refine AO.val (RV.move rfl) (.none rfl) rfl ?_
    refine AO.val (RV.nilCheck rfl) (.none rfl) rfl ?_
    refine AO.val (RV.fieldAddr rfl) (.none rfl) rfl ?_
    refine AO.val (by first | exact RV.loadO rfl rfl (by simp) | exact RV.loadS rfl (by assumption) (by omega) (by simp)) (.none rfl) rfl ?_
    refine AO.val (RV.move rfl) (.none rfl) rfl ?_
    refine AO.effN (EF.delete (((0, 0) : Bk)) rfl rfl) (.none rfl) ?_
    rintro _ _ ⟨rfl, rfl⟩
    refine AO.nil ?_
    -- at L0o
    clear hih0
    have hfd : fd = true := by
      cases hf : fd with
      | true => rfl
      | false =>
        exfalso
        cases hl : s.l with
        | nil => exact hne hl
        | cons y r => have := hall y (by rw [hl]; exact List.mem_cons_self); rw [ho.no hf] at this; cases this
    obtain ⟨xx, hxl, hxg, hxV, hmin⟩ := ho.yes hfd
    refine AK.fin (h' := pre ++ ((p, Blk.cells [.int .i64 ((⟨s.size, s.rate, s.burst, s.now, delT s.l g, s.c⟩ : MS)).size, .int .i64 ((⟨s.size, s.rate, s.burst, s.now, delT s.l g, s.c⟩ : MS)).rate, .int .i64 ((⟨s.size, s.rate, s.burst, s.now, delT s.l g, s.c⟩ : MS)).burst, .int .i64 ((⟨s.size, s.rate, s.burst, s.now, delT s.l g, s.c⟩ : MS)).now, .map (some bm)] 48 (0, 0)) :: (bm, mapB .u32 evB ((⟨s.size, s.rate, s.burst, s.now, delT s.l g, s.c⟩ : MS)).l ((⟨s.size, s.rate, s.burst, s.now, delT s.l g, s.c⟩ : MS)).c) :: h)) Try.func17 .nil ?_ (List.Sublist.cons _ (List.Sublist.refl _))
    exact ⟨xx, hxl, fun y hy => hmin y hy (hall y hy), by rw [hxg]⟩
  · try dsimp only
    refine AO.val (RV.extract rfl rfl) (.none rfl) rfl ?_
    refine AO.nil ?_
    refine AK.seq ?_
    refine AK.condT rfl ?_
    refine AK.skip ?_
    refine AK.block ?_
    refine AK.seq ?_
    refine AK.region ?_
    refine AO.val (RV.entry rfl hyl hst (by simp)) (.none rfl) rfl ?_
    refine AO.val (RV.extract rfl rfl) (.none rfl) rfl ?_
    refine AO.val (RV.extract rfl rfl) (.none rfl) rfl ?_
    refine AO.eff (EF.alloc) (.none rfl) rfl ?_
    rintro _ _ ⟨b5, hf5, rfl, rfl⟩
    refine AO.val (RV.assign rfl) (.none rfl) rfl ?_
    refine AO.effN (EF.storeO rfl rfl rfl rfl rfl rfl) (.none rfl) ?_
    rintro _ _ rfl
    refine AO.nil ?_
    refine AK.seq ?_
    refine AK.draw [] [] mixed ?_
    refine AD.takeP 0 rfl (by kernel_rfl) (RV.move rfl) (.none rfl) rfl ?_
    refine AD.takeP 1 rfl (by kernel_rfl) (RV.not rfl) (.none rfl) rfl ?_
    refine AD.takeP 2 rfl (by kernel_rfl) (RV.move rfl) (.none rfl) rfl ?_
    refine AD.caseG (d := 18) (j := 2) rfl rfl ?_ ?_
    · intro hg1
      try simp only [decide_eq_true_eq, decide_eq_false_iff_not, Bool.not_eq_true', Bool.not_eq_false', beq_iff_eq] at hg1
      refine AD.pass 3 rfl (by kernel_rfl) (.some rfl rfl rfl rfl) rfl ?_
      refine AD.pass 4 rfl (by kernel_rfl) (.some rfl rfl rfl rfl) rfl ?_
      refine AD.pass 5 rfl (by kernel_rfl) (.some rfl rfl rfl rfl) rfl ?_
      refine AD.pass 6 rfl (by kernel_rfl) (.some rfl rfl rfl rfl) rfl ?_
      refine AD.pass 7 rfl (by kernel_rfl) (.some rfl rfl rfl rfl) rfl ?_
      refine AD.pass 8 rfl (by kernel_rfl) (.some rfl rfl rfl rfl) rfl ?_
      refine AD.pass 9 rfl (by kernel_rfl) (.some rfl rfl rfl rfl) rfl ?_
      refine AD.pass 10 rfl (by kernel_rfl) (.some rfl rfl rfl rfl) rfl ?_
      refine AD.pass 11 rfl (by kernel_rfl) (.some rfl rfl rfl rfl) rfl ?_
      refine AD.pass 12 rfl (by kernel_rfl) (.some rfl rfl rfl rfl) rfl ?_
      refine AD.takeP 13 rfl (by kernel_rfl) (RV.pickT rfl rfl) (.none rfl) rfl ?_
      refine AD.done (by kernel_rfl) ?_
      refine AK.condT rfl ?_
      refine AK.region ?_
      refine AO.val (RV.move rfl) (.none rfl) rfl ?_
      refine AO.val (RV.assign rfl) (.none rfl) rfl ?_
      refine AO.val (RV.assign rfl) (.none rfl) rfl ?_
      refine AO.nil ?_
      refine AK.inBlock ?_
      -- round ends at L0xt
      refine AK.weak (.cons (by exact rfl) (.cons (by exact rfl) (.cons (by exact rfl) (.cons (by exact rfl) .nil)))) (by first | exact SubO.sub | exact .cons _ (List.Sublist.refl _)) (hih0 (V ++ [yy.2.2], s.c, true, yy.1) ?_ ?_)
      · try dsimp only
        exact ⟨Nat.le_refl _, (oldest_step hst hk ho hyl).1 (.inl (by simpa using hg1))⟩
      · try dsimp only
        exact left_less hyl hyn
    · intro hg1
      try simp only [decide_eq_true_eq, decide_eq_false_iff_not, Bool.not_eq_true', Bool.not_eq_false', beq_iff_eq] at hg1
      refine AD.takeP 3 rfl (by kernel_rfl) (RV.move rfl) (.some rfl rfl rfl rfl) rfl ?_
      refine AD.take 4 rfl (by kernel_rfl) (by first | exact RV.loadAggO rfl rfl (by simp) | exact RV.loadAggP rfl rfl rfl (by simp)) (.some rfl rfl rfl rfl) rfl ?_
      refine AD.takeP 5 rfl (by kernel_rfl) (RV.move rfl) (.some rfl rfl rfl rfl) rfl ?_
      refine AD.takeP 6 rfl (by kernel_rfl) (RV.move rfl) (.some rfl rfl rfl rfl) rfl ?_
      refine AD.takeP 7 rfl (by kernel_rfl) (RV.nilCheck rfl) (.some rfl rfl rfl rfl) rfl ?_
      refine AD.takeP 8 rfl (by kernel_rfl) (RV.fieldAddr rfl) (.some rfl rfl rfl rfl) rfl ?_
      refine AD.take 9 rfl (by kernel_rfl) (by first | exact RV.loadO rfl rfl (by simp) | exact RV.loadS rfl (by assumption) (by omega) (by simp)) (.some rfl rfl rfl rfl) rfl ?_
      refine AD.takeP 10 rfl (by kernel_rfl) (RV.move rfl) (.some rfl rfl rfl rfl) rfl ?_
      refine AD.take 11 rfl (by kernel_rfl) (RV.lookup (((0, 0) : Bk)) rfl rfl rfl (by simp)) (.some rfl rfl rfl rfl) rfl ?_
      refine AD.one 12 (by kernel_rfl) (AE.eff rfl (EF.callF rfl (older_spec B _ yy.1 g yy.2.1.1 yy.2.1.2 ((findT s.l g).getD (0, 0)).1 ((findT s.l g).getD (0, 0)).2)) (.some rfl rfl rfl rfl) rfl ?_)
      rintro _ _ ⟨rfl, rfl⟩
      refine ⟨(by first | exact .inr fun x hx hM => hx | exact .inr fun x hx hM => List.mem_cons_of_mem _ hx | exact .inr fun x hx hM => List.mem_append_right _ hx), ?_⟩
      refine AD.takeP 13 rfl (by kernel_rfl) (RV.pickF rfl rfl) (.none rfl) rfl ?_
      refine AD.done (by kernel_rfl) ?_
      refine AK.cond rfl ?_ ?_
      · intro hc2
        try simp only [decide_eq_true_eq, decide_eq_false_iff_not, Bool.not_eq_true', Bool.not_eq_false', beq_iff_eq] at hc2
        refine AK.region ?_
        refine AO.val (RV.move rfl) (.none rfl) rfl ?_
        refine AO.val (RV.assign rfl) (.none rfl) rfl ?_
        refine AO.val (RV.assign rfl) (.none rfl) rfl ?_
        refine AO.nil ?_
        refine AK.inBlock ?_
        -- round ends at L0xfT
        refine AK.weak (.cons (by exact rfl) (.cons (by exact rfl) (.cons (by exact rfl) (.cons (by exact rfl) .nil)))) (by first | exact SubO.sub | exact .cons _ (List.Sublist.refl _)) (hih0 (V ++ [yy.2.2], s.c, true, yy.1) ?_ ?_)
        · try dsimp only
          exact ⟨Nat.le_refl _, (oldest_step hst hk ho hyl).1 (.inr (by assumption))⟩
        · try dsimp only
          exact left_less hyl hyn
      · intro hc2
        try simp only [decide_eq_true_eq, decide_eq_false_iff_not, Bool.not_eq_true', Bool.not_eq_false', beq_iff_eq] at hc2
        refine AK.skip ?_
        refine AK.inBlock ?_
        -- round ends at L0xfF
        refine AK.weak (.cons (by exact rfl) (.cons (by exact rfl) (.cons (by rw [show fd = true by simpa using hg1]; exact rfl) (.cons (by exact rfl) .nil)))) (by first | exact SubO.sub | exact .cons _ (List.Sublist.refl _)) (hih0 (V ++ [yy.2.2], s.c, true, g) ?_ ?_)
        · try dsimp only
          exact ⟨Nat.le_refl _, (oldest_step hst hk ho hyl).2 (by simpa using hg1) (by assumption)⟩
        · try dsimp only
          exact left_less hyl hyn

end Go.Proofs.Ytdefjkokbffccaa
