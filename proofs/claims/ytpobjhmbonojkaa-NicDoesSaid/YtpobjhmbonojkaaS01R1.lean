/- Walks through the code: what each function that is named here gives back, from any memory that holds its arguments. Written by a program of the claim's author, out of the program's form in Lean. -/
import Derived.Test.YtpobjhmbonojkaaFacts
import Derived.Test.YtpobjhmbonojkaaPlain01
set_option linter.unusedSimpArgs false
set_option linter.unusedVariables false
namespace Go.Proofs.Ytpobjhmbonojkaa
open Go.Sep Go.Sep.Sip

theorem in_spec (B : World) (h : Own) (n lo hi : Int) (hlh : lo ≤ hi) : Tri Try.prog B 25 [.int .i64 n, .int .i64 lo, .int .i64 hi] h fun v h' => h = h' ∧ v = .int .i64 (min (max n lo) hi) := by
  refine Tri.enter (n := 16) Try.func25 rfl rfl rfl ?_
  simp only [argsE, Nat.reduceAdd]
  try dsimp only [argsE]
  refine AK.seq ?_
  refine AK.region ?_
  refine AO.val (RV.assign rfl) (.none rfl) rfl ?_
  refine AO.nil ?_
  refine AK.seq ?_
  refine AK.seq ?_
  refine AK.region ?_
  refine AO.val (RV.move rfl) (.none rfl) rfl ?_
  refine AO.val (RV.move rfl) (.none rfl) rfl ?_
  refine AO.val (RV.lss rfl rfl) (.none rfl) rfl ?_
  refine AO.nil ?_
  refine AK.cond rfl ?_ ?_
  · intro hc1
    try simp only [decide_eq_true_eq, decide_eq_false_iff_not, Bool.not_eq_true', Bool.not_eq_false', beq_iff_eq] at hc1
    refine AK.seq ?_
    refine AK.region ?_
    refine AO.val (RV.move rfl) (.none rfl) rfl ?_
    refine AO.val (RV.assign rfl) (.none rfl) rfl ?_
    refine AO.nil ?_
    -- at T
    refine AK.ret (h' := h) Try.func25 (.tmp rfl .nil) ?_ (by first | exact SubO.sub | exact List.Sublist.refl _ | exact .cons _ (List.Sublist.refl _) | exact .cons _ (.cons _ (List.Sublist.refl _)) | exact .cons _ (.cons _ (.cons _ (List.Sublist.refl _))))
    refine ⟨rfl, ?_⟩
    simp only [oneOr, Value.int.injEq, true_and]; omega
  · intro hc1
    try simp only [decide_eq_true_eq, decide_eq_false_iff_not, Bool.not_eq_true', Bool.not_eq_false', beq_iff_eq] at hc1
    refine AK.skip ?_
    refine AK.seq ?_
    refine AK.seq ?_
    refine AK.region ?_
    refine AO.val (RV.move rfl) (.none rfl) rfl ?_
    refine AO.val (RV.move rfl) (.none rfl) rfl ?_
    refine AO.val (RV.gtr rfl rfl) (.none rfl) rfl ?_
    refine AO.nil ?_
    refine AK.cond rfl ?_ ?_
    · intro hc2
      try simp only [decide_eq_true_eq, decide_eq_false_iff_not, Bool.not_eq_true', Bool.not_eq_false', beq_iff_eq] at hc2
      refine AK.seq ?_
      refine AK.region ?_
      refine AO.val (RV.move rfl) (.none rfl) rfl ?_
      refine AO.val (RV.assign rfl) (.none rfl) rfl ?_
      refine AO.nil ?_
      -- at FT
      refine AK.ret (h' := h) Try.func25 (.tmp rfl .nil) ?_ (by first | exact SubO.sub | exact List.Sublist.refl _ | exact .cons _ (List.Sublist.refl _) | exact .cons _ (.cons _ (List.Sublist.refl _)) | exact .cons _ (.cons _ (.cons _ (List.Sublist.refl _))))
      refine ⟨rfl, ?_⟩
      simp only [oneOr, Value.int.injEq, true_and]; omega
    · intro hc2
      try simp only [decide_eq_true_eq, decide_eq_false_iff_not, Bool.not_eq_true', Bool.not_eq_false', beq_iff_eq] at hc2
      refine AK.skip ?_
      refine AK.seq ?_
      refine AK.region ?_
      refine AO.val (RV.move rfl) (.none rfl) rfl ?_
      refine AO.val (RV.assign rfl) (.none rfl) rfl ?_
      refine AO.nil ?_
      -- at FF
      refine AK.ret (h' := h) Try.func25 (.tmp rfl .nil) ?_ (by first | exact SubO.sub | exact List.Sublist.refl _ | exact .cons _ (List.Sublist.refl _) | exact .cons _ (.cons _ (List.Sublist.refl _)) | exact .cons _ (.cons _ (.cons _ (List.Sublist.refl _))))
      refine ⟨rfl, ?_⟩
      simp only [oneOr, Value.int.injEq, true_and]; omega

theorem few_spec (B : World) (h : Own) {A : Option Addr} {cap : Nat} (l : List Int) (n : Int) (hn : 0 ≤ n) (hcap : l.length ≤ cap) : Tri Try.prog B 8 [.slice A l.length cap, .int .i64 n] h fun v h' => h = h' ∧ v = .slice A (l.take n.toNat).length cap := by
  refine Tri.enter (n := 13) Try.func8 rfl rfl rfl ?_
  simp only [argsE, Nat.reduceAdd]
  try dsimp only [argsE]
  refine AK.seq ?_
  refine AK.region ?_
  refine AO.val (RV.assign rfl) (.none rfl) rfl ?_
  refine AO.nil ?_
  refine AK.seq ?_
  refine AK.seq ?_
  refine AK.region ?_
  refine AO.val (RV.move rfl) (.none rfl) rfl ?_
  refine AO.val (RV.lenS rfl) (.none rfl) rfl ?_
  refine AO.val (RV.move rfl) (.none rfl) rfl ?_
  refine AO.val (RV.gtr rfl rfl) (.none rfl) rfl ?_
  refine AO.nil ?_
  refine AK.cond rfl ?_ ?_
  · intro hc1
    try simp only [decide_eq_true_eq, decide_eq_false_iff_not, Bool.not_eq_true', Bool.not_eq_false', beq_iff_eq] at hc1
    refine AK.seq ?_
    refine AK.region ?_
    refine AO.val (RV.move rfl) (.none rfl) rfl ?_
    refine AO.val (RV.move rfl) (.none rfl) rfl ?_
    refine AO.val (RV.sliceHi rfl rfl (by omega)) (.none rfl) rfl ?_
    refine AO.val (RV.assign rfl) (.none rfl) rfl ?_
    refine AO.nil ?_
    -- at T
    refine AK.ret (h' := h) Try.func8 (.tmp rfl .nil) ?_ (by first | exact SubO.sub | exact List.Sublist.refl _ | exact .cons _ (List.Sublist.refl _) | exact .cons _ (.cons _ (List.Sublist.refl _)) | exact .cons _ (.cons _ (.cons _ (List.Sublist.refl _))))
    refine ⟨rfl, ?_⟩
    simp only [oneOr, List.length_take]
    congr 1; omega
  · intro hc1
    try simp only [decide_eq_true_eq, decide_eq_false_iff_not, Bool.not_eq_true', Bool.not_eq_false', beq_iff_eq] at hc1
    refine AK.skip ?_
    refine AK.seq ?_
    refine AK.region ?_
    refine AO.val (RV.move rfl) (.none rfl) rfl ?_
    refine AO.val (RV.assign rfl) (.none rfl) rfl ?_
    refine AO.nil ?_
    -- at F
    refine AK.ret (h' := h) Try.func8 (.tmp rfl .nil) ?_ (by first | exact SubO.sub | exact List.Sublist.refl _ | exact .cons _ (List.Sublist.refl _) | exact .cons _ (.cons _ (List.Sublist.refl _)) | exact .cons _ (.cons _ (.cons _ (List.Sublist.refl _))))
    refine ⟨rfl, ?_⟩
    simp only [oneOr, List.length_take]
    congr 1; omega

theorem add_spec (B : World) (h : Own) {A A2 : Option Addr} {cap cap2 : Nat} (l m : List Int) (hl : Src B h A l.length 1 (l.map (fun x => Value.int .u8 x))) (hm : Src B h A2 m.length 1 (m.map (fun x => Value.int .u8 x))) (hlen : l.length + m.length ≤ 1000000) : Tri Try.prog B 43 [.slice A l.length cap, .slice A2 m.length cap2] h fun v h' => NewS 5 1 (l ++ m).length ((l ++ m).map (fun x => Value.int .u8 x)) h v h' := by
  refine Tri.enter (n := 13) Try.func43 rfl rfl rfl ?_
  simp only [argsE, Nat.reduceAdd]
  try dsimp only [argsE]
  refine AK.seq ?_
  refine AK.region ?_
  refine AO.val (RV.assign rfl) (.none rfl) rfl ?_
  refine AO.nil ?_
  refine AK.seq ?_
  refine AK.region ?_
  refine AO.eff (EF.buildSeq [] rfl rfl rfl rfl) (.none rfl) rfl ?_
  rintro _ _ ⟨b6, hf6, rfl, rfl⟩
  refine AO.val (RV.assign rfl) (.none rfl) rfl ?_
  refine AO.nil ?_
  refine AK.seq ?_
  refine AK.region ?_
  refine AO.val (RV.move rfl) (.none rfl) rfl ?_
  refine AO.val (RV.move rfl) (.none rfl) rfl ?_
  refine AO.eff (EF.append rfl rfl (Row.new rfl) (List.Perm.refl _) hl.sub rfl (by decide) (by simp [Value.oneCell']) (by simp; omega) (by simp; omega)) (.none rfl) rfl ?_
  rintro v9 _ ⟨p1, hr1, rfl⟩
  refine AO.val (RV.assign rfl) (.none rfl) rfl ?_
  refine AO.nil ?_
  refine AK.seq ?_
  refine AK.region ?_
  refine AO.val (RV.move rfl) (.none rfl) rfl ?_
  refine AO.val (RV.move rfl) (.none rfl) rfl ?_
  refine AO.eff (EF.append rfl rfl hr1 (List.Perm.refl _) hm.sub rfl (by decide) (by simp [Value.oneCell']) (by simp; omega) (by simp; omega)) (.none rfl) rfl ?_
  rintro v12 _ ⟨p2, hr2, rfl⟩
  obtain ⟨A3, c3, rfl, hc3, hall⟩ := hr2.slice
  have hlen2 : 0 + l.length + m.length = (l ++ m).length := by simp
  rw [hlen2] at hr2 hc3 ⊢
  simp only [zerosL, List.nil_append, ← List.map_append] at hr2
  refine AO.val (RV.assign rfl) (.none rfl) rfl ?_
  refine AO.nil ?_
  -- at 
  refine AK.ret (h' := p2 ++ h) Try.func43 (.tmp rfl .nil) ?_ (by first | exact SubO.sub | exact List.Sublist.refl _ | exact .cons _ (List.Sublist.refl _) | exact .cons _ (.cons _ (List.Sublist.refl _)) | exact .cons _ (.cons _ (.cons _ (List.Sublist.refl _))))
  exact ⟨A3, c3, p2, rfl, hr2, hc3, rfl⟩

theorem same_spec (B : World) (h : Own) {A A2 : Option Addr} {cap cap2 : Nat} (l m : List Int) (hl : Src B h A l.length 1 (l.map (fun x => Value.int .u8 x))) (hm : Src B h A2 m.length 1 (m.map (fun x => Value.int .u8 x))) (hlen : l.length ≤ 9223372036854775807) : Tri Try.prog B 11 [.slice A l.length cap, .slice A2 m.length cap2] h fun v h' => h = h' ∧ ∃ b, v = .bool b ∧ (b = true ↔ l = m) := by
  refine Tri.enter (n := 26) Try.func11 rfl rfl rfl ?_
  simp only [argsE, Nat.reduceAdd]
  try dsimp only [argsE]
  refine AK.seq ?_
  refine AK.region ?_
  refine AO.val (RV.assign rfl) (.none rfl) rfl ?_
  refine AO.nil ?_
  refine AK.seq ?_
  refine AK.seq ?_
  refine AK.region ?_
  refine AO.val (RV.move rfl) (.none rfl) rfl ?_
  refine AO.val (RV.lenS rfl) (.none rfl) rfl ?_
  refine AO.val (RV.move rfl) (.none rfl) rfl ?_
  refine AO.val (RV.lenS rfl) (.none rfl) rfl ?_
  refine AO.val (RV.neq rfl rfl) (.none rfl) rfl ?_
  refine AO.nil ?_
  refine AK.cond rfl ?_ ?_
  · intro hc1
    try simp only [decide_eq_true_eq, decide_eq_false_iff_not, Bool.not_eq_true', Bool.not_eq_false', beq_iff_eq] at hc1
    refine AK.seq ?_
    refine AK.region ?_
    refine AO.val (RV.assign rfl) (.none rfl) rfl ?_
    refine AO.nil ?_
    -- at T
    refine AK.ret (h' := h) Try.func11 (.tmp rfl .nil) ?_ (by first | exact SubO.sub | exact List.Sublist.refl _ | exact .cons _ (List.Sublist.refl _) | exact .cons _ (.cons _ (List.Sublist.refl _)) | exact .cons _ (.cons _ (.cons _ (List.Sublist.refl _))))
    refine ⟨rfl, _, rfl, ?_⟩
    simp only [Bool.false_eq_true, false_iff]
    intro e; subst e; simp at hc1
  · intro hc1
    try simp only [decide_eq_true_eq, decide_eq_false_iff_not, Bool.not_eq_true', Bool.not_eq_false', beq_iff_eq] at hc1
    refine AK.skip ?_
    refine AK.seq ?_
    refine AK.seq ?_
    refine AK.region ?_
    refine AO.val (RV.assign rfl) (.none rfl) rfl ?_
    refine AO.nil ?_
    refine AK.block ?_
    refine AK.loop (α := Int) (E := fun i => [(0, .slice A l.length cap), (1, .slice A2 m.length cap2), (5, .int .i64 i)]) (H := fun i => h) (Inv := fun i => 0 ≤ i ∧ i ≤ l.length ∧ ∀ j, 0 ≤ j → j < i → lget l j = lget m j) (μ := fun i => (l.length - i).toNat) 0 ?_ (.cons (by exact rfl) (.cons (by exact rfl) (.cons (by exact rfl) .nil))) ?_ ?_
    · exact ⟨by omega, by omega, fun j h1 h2 => by omega⟩
    · exact (by first | exact SubO.sub | exact List.Sublist.refl _ | exact .cons _ (List.Sublist.refl _) | exact .cons _ (.cons _ (List.Sublist.refl _)) | exact .cons _ (.cons _ (.cons _ (List.Sublist.refl _))))
    rintro i ⟨hi0, hin, hall⟩ hih0
    try dsimp only at hih0 ⊢
    refine AK.seq ?_
    refine AK.seq ?_
    refine AK.region ?_
    refine AO.val (RV.move rfl) (.none rfl) rfl ?_
    refine AO.val (RV.move rfl) (.none rfl) rfl ?_
    refine AO.val (RV.lenS rfl) (.none rfl) rfl ?_
    refine AO.val (RV.lss rfl rfl) (.none rfl) rfl ?_
    refine AO.nil ?_
    refine AK.cond rfl ?_ ?_
    · intro hc2
      try simp only [decide_eq_true_eq, decide_eq_false_iff_not, Bool.not_eq_true', Bool.not_eq_false', beq_iff_eq] at hc2
      refine AK.skip ?_
      refine AK.seq ?_
      refine AK.block ?_
      refine AK.seq ?_
      refine AK.draw [] [] mixed ?_
      refine AD.takeP 0 rfl (by kernel_rfl) (RV.move rfl) (.none rfl) rfl ?_
      refine AD.takeP 1 rfl (by kernel_rfl) (RV.move rfl) (.none rfl) rfl ?_
      refine AD.takeP 2 rfl (by kernel_rfl) (by first | exact RV.indexS rfl rfl (by assumption) (by omega) rfl | exact RV.indexAddr rfl rfl (by omega)) (.none rfl) rfl ?_
      refine AD.take 3 rfl (by kernel_rfl) (by first | exact RV.loadO rfl rfl (by first | simp | assumption) | exact RV.loadS rfl (by assumption) (by omega) (by first | simp | assumption)) (.none rfl) rfl ?_
      refine AD.takeP 4 rfl (by kernel_rfl) (RV.move rfl) (.none rfl) rfl ?_
      refine AD.takeP 5 rfl (by kernel_rfl) (RV.move rfl) (.none rfl) rfl ?_
      refine AD.takeP 6 rfl (by kernel_rfl) (by first | exact RV.indexS rfl rfl (by assumption) (by omega) rfl | exact RV.indexAddr rfl rfl (by omega)) (.none rfl) rfl ?_
      refine AD.take 7 rfl (by kernel_rfl) (by first | exact RV.loadO rfl rfl (by first | simp | assumption) | exact RV.loadS rfl (by assumption) (by omega) (by first | simp | assumption)) (.none rfl) rfl ?_
      refine AD.takeP 8 rfl (by kernel_rfl) (RV.neq rfl rfl) (.none rfl) rfl ?_
      refine AD.done (by kernel_rfl) ?_
      refine AK.cond rfl ?_ ?_
      · intro hc3
        try simp only [decide_eq_true_eq, decide_eq_false_iff_not, Bool.not_eq_true', Bool.not_eq_false', beq_iff_eq] at hc3
        refine AK.seq ?_
        refine AK.region ?_
        refine AO.val (RV.assign rfl) (.none rfl) rfl ?_
        refine AO.nil ?_
        -- at FL0TT
        clear hih0
        refine AK.ret (h' := h) Try.func11 (.tmp rfl .nil) ?_ (by first | exact SubO.sub | exact List.Sublist.refl _ | exact .cons _ (List.Sublist.refl _) | exact .cons _ (.cons _ (List.Sublist.refl _)) | exact .cons _ (.cons _ (.cons _ (List.Sublist.refl _))))
        refine ⟨rfl, _, rfl, ?_⟩
        simp only [Bool.false_eq_true, false_iff]
        intro e; subst e; simp at hc3
      · intro hc3
        try simp only [decide_eq_true_eq, decide_eq_false_iff_not, Bool.not_eq_true', Bool.not_eq_false', beq_iff_eq] at hc3
        refine AK.skip ?_
        refine AK.inBlock ?_
        refine AK.region ?_
        refine AO.val (RV.move rfl) (.none rfl) rfl ?_
        refine AO.val (by first | exact RV.addIn rfl rfl (by omega) | exact RV.add rfl rfl) (.none rfl) rfl ?_
        refine AO.val (RV.assign rfl) (.none rfl) rfl ?_
        refine AO.nil ?_
        -- round ends at FL0TF
        refine AK.weak (.cons (by exact rfl) (.cons (by exact rfl) (.cons (by exact rfl) .nil))) (by first | exact SubO.sub | exact List.Sublist.refl _ | exact .cons _ (List.Sublist.refl _) | exact .cons _ (.cons _ (List.Sublist.refl _)) | exact .cons _ (.cons _ (.cons _ (List.Sublist.refl _)))) (hih0 (i + 1) ?_ ?_)
        · try dsimp only
          refine ⟨by omega, by omega, fun j h1 h2 => ?_⟩
          by_cases hj : j = i
          · subst hj; simpa using hc3
          · exact hall j h1 (by omega)
        · try dsimp only
          omega
    · intro hc2
      try simp only [decide_eq_true_eq, decide_eq_false_iff_not, Bool.not_eq_true', Bool.not_eq_false', beq_iff_eq] at hc2
      refine AK.exit rfl ?_
      refine AK.seq ?_
      refine AK.region ?_
      refine AO.val (RV.assign rfl) (.none rfl) rfl ?_
      refine AO.nil ?_
      -- at FL0F
      clear hih0
      refine AK.ret (h' := h) Try.func11 (.tmp rfl .nil) ?_ (by first | exact SubO.sub | exact List.Sublist.refl _ | exact .cons _ (List.Sublist.refl _) | exact .cons _ (.cons _ (List.Sublist.refl _)) | exact .cons _ (.cons _ (.cons _ (List.Sublist.refl _))))
      refine ⟨rfl, _, rfl, ?_⟩
      simp only [true_iff]
      exact lget_ext (by first | omega | (simp at hc1; omega)) (fun j h1 h2 => hall j h1 (by omega))

end Go.Proofs.Ytpobjhmbonojkaa
