/- Walks through the code: what each function that is named here gives back, from any memory that holds its arguments. Written by a program of the claim's author, out of the program's form in Lean. -/
import Derived.Test.YtefpiiknjnekeaaS01R3
import Derived.Test.YtefpiiknjnekeaaPlain
set_option linter.unusedSimpArgs false
set_option linter.unusedVariables false
namespace Go.Proofs.Ytefpiiknjnekeaa
open Go.Sep Go.Sep.Sip Go.Sep.Tag Go.Sep.Count

theorem names_spec (B : World) (h : Own)  : Tri Try.prog B 21 [] h fun v h' => h = h' ∧ v = .agg (NMS.map (fun x => Value.string (strL x))).toArray := by
  refine Tri.enter (n := 2) Try.func21 rfl rfl rfl ?_
  try dsimp only [argsE]
  refine AK.seq ?_
  refine AK.region ?_
  refine AO.eff (EF.alloc) (.none rfl) rfl ?_
  rintro _ _ ⟨b0, hf0, rfl, rfl⟩
  refine AO.nil ?_
  refine AK.seq ?_
  refine AK.region ?_
  refine AO.val (RV.buildArrSeq (z1 := .string .empty) (NMS.map (fun x => Value.string (strL x))) (by kernel_rfl) (by kernel_rfl) (by kernel_rfl) (by kernel_rfl)) (.none rfl) rfl ?_
  refine AO.effN (EF.storeArr (l := NMS) (f := fun x => Value.string (strL x)) rfl rfl NMS_len (fun _ => rfl) rfl) (.none rfl) ?_
  rintro _ _ rfl
  refine AO.nil ?_
  -- at 
  refine AK.ret (h' := h) Try.func21 (.arr rfl NMS_len .nil) ?_ (by first | exact SubO.sub | exact List.Sublist.refl _ | exact .cons _ (List.Sublist.refl _) | exact .cons _ (.cons _ (List.Sublist.refl _)) | exact .cons _ (.cons _ (.cons _ (List.Sublist.refl _))))
  exact ⟨rfl, rfl⟩

theorem name_spec (B : World) (h : Own) (k : Int) : Tri Try.prog B 8 [.int .i64 k] h fun v h' => h = h' ∧ v = .string (strL (nameS k)) := by
  have hnl := NMS_len
  refine Tri.enter (n := 12) Try.func8 rfl rfl rfl ?_
  simp only [argsE, Nat.reduceAdd]
  try dsimp only [argsE]
  refine AK.seq ?_
  refine AK.region ?_
  refine AO.val (RV.assign rfl) (.none rfl) rfl ?_
  refine AO.nil ?_
  refine AK.seq ?_
  refine AK.seq ?_
  refine AK.region ?_
  refine AO.val (RV.move rfl) (.none rfl) rfl ?_
  refine AO.val (RV.lss rfl rfl) (.none rfl) rfl ?_
  refine AO.val (RV.move rfl) (.none rfl) rfl ?_
  refine AO.caseG rfl rfl rfl ?_ ?_
  · intro hg1
    try simp only [decide_eq_true_eq, decide_eq_false_iff_not, Bool.not_eq_true', Bool.not_eq_false', beq_iff_eq] at hg1
    refine AO.pass (.some rfl rfl rfl rfl) rfl ?_
    refine AO.pass (.some rfl rfl rfl rfl) rfl ?_
    refine AO.val (RV.pickT rfl rfl) (.none rfl) rfl ?_
    refine AO.nil ?_
    refine AK.condT rfl ?_
    refine AK.seq ?_
    refine AK.region ?_
    refine AO.val (RV.assign rfl) (.none rfl) rfl ?_
    refine AO.nil ?_
    -- at t
    refine AK.ret (h' := h) Try.func8 (.tmp rfl .nil) ?_ (by first | exact SubO.sub | exact List.Sublist.refl _ | exact .cons _ (List.Sublist.refl _) | exact .cons _ (.cons _ (List.Sublist.refl _)) | exact .cons _ (.cons _ (.cons _ (List.Sublist.refl _))))
    refine ⟨rfl, ?_⟩
    rw [nameS, if_neg (by omega)]; rfl
  · intro hg1
    try simp only [decide_eq_true_eq, decide_eq_false_iff_not, Bool.not_eq_true', Bool.not_eq_false', beq_iff_eq] at hg1
    refine AO.val (RV.move rfl) (.some rfl rfl rfl rfl) rfl ?_
    refine AO.val (RV.geq rfl rfl) (.some rfl rfl rfl rfl) rfl ?_
    refine AO.val (RV.pickF rfl rfl) (.none rfl) rfl ?_
    refine AO.nil ?_
    refine AK.cond rfl ?_ ?_
    · intro hc2
      try simp only [decide_eq_true_eq, decide_eq_false_iff_not, Bool.not_eq_true', Bool.not_eq_false', beq_iff_eq] at hc2
      refine AK.seq ?_
      refine AK.region ?_
      refine AO.val (RV.assign rfl) (.none rfl) rfl ?_
      refine AO.nil ?_
      -- at fT
      refine AK.ret (h' := h) Try.func8 (.tmp rfl .nil) ?_ (by first | exact SubO.sub | exact List.Sublist.refl _ | exact .cons _ (List.Sublist.refl _) | exact .cons _ (.cons _ (List.Sublist.refl _)) | exact .cons _ (.cons _ (.cons _ (List.Sublist.refl _))))
      refine ⟨rfl, ?_⟩
      rw [nameS, if_neg (by omega)]; rfl
    · intro hc2
      try simp only [decide_eq_true_eq, decide_eq_false_iff_not, Bool.not_eq_true', Bool.not_eq_false', beq_iff_eq] at hc2
      refine AK.skip ?_
      refine AK.seq ?_
      refine AK.region ?_
      refine AO.eff (EF.callF rfl (names_spec B _)) (.none rfl) rfl ?_
      rintro _ _ ⟨rfl, rfl⟩
      refine AO.val (RV.move rfl) (.none rfl) rfl ?_
      refine AO.val (RV.indexArrL (l := NMS) (enc := fun x => Value.string (strL x)) rfl rfl rfl (by omega) rfl) (.none rfl) rfl ?_
      refine AO.val (RV.assign rfl) (.none rfl) rfl ?_
      refine AO.nil ?_
      -- at fF
      refine AK.ret (h' := h) Try.func8 (.tmp rfl .nil) ?_ (by first | exact SubO.sub | exact List.Sublist.refl _ | exact .cons _ (List.Sublist.refl _) | exact .cons _ (.cons _ (List.Sublist.refl _)) | exact .cons _ (.cons _ (.cons _ (List.Sublist.refl _))))
      refine ⟨rfl, ?_⟩
      rw [name_in (by omega) (by omega)]; rfl

theorem find_spec (B : World) (h : Own) (s : ByteArray) : Tri Try.prog B 7 [.string s] h fun v h' => h = h' ∧ ∃ k b, v = .tuple #[.int .i64 k, .bool b] ∧ FindOk s 37 k b := by
  have hnl := NMS_len
  refine Tri.enter (n := 16) Try.func7 rfl rfl rfl ?_
  simp only [argsE, Nat.reduceAdd]
  try dsimp only [argsE]
  refine AK.seq ?_
  refine AK.region ?_
  refine AO.val (RV.assign rfl) (.none rfl) rfl ?_
  refine AO.val (RV.assign rfl) (.none rfl) rfl ?_
  refine AO.nil ?_
  refine AK.seq ?_
  refine AK.seq ?_
  refine AK.region ?_
  refine AO.eff (EF.callF rfl (names_spec B _)) (.none rfl) rfl ?_
  rintro _ _ ⟨rfl, rfl⟩
  refine AO.val (RV.move rfl) (.none rfl) rfl ?_
  refine AO.nil ?_
  refine AK.block ?_
  refine AK.loop (α := Int) (E := fun i => [(0, .string s), (6, .agg (NMS.map (fun x => Value.string (strL x))).toArray), (7, .int .i64 i)]) (H := fun i => h) (Inv := fun i => 0 ≤ i ∧ i ≤ 37 ∧ FindOk s i 0 false) (μ := fun i => (37 - i).toNat) 0 ?_ (.cons (by exact rfl) (.cons (by exact rfl) (.cons (by exact rfl) .nil))) ?_ ?_
  · exact ⟨by omega, by omega, .zero s⟩
  · exact (by first | exact SubO.sub | exact List.Sublist.refl _ | exact .cons _ (List.Sublist.refl _) | exact .cons _ (.cons _ (List.Sublist.refl _)) | exact .cons _ (.cons _ (.cons _ (List.Sublist.refl _))))
  rintro i ⟨hi0, hi1, hf⟩ hih0
  try dsimp only at hih0 ⊢
  refine AK.seq ?_
  refine AK.region ?_
  refine AO.val (RV.lss rfl rfl) (.none rfl) rfl ?_
  refine AO.nil ?_
  refine AK.seq ?_
  refine AK.cond rfl ?_ ?_
  · intro hc1
    try simp only [decide_eq_true_eq, decide_eq_false_iff_not, Bool.not_eq_true', Bool.not_eq_false', beq_iff_eq] at hc1
    refine AK.skip ?_
    refine AK.seq ?_
    refine AK.block ?_
    refine AK.seq ?_
    refine AK.region ?_
    refine AO.val (RV.move rfl) (.none rfl) rfl ?_
    refine AO.val (RV.indexArrL (l := NMS) (enc := fun x => Value.string (strL x)) rfl rfl rfl (by omega) rfl) (.none rfl) rfl ?_
    refine AO.val (RV.assign rfl) (.none rfl) rfl ?_
    refine AO.val (RV.assign rfl) (.none rfl) rfl ?_
    refine AO.nil ?_
    refine AK.seq ?_
    refine AK.region ?_
    refine AO.val (RV.move rfl) (.none rfl) rfl ?_
    refine AO.val (RV.move rfl) (.none rfl) rfl ?_
    refine AO.val ((RV.eqlStr rfl rfl).to (v' := .bool (eqN s (lget NMS i))) rfl) (.none rfl) rfl ?_
    refine AO.nil ?_
    refine AK.cond rfl ?_ ?_
    · intro hc2
      try simp only [decide_eq_true_eq, decide_eq_false_iff_not, Bool.not_eq_true', Bool.not_eq_false', beq_iff_eq] at hc2
      refine AK.seq ?_
      refine AK.region ?_
      refine AO.val (RV.move rfl) (.none rfl) rfl ?_
      refine AO.val (RV.assign rfl) (.none rfl) rfl ?_
      refine AO.val (RV.assign rfl) (.none rfl) rfl ?_
      refine AO.nil ?_
      -- at L0TT
      clear hih0
      refine AK.ret (h' := h) Try.func7 (.tmp rfl (.tmp rfl .nil)) ?_ (by first | exact SubO.sub | exact List.Sublist.refl _ | exact .cons _ (List.Sublist.refl _) | exact .cons _ (.cons _ (List.Sublist.refl _)) | exact .cons _ (.cons _ (.cons _ (List.Sublist.refl _))))
      refine ⟨rfl, i, true, rfl, ?_⟩
      have h2 := hf.hit hi0 (by assumption)
      exact ⟨fun _ => ⟨hi0, by omega, (h2.yes rfl).2.2⟩, fun h => by (cases h)⟩
    · intro hc2
      try simp only [decide_eq_true_eq, decide_eq_false_iff_not, Bool.not_eq_true', Bool.not_eq_false', beq_iff_eq] at hc2
      refine AK.skip ?_
      refine AK.inBlock ?_
      refine AK.region ?_
      refine AO.val (by first | exact RV.addIn rfl rfl (by omega) | exact RV.add rfl rfl) (.none rfl) rfl ?_
      refine AO.val (RV.move rfl) (.none rfl) rfl ?_
      refine AO.nil ?_
      -- round ends at L0TF
      refine AK.weak (.cons (by exact rfl) (.cons (by exact rfl) (.cons (by exact rfl) .nil))) (by first | exact SubO.sub | exact List.Sublist.refl _ | exact .cons _ (List.Sublist.refl _) | exact .cons _ (.cons _ (List.Sublist.refl _)) | exact .cons _ (.cons _ (.cons _ (List.Sublist.refl _)))) (hih0 (i + 1) ?_ ?_)
      · try dsimp only
        exact ⟨by omega, by omega, hf.miss (by assumption)⟩
      · try dsimp only
        omega
  · intro hc1
    try simp only [decide_eq_true_eq, decide_eq_false_iff_not, Bool.not_eq_true', Bool.not_eq_false', beq_iff_eq] at hc1
    refine AK.exit rfl ?_
    refine AK.seq ?_
    refine AK.region ?_
    refine AO.val (RV.assign rfl) (.none rfl) rfl ?_
    refine AO.val (RV.assign rfl) (.none rfl) rfl ?_
    refine AO.nil ?_
    -- at L0F
    clear hih0
    refine AK.ret (h' := h) Try.func7 (.tmp rfl (.tmp rfl .nil)) ?_ (by first | exact SubO.sub | exact List.Sublist.refl _ | exact .cons _ (List.Sublist.refl _) | exact .cons _ (.cons _ (List.Sublist.refl _)) | exact .cons _ (.cons _ (.cons _ (List.Sublist.refl _))))
    refine ⟨rfl, 0, false, rfl, ?_⟩
    have e : i = 37 := by omega
    subst e; exact hf

theorem digits_spec (B : World) (h : Own) (n : Int) (hn : 0 ≤ n ∧ n ≤ 4294967295) : Tri Try.prog B 23 [.int .u32 n] h fun v h' => h = h' ∧ v = .string (strL (digS n)) := by
  generalize hn0 : digS n = D at *
  have hdl := dig_ten hn.2
  rw [hn0] at hdl
  refine Tri.enter (n := 24) Try.func23 rfl rfl rfl ?_
  simp only [argsE, Nat.reduceAdd]
  try dsimp only [argsE]
  refine AK.seq ?_
  refine AK.region ?_
  refine AO.val (RV.assign rfl) (.none rfl) rfl ?_
  refine AO.nil ?_
  refine AK.seq ?_
  refine AK.region ?_
  refine AO.val (RV.move rfl) (.none rfl) rfl ?_
  refine AO.val (RV.remIn rfl rfl (by omega)) (.none rfl) rfl ?_
  refine AO.val (by first | exact RV.addK rfl rfl (by simp only [kb]; omega) | exact RV.add rfl rfl) (.none rfl) rfl ?_
  refine AO.val (RV.convIn rfl (by simp only [kb]; omega)) (.none rfl) rfl ?_
  refine AO.eff (EF.buildSeq [.int .u8 (48 + n % 10)] rfl rfl rfl rfl) (.none rfl) rfl ?_
  rintro _ _ ⟨b8, hf8, rfl, rfl⟩
  refine AO.val (RV.assign rfl) (.none rfl) rfl ?_
  refine AO.nil ?_
  refine AK.seq ?_
  refine AK.seq ?_
  refine AK.region ?_
  refine AO.val (RV.move rfl) (.none rfl) rfl ?_
  refine AO.val (RV.quoIn rfl rfl (by simp only [kb]; omega)) (.none rfl) rfl ?_
  refine AO.val (RV.assign rfl) (.none rfl) rfl ?_
  refine AO.nil ?_
  refine AK.block ?_
  generalize hx0 : n = n0 at *
  refine AK.loop (α := Int × List Int × Option Addr × Nat × Own) (E := fun (n, out, A, c, p) => [(0, .int .u32 n), (3, .slice A out.length c)]) (H := fun (n, out, A, c, p) => p ++ h) (Inv := fun (n, out, A, c, p) => (0 ≤ n ∧ n ≤ 4294967295) ∧ Row 5 1 (.slice A out.length c) out.length (out.map (fun x => Value.int .u8 x)) p ∧ out.length ≤ c ∧ ((if 0 < n then digS n else []) ++ out = D)) (μ := fun (n, out, A, c, p) => n.toNat) (n0 / 10, [48 + n0 % 10], some ⟨b8, 0, none⟩, 1, [(b8, Blk.cells [.int .u8 (48 + n0 % 10)] 5 (0, 0))]) ?_ (.cons (by exact rfl) (.cons (by exact rfl) .nil)) ?_ ?_
  · refine ⟨by omega, Row.new rfl, Nat.le_refl _, ?_⟩
    rw [← hn0]
    by_cases h9 : n0 ≤ 9
    · rw [if_neg (by omega), dig_one h9, show n0 % 10 = n0 by omega]; rfl
    · rw [if_pos (by omega), dig_more h9]
  · exact (by first | exact SubO.sub | exact List.Sublist.refl _ | exact .cons _ (List.Sublist.refl _) | exact .cons _ (.cons _ (List.Sublist.refl _)) | exact .cons _ (.cons _ (.cons _ (List.Sublist.refl _))))
  rintro ⟨n, out, A, c, p⟩ ⟨hn, hr, hc, hd⟩ hih0
  try dsimp only at hih0 ⊢
  have hol : out.length ≤ 10 := by have := congrArg List.length hd; rw [List.length_append] at this; omega
  refine AK.seq ?_
  refine AK.seq ?_
  refine AK.region ?_
  refine AO.val (RV.move rfl) (.none rfl) rfl ?_
  refine AO.val (RV.gtr rfl rfl) (.none rfl) rfl ?_
  refine AO.nil ?_
  refine AK.cond rfl ?_ ?_
  · intro hc1
    try simp only [decide_eq_true_eq, decide_eq_false_iff_not, Bool.not_eq_true', Bool.not_eq_false', beq_iff_eq] at hc1
    refine AK.skip ?_
    refine AK.seq ?_
    refine AK.block ?_
    refine AK.region ?_
    refine AO.val (RV.move rfl) (.none rfl) rfl ?_
    refine AO.val (RV.remIn rfl rfl (by omega)) (.none rfl) rfl ?_
    refine AO.val (by first | exact RV.addK rfl rfl (by simp only [kb]; omega) | exact RV.add rfl rfl) (.none rfl) rfl ?_
    refine AO.val (RV.convIn rfl (by simp only [kb]; omega)) (.none rfl) rfl ?_
    refine AO.eff (EF.buildSeq [.int .u8 (48 + n % 10)] rfl rfl rfl rfl) (.none rfl) rfl ?_
    rintro _ _ ⟨b19, hf19, rfl, rfl⟩
    refine AO.val (RV.move rfl) (.none rfl) rfl ?_
    refine AO.eff (EF.appendS (n' := ([48 + n % 10] ++ out).length) (ys := ([48 + n % 10] ++ out).map (fun x => Value.int .u8 x)) rfl rfl (Row.new (b := b19) (el := 5) (cs := [.int .u8 (48 + n % 10)]) rfl) (hr.src (B := B) (h := p) (fun x hx => hx)).sub (by simp; omega) (by simp) rfl (by decide) (by simp [Value.oneCell']) (by omega) (by omega)) (.none rfl) rfl ?_
    rintro _ _ ⟨A21, c21, p21, rfl, hr21, hc21, rfl⟩
    refine AO.val (RV.assign rfl) (.none rfl) rfl ?_
    refine AO.nil ?_
    refine AK.inBlock ?_
    refine AK.region ?_
    refine AO.val (RV.move rfl) (.none rfl) rfl ?_
    refine AO.val (RV.quoIn rfl rfl (by simp only [kb]; omega)) (.none rfl) rfl ?_
    refine AO.val (RV.assign rfl) (.none rfl) rfl ?_
    refine AO.nil ?_
    -- round ends at L0T
    rw [if_pos (by omega)] at hd
    refine AK.weak (.cons (by exact rfl) (.cons (by exact rfl) .nil)) (by exact List.Sublist.append_left (List.sublist_append_right _ _) _) (hih0 (n / 10, ([48 + n % 10] ++ out), A21, c21, p21) ?_ ?_)
    · try dsimp only
      refine ⟨by omega, hr21, hc21, ?_⟩
      rw [← hd]
      by_cases h9 : n ≤ 9
      · rw [if_neg (by omega), dig_one h9, show n % 10 = n by omega]; simp
      · rw [if_pos (by omega), dig_more h9, List.append_assoc]
    · try dsimp only
      omega
  · intro hc1
    try simp only [decide_eq_true_eq, decide_eq_false_iff_not, Bool.not_eq_true', Bool.not_eq_false', beq_iff_eq] at hc1
    refine AK.exit rfl ?_
    refine AK.seq ?_
    refine AK.region ?_
    refine AO.val (RV.move rfl) (.none rfl) rfl ?_
    refine AO.val (RV.convBS rfl (hr.src (B := B) (h := p) (fun x hx => hx)) (by first | simp | assumption)) (.none rfl) rfl ?_
    refine AO.val (RV.assign rfl) (.none rfl) rfl ?_
    refine AO.nil ?_
    -- at L0F
    clear hih0
    rw [if_neg (by omega), List.nil_append] at hd
    rw [hd]
    refine AK.ret (h' := h) Try.func23 (.tmp rfl .nil) ?_ (by first | exact SubO.sub | exact List.Sublist.refl _ | exact .cons _ (List.Sublist.refl _) | exact .cons _ (.cons _ (List.Sublist.refl _)) | exact .cons _ (.cons _ (.cons _ (List.Sublist.refl _))))
    exact ⟨rfl, rfl⟩

theorem rdigits_spec (B : World) (h : Own) (n : Int) (hn : 0 ≤ n ∧ n ≤ 4294967295) : Tri Try.prog B 9 [.int .u32 n] h fun v h' => h = h' ∧ v = .string (strL (digS n)) := by
  generalize hn0 : digS n = D at *
  have hdl := dig_ten hn.2
  rw [hn0] at hdl
  refine Tri.enter (n := 23) Try.func9 rfl rfl rfl ?_
  simp only [argsE, Nat.reduceAdd]
  try dsimp only [argsE]
  refine AK.seq ?_
  refine AK.region ?_
  refine AO.val (RV.assign rfl) (.none rfl) rfl ?_
  refine AO.nil ?_
  refine AK.seq ?_
  refine AK.region ?_
  refine AO.val (RV.assign rfl) (.none rfl) rfl ?_
  refine AO.nil ?_
  refine AK.seq ?_
  refine AK.block ?_
  generalize hx0 : n = n0 at *
  refine AK.loop (α := Int × List Int) (E := fun (n, s) => [(0, .int .u32 n), (3, .string (strL s))]) (H := fun (n, s) => h) (Inv := fun (n, s) => (0 ≤ n ∧ n ≤ 4294967295) ∧ digS n ++ s = D) (μ := fun (n, s) => n.toNat) (n0, []) ?_ (.cons (by exact rfl) (.cons (by exact rfl) .nil)) ?_ ?_
  · refine ⟨hn, ?_⟩
    rw [List.append_nil]; exact hn0
  · exact (by first | exact SubO.sub | exact List.Sublist.refl _ | exact .cons _ (List.Sublist.refl _) | exact .cons _ (.cons _ (List.Sublist.refl _)) | exact .cons _ (.cons _ (.cons _ (List.Sublist.refl _))))
  rintro ⟨n, s⟩ ⟨hn, hd⟩ hih0
  try dsimp only at hih0 ⊢
  have hol : s.length ≤ 10 := by have := congrArg List.length hd; rw [List.length_append] at this; omega
  refine AK.seq ?_
  refine AK.seq ?_
  refine AK.region ?_
  refine AO.val (RV.move rfl) (.none rfl) rfl ?_
  refine AO.val (RV.gtr rfl rfl) (.none rfl) rfl ?_
  refine AO.nil ?_
  refine AK.cond rfl ?_ ?_
  · intro hc1
    try simp only [decide_eq_true_eq, decide_eq_false_iff_not, Bool.not_eq_true', Bool.not_eq_false', beq_iff_eq] at hc1
    refine AK.skip ?_
    refine AK.block ?_
    refine AK.seq ?_
    refine AK.region ?_
    refine AO.val (RV.move rfl) (.none rfl) rfl ?_
    refine AO.val (RV.remIn rfl rfl (by omega)) (.none rfl) rfl ?_
    refine AO.val (by first | exact RV.addK rfl rfl (by simp only [kb]; omega) | exact RV.add rfl rfl) (.none rfl) rfl ?_
    refine AO.val (RV.convIn rfl (by simp only [kb]; omega)) (.none rfl) rfl ?_
    refine AO.eff (EF.buildSeq [.int .u8 (48 + n % 10)] rfl rfl rfl rfl) (.none rfl) rfl ?_
    rintro _ _ ⟨b10, hf10, rfl, rfl⟩
    refine AO.val (RV.convBS (l := [(48 + n % 10)]) rfl (Src.of_new (h := (b10, Blk.cells [.int .u8 (48 + n % 10)] 5 (0, 0)) :: h) (el := 5) (cs := [.int .u8 (48 + n % 10)]) List.mem_cons_self 1 1 (Nat.le_refl _)) (by simp)) (.none rfl) rfl ?_
    refine AO.val (RV.move rfl) (.none rfl) rfl ?_
    refine AO.val (RV.addStr (a := [48 + n % 10]) (b := s) rfl rfl (by simp; omega)) (.none rfl) rfl ?_
    refine AO.val (RV.assign rfl) (.none rfl) rfl ?_
    refine AO.nil ?_
    refine AK.region ?_
    refine AO.val (RV.move rfl) (.none rfl) rfl ?_
    refine AO.val (RV.quoIn rfl rfl (by simp only [kb]; omega)) (.none rfl) rfl ?_
    refine AO.val (RV.assign rfl) (.none rfl) rfl ?_
    refine AO.nil ?_
    refine AK.inBlock ?_
    -- round ends at L0T
    refine AK.weak (.cons (by exact rfl) (.cons (by exact rfl) .nil)) (by first | exact SubO.sub | exact List.Sublist.refl _ | exact .cons _ (List.Sublist.refl _) | exact .cons _ (.cons _ (List.Sublist.refl _)) | exact .cons _ (.cons _ (.cons _ (List.Sublist.refl _)))) (hih0 (n / 10, ([48 + n % 10] ++ s)) ?_ ?_)
    · try dsimp only
      refine ⟨by omega, ?_⟩
      rw [← hd, dig_more (n := n) (by omega), List.append_assoc]
    · try dsimp only
      omega
  · intro hc1
    try simp only [decide_eq_true_eq, decide_eq_false_iff_not, Bool.not_eq_true', Bool.not_eq_false', beq_iff_eq] at hc1
    refine AK.exit rfl ?_
    refine AK.seq ?_
    refine AK.region ?_
    refine AO.val (RV.move rfl) (.none rfl) rfl ?_
    refine AO.val (by first | exact RV.addK rfl rfl (by simp only [kb]; omega) | exact RV.add rfl rfl) (.none rfl) rfl ?_
    refine AO.val (RV.convIn rfl (by simp only [kb]; omega)) (.none rfl) rfl ?_
    refine AO.eff (EF.buildSeq [.int .u8 (48 + n)] rfl rfl rfl rfl) (.none rfl) rfl ?_
    rintro _ _ ⟨b19, hf19, rfl, rfl⟩
    refine AO.val (RV.convBS (l := [(48 + n)]) rfl (Src.of_new (h := (b19, Blk.cells [.int .u8 (48 + n)] 5 (0, 0)) :: h) (el := 5) (cs := [.int .u8 (48 + n)]) List.mem_cons_self 1 1 (Nat.le_refl _)) (by simp)) (.none rfl) rfl ?_
    refine AO.val (RV.move rfl) (.none rfl) rfl ?_
    refine AO.val (RV.addStr (a := [48 + n]) (b := s) rfl rfl (by simp; omega)) (.none rfl) rfl ?_
    refine AO.val (RV.assign rfl) (.none rfl) rfl ?_
    refine AO.nil ?_
    -- at L0F
    clear hih0
    rw [dig_one (by omega)] at hd
    rw [hd]
    refine AK.ret (h' := h) Try.func9 (.tmp rfl .nil) ?_ (by first | exact SubO.sub | exact List.Sublist.refl _ | exact .cons _ (List.Sublist.refl _) | exact .cons _ (.cons _ (List.Sublist.refl _)) | exact .cons _ (.cons _ (.cons _ (List.Sublist.refl _))))
    exact ⟨rfl, rfl⟩

theorem rnames_spec (B : World) (h : Own)  : Tri Try.prog B 6 [] h fun v h' => NewS 9 1 NMS.length (NMS.map (fun x => Value.string (strL x))) h v h' := by
  refine Tri.enter (n := 27) Try.func6 rfl rfl rfl ?_
  try dsimp only [argsE]
  refine AK.seq ?_
  refine AK.region ?_
  refine AO.val (RV.assign rfl) (.none rfl) rfl ?_
  refine AO.nil ?_
  refine AK.seq ?_
  refine AK.region ?_
  refine AO.val ((RV.assign rfl).to (v' := .string (strL ALLB)) (by kernel_rfl)) (.none rfl) rfl ?_
  refine AO.nil ?_
  refine AK.seq ?_
  refine AK.region ?_
  refine AO.val (RV.assign rfl) (.none rfl) rfl ?_
  refine AO.nil ?_
  refine AK.seq ?_
  refine AK.region ?_
  refine AO.val ((RV.assign rfl).to (v' := .string (strL [])) rfl) (.none rfl) rfl ?_
  refine AO.nil ?_
  refine AK.seq ?_
  refine AK.seq ?_
  refine AK.region ?_
  refine AO.val (RV.assign rfl) (.none rfl) rfl ?_
  refine AO.nil ?_
  refine AK.block ?_
  refine AK.loop (α := Nat × Option Addr × Nat × Own) (E := fun (i, A, c, p) => [(1, .string (strL ALLB)), (2, .slice A (parseW (ALLB.take (i))).1.length c), (3, .string (strL (parseW (ALLB.take (i))).2)), (4, .int .i64 i)]) (H := fun (i, A, c, p) => p ++ h) (Inv := fun (i, A, c, p) => i ≤ ALLB.length ∧ Row 9 1 (.slice A (parseW (ALLB.take (i))).1.length c) (parseW (ALLB.take (i))).1.length ((parseW (ALLB.take (i))).1.map (fun x => Value.string (strL x))) p ∧ (parseW (ALLB.take (i))).1.length ≤ c) (μ := fun (i, A, c, p) => ALLB.length - i) (0, none, 0, []) ?_ (.cons (by exact rfl) (.cons (by exact rfl) (.cons (by exact rfl) (.cons (by exact rfl) .nil)))) ?_ ?_
  · exact ⟨by omega, .nil, Nat.le_refl _⟩
  · exact (by first | exact SubO.sub | exact List.Sublist.refl _ | exact .cons _ (List.Sublist.refl _) | exact .cons _ (.cons _ (List.Sublist.refl _)) | exact .cons _ (.cons _ (.cons _ (List.Sublist.refl _))))
  rintro ⟨i, A, c, p⟩ ⟨hi1, hr, hc⟩ hih0
  try dsimp only at hih0 ⊢
  have hall := ALLB_len
  have hpl := parse_len (ALLB.take i)
  rw [List.length_take] at hpl
  refine AK.seq ?_
  refine AK.seq ?_
  refine AK.region ?_
  refine AO.val (RV.move rfl) (.none rfl) rfl ?_
  refine AO.val (RV.move rfl) (.none rfl) rfl ?_
  refine AO.val ((RV.lenStr rfl).to (v' := .int .i64 ALLB.length) (by rw [strL_size])) (.none rfl) rfl ?_
  refine AO.val (RV.lss rfl rfl) (.none rfl) rfl ?_
  refine AO.nil ?_
  refine AK.cond rfl ?_ ?_
  · intro hc1
    try simp only [decide_eq_true_eq, decide_eq_false_iff_not, Bool.not_eq_true', Bool.not_eq_false', beq_iff_eq] at hc1
    have hsl : (ALLB.drop (i : Int).toNat).take (((i : Int) + 1).toNat - (i : Int).toNat) = [lget ALLB (i : Int)] := by
      have h2 : i < ALLB.length := by omega
      rw [show ((i : Int) + 1).toNat - (i : Int).toNat = 1 by omega, show (i : Int).toNat = i by omega, List.drop_eq_getElem_cons h2, show lget ALLB (i : Int) = ALLB[i] from by simp [lget, List.getD, h2]]
      rfl
    refine AK.skip ?_
    refine AK.seq ?_
    refine AK.block ?_
    refine AK.seq ?_
    refine AK.region ?_
    refine AO.val (RV.move rfl) (.none rfl) rfl ?_
    refine AO.val (RV.move rfl) (.none rfl) rfl ?_
    refine AO.val (RV.indexStr rfl rfl ALLB_bytes (by omega)) (.none rfl) rfl ?_
    refine AO.val (RV.eql rfl rfl) (.none rfl) rfl ?_
    refine AO.nil ?_
    refine AK.cond rfl ?_ ?_
    · intro hc2
      try simp only [decide_eq_true_eq, decide_eq_false_iff_not, Bool.not_eq_true', Bool.not_eq_false', beq_iff_eq] at hc2
      have hsp := hc2
      refine AK.seq ?_
      refine AK.region ?_
      refine AO.val (RV.move rfl) (.none rfl) rfl ?_
      refine AO.val (RV.move rfl) (.none rfl) rfl ?_
      refine AO.eff (EF.buildSeq [.string (strL (parseW (ALLB.take (i))).2)] rfl rfl rfl rfl) (.none rfl) rfl ?_
      rintro _ _ ⟨b17, hf17, rfl, rfl⟩
      refine AO.eff (EF.appendS (n' := ((parseW (ALLB.take (i))).1 ++ [(parseW (ALLB.take (i))).2]).length) (ys := ((parseW (ALLB.take (i))).1 ++ [(parseW (ALLB.take (i))).2]).map (fun x => Value.string (strL x))) rfl rfl hr (Src.of_new (el := 9) (cs := [.string (strL (parseW (ALLB.take (i))).2)]) List.mem_cons_self 1 1 (Nat.le_refl _)) (by simp) (by simp) rfl (by decide) rfl (by omega) (by omega)) (.none rfl) rfl ?_
      rintro _ _ ⟨A18, c18, p18, rfl, hr18, hc18, rfl⟩
      refine AO.val (RV.assign rfl) (.none rfl) rfl ?_
      refine AO.nil ?_
      refine AK.region ?_
      refine AO.val ((RV.assign rfl).to (v' := .string (strL [])) rfl) (.none rfl) rfl ?_
      refine AO.nil ?_
      refine AK.inBlock ?_
      refine AK.region ?_
      refine AO.val (RV.move rfl) (.none rfl) rfl ?_
      refine AO.val (by first | exact RV.addIn rfl rfl (by omega) | exact RV.add rfl rfl) (.none rfl) rfl ?_
      refine AO.val (RV.assign rfl) (.none rfl) rfl ?_
      refine AO.nil ?_
      -- round ends at L0TT
      have hps : parseW (ALLB.take (i + 1)) = stepW (parseW (ALLB.take (i))) (lget ALLB (i : Int)) := by rw [← parse_snoc]; congr 1; exact take_snoc ALLB i (by omega) (by omega)
      rw [stepW, if_pos hsp] at hps
      refine AK.weak (.cons (by exact rfl) (.cons (by rw [hps]; exact rfl) (.cons (by rw [hps]; exact rfl) (.cons (by exact rfl) .nil)))) (by exact List.Sublist.append_left (.cons _ (List.Sublist.refl _)) _) (hih0 (i + 1, A18, c18, p18) ?_ ?_)
      · try dsimp only
        refine ⟨by omega, ?_, ?_⟩ <;> rw [hps]
        · exact hr18
        · exact hc18
      · try dsimp only
        omega
    · intro hc2
      try simp only [decide_eq_true_eq, decide_eq_false_iff_not, Bool.not_eq_true', Bool.not_eq_false', beq_iff_eq] at hc2
      have hsp := hc2
      refine AK.region ?_
      refine AO.val (RV.move rfl) (.none rfl) rfl ?_
      refine AO.val (RV.move rfl) (.none rfl) rfl ?_
      refine AO.val (RV.move rfl) (.none rfl) rfl ?_
      refine AO.val (RV.move rfl) (.none rfl) rfl ?_
      refine AO.val (by first | exact RV.addIn rfl rfl (by omega) | exact RV.add rfl rfl) (.none rfl) rfl ?_
      refine AO.val ((RV.sliceStr rfl rfl rfl (by omega)).to (v' := .string (strL [lget ALLB (i : Int)])) (by rw [hsl])) (.none rfl) rfl ?_
      refine AO.val (RV.addStr rfl rfl (by simp; omega)) (.none rfl) rfl ?_
      refine AO.val (RV.assign rfl) (.none rfl) rfl ?_
      refine AO.nil ?_
      refine AK.inBlock ?_
      refine AK.region ?_
      refine AO.val (RV.move rfl) (.none rfl) rfl ?_
      refine AO.val (by first | exact RV.addIn rfl rfl (by omega) | exact RV.add rfl rfl) (.none rfl) rfl ?_
      refine AO.val (RV.assign rfl) (.none rfl) rfl ?_
      refine AO.nil ?_
      -- round ends at L0TF
      have hps : parseW (ALLB.take (i + 1)) = stepW (parseW (ALLB.take (i))) (lget ALLB (i : Int)) := by rw [← parse_snoc]; congr 1; exact take_snoc ALLB i (by omega) (by omega)
      rw [stepW, if_neg hsp] at hps
      refine AK.weak (.cons (by exact rfl) (.cons (by rw [hps]; exact rfl) (.cons (by rw [hps]; exact rfl) (.cons (by exact rfl) .nil)))) (List.Sublist.refl _) (hih0 (i + 1, A, c, p) ?_ ?_)
      · try dsimp only
        refine ⟨by omega, ?_, ?_⟩ <;> rw [hps]
        · exact hr
        · exact hc
      · try dsimp only
        omega
  · intro hc1
    try simp only [decide_eq_true_eq, decide_eq_false_iff_not, Bool.not_eq_true', Bool.not_eq_false', beq_iff_eq] at hc1
    refine AK.exit rfl ?_
    refine AK.seq ?_
    refine AK.region ?_
    refine AO.val (RV.move rfl) (.none rfl) rfl ?_
    refine AO.val (RV.assign rfl) (.none rfl) rfl ?_
    refine AO.nil ?_
    -- at L0F
    clear hih0
    have hti : ALLB.take i = ALLB := List.take_of_length_le (by omega)
    rw [hti, parse_all] at hr hc ⊢
    refine AK.ret (h' := p ++ h) Try.func6 (.tmp rfl .nil) ?_ (List.Sublist.refl _)
    exact ⟨A, c, p, rfl, hr, hc, rfl⟩

end Go.Proofs.Ytefpiiknjnekeaa
