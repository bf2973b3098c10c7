/- Walks through the code: what each function that is named here gives back, from any memory that holds its arguments. Written by a program of the claim's author, out of the program's form in Lean. -/
import Derived.Test.YtpmfnjgbckdmoaaW1
set_option linter.unusedSimpArgs false
set_option linter.unusedVariables false
namespace Go.Proofs.Ytpmfnjgbckdmoaa
open Go.Sep Go.Sep.Sip Go.Sep.Perm Go.RowKit Go.WideShapes Go.ChangeShapes
theorem own_ : ownKnob Try.prog.godebug = none := by kernel_rfl
theorem laidOut_ : laidOutB Try.prog = true := by kernel_rfl

theorem live_facts : startB 0 0 1 2 = 1 ∧ (rowS 0 0 1 7).length = 7 ∧ prB 251 = true := by
  have h2 : prB 2 = true := by decide +kernel
  have h7 : prB 7 = true := by decide +kernel
  refine ⟨?_, ?_, by decide +kernel⟩
  · have := start_in 0 0 1 h2; omega
  · simp [rowS, h7, rowK_len]

theorem lives_spec (B : World) (h : Own)  : Tri Try.prog B 6 [] h fun v h' => h = h' ∧ v = .bool true := by
  obtain ⟨hl1, hl2, hl3⟩ := live_facts
  refine Tri.enter (n := 19) Try.func6 rfl rfl rfl ?_
  try dsimp only [argsE]
  refine AK.seq ?_
  refine AK.region ?_
  refine AO.val (RV.assign rfl) (.none rfl) rfl ?_
  refine AO.nil ?_
  refine AK.seq ?_
  refine AK.region ?_
  refine AO.val (RV.build rfl .nil) (.none rfl) rfl ?_
  refine AO.eff (EF.callF rfl (start_spec B _ 0 0 1 2 (by decide))) (.none rfl) rfl ?_
  rintro _ _ ⟨rfl, rfl⟩
  refine AO.val (RV.move rfl) (.none rfl) rfl ?_
  refine AO.val (RV.extract rfl rfl) (.none rfl) rfl ?_
  refine AO.val (RV.extract rfl rfl) (.none rfl) rfl ?_
  refine AO.val (RV.assign rfl) (.none rfl) rfl ?_
  refine AO.val (RV.assign rfl) (.none rfl) rfl ?_
  refine AO.nil ?_
  refine AK.seq ?_
  refine AK.region ?_
  refine AO.val (RV.move rfl) (.none rfl) rfl ?_
  refine AO.val ((RV.eql rfl rfl).to (v' := .bool true) (by simp [hl1])) (.none rfl) rfl ?_
  refine AO.val (RV.move rfl) (.none rfl) rfl ?_
  refine AO.val (RV.build rfl .nil) (.some rfl rfl rfl rfl) rfl ?_
  refine AO.eff (EF.callF rfl (row_spec B _ 0 0 1 7 (by decide))) (.some rfl rfl rfl rfl) rfl ?_
  rintro _ _ ⟨A12, c12, p12, rfl, hr12, hc12, rfl⟩
  refine AO.val (RV.lenS rfl) (.some rfl rfl rfl rfl) rfl ?_
  refine AO.val ((RV.eql rfl rfl).to (v' := .bool true) (by simp [hl2])) (.some rfl rfl rfl rfl) rfl ?_
  refine AO.val (RV.pickT rfl rfl) (.none rfl) rfl ?_
  refine AO.val (RV.move rfl) (.none rfl) rfl ?_
  refine AO.eff (EF.callF rfl (prime_spec B _ 251)) (.some rfl rfl rfl rfl) rfl ?_
  rintro _ _ ⟨rfl, rfl⟩
  rw [hl3]
  refine AO.val (RV.pickT rfl rfl) (.none rfl) rfl ?_
  refine AO.val (RV.assign rfl) (.none rfl) rfl ?_
  refine AO.nil ?_
  -- at 
  refine AK.ret (h' := h) Try.func6 (.tmp rfl .nil) ?_ (by first | exact SubO.sub | exact List.Sublist.refl _ | exact .cons _ (List.Sublist.refl _) | exact .cons _ (.cons _ (List.Sublist.refl _)) | exact .cons _ (.cons _ (.cons _ (List.Sublist.refl _))))
  exact ⟨rfl, rfl⟩

set_option maxHeartbeats 1000000 in
theorem rows_law (B : World) (h : Own) (lo hi id m j : Int) (hid : -9223372036854775808 ≤ id ∧ id ≤ 9223372036854775807) : Tri Try.prog B 4 [.agg #[.int .u64 lo, .int .u64 hi], .int .i64 id, .int .i64 m, .int .i64 j] h fun v h' => h = h' ∧ v = .bool true := by
  refine Tri.enter (n := 119) Try.func4 rfl rfl rfl ?_
  simp only [argsE, Nat.reduceAdd]
  try dsimp only [argsE]
  refine AK.seq ?_
  refine AK.region ?_
  refine AO.eff (EF.box rfl rfl) (.none rfl) rfl ?_
  rintro _ _ ⟨b4, hf4, rfl, rfl⟩
  refine AO.val (RV.assign rfl) (.none rfl) rfl ?_
  refine AO.nil ?_
  refine AK.seq ?_
  refine AK.region ?_
  refine AO.val (by first | exact RV.loadAggO rfl rfl (by simp) | exact RV.loadAggP rfl rfl rfl (by simp)) (.none rfl) rfl ?_
  refine AO.val (RV.move rfl) (.none rfl) rfl ?_
  refine AO.val (RV.move rfl) (.none rfl) rfl ?_
  refine AO.eff (EF.callF rfl (start_spec B _ lo hi id m hid)) (.none rfl) rfl ?_
  rintro _ _ ⟨rfl, rfl⟩
  refine AO.val (RV.move rfl) (.none rfl) rfl ?_
  refine AO.val (RV.extract rfl rfl) (.none rfl) rfl ?_
  refine AO.val (RV.extract rfl rfl) (.none rfl) rfl ?_
  refine AO.val (RV.assign rfl) (.none rfl) rfl ?_
  refine AO.val (RV.assign rfl) (.none rfl) rfl ?_
  refine AO.nil ?_
  refine AK.seq ?_
  refine AK.seq ?_
  refine AK.region ?_
  refine AO.val (RV.move rfl) (.none rfl) rfl ?_
  refine AO.eff (EF.callF rfl (rprime_spec B _ _)) (.none rfl) rfl ?_
  rintro _ _ ⟨rfl, rfl⟩
  refine AO.val (RV.not rfl) (.none rfl) rfl ?_
  refine AO.nil ?_
  refine AK.cond rfl ?_ ?_
  · intro hc1
    try simp only [decide_eq_true_eq, decide_eq_false_iff_not, Bool.not_eq_true', Bool.not_eq_false', beq_iff_eq] at hc1
    have hz : startA lo hi id m = 0 ∧ startB lo hi id m = 0 ∧ rowS lo hi id m = [] ∧ atS lo hi id m j = 0 := by simp [startA, startB, rowS, atS, hc1]
    refine AK.seq ?_
    refine AK.region ?_
    refine AO.val (RV.move rfl) (.none rfl) rfl ?_
    refine AO.eff (EF.callF rfl (prime_spec B _ _)) (.none rfl) rfl ?_
    rintro _ _ ⟨rfl, rfl⟩
    rw [hc1]
    refine AO.val (RV.not rfl) (.none rfl) rfl ?_
    refine AO.val (RV.move rfl) (.none rfl) rfl ?_
    refine AO.val (RV.move rfl) (.some rfl rfl rfl rfl) rfl ?_
    refine AO.val ((RV.eql rfl rfl).to (v' := .bool true) (by simp [hz.1])) (.some rfl rfl rfl rfl) rfl ?_
    refine AO.val (RV.pickT rfl rfl) (.none rfl) rfl ?_
    refine AO.val (RV.move rfl) (.none rfl) rfl ?_
    refine AO.val (RV.move rfl) (.some rfl rfl rfl rfl) rfl ?_
    refine AO.val ((RV.eql rfl rfl).to (v' := .bool true) (by simp [hz.2.1])) (.some rfl rfl rfl rfl) rfl ?_
    refine AO.val (RV.pickT rfl rfl) (.none rfl) rfl ?_
    refine AO.val (RV.move rfl) (.none rfl) rfl ?_
    refine AO.val (by first | exact RV.loadAggO rfl rfl (by simp) | exact RV.loadAggP rfl rfl rfl (by simp)) (.some rfl rfl rfl rfl) rfl ?_
    refine AO.val (RV.move rfl) (.some rfl rfl rfl rfl) rfl ?_
    refine AO.val (RV.move rfl) (.some rfl rfl rfl rfl) rfl ?_
    refine AO.eff (EF.callF rfl (row_spec B _ lo hi id m hid)) (.some rfl rfl rfl rfl) rfl ?_
    rintro _ _ ⟨A96, c96, p96, rfl, hr96, hc96, rfl⟩
    refine AO.val (RV.lenS rfl) (.some rfl rfl rfl rfl) rfl ?_
    refine AO.val ((RV.eql rfl rfl).to (v' := .bool true) (by simp [hz.2.2.1])) (.some rfl rfl rfl rfl) rfl ?_
    refine AO.val (RV.pickT rfl rfl) (.none rfl) rfl ?_
    refine AO.val (RV.move rfl) (.none rfl) rfl ?_
    refine AO.val (by first | exact RV.loadAggO rfl rfl (by simp) | exact RV.loadAggP rfl rfl rfl (by simp)) (.some rfl rfl rfl rfl) rfl ?_
    refine AO.val (RV.move rfl) (.some rfl rfl rfl rfl) rfl ?_
    refine AO.val (RV.move rfl) (.some rfl rfl rfl rfl) rfl ?_
    refine AO.val (RV.move rfl) (.some rfl rfl rfl rfl) rfl ?_
    refine AO.eff (EF.callF rfl (at_spec B _ lo hi id m hid j)) (.some rfl rfl rfl rfl) rfl ?_
    rintro _ _ ⟨rfl, rfl⟩
    refine AO.val ((RV.eql rfl rfl).to (v' := .bool true) (by simp [hz.2.2.2])) (.some rfl rfl rfl rfl) rfl ?_
    refine AO.val (RV.pickT rfl rfl) (.none rfl) rfl ?_
    refine AO.val (RV.move rfl) (.none rfl) rfl ?_
    refine AO.eff (EF.callF rfl (lives_spec B _)) (.some rfl rfl rfl rfl) rfl ?_
    rintro _ _ ⟨rfl, rfl⟩
    refine AO.val (RV.pickT rfl rfl) (.none rfl) rfl ?_
    refine AO.val (RV.assign rfl) (.none rfl) rfl ?_
    refine AO.nil ?_
    -- at T
    refine AK.ret (h' := h) Try.func4 (.tmp rfl .nil) ?_ (by first | exact SubO.sub | exact List.Sublist.refl _ | exact .cons _ (List.Sublist.refl _) | exact .cons _ (.cons _ (List.Sublist.refl _)) | exact .cons _ (.cons _ (.cons _ (List.Sublist.refl _))))
    exact ⟨rfl, rfl⟩
  · intro hc1
    try simp only [decide_eq_true_eq, decide_eq_false_iff_not, Bool.not_eq_true', Bool.not_eq_false', beq_iff_eq] at hc1
    have hst := start_in lo hi id hc1
    have hat : startA lo hi id m = atS lo hi id m 0 := by rw [atS, if_pos ⟨hc1, by omega, by omega⟩, Int.zero_mul, Int.add_zero]; exact (Int.emod_eq_of_lt (by omega) (by omega)).symm
    have hby : startB lo hi id m = underS lo hi (idB id 1) (m - 1) + 1 := by simp [startB, hc1]
    have hrl : (rowS lo hi id m).length ≤ 1000 := by simp [rowS, hc1, rowK_len]; omega
    have hib : idB id 1 = [id / 16777216 % 256, id / 65536 % 256, id / 256 % 256, id % 256, 0, 0, 0, 1] := by
      simp only [idB, be4, List.cons_append, List.nil_append]
      have e1 : id % 4294967296 / 16777216 % 256 = id / 16777216 % 256 := by omega
      have e2 : id % 4294967296 / 65536 % 256 = id / 65536 % 256 := by omega
      have e3 : id % 4294967296 / 256 % 256 = id / 256 % 256 := by omega
      have e4 : id % 4294967296 % 256 = id % 256 := by omega
      rw [e1, e2, e3, e4]
    refine AK.skip ?_
    refine AK.seq ?_
    refine AK.region ?_
    refine AO.val (RV.move rfl) (.none rfl) rfl ?_
    refine AO.val (RV.shr rfl rfl (by omega)) (.none rfl) rfl ?_
    refine AO.val ((RV.conv rfl).to (v' := .int .u8 (id / 16777216 % 256)) (by rw [show id.fdiv (2 ^ (min (24 : Int).toNat IntKind.i64.bits)) = id / 16777216 from Int.fdiv_eq_ediv_of_nonneg _ (by decide)]; simp only [IntKind.wrap, IntKind.bits, IntKind.signed]; rfl)) (.none rfl) rfl ?_
    refine AO.val (RV.move rfl) (.none rfl) rfl ?_
    refine AO.val (RV.shr rfl rfl (by omega)) (.none rfl) rfl ?_
    refine AO.val ((RV.conv rfl).to (v' := .int .u8 (id / 65536 % 256)) (by rw [show id.fdiv (2 ^ (min (16 : Int).toNat IntKind.i64.bits)) = id / 65536 from Int.fdiv_eq_ediv_of_nonneg _ (by decide)]; simp only [IntKind.wrap, IntKind.bits, IntKind.signed]; rfl)) (.none rfl) rfl ?_
    refine AO.val (RV.move rfl) (.none rfl) rfl ?_
    refine AO.val (RV.shr rfl rfl (by omega)) (.none rfl) rfl ?_
    refine AO.val ((RV.conv rfl).to (v' := .int .u8 (id / 256 % 256)) (by rw [show id.fdiv (2 ^ (min (8 : Int).toNat IntKind.i64.bits)) = id / 256 from Int.fdiv_eq_ediv_of_nonneg _ (by decide)]; simp only [IntKind.wrap, IntKind.bits, IntKind.signed]; rfl)) (.none rfl) rfl ?_
    refine AO.val (RV.move rfl) (.none rfl) rfl ?_
    refine AO.val ((RV.conv rfl).to (v' := .int .u8 (id % 256)) (by simp only [IntKind.wrap, IntKind.bits, IntKind.signed]; rfl)) (.none rfl) rfl ?_
    refine AO.eff (EF.buildSeq [.int .u8 (id / 16777216 % 256), .int .u8 (id / 65536 % 256), .int .u8 (id / 256 % 256), .int .u8 (id % 256), .int .u8 0, .int .u8 0, .int .u8 0, .int .u8 1] rfl rfl rfl rfl) (.none rfl) rfl ?_
    rintro _ _ ⟨b63, hf63, rfl, rfl⟩
    refine AO.val (RV.assign rfl) (.none rfl) rfl ?_
    refine AO.nil ?_
    refine AK.seq ?_
    refine AK.draw [] [] mixed ?_
    refine AD.takeP 0 rfl (by kernel_rfl) (RV.move rfl) (.none rfl) rfl ?_
    refine AD.one 1 (by kernel_rfl) (AE.eff rfl (EF.callF rfl (prime_spec B _ _)) (.none rfl) rfl ?_)
    rintro _ _ ⟨rfl, rfl⟩
    rw [hc1]
    refine ⟨(by first | exact .inr fun x hx hM => hx | exact .inr fun x hx hM => List.mem_cons_of_mem _ hx | exact .inr fun x hx hM => List.mem_append_right _ hx), ?_⟩
    refine AD.takeP 2 rfl (by kernel_rfl) (RV.move rfl) (.none rfl) rfl ?_
    refine AD.takeP 3 rfl (by kernel_rfl) (RV.move rfl) (.some rfl rfl rfl rfl) rfl ?_
    refine AD.take 4 rfl (by kernel_rfl) (by first | exact RV.loadAggO rfl rfl (by simp) | exact RV.loadAggP rfl rfl rfl (by simp)) (.some rfl rfl rfl rfl) rfl ?_
    refine AD.takeP 5 rfl (by kernel_rfl) (RV.move rfl) (.some rfl rfl rfl rfl) rfl ?_
    refine AD.takeP 6 rfl (by kernel_rfl) (RV.move rfl) (.some rfl rfl rfl rfl) rfl ?_
    refine AD.one 7 (by kernel_rfl) (AE.eff rfl (EF.callF rfl (rat_spec B _ lo hi id m hid _)) (.some rfl rfl rfl rfl) rfl ?_)
    rintro _ _ ⟨rfl, rfl⟩
    refine ⟨(by first | exact .inr fun x hx hM => hx | exact .inr fun x hx hM => List.mem_cons_of_mem _ hx | exact .inr fun x hx hM => List.mem_append_right _ hx), ?_⟩
    refine AD.takeP 8 rfl (by kernel_rfl) ((RV.eql rfl rfl).to (v' := .bool true) (by simp [← hat])) (.some rfl rfl rfl rfl) rfl ?_
    refine AD.takeP 9 rfl (by kernel_rfl) (RV.pickT rfl rfl) (.none rfl) rfl ?_
    refine AD.takeP 10 rfl (by kernel_rfl) (RV.move rfl) (.none rfl) rfl ?_
    refine AD.takeP 11 rfl (by kernel_rfl) (RV.move rfl) (.some rfl rfl rfl rfl) rfl ?_
    refine AD.take 12 rfl (by kernel_rfl) (by first | exact RV.loadAggO rfl rfl (by simp) | exact RV.loadAggP rfl rfl rfl (by simp)) (.some rfl rfl rfl rfl) rfl ?_
    refine AD.takeP 13 rfl (by kernel_rfl) (RV.move rfl) (.some rfl rfl rfl rfl) rfl ?_
    refine AD.takeP 14 rfl (by kernel_rfl) (RV.move rfl) (.some rfl rfl rfl rfl) rfl ?_
    refine AD.takeP 15 rfl (by kernel_rfl) (by first | exact RV.subIn rfl rfl (by omega) | exact RV.sub rfl rfl) (.some rfl rfl rfl rfl) rfl ?_
    refine AD.one 16 (by kernel_rfl) (AE.eff rfl (EF.callF rfl (runder_spec (A := some ⟨b63, 0, none⟩) (cap := 8) B _ lo hi (m - 1) (by omega) (idB id 1) (by rw [hib]; exact Src.of_new (cs := [.int .u8 (id / 16777216 % 256), .int .u8 (id / 65536 % 256), .int .u8 (id / 256 % 256), .int .u8 (id % 256), .int .u8 0, .int .u8 0, .int .u8 0, .int .u8 1]) (el := 5) (by simp) 8 1 (Nat.le_refl _)) (idB_bytes _ _ (by decide)) (by rw [idB_len]; decide) (by rw [idB_len]; decide))) (.some rfl rfl rfl rfl) rfl ?_)
    rintro _ _ ⟨rfl, rfl⟩
    refine ⟨(by first | exact .inr fun x hx hM => hx | exact .inr fun x hx hM => List.mem_cons_of_mem _ hx | exact .inr fun x hx hM => List.mem_append_right _ hx), ?_⟩
    refine AD.takeP 17 rfl (by kernel_rfl) (by first | exact RV.addIn rfl rfl (by omega) | exact RV.add rfl rfl) (.some rfl rfl rfl rfl) rfl ?_
    refine AD.takeP 18 rfl (by kernel_rfl) ((RV.eql rfl rfl).to (v' := .bool true) (by simp [hby])) (.some rfl rfl rfl rfl) rfl ?_
    refine AD.takeP 19 rfl (by kernel_rfl) (RV.pickT rfl rfl) (.none rfl) rfl ?_
    refine AD.takeP 20 rfl (by kernel_rfl) (RV.move rfl) (.none rfl) rfl ?_
    refine AD.takeP 21 rfl (by kernel_rfl) (RV.move rfl) (.some rfl rfl rfl rfl) rfl ?_
    refine AD.takeP 22 rfl (by kernel_rfl) (RV.neq rfl rfl) (.some rfl rfl rfl rfl) rfl ?_
    refine AD.takeP 23 rfl (by kernel_rfl) (RV.move rfl) (.some rfl rfl rfl rfl) rfl ?_
    refine AD.caseG (d := 87) (j := 23) rfl rfl ?_ ?_
    · intro hg2
      try simp only [decide_eq_true_eq, decide_eq_false_iff_not, Bool.not_eq_true', Bool.not_eq_false', beq_iff_eq] at hg2
      refine AD.pass 24 rfl (by kernel_rfl) (.some rfl rfl rfl rfl) rfl ?_
      refine AD.pass 25 rfl (by kernel_rfl) (.some rfl rfl rfl rfl) rfl ?_
      refine AD.takeP 26 rfl (by kernel_rfl) (RV.pickT rfl rfl) (.some rfl rfl rfl rfl) rfl ?_
      refine AD.takeP 27 rfl (by kernel_rfl) (RV.pickT rfl rfl) (.none rfl) rfl ?_
      refine AD.takeP 28 rfl (by kernel_rfl) (RV.move rfl) (.none rfl) rfl ?_
      refine AD.take 29 rfl (by kernel_rfl) (by first | exact RV.loadAggO rfl rfl (by simp) | exact RV.loadAggP rfl rfl rfl (by simp)) (.some rfl rfl rfl rfl) rfl ?_
      refine AD.takeP 30 rfl (by kernel_rfl) (RV.move rfl) (.some rfl rfl rfl rfl) rfl ?_
      refine AD.takeP 31 rfl (by kernel_rfl) (RV.move rfl) (.some rfl rfl rfl rfl) rfl ?_
      refine AD.take 33 rfl (by kernel_rfl) (by first | exact RV.loadAggO rfl rfl (by simp) | exact RV.loadAggP rfl rfl rfl (by simp)) (.some rfl rfl rfl rfl) rfl ?_
      refine AD.takeP 34 rfl (by kernel_rfl) (RV.move rfl) (.some rfl rfl rfl rfl) rfl ?_
      refine AD.takeP 35 rfl (by kernel_rfl) (RV.move rfl) (.some rfl rfl rfl rfl) rfl ?_
      refine AD.one 32 (by kernel_rfl) (AE.eff rfl (EF.callF rfl (row_spec B _ lo hi id m hid)) (.some rfl rfl rfl rfl) rfl ?_)
      rintro _ _ ⟨A96, c96, p96, rfl, hr96, hc96, rfl⟩
      refine ⟨(by first | exact .inr fun x hx hM => hx | exact .inr fun x hx hM => List.mem_cons_of_mem _ hx | exact .inr fun x hx hM => List.mem_append_right _ hx), ?_⟩
      refine AD.one 36 (by kernel_rfl) (AE.eff rfl (EF.callF rfl (rrow_spec B _ lo hi id m hid)) (.some rfl rfl rfl rfl) rfl ?_)
      rintro _ _ ⟨A100, c100, p100, rfl, hr100, hc100, rfl⟩
      refine ⟨(by first | exact .inr fun x hx hM => hx | exact .inr fun x hx hM => List.mem_cons_of_mem _ hx | exact .inr fun x hx hM => List.mem_append_right _ hx), ?_⟩
      refine AD.one 37 (by kernel_rfl) (AE.eff rfl (EF.callF rfl (psame_spec B _ (rowS lo hi id m) ((hr96.src (h := p96) (fun x hx => hx)).mono fun x hx => by simp [hx]) ((hr100.src (h := p100) (fun x hx => hx)).mono fun x hx => by simp [hx]) hrl)) (.some rfl rfl rfl rfl) rfl ?_)
      rintro _ _ ⟨rfl, rfl⟩
      refine ⟨(by first | exact .inr fun x hx hM => hx | exact .inr fun x hx hM => List.mem_cons_of_mem _ hx | exact .inr fun x hx hM => List.mem_append_right _ hx), ?_⟩
      refine AD.takeP 38 rfl (by kernel_rfl) (RV.pickT rfl rfl) (.none rfl) rfl ?_
      refine AD.takeP 39 rfl (by kernel_rfl) (RV.move rfl) (.none rfl) rfl ?_
      refine AD.take 40 rfl (by kernel_rfl) (by first | exact RV.loadAggO rfl rfl (by simp) | exact RV.loadAggP rfl rfl rfl (by simp)) (.some rfl rfl rfl rfl) rfl ?_
      refine AD.takeP 41 rfl (by kernel_rfl) (RV.move rfl) (.some rfl rfl rfl rfl) rfl ?_
      refine AD.takeP 42 rfl (by kernel_rfl) (RV.move rfl) (.some rfl rfl rfl rfl) rfl ?_
      refine AD.takeP 43 rfl (by kernel_rfl) (RV.move rfl) (.some rfl rfl rfl rfl) rfl ?_
      refine AD.take 45 rfl (by kernel_rfl) (by first | exact RV.loadAggO rfl rfl (by simp) | exact RV.loadAggP rfl rfl rfl (by simp)) (.some rfl rfl rfl rfl) rfl ?_
      refine AD.takeP 46 rfl (by kernel_rfl) (RV.move rfl) (.some rfl rfl rfl rfl) rfl ?_
      refine AD.takeP 47 rfl (by kernel_rfl) (RV.move rfl) (.some rfl rfl rfl rfl) rfl ?_
      refine AD.takeP 48 rfl (by kernel_rfl) (RV.move rfl) (.some rfl rfl rfl rfl) rfl ?_
      refine AD.one 44 (by kernel_rfl) (AE.eff rfl (EF.callF rfl (at_spec B _ lo hi id m hid j)) (.some rfl rfl rfl rfl) rfl ?_)
      rintro _ _ ⟨rfl, rfl⟩
      refine ⟨(by first | exact .inr fun x hx hM => hx | exact .inr fun x hx hM => List.mem_cons_of_mem _ hx | exact .inr fun x hx hM => List.mem_append_right _ hx), ?_⟩
      refine AD.one 49 (by kernel_rfl) (AE.eff rfl (EF.callF rfl (rat_spec B _ lo hi id m hid _)) (.some rfl rfl rfl rfl) rfl ?_)
      rintro _ _ ⟨rfl, rfl⟩
      refine ⟨(by first | exact .inr fun x hx hM => hx | exact .inr fun x hx hM => List.mem_cons_of_mem _ hx | exact .inr fun x hx hM => List.mem_append_right _ hx), ?_⟩
      refine AD.takeP 50 rfl (by kernel_rfl) ((RV.eql rfl rfl).to (v' := .bool true) (by simp)) (.some rfl rfl rfl rfl) rfl ?_
      refine AD.takeP 51 rfl (by kernel_rfl) (RV.pickT rfl rfl) (.none rfl) rfl ?_
      refine AD.takeP 52 rfl (by kernel_rfl) (RV.move rfl) (.none rfl) rfl ?_
      refine AD.one 53 (by kernel_rfl) (AE.eff rfl (EF.callF rfl (lives_spec B _)) (.some rfl rfl rfl rfl) rfl ?_)
      rintro _ _ ⟨rfl, rfl⟩
      refine ⟨(by first | exact .inr fun x hx hM => hx | exact .inr fun x hx hM => List.mem_cons_of_mem _ hx | exact .inr fun x hx hM => List.mem_append_right _ hx), ?_⟩
      refine AD.takeP 54 rfl (by kernel_rfl) (RV.pickT rfl rfl) (.none rfl) rfl ?_
      refine AD.takeP 55 rfl (by kernel_rfl) (RV.assign rfl) (.none rfl) rfl ?_
      refine AD.done (by kernel_rfl) ?_
      -- at Ft
      refine AK.ret (h' := h) Try.func4 (.tmp rfl .nil) ?_ (by first | exact SubO.sub | exact List.Sublist.refl _ | exact .cons _ (List.Sublist.refl _) | exact .cons _ (.cons _ (List.Sublist.refl _)) | exact .cons _ (.cons _ (.cons _ (List.Sublist.refl _))))
      exact ⟨rfl, rfl⟩
    · intro hg2
      try simp only [decide_eq_true_eq, decide_eq_false_iff_not, Bool.not_eq_true', Bool.not_eq_false', beq_iff_eq] at hg2
      have hb1 : startB lo hi id m = 1 := by omega
      refine AD.takeP 24 rfl (by kernel_rfl) (RV.move rfl) (.some rfl rfl rfl rfl) rfl ?_
      refine AD.takeP 25 rfl (by kernel_rfl) ((RV.eql rfl rfl).to (v' := .bool true) (by simp [hb1])) (.some rfl rfl rfl rfl) rfl ?_
      refine AD.takeP 26 rfl (by kernel_rfl) (RV.pickF rfl rfl) (.some rfl rfl rfl rfl) rfl ?_
      refine AD.takeP 27 rfl (by kernel_rfl) (RV.pickT rfl rfl) (.none rfl) rfl ?_
      refine AD.takeP 28 rfl (by kernel_rfl) (RV.move rfl) (.none rfl) rfl ?_
      refine AD.take 29 rfl (by kernel_rfl) (by first | exact RV.loadAggO rfl rfl (by simp) | exact RV.loadAggP rfl rfl rfl (by simp)) (.some rfl rfl rfl rfl) rfl ?_
      refine AD.takeP 30 rfl (by kernel_rfl) (RV.move rfl) (.some rfl rfl rfl rfl) rfl ?_
      refine AD.takeP 31 rfl (by kernel_rfl) (RV.move rfl) (.some rfl rfl rfl rfl) rfl ?_
      refine AD.take 33 rfl (by kernel_rfl) (by first | exact RV.loadAggO rfl rfl (by simp) | exact RV.loadAggP rfl rfl rfl (by simp)) (.some rfl rfl rfl rfl) rfl ?_
      refine AD.takeP 34 rfl (by kernel_rfl) (RV.move rfl) (.some rfl rfl rfl rfl) rfl ?_
      refine AD.takeP 35 rfl (by kernel_rfl) (RV.move rfl) (.some rfl rfl rfl rfl) rfl ?_
      refine AD.one 32 (by kernel_rfl) (AE.eff rfl (EF.callF rfl (row_spec B _ lo hi id m hid)) (.some rfl rfl rfl rfl) rfl ?_)
      rintro _ _ ⟨A96, c96, p96, rfl, hr96, hc96, rfl⟩
      refine ⟨(by first | exact .inr fun x hx hM => hx | exact .inr fun x hx hM => List.mem_cons_of_mem _ hx | exact .inr fun x hx hM => List.mem_append_right _ hx), ?_⟩
      refine AD.one 36 (by kernel_rfl) (AE.eff rfl (EF.callF rfl (rrow_spec B _ lo hi id m hid)) (.some rfl rfl rfl rfl) rfl ?_)
      rintro _ _ ⟨A100, c100, p100, rfl, hr100, hc100, rfl⟩
      refine ⟨(by first | exact .inr fun x hx hM => hx | exact .inr fun x hx hM => List.mem_cons_of_mem _ hx | exact .inr fun x hx hM => List.mem_append_right _ hx), ?_⟩
      refine AD.one 37 (by kernel_rfl) (AE.eff rfl (EF.callF rfl (psame_spec B _ (rowS lo hi id m) ((hr96.src (h := p96) (fun x hx => hx)).mono fun x hx => by simp [hx]) ((hr100.src (h := p100) (fun x hx => hx)).mono fun x hx => by simp [hx]) hrl)) (.some rfl rfl rfl rfl) rfl ?_)
      rintro _ _ ⟨rfl, rfl⟩
      refine ⟨(by first | exact .inr fun x hx hM => hx | exact .inr fun x hx hM => List.mem_cons_of_mem _ hx | exact .inr fun x hx hM => List.mem_append_right _ hx), ?_⟩
      refine AD.takeP 38 rfl (by kernel_rfl) (RV.pickT rfl rfl) (.none rfl) rfl ?_
      refine AD.takeP 39 rfl (by kernel_rfl) (RV.move rfl) (.none rfl) rfl ?_
      refine AD.take 40 rfl (by kernel_rfl) (by first | exact RV.loadAggO rfl rfl (by simp) | exact RV.loadAggP rfl rfl rfl (by simp)) (.some rfl rfl rfl rfl) rfl ?_
      refine AD.takeP 41 rfl (by kernel_rfl) (RV.move rfl) (.some rfl rfl rfl rfl) rfl ?_
      refine AD.takeP 42 rfl (by kernel_rfl) (RV.move rfl) (.some rfl rfl rfl rfl) rfl ?_
      refine AD.takeP 43 rfl (by kernel_rfl) (RV.move rfl) (.some rfl rfl rfl rfl) rfl ?_
      refine AD.take 45 rfl (by kernel_rfl) (by first | exact RV.loadAggO rfl rfl (by simp) | exact RV.loadAggP rfl rfl rfl (by simp)) (.some rfl rfl rfl rfl) rfl ?_
      refine AD.takeP 46 rfl (by kernel_rfl) (RV.move rfl) (.some rfl rfl rfl rfl) rfl ?_
      refine AD.takeP 47 rfl (by kernel_rfl) (RV.move rfl) (.some rfl rfl rfl rfl) rfl ?_
      refine AD.takeP 48 rfl (by kernel_rfl) (RV.move rfl) (.some rfl rfl rfl rfl) rfl ?_
      refine AD.one 44 (by kernel_rfl) (AE.eff rfl (EF.callF rfl (at_spec B _ lo hi id m hid j)) (.some rfl rfl rfl rfl) rfl ?_)
      rintro _ _ ⟨rfl, rfl⟩
      refine ⟨(by first | exact .inr fun x hx hM => hx | exact .inr fun x hx hM => List.mem_cons_of_mem _ hx | exact .inr fun x hx hM => List.mem_append_right _ hx), ?_⟩
      refine AD.one 49 (by kernel_rfl) (AE.eff rfl (EF.callF rfl (rat_spec B _ lo hi id m hid _)) (.some rfl rfl rfl rfl) rfl ?_)
      rintro _ _ ⟨rfl, rfl⟩
      refine ⟨(by first | exact .inr fun x hx hM => hx | exact .inr fun x hx hM => List.mem_cons_of_mem _ hx | exact .inr fun x hx hM => List.mem_append_right _ hx), ?_⟩
      refine AD.takeP 50 rfl (by kernel_rfl) ((RV.eql rfl rfl).to (v' := .bool true) (by simp)) (.some rfl rfl rfl rfl) rfl ?_
      refine AD.takeP 51 rfl (by kernel_rfl) (RV.pickT rfl rfl) (.none rfl) rfl ?_
      refine AD.takeP 52 rfl (by kernel_rfl) (RV.move rfl) (.none rfl) rfl ?_
      refine AD.one 53 (by kernel_rfl) (AE.eff rfl (EF.callF rfl (lives_spec B _)) (.some rfl rfl rfl rfl) rfl ?_)
      rintro _ _ ⟨rfl, rfl⟩
      refine ⟨(by first | exact .inr fun x hx hM => hx | exact .inr fun x hx hM => List.mem_cons_of_mem _ hx | exact .inr fun x hx hM => List.mem_append_right _ hx), ?_⟩
      refine AD.takeP 54 rfl (by kernel_rfl) (RV.pickT rfl rfl) (.none rfl) rfl ?_
      refine AD.takeP 55 rfl (by kernel_rfl) (RV.assign rfl) (.none rfl) rfl ?_
      refine AD.done (by kernel_rfl) ?_
      -- at Ff
      refine AK.ret (h' := h) Try.func4 (.tmp rfl .nil) ?_ (by first | exact SubO.sub | exact List.Sublist.refl _ | exact .cons _ (List.Sublist.refl _) | exact .cons _ (.cons _ (List.Sublist.refl _)) | exact .cons _ (.cons _ (.cons _ (List.Sublist.refl _))))
      exact ⟨rfl, rfl⟩

set_option maxRecDepth 100000 in
theorem permRows_lifted (os : Os) (started : os.Started) (H : Type) (enc : TypeId × Value → H) :
    ReturnsInHanded {} Try.checked os 4 .any (Rows.permRowsSpec.pre6 enc Try.prog Try.f4 Rows.permRowsRow.domain false) (Rows.permRowsSpec.post enc Try.prog Try.f4 false true false false) := by
  refine returnsInHanded_of_change (C := Try.checked) own_ started (by kernel_rfl) Try.func4
    (ChangeSpec.witness6 (enc := enc) (C := Try.checked) false ⟨#[], #[(Value.agg #[(Value.int IntKind.u64 0), (Value.int IntKind.u64 0)]), (Value.int IntKind.i64 0), (Value.int IntKind.i64 0), (Value.int IntKind.i64 0)], []⟩ 8 (by kernel_rfl) (by kernel_rfl) (by kernel_rfl) (by kernel_rfl)) ?_
  intro W base args ds gs before hval0 hW hcnd _
  have hval : ∀ (j : Nat) t v, Try.f4.params[j]? = some t → args[j]? = some v → Value.okWide Try.prog W .any base t v := hval0
  have hW' := hW
  obtain ⟨p, q, hA0, hV, rfl, hfz, hnd⟩ := hW
  have hA : DataW.TrodAll enc Try.prog W 0 (fun _ => true) true Try.f4.params.toList args.toList ds p := hA0
  rw [Try.params4] at hA hval
  obtain ⟨args⟩ := args
  simp only at hA
  obtain ⟨v0, vs0, d0, ds0, p0, q0, e0a, e0b, e0c, t0, r0⟩ := trodAll_cons hA
  obtain ⟨v1, vs1, d1, ds1, p1, q1, e1a, e1b, e1c, t1, r1⟩ := trodAll_cons r0
  obtain ⟨v2, vs2, d2, ds2, p2, q2, e2a, e2b, e2c, t2, r2⟩ := trodAll_cons r1
  obtain ⟨v3, vs3, d3, ds3, p3, q3, e3a, e3b, e3c, t3, r3⟩ := trodAll_cons r2
  subst e0a e0b e0c
  subst e1a e1b e1c
  subst e2a e2b e2c
  subst e3a e3b e3c
  obtain ⟨rfl, rfl, rfl⟩ := trodAll_nil r3
  obtain ⟨rfl, rfl⟩ := trodVars_none hV
  have hlt := hW'.lt
  have k0 : Value.okWide Try.prog W .any base 24 v0 := hval 0 _ v0 rfl rfl
  obtain ⟨k, w0, hk⟩ := Dec.argA k0 t0 ((.cons (off := 0) (sz := 1) (by rfl) (by kernel_rfl) (Dec.int (t := 22) (k := .u64)) (.cons (off := 1) (sz := 1) (by rfl) (by kernel_rfl) (Dec.int (t := 22) (k := .u64)) .nil))) (by kernel_rfl)
  have k1 : Value.okWide Try.prog W .any base 3 v1 := hval 1 _ v1 rfl rfl
  obtain ⟨id, w1, id_lo, id_hi⟩ := Dec.argI k1 t1
  have k2 : Value.okWide Try.prog W .any base 3 v2 := hval 2 _ v2 rfl rfl
  obtain ⟨m, w2, m_lo, m_hi⟩ := Dec.argI k2 t2
  have k3 : Value.okWide Try.prog W .any base 3 v3 := hval 3 _ v3 rfl rfl
  obtain ⟨j, w3, j_lo, j_hi⟩ := Dec.argI k3 t3
  have htri : Tri Try.prog W 4 [v0, v1, v2, v3] [] (fun v _ => v = .bool true) := by
    subst w0 w1 w2 w3
    exact (rows_law W [] k.1 k.2.1 id m j ⟨id_lo, id_hi⟩).mono fun v h2 hh => hh.2
  clear w0 w1 w2 w3
  refine (htri.run W (Models.start W)).mono fun e W' ⟨v, h2, he, m2, hv⟩ => ?_
  subst he; subst hv
  have hb := m2.below
  refine ⟨_, rfl, post_of_below (pa := (p0 ++ (p1 ++ (p2 ++ (p3 ++ ([])))))) (pv := []) hW' (fun _ _ _ => trodAll_mk1 (shut_bool (Try.underlying4) true)) (fun sp hsp => ?_) (fun _ _ => rfl) rfl hb (ok_one (t := 4) (by kernel_rfl) rfl ?_)⟩
  · refine TAcons (WideElems.Trod_stays laidOut_ (by kernel_rfl) (of_decide_eq_true (by kernel_rfl)) t0 (fun x hx => hb.same (hlt x (by simp [hx]))) (fun x hx => hsp x (by simp [hx]))) ?_
    refine TAcons (WideElems.Trod_stays laidOut_ (by kernel_rfl) (of_decide_eq_true (by kernel_rfl)) t1 (fun x hx => hb.same (hlt x (by simp [hx]))) (fun x hx => hsp x (by simp [hx]))) ?_
    refine TAcons (WideElems.Trod_stays laidOut_ (by kernel_rfl) (of_decide_eq_true (by kernel_rfl)) t2 (fun x hx => hb.same (hlt x (by simp [hx]))) (fun x hx => hsp x (by simp [hx]))) ?_
    refine TAcons (WideElems.Trod_stays laidOut_ (by kernel_rfl) (of_decide_eq_true (by kernel_rfl)) t3 (fun x hx => hb.same (hlt x (by simp [hx]))) (fun x hx => hsp x (by simp [hx]))) ?_
    rfl
  · exact okBool Try.underlying4

theorem permRows_holds : Rows.PermRowsSaid :=
  OpenClaim.holds_of_wide 4 Try.f4 rfl rfl rfl rfl rfl rfl rfl ⟨rfl, rfl, rfl, rfl, rfl⟩ rfl rfl rfl rfl rfl (by kernel_rfl) Try.func4 (by kernel_rfl)
    (of_decide_eq_true (by kernel_rfl)) (by unfold Func.isWrapper; first | (rw [if_pos (by decide +kernel)]; kernel_rfl) | (rw [if_neg (by decide +kernel)]; exact ⟨rfl, rfl⟩))
    (fun os started H enc _ => permRows_lifted os started H enc)

end Go.Proofs.Ytpmfnjgbckdmoaa
