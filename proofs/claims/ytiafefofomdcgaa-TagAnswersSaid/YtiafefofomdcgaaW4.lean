/- Walks through the code: what each function that is named here gives back, from any memory that holds its arguments. Written by a program of the claim's author, out of the program's form in Lean. -/
import Derived.Test.YtiafefofomdcgaaW3
import Derived.Test.YtiafefofomdcgaaPlainQ34
set_option linter.unusedSimpArgs false
set_option linter.unusedVariables false
namespace Go.Proofs.Ytiafefofomdcgaa
open Go.Sep Go.Sep.Sip Go.Sep.Tag Go.RowKit Go.WideShapes Go.ChangeShapes

set_option maxHeartbeats 1000000 in
theorem answer_spec (B : World) (h : Own) (lo hi n code : Int) (hn : 0 ≤ n ∧ n ≤ 18446744073709551615) (hc : 0 ≤ code ∧ code ≤ 255) {A : Option Addr} {cap : Nat} (l : List Int) (hl : Src B h A l.length 1 (l.map (fun x => Value.int .u8 x))) (hb : Bytes l) (hcap : l.length ≤ cap) (hln : l.length ≤ 10000) : Tri Try.prog B 13 [.agg #[.int .u64 lo, .int .u64 hi], .int .u64 n, .int .u8 code, .slice A l.length cap] h fun v h' => NewS 5 1 (signB lo hi (ansB n code l)).length ((signB lo hi (ansB n code l)).map (fun x => Value.int .u8 x)) h v h' := by
  have hab : Bytes (ansB n code l) := ansB_bytes hc hb
  have hal : (ansB n code l).length = 9 + l.length := ansB_len n code l
  refine Tri.enter (n := 18) Try.func13 rfl rfl rfl ?_
  simp only [argsE, Nat.reduceAdd]
  try dsimp only [argsE]
  refine AK.seq ?_
  refine AK.region ?_
  refine AO.eff (EF.box rfl rfl) (.none rfl) rfl ?_
  rintro _ _ ⟨b4, hf4, rfl, rfl⟩
  refine AO.val (RV.assign rfl) (.none rfl) rfl ?_
  refine AO.nil ?_
  refine AK.seq ?_
  refine AK.draw [] [8] mixed ?_
  refine AD.take 0 rfl (by kernel_rfl) (by first | exact RV.loadAggO rfl rfl (by simp) | exact RV.loadAggP rfl rfl rfl (by simp)) (.none rfl) rfl ?_
  refine AD.takeP 1 rfl (by kernel_rfl) (RV.move rfl) (.none rfl) rfl ?_
  refine AD.takeP 3 rfl (by kernel_rfl) (RV.move rfl) (.none rfl) rfl ?_
  refine AD.takeP 5 rfl (by kernel_rfl) (RV.move rfl) (.none rfl) rfl ?_
  refine AD.cut (α := Option Addr × Nat × Own × Nat) 4 #[true, true, true, true, true, true, false, false, false, false] (fun (A11, c11, p11, b13) e => (13, .slice (some ⟨b13, 0, none⟩) 1 1) :: (11, .slice A11 ((longB n).length) c11) :: e) (fun (A11, c11, p11, b13) h => (b13, Blk.cells [.int .u8 code] 5 (0, 0)) :: (p11 ++ (h))) (fun (A11, c11, p11, b13) => (Row 5 1 (.slice A11 ((longB n).length) c11) ((longB n).length) ((longB n).map (fun x => Value.int .u8 x)) p11) ∧ (((longB n).length) ≤ c11)) ?_ ?_
  · rintro ⟨A11, c11, p11, b13⟩ ⟨hr11, hc11⟩
    try dsimp only
    refine AD.one 6 (by kernel_rfl) (AE.eff rfl (EF.buildSeq [.slice A11 (longB n).length c11, .slice (some ⟨b13, 0, none⟩) 1 1, .slice A l.length cap] rfl rfl rfl rfl) (.none rfl) rfl ?_)
    rintro _ _ ⟨b15, hf15, rfl, rfl⟩
    refine ⟨(by first | exact .inr fun x hx hM => hx | exact .inr fun x hx hM => List.mem_cons_of_mem _ hx | exact .inr fun x hx hM => List.mem_append_right _ hx), ?_⟩
    refine AD.one 7 (by kernel_rfl) (AE.eff rfl (EF.callF rfl ((join_spec (A := some ⟨b15, 0, none⟩) (cap := 3) B _ ([⟨A11, c11, longB n⟩, ⟨some ⟨b13, 0, none⟩, 1, [code]⟩, ⟨A, cap, l⟩] : List (InS Int)) (Src.of_new (el := 29) (cs := [.slice A11 (longB n).length c11, .slice (some ⟨b13, 0, none⟩) 1 1, .slice A l.length cap]) (by simp) 3 1 (Nat.le_refl _)) (by intro x hx; simp only [List.mem_cons, List.not_mem_nil, or_false] at hx; rcases hx with rfl | rfl | rfl <;> first | exact (hr11.src (h := p11) (fun x hx => hx)).mono fun x hx => by simp [hx] | exact Src.of_new (el := 5) (cs := [.int .u8 code]) (by simp) 1 1 (Nat.le_refl _) | exact hl.mono fun x hx => by simp [hx]) (by simp [longB_len]; omega) (by simp)).mono fun v h2 r => r.to (n' := ((ansB n code l)).length) (ys := ((ansB n code l)).map (fun x => Value.int .u8 x)) (by simp [ansB, longB_len]) (by simp [ansB]))) (.none rfl) rfl ?_)
    rintro _ _ ⟨A16, c16, p16, rfl, hr16, hc16, rfl⟩
    refine ⟨(by first | exact .inr fun x hx hM => hx | exact .inr fun x hx hM => List.mem_cons_of_mem _ hx | exact .inr fun x hx hM => List.mem_append_right _ hx), ?_⟩
    refine AD.one 8 (by kernel_rfl) (AE.eff rfl (EF.callF rfl (signed_spec (cap := c16) B _ lo hi (ansB n code l) ((hr16.src (h := p16) (fun x hx => hx)).mono fun x hx => by simp [hx]) hab hc16 (by omega))) (.none rfl) rfl ?_)
    rintro _ _ ⟨A17, c17, p17, rfl, hr17, hc17, rfl⟩
    refine ⟨.inl (by kernel_rfl), ?_⟩
    refine AD.takeP 9 rfl (by kernel_rfl) (RV.assign rfl) (.none rfl) rfl ?_
    refine AD.done (by kernel_rfl) ?_
    -- at 
    refine AK.ret (h' := p17 ++ h) Try.func13 (.tmp rfl .nil) ?_ (by exact SubO.sub)
    exact ⟨A17, c17, p17, rfl, hr17, hc17, rfl⟩
  · intro hst0
    try dsimp only at hst0
    refine AD.many (i := 2) (l := [4]) (by kernel_rfl) (.cons ?_ (.cons ?_ (.nil)))
    · skip
      refine AE.eff rfl (show EF _ _ _ _ _ _ (NewS 5 1 ((longB n).length) ((longB n).map (fun x => Value.int .u8 x)) _) from EF.callF rfl (long_spec B _ n hn)) (.none rfl) rfl ?_
      rintro _ _ ⟨A11, c11, p11, rfl, hr11, hc11, rfl⟩
      refine ⟨(by first | exact .inr fun x hx hM => hx | exact .inr fun x hx hM => List.mem_cons_of_mem _ hx | exact .inr fun x hx hM => List.mem_append_right _ hx), ?_⟩
      refine AD.one 4 (by kernel_rfl) (AE.eff rfl (EF.buildSeq [.int .u8 code] rfl rfl rfl rfl) (.none rfl) rfl ?_)
      rintro _ _ ⟨b13, hf13, rfl, rfl⟩
      refine ⟨(by first | exact .inr fun x hx hM => hx | exact .inr fun x hx hM => List.mem_cons_of_mem _ hx | exact .inr fun x hx hM => List.mem_append_right _ hx), ?_⟩
      refine AD.to rfl (by rfl) (.cons rfl (.cons rfl (.drop rfl (.drop rfl .refl)))) (by first | exact List.Perm.refl _ | exact perm_count fun x => by simp only [List.count_append, List.count_cons, List.count_nil]; omega) (hst0 ⟨A11, c11, p11, b13⟩ ⟨hr11, hc11⟩)
    · skip
      refine AE.eff rfl (EF.buildSeq [.int .u8 code] rfl rfl rfl rfl) (.none rfl) rfl ?_
      rintro _ _ ⟨b13, hf13, rfl, rfl⟩
      refine ⟨(by first | exact .inr fun x hx hM => hx | exact .inr fun x hx hM => List.mem_cons_of_mem _ hx | exact .inr fun x hx hM => List.mem_append_right _ hx), ?_⟩
      refine AD.one 2 (by kernel_rfl) (AE.eff rfl (show EF _ _ _ _ _ _ (NewS 5 1 ((longB n).length) ((longB n).map (fun x => Value.int .u8 x)) _) from EF.callF rfl (long_spec B _ n hn)) (.none rfl) rfl ?_)
      rintro _ _ ⟨A11, c11, p11, rfl, hr11, hc11, rfl⟩
      refine ⟨(by first | exact .inr fun x hx hM => hx | exact .inr fun x hx hM => List.mem_cons_of_mem _ hx | exact .inr fun x hx hM => List.mem_append_right _ hx), ?_⟩
      refine AD.to rfl (by rfl) (.cons rfl (.cons rfl (.drop rfl (.drop rfl .refl)))) (by first | exact List.Perm.refl _ | exact perm_count fun x => by simp only [List.count_append, List.count_cons, List.count_nil]; omega) (hst0 ⟨A11, c11, p11, b13⟩ ⟨hr11, hc11⟩)

set_option maxHeartbeats 1000000 in
theorem ranswer_spec (B : World) (h : Own) (lo hi n code : Int) (hn : 0 ≤ n ∧ n ≤ 18446744073709551615) (hc : 0 ≤ code ∧ code ≤ 255) {A : Option Addr} {cap : Nat} (l : List Int) (hl : Src B h A l.length 1 (l.map (fun x => Value.int .u8 x))) (hb : Bytes l) (hcap : l.length ≤ cap) (hln : l.length ≤ 10000) : Tri Try.prog B 14 [.agg #[.int .u64 lo, .int .u64 hi], .int .u64 n, .int .u8 code, .slice A l.length cap] h fun v h' => NewS 5 1 (signB lo hi (ansB n code l)).length ((signB lo hi (ansB n code l)).map (fun x => Value.int .u8 x)) h v h' := by
  have hab : Bytes (ansB n code l) := ansB_bytes hc hb
  have hal : (ansB n code l).length = 9 + l.length := ansB_len n code l
  refine Tri.enter (n := 18) Try.func14 rfl rfl rfl ?_
  simp only [argsE, Nat.reduceAdd]
  try dsimp only [argsE]
  refine AK.seq ?_
  refine AK.region ?_
  refine AO.eff (EF.box rfl rfl) (.none rfl) rfl ?_
  rintro _ _ ⟨b4, hf4, rfl, rfl⟩
  refine AO.val (RV.assign rfl) (.none rfl) rfl ?_
  refine AO.nil ?_
  refine AK.seq ?_
  refine AK.draw [] [8] mixed ?_
  refine AD.take 0 rfl (by kernel_rfl) (by first | exact RV.loadAggO rfl rfl (by simp) | exact RV.loadAggP rfl rfl rfl (by simp)) (.none rfl) rfl ?_
  refine AD.takeP 1 rfl (by kernel_rfl) (RV.move rfl) (.none rfl) rfl ?_
  refine AD.takeP 3 rfl (by kernel_rfl) (RV.move rfl) (.none rfl) rfl ?_
  refine AD.takeP 6 rfl (by kernel_rfl) (RV.move rfl) (.none rfl) rfl ?_
  refine AD.cut (α := Option Addr × Nat × Own × Nat) 4 #[true, true, true, true, true, false, true, false, false, false] (fun (A11, c11, p11, b13) e => (13, .slice (some ⟨b13, 0, none⟩) 1 1) :: (11, .slice A11 ((longB n).length) c11) :: e) (fun (A11, c11, p11, b13) h => (b13, Blk.cells [.int .u8 code] 5 (0, 0)) :: (p11 ++ (h))) (fun (A11, c11, p11, b13) => (Row 5 1 (.slice A11 ((longB n).length) c11) ((longB n).length) ((longB n).map (fun x => Value.int .u8 x)) p11) ∧ (((longB n).length) ≤ c11)) ?_ ?_
  · rintro ⟨A11, c11, p11, b13⟩ ⟨hr11, hc11⟩
    try dsimp only
    refine AD.one 5 (by kernel_rfl) (AE.eff rfl (EF.callF rfl (add_spec (cap := c11) (A2 := some ⟨b13, 0, none⟩) (cap2 := 1) B _ (longB n) [code] ((hr11.src (h := p11) (fun x hx => hx)).mono fun x hx => by simp [hx]) (Src.of_new (el := 5) (cs := [.int .u8 code]) (by simp) 1 1 (Nat.le_refl _)) (by simp [longB_len]))) (.none rfl) rfl ?_)
    rintro _ _ ⟨A14, c14, p14, rfl, hr14, hc14, rfl⟩
    refine ⟨(by first | exact .inr fun x hx hM => hx | exact .inr fun x hx hM => List.mem_cons_of_mem _ hx | exact .inr fun x hx hM => List.mem_append_right _ hx), ?_⟩
    refine AD.one 7 (by kernel_rfl) (AE.eff rfl (EF.callF rfl ((add_spec (cap := c14) B _ (longB n ++ [code]) l ((hr14.src (h := p14) (fun x hx => hx)).mono fun x hx => by simp [hx]) (hl.mono fun x hx => by simp [hx]) (by simp [longB_len]; omega)).mono fun v h2 r => r.to (n' := ((ansB n code l)).length) (ys := ((ansB n code l)).map (fun x => Value.int .u8 x)) rfl rfl)) (.none rfl) rfl ?_)
    rintro _ _ ⟨A16, c16, p16, rfl, hr16, hc16, rfl⟩
    refine ⟨(by first | exact .inr fun x hx hM => hx | exact .inr fun x hx hM => List.mem_cons_of_mem _ hx | exact .inr fun x hx hM => List.mem_append_right _ hx), ?_⟩
    refine AD.one 8 (by kernel_rfl) (AE.eff rfl (EF.callF rfl (rsigned_spec (cap := c16) B _ lo hi (ansB n code l) ((hr16.src (h := p16) (fun x hx => hx)).mono fun x hx => by simp [hx]) hab hc16 (by omega))) (.none rfl) rfl ?_)
    rintro _ _ ⟨A17, c17, p17, rfl, hr17, hc17, rfl⟩
    refine ⟨.inl (by kernel_rfl), ?_⟩
    refine AD.takeP 9 rfl (by kernel_rfl) (RV.assign rfl) (.none rfl) rfl ?_
    refine AD.done (by kernel_rfl) ?_
    -- at 
    refine AK.ret (h' := p17 ++ h) Try.func14 (.tmp rfl .nil) ?_ (by exact SubO.sub)
    exact ⟨A17, c17, p17, rfl, hr17, hc17, rfl⟩
  · intro hst0
    try dsimp only at hst0
    refine AD.many (i := 2) (l := [4]) (by kernel_rfl) (.cons ?_ (.cons ?_ (.nil)))
    · skip
      refine AE.eff rfl (show EF _ _ _ _ _ _ (NewS 5 1 ((longB n).length) ((longB n).map (fun x => Value.int .u8 x)) _) from EF.callF rfl (rlong_spec B _ n hn)) (.none rfl) rfl ?_
      rintro _ _ ⟨A11, c11, p11, rfl, hr11, hc11, rfl⟩
      refine ⟨(by first | exact .inr fun x hx hM => hx | exact .inr fun x hx hM => List.mem_cons_of_mem _ hx | exact .inr fun x hx hM => List.mem_append_right _ hx), ?_⟩
      refine AD.one 4 (by kernel_rfl) (AE.eff rfl (EF.buildSeq [.int .u8 code] rfl rfl rfl rfl) (.none rfl) rfl ?_)
      rintro _ _ ⟨b13, hf13, rfl, rfl⟩
      refine ⟨(by first | exact .inr fun x hx hM => hx | exact .inr fun x hx hM => List.mem_cons_of_mem _ hx | exact .inr fun x hx hM => List.mem_append_right _ hx), ?_⟩
      refine AD.to rfl (by rfl) (.cons rfl (.cons rfl (.drop rfl (.drop rfl .refl)))) (by first | exact List.Perm.refl _ | exact perm_count fun x => by simp only [List.count_append, List.count_cons, List.count_nil]; omega) (hst0 ⟨A11, c11, p11, b13⟩ ⟨hr11, hc11⟩)
    · skip
      refine AE.eff rfl (EF.buildSeq [.int .u8 code] rfl rfl rfl rfl) (.none rfl) rfl ?_
      rintro _ _ ⟨b13, hf13, rfl, rfl⟩
      refine ⟨(by first | exact .inr fun x hx hM => hx | exact .inr fun x hx hM => List.mem_cons_of_mem _ hx | exact .inr fun x hx hM => List.mem_append_right _ hx), ?_⟩
      refine AD.one 2 (by kernel_rfl) (AE.eff rfl (show EF _ _ _ _ _ _ (NewS 5 1 ((longB n).length) ((longB n).map (fun x => Value.int .u8 x)) _) from EF.callF rfl (rlong_spec B _ n hn)) (.none rfl) rfl ?_)
      rintro _ _ ⟨A11, c11, p11, rfl, hr11, hc11, rfl⟩
      refine ⟨(by first | exact .inr fun x hx hM => hx | exact .inr fun x hx hM => List.mem_cons_of_mem _ hx | exact .inr fun x hx hM => List.mem_append_right _ hx), ?_⟩
      refine AD.to rfl (by rfl) (.cons rfl (.cons rfl (.drop rfl (.drop rfl .refl)))) (by first | exact List.Perm.refl _ | exact perm_count fun x => by simp only [List.count_append, List.count_cons, List.count_nil]; omega) (hst0 ⟨A11, c11, p11, b13⟩ ⟨hr11, hc11⟩)

set_option maxHeartbeats 1000000 in
theorem open_spec (B : World) (h : Own) (lo hi : Int) {A : Option Addr} {cap : Nat} (l : List Int) (hl : Src B h A l.length 1 (l.map (fun x => Value.int .u8 x))) (hb : Bytes l) (hcap : l.length ≤ cap) (hln : l.length ≤ 10000) : Tri Try.prog B 15 [.agg #[.int .u64 lo, .int .u64 hi], .slice A l.length cap] h fun v h' => ∃ A' c' p, v = .tuple #[.int .u64 (openS lo hi l).1, .int .u8 (openS lo hi l).2.1, .slice A' (openS lo hi l).2.2.1.length c', .int .i64 (openS lo hi l).2.2.2] ∧ (∀ h0 : Own, (∀ x ∈ p ++ h, x ∈ h0) → Src B h0 A' (openS lo hi l).2.2.1.length 1 ((openS lo hi l).2.2.1.map (fun x => Value.int .u8 x))) ∧ h' = p ++ h := by
  refine Tri.enter (n := 31) Try.func15 rfl rfl rfl ?_
  simp only [argsE, Nat.reduceAdd]
  try dsimp only [argsE]
  refine AK.seq ?_
  refine AK.region ?_
  refine AO.eff (EF.box rfl rfl) (.none rfl) rfl ?_
  rintro _ _ ⟨b2, hf2, rfl, rfl⟩
  refine AO.val (RV.assign rfl) (.none rfl) rfl ?_
  refine AO.val (RV.assign rfl) (.none rfl) rfl ?_
  refine AO.val (RV.assign rfl) (.none rfl) rfl ?_
  refine AO.val (RV.assign rfl) (.none rfl) rfl ?_
  refine AO.nil ?_
  refine AK.seq ?_
  refine AK.seq ?_
  refine AK.region ?_
  refine AO.val (RV.move rfl) (.none rfl) rfl ?_
  refine AO.val (RV.lenS rfl) (.none rfl) rfl ?_
  refine AO.val (RV.lss rfl rfl) (.none rfl) rfl ?_
  refine AO.nil ?_
  refine AK.cond rfl ?_ ?_
  · intro hc1
    try simp only [decide_eq_true_eq, decide_eq_false_iff_not, Bool.not_eq_true', Bool.not_eq_false', beq_iff_eq] at hc1
    refine AK.seq ?_
    refine AK.region ?_
    refine AO.val (RV.assign rfl) (.none rfl) rfl ?_
    refine AO.val (RV.assign rfl) (.none rfl) rfl ?_
    refine AO.val (RV.assign rfl) (.none rfl) rfl ?_
    refine AO.val (RV.assign rfl) (.none rfl) rfl ?_
    refine AO.nil ?_
    -- at T
    refine AK.ret (h' := h) Try.func15 (.tmp rfl (.tmp rfl (.tmp rfl (.tmp rfl .nil)))) ?_ (by exact SubO.sub)
    have hp : openS lo hi l = (0, 0, [], 3) := by unfold openS; rw [if_pos (by omega)]
    rw [hp]
    exact ⟨none, 0, [], rfl, fun h0 _ => ⟨rfl, by simp⟩, rfl⟩
  · intro hc1
    try simp only [decide_eq_true_eq, decide_eq_false_iff_not, Bool.not_eq_true', Bool.not_eq_false', beq_iff_eq] at hc1
    refine AK.skip ?_
    refine AK.seq ?_
    refine AK.seq ?_
    refine AK.region ?_
    refine AO.val (by first | exact RV.loadAggO rfl rfl (by simp) | exact RV.loadAggP rfl rfl rfl (by simp)) (.none rfl) rfl ?_
    refine AO.val (RV.move rfl) (.none rfl) rfl ?_
    refine AO.eff (EF.callF rfl (right_spec B _ lo hi l hl.sub hb hcap (by omega) (by omega))) (.none rfl) rfl ?_
    rintro _ _ ⟨rfl, rfl⟩
    refine AO.val (RV.not rfl) (.none rfl) rfl ?_
    refine AO.nil ?_
    refine AK.cond rfl ?_ ?_
    · intro hc2
      try simp only [decide_eq_true_eq, decide_eq_false_iff_not, Bool.not_eq_true', Bool.not_eq_false', beq_iff_eq] at hc2
      refine AK.seq ?_
      refine AK.region ?_
      refine AO.val (RV.assign rfl) (.none rfl) rfl ?_
      refine AO.val (RV.assign rfl) (.none rfl) rfl ?_
      refine AO.val (RV.assign rfl) (.none rfl) rfl ?_
      refine AO.val (RV.assign rfl) (.none rfl) rfl ?_
      refine AO.nil ?_
      -- at FT
      refine AK.ret (h' := h) Try.func15 (.tmp rfl (.tmp rfl (.tmp rfl (.tmp rfl .nil)))) ?_ (by exact SubO.sub)
      have hp : openS lo hi l = (0, 0, [], 12) := by unfold openS; rw [if_neg (by omega), if_pos (by simpa using hc2)]
      rw [hp]
      exact ⟨none, 0, [], rfl, fun h0 _ => ⟨rfl, by simp⟩, rfl⟩
    · intro hc2
      try simp only [decide_eq_true_eq, decide_eq_false_iff_not, Bool.not_eq_true', Bool.not_eq_false', beq_iff_eq] at hc2
      have hs : signB lo hi (l.take (l.length - 8)) = l := by simpa using hc2
      have hp : openS lo hi l = (countB l, lget l 8, cutL l 9 (l.length - 17), 0) := by unfold openS; rw [if_neg (by omega), if_neg (by simp [hs])]
      have ht : thereB l 9 (l.length - 17) = true := by simp [thereB]; omega
      have hcn := countB_in hb (by omega)
      have hx8 := lget_bytes hb 8 (by omega) (by omega)
      refine AK.skip ?_
      refine AK.seq ?_
      refine AK.region ?_
      refine AO.val (RV.move rfl) (.none rfl) rfl ?_
      refine AO.val (RV.move rfl) (.none rfl) rfl ?_
      refine AO.val (RV.lenS rfl) (.none rfl) rfl ?_
      refine AO.val (by first | exact RV.subIn rfl rfl (by omega) | exact RV.sub rfl rfl) (.none rfl) rfl ?_
      refine AO.eff (EF.callF rfl (cut_spec B _ l hl.sub hcap (by omega) 9 (l.length - 17))) (.none rfl) rfl ?_
      rintro _ _ ⟨w22, rfl, A22, c22, p22, rfl, hr22, hc22, rfl⟩
      rw [ht]
      rw [ht] at hr22 hc22
      simp only [if_true] at hr22 hc22 ⊢
      refine AO.val (RV.move rfl) (.none rfl) rfl ?_
      refine AO.val (RV.extract rfl rfl) (.none rfl) rfl ?_
      refine AO.val (RV.extract rfl rfl) (.none rfl) rfl ?_
      refine AO.val (RV.assign rfl) (.none rfl) rfl ?_
      refine AO.val (RV.assign rfl) (.none rfl) rfl ?_
      refine AO.nil ?_
      refine AK.seq ?_
      refine AK.draw [] [] mixed ?_
      refine AD.takeP 0 rfl (by kernel_rfl) (RV.move rfl) (.none rfl) rfl ?_
      refine AD.takeP 2 rfl (by kernel_rfl) (RV.move rfl) (.none rfl) rfl ?_
      refine AD.takeP 3 rfl (by kernel_rfl) (by first | exact RV.indexS rfl rfl (by assumption) (by omega) rfl | exact RV.indexAddr rfl rfl (by omega)) (.none rfl) rfl ?_
      refine AD.take 4 rfl (by kernel_rfl) (RV.loadS (enc := Value.int .u8) (l := l) (i := 8) rfl hl (by omega) (by simp)) (.none rfl) rfl ?_
      refine AD.takeP 5 rfl (by kernel_rfl) (RV.move rfl) (.none rfl) rfl ?_
      refine AD.one 1 (by kernel_rfl) (AE.eff rfl (EF.callF rfl (count_spec B _ l (hl.mono fun x hx => by simp [hx]) hb hcap (by omega) (by omega))) (.none rfl) rfl ?_)
      rintro _ _ ⟨rfl, rfl⟩
      refine ⟨(by first | exact .inr fun x hx hM => hx | exact .inr fun x hx hM => List.mem_cons_of_mem _ hx | exact .inr fun x hx hM => List.mem_append_right _ hx), ?_⟩
      refine AD.takeP 6 rfl (by kernel_rfl) (RV.assign rfl) (.none rfl) rfl ?_
      refine AD.takeP 7 rfl (by kernel_rfl) (RV.assign rfl) (.none rfl) rfl ?_
      refine AD.takeP 8 rfl (by kernel_rfl) (RV.assign rfl) (.none rfl) rfl ?_
      refine AD.takeP 9 rfl (by kernel_rfl) (RV.assign rfl) (.none rfl) rfl ?_
      refine AD.done (by kernel_rfl) ?_
      -- at FF
      refine AK.ret (h' := p22 ++ h) Try.func15 (.tmp rfl (.tmp rfl (.tmp rfl (.tmp rfl .nil)))) ?_ (by exact SubO.sub)
      rw [hp]
      exact ⟨A22, c22, p22, rfl, fun h0 hh => hr22.src (fun x hx => hh x (List.mem_append_left _ hx)), rfl⟩

set_option maxHeartbeats 1000000 in
theorem ropen_spec (B : World) (h : Own) (lo hi : Int) {A : Option Addr} {cap : Nat} (l : List Int) (hl : Src B h A l.length 1 (l.map (fun x => Value.int .u8 x))) (hb : Bytes l) (hcap : l.length ≤ cap) (hln : l.length ≤ 10000) : Tri Try.prog B 16 [.agg #[.int .u64 lo, .int .u64 hi], .slice A l.length cap] h fun v h' => ∃ A' c' p, v = .tuple #[.int .u64 (openS lo hi l).1, .int .u8 (openS lo hi l).2.1, .slice A' (openS lo hi l).2.2.1.length c', .int .i64 (openS lo hi l).2.2.2] ∧ (∀ h0 : Own, (∀ x ∈ p ++ h, x ∈ h0) → Src B h0 A' (openS lo hi l).2.2.1.length 1 ((openS lo hi l).2.2.1.map (fun x => Value.int .u8 x))) ∧ h' = p ++ h := by
  refine Tri.enter (n := 31) Try.func16 rfl rfl rfl ?_
  simp only [argsE, Nat.reduceAdd]
  try dsimp only [argsE]
  refine AK.seq ?_
  refine AK.region ?_
  refine AO.eff (EF.box rfl rfl) (.none rfl) rfl ?_
  rintro _ _ ⟨b2, hf2, rfl, rfl⟩
  refine AO.val (RV.assign rfl) (.none rfl) rfl ?_
  refine AO.val (RV.assign rfl) (.none rfl) rfl ?_
  refine AO.val (RV.assign rfl) (.none rfl) rfl ?_
  refine AO.val (RV.assign rfl) (.none rfl) rfl ?_
  refine AO.nil ?_
  refine AK.seq ?_
  refine AK.seq ?_
  refine AK.region ?_
  refine AO.val (RV.move rfl) (.none rfl) rfl ?_
  refine AO.val (RV.lenS rfl) (.none rfl) rfl ?_
  refine AO.val (RV.lss rfl rfl) (.none rfl) rfl ?_
  refine AO.nil ?_
  refine AK.cond rfl ?_ ?_
  · intro hc1
    try simp only [decide_eq_true_eq, decide_eq_false_iff_not, Bool.not_eq_true', Bool.not_eq_false', beq_iff_eq] at hc1
    refine AK.seq ?_
    refine AK.region ?_
    refine AO.val (RV.assign rfl) (.none rfl) rfl ?_
    refine AO.val (RV.assign rfl) (.none rfl) rfl ?_
    refine AO.val (RV.assign rfl) (.none rfl) rfl ?_
    refine AO.val (RV.assign rfl) (.none rfl) rfl ?_
    refine AO.nil ?_
    -- at T
    refine AK.ret (h' := h) Try.func16 (.tmp rfl (.tmp rfl (.tmp rfl (.tmp rfl .nil)))) ?_ (by exact SubO.sub)
    have hp : openS lo hi l = (0, 0, [], 3) := by unfold openS; rw [if_pos (by omega)]
    rw [hp]
    exact ⟨none, 0, [], rfl, fun h0 _ => ⟨rfl, by simp⟩, rfl⟩
  · intro hc1
    try simp only [decide_eq_true_eq, decide_eq_false_iff_not, Bool.not_eq_true', Bool.not_eq_false', beq_iff_eq] at hc1
    have htk : Src B h A (l.take (l.length - 8)).length 1 ((l.take (l.length - 8)).map (fun x => Value.int .u8 x)) := by
      have := hl.take (l.length - 8) (by omega)
      rw [Nat.mul_one, ← List.map_take] at this
      rw [List.length_take, show min (l.length - 8) l.length = l.length - 8 by omega]; exact this
    have htl : (l.take (l.length - 8)).length = l.length - 8 := by rw [List.length_take]; omega
    refine AK.skip ?_
    refine AK.seq ?_
    refine AK.region ?_
    refine AO.val (RV.move rfl) (.none rfl) rfl ?_
    refine AO.val (RV.lenS rfl) (.none rfl) rfl ?_
    refine AO.val (by first | exact RV.subIn rfl rfl (by omega) | exact RV.sub rfl rfl) (.none rfl) rfl ?_
    refine AO.val (RV.assign rfl) (.none rfl) rfl ?_
    refine AO.nil ?_
    refine AK.seq ?_
    refine AK.seq ?_
    refine AK.draw [] [4, 6] mixed ?_
    refine AD.take 0 rfl (by kernel_rfl) (by first | exact RV.loadAggO rfl rfl (by simp) | exact RV.loadAggP rfl rfl rfl (by simp)) (.none rfl) rfl ?_
    refine AD.takeP 1 rfl (by kernel_rfl) (RV.move rfl) (.none rfl) rfl ?_
    refine AD.takeP 2 rfl (by kernel_rfl) (RV.move rfl) (.none rfl) rfl ?_
    refine AD.takeP 3 rfl (by kernel_rfl) ((RV.sliceHi rfl rfl (by omega)).to (v' := .slice A (l.take (l.length - 8)).length cap) (by rw [htl]; congr 1; omega)) (.none rfl) rfl ?_
    refine AD.takeP 5 rfl (by kernel_rfl) (RV.move rfl) (.none rfl) rfl ?_
    refine AD.one 4 (by kernel_rfl) (AE.eff rfl (EF.callF rfl (rsigned_spec (cap := cap) B _ lo hi (l.take (l.length - 8)) (htk.mono fun x hx => by simp [hx]) (bytes_take hb _) (by omega) (by omega))) (.none rfl) rfl ?_)
    rintro _ _ ⟨A19, c19, p19, rfl, hr19, hc19, rfl⟩
    refine ⟨.inl (by kernel_rfl), ?_⟩
    refine AD.one 6 (by kernel_rfl) (AE.eff rfl (EF.callF rfl (same_spec (cap := c19) (cap2 := cap) B _ (signB lo hi (l.take (l.length - 8))) l ((hr19.src (h := p19) (fun x hx => hx)).mono fun x hx => by simp [hx]) (hl.mono fun x hx => by simp [hx]) (by rw [signB_len]; omega))) (.none rfl) rfl ?_)
    rintro _ _ ⟨rfl, bS, rfl, hS⟩
    refine ⟨.inl (by kernel_rfl), ?_⟩
    refine AD.takeP 7 rfl (by kernel_rfl) (RV.not rfl) (.none rfl) rfl ?_
    refine AD.done (by kernel_rfl) ?_
    refine AK.cond rfl ?_ ?_
    · intro hc2
      try simp only [decide_eq_true_eq, decide_eq_false_iff_not, Bool.not_eq_true', Bool.not_eq_false', beq_iff_eq] at hc2
      refine AK.seq ?_
      refine AK.region ?_
      refine AO.val (RV.assign rfl) (.none rfl) rfl ?_
      refine AO.val (RV.assign rfl) (.none rfl) rfl ?_
      refine AO.val (RV.assign rfl) (.none rfl) rfl ?_
      refine AO.val (RV.assign rfl) (.none rfl) rfl ?_
      refine AO.nil ?_
      -- at FT
      refine AK.ret (h' := h) Try.func16 (.tmp rfl (.tmp rfl (.tmp rfl (.tmp rfl .nil)))) ?_ (by exact SubO.sub)
      have hp : openS lo hi l = (0, 0, [], 12) := by unfold openS; rw [if_neg (by omega), if_pos (by intro e; have := hS.2 e; simp_all)]
      rw [hp]
      exact ⟨none, 0, [], rfl, fun h0 _ => ⟨rfl, by simp⟩, rfl⟩
    · intro hc2
      try simp only [decide_eq_true_eq, decide_eq_false_iff_not, Bool.not_eq_true', Bool.not_eq_false', beq_iff_eq] at hc2
      have hs : signB lo hi (l.take (l.length - 8)) = l := by exact hS.1 (by simpa using hc2)
      have hp : openS lo hi l = (countB l, lget l 8, cutL l 9 (l.length - 17), 0) := by unfold openS; rw [if_neg (by omega), if_neg (by simp [hs])]
      have ht : thereB l 9 (l.length - 17) = true := by simp [thereB]; omega
      have hcn := countB_in hb (by omega)
      have hx8 := lget_bytes hb 8 (by omega) (by omega)
      have hps := part_src hl hcap ht
      have hpl := part_len ht
      refine AK.skip ?_
      refine AK.seq ?_
      refine AK.draw [] [] mixed ?_
      refine AD.takeP 0 rfl (by kernel_rfl) (RV.move rfl) (.none rfl) rfl ?_
      refine AD.takeP 2 rfl (by kernel_rfl) (RV.move rfl) (.none rfl) rfl ?_
      refine AD.takeP 3 rfl (by kernel_rfl) (by first | exact RV.indexS rfl rfl (by assumption) (by omega) rfl | exact RV.indexAddr rfl rfl (by omega)) (.none rfl) rfl ?_
      refine AD.take 4 rfl (by kernel_rfl) (RV.loadS (enc := Value.int .u8) (l := l) (i := 8) rfl hl (by omega) (by simp)) (.none rfl) rfl ?_
      refine AD.takeP 5 rfl (by kernel_rfl) (RV.move rfl) (.none rfl) rfl ?_
      refine AD.takeP 6 rfl (by kernel_rfl) (RV.move rfl) (.none rfl) rfl ?_
      refine AD.takeP 7 rfl (by kernel_rfl) ((RV.sliceLH rfl rfl rfl (by omega)).to (v' := .slice (if (cap : Int) = 9 then A else cutA A ((9 : Int).toNat * 1)) (cutL l 9 (l.length - 17)).length ((cap : Int) - 9).toNat) (by rw [hpl]; congr 1; omega)) (.none rfl) rfl ?_
      refine AD.one 1 (by kernel_rfl) (AE.eff rfl (EF.callF rfl (rcount_spec B _ l (hl.mono fun x hx => by simp [hx]) hb hcap (by omega) (by omega))) (.none rfl) rfl ?_)
      rintro _ _ ⟨rfl, rfl⟩
      refine ⟨(by first | exact .inr fun x hx hM => hx | exact .inr fun x hx hM => List.mem_cons_of_mem _ hx | exact .inr fun x hx hM => List.mem_append_right _ hx), ?_⟩
      refine AD.takeP 8 rfl (by kernel_rfl) (RV.assign rfl) (.none rfl) rfl ?_
      refine AD.takeP 9 rfl (by kernel_rfl) (RV.assign rfl) (.none rfl) rfl ?_
      refine AD.takeP 10 rfl (by kernel_rfl) (RV.assign rfl) (.none rfl) rfl ?_
      refine AD.takeP 11 rfl (by kernel_rfl) (RV.assign rfl) (.none rfl) rfl ?_
      refine AD.done (by kernel_rfl) ?_
      -- at FF
      refine AK.ret (h' := h) Try.func16 (.tmp rfl (.tmp rfl (.tmp rfl (.tmp rfl .nil)))) ?_ (by exact SubO.sub)
      rw [hp]
      exact ⟨_, _, [], rfl, fun h0 hh => hps.1.mono (fun x hx => hh x hx), rfl⟩

set_option maxHeartbeats 1000000 in
theorem answers_law (B : World) (h : Own) (lo hi n code : Int) (hn : 0 ≤ n ∧ n ≤ 18446744073709551615) (hc : 0 ≤ code ∧ code ≤ 255) {A A2 : Option Addr} {cap cap2 : Nat} (t l : List Int) (hl0 : Src B h A t.length 1 (t.map (fun x => Value.int .u8 x))) (hb0 : Bytes t) (hcap0 : t.length ≤ cap) (hl : Src B h A2 l.length 1 (l.map (fun x => Value.int .u8 x))) (hb : Bytes l) (hcap : l.length ≤ cap2) : Tri Try.prog B 5 [.agg #[.int .u64 lo, .int .u64 hi], .int .u64 n, .int .u8 code, .slice A t.length cap, .slice A2 l.length cap2] h fun v h' => v = .bool true := by
  have htkt : Src B h A (t.take (200 : Int).toNat).length 1 ((t.take (200 : Int).toNat).map (fun x => Value.int .u8 x)) := by
    have := hl0.take (min 200 t.length) (by omega)
    rw [Nat.mul_one, ← List.map_take] at this
    rw [List.length_take, show (200 : Int).toNat = 200 from rfl]
    have e : t.take 200 = t.take (min 200 t.length) := by rw [List.take_eq_take_min]
    rw [e]; exact this
  have htnt : (t.take (200 : Int).toNat).length ≤ 200 := by rw [List.length_take]; exact Nat.min_le_left _ _
  have htct : (t.take (200 : Int).toNat).length ≤ cap := by rw [List.length_take]; omega
  have htbt : Bytes (t.take (200 : Int).toNat) := bytes_take hb0 _
  have htkl : Src B h A2 (l.take (200 : Int).toNat).length 1 ((l.take (200 : Int).toNat).map (fun x => Value.int .u8 x)) := by
    have := hl.take (min 200 l.length) (by omega)
    rw [Nat.mul_one, ← List.map_take] at this
    rw [List.length_take, show (200 : Int).toNat = 200 from rfl]
    have e : l.take 200 = l.take (min 200 l.length) := by rw [List.take_eq_take_min]
    rw [e]; exact this
  have htnl : (l.take (200 : Int).toNat).length ≤ 200 := by rw [List.length_take]; exact Nat.min_le_left _ _
  have htcl : (l.take (200 : Int).toNat).length ≤ cap2 := by rw [List.length_take]; omega
  have htbl : Bytes (l.take (200 : Int).toNat) := bytes_take hb _
  have hal := ansB_len n code (t.take (200 : Int).toNat)
  have hsl := signB_len lo hi (ansB n code (t.take (200 : Int).toNat))
  have hsb : Bytes (signB lo hi (ansB n code (t.take (200 : Int).toNat))) := signB_bytes (ansB_bytes hc htbt)
  have hoa := open_answer lo hi n code (t.take (200 : Int).toNat) hn
  have hob := openS_bytes (lo := lo) (hi := hi) htbl
  refine Tri.enter (n := 100) Try.func5 rfl rfl rfl ?_
  simp only [argsE, Nat.reduceAdd]
  try dsimp only [argsE]
  refine AK.seq ?_
  refine AK.region ?_
  refine AO.eff (EF.box rfl rfl) (.none rfl) rfl ?_
  rintro _ _ ⟨b5, hf5, rfl, rfl⟩
  refine AO.val (RV.assign rfl) (.none rfl) rfl ?_
  refine AO.nil ?_
  refine AK.seq ?_
  refine AK.region ?_
  refine AO.val (RV.move rfl) (.none rfl) rfl ?_
  refine AO.eff (EF.callF rfl (few_spec B _ t 200 (by omega) hcap0)) (.none rfl) rfl ?_
  rintro _ _ ⟨rfl, rfl⟩
  refine AO.val (RV.move rfl) (.none rfl) rfl ?_
  refine AO.eff (EF.callF rfl (few_spec B _ l 200 (by omega) hcap)) (.none rfl) rfl ?_
  rintro _ _ ⟨rfl, rfl⟩
  refine AO.val (RV.assign rfl) (.none rfl) rfl ?_
  refine AO.val (RV.assign rfl) (.none rfl) rfl ?_
  refine AO.nil ?_
  refine AK.seq ?_
  refine AK.region ?_
  refine AO.val (by first | exact RV.loadAggO rfl rfl (by simp) | exact RV.loadAggP rfl rfl rfl (by simp)) (.none rfl) rfl ?_
  refine AO.val (RV.move rfl) (.none rfl) rfl ?_
  refine AO.val (RV.move rfl) (.none rfl) rfl ?_
  refine AO.val (RV.move rfl) (.none rfl) rfl ?_
  refine AO.eff (EF.callF rfl (answer_spec (cap := cap) B _ lo hi n code hn hc (t.take (200 : Int).toNat) htkt.sub htbt htct (by omega))) (.none rfl) rfl ?_
  rintro _ _ ⟨A28, c28, p28, rfl, hr28, hc28, rfl⟩
  refine AO.val (RV.assign rfl) (.none rfl) rfl ?_
  refine AO.nil ?_
  refine AK.seq ?_
  refine AK.seq ?_
  refine AK.region ?_
  refine AO.val (RV.move rfl) (.none rfl) rfl ?_
  refine AO.val (by first | exact RV.loadAggO rfl rfl (by simp) | exact RV.loadAggP rfl rfl rfl (by simp)) (.none rfl) rfl ?_
  refine AO.val (RV.move rfl) (.none rfl) rfl ?_
  refine AO.val (RV.move rfl) (.none rfl) rfl ?_
  refine AO.val (RV.move rfl) (.none rfl) rfl ?_
  refine AO.eff (EF.callF rfl (ranswer_spec (cap := cap) B _ lo hi n code hn hc (t.take (200 : Int).toNat) htkt.sub htbt htct (by omega))) (.none rfl) rfl ?_
  rintro _ _ ⟨A34, c34, p34, rfl, hr34, hc34, rfl⟩
  refine AO.eff (EF.callF rfl (same_spec (cap := c28) (cap2 := c34) B _ (signB lo hi (ansB n code (t.take (200 : Int).toNat))) (signB lo hi (ansB n code (t.take (200 : Int).toNat))) ((hr28.src (h := p28) (fun x hx => hx)).mono fun x hx => by simp [hx]) ((hr34.src (h := p34) (fun x hx => hx)).mono fun x hx => by simp [hx]) (by omega))) (.none rfl) rfl ?_
  rintro _ _ ⟨rfl, bS, rfl, hS⟩
  have hS2 := hS.2 rfl
  subst hS2
  refine AO.val (RV.not rfl) (.none rfl) rfl ?_
  refine AO.nil ?_
  refine AK.condF rfl ?_
  refine AK.skip ?_
  refine AK.seq ?_
  refine AK.region ?_
  refine AO.val (by first | exact RV.loadAggO rfl rfl (by simp) | exact RV.loadAggP rfl rfl rfl (by simp)) (.none rfl) rfl ?_
  refine AO.val (RV.move rfl) (.none rfl) rfl ?_
  refine AO.eff (EF.callF rfl (open_spec (cap := c28) B _ lo hi (signB lo hi (ansB n code (t.take (200 : Int).toNat))) ((hr28.src (h := p28) (fun x hx => hx)).mono fun x hx => by simp [hx]) hsb hc28 (by omega))) (.none rfl) rfl ?_
  rintro _ _ ⟨A40, c40, p40, rfl, hs40, rfl⟩
  rw [hoa] at hs40 ⊢
  refine AO.val (RV.move rfl) (.none rfl) rfl ?_
  refine AO.val (RV.extract rfl rfl) (.none rfl) rfl ?_
  refine AO.val (RV.extract rfl rfl) (.none rfl) rfl ?_
  refine AO.val (RV.extract rfl rfl) (.none rfl) rfl ?_
  refine AO.val (RV.extract rfl rfl) (.none rfl) rfl ?_
  refine AO.val (RV.assign rfl) (.none rfl) rfl ?_
  refine AO.val (RV.assign rfl) (.none rfl) rfl ?_
  refine AO.val (RV.assign rfl) (.none rfl) rfl ?_
  refine AO.val (RV.assign rfl) (.none rfl) rfl ?_
  refine AO.nil ?_
  refine AK.seq ?_
  refine AK.seq ?_
  refine AK.region ?_
  refine AO.val (RV.move rfl) (.none rfl) rfl ?_
  refine AO.val (RV.move rfl) (.none rfl) rfl ?_
  refine AO.val ((RV.neq rfl rfl).to (v' := .bool false) (by simp)) (.none rfl) rfl ?_
  refine AO.val (RV.move rfl) (.none rfl) rfl ?_
  refine AO.val (RV.move rfl) (.some rfl rfl rfl rfl) rfl ?_
  refine AO.val (RV.move rfl) (.some rfl rfl rfl rfl) rfl ?_
  refine AO.val ((RV.neq rfl rfl).to (v' := .bool false) (by simp)) (.some rfl rfl rfl rfl) rfl ?_
  refine AO.val (RV.pickF rfl rfl) (.none rfl) rfl ?_
  refine AO.val (RV.move rfl) (.none rfl) rfl ?_
  refine AO.val (RV.move rfl) (.some rfl rfl rfl rfl) rfl ?_
  refine AO.val (RV.move rfl) (.some rfl rfl rfl rfl) rfl ?_
  refine AO.eff (EF.callF rfl (same_spec (cap := c40) (cap2 := cap) B _ (t.take (200 : Int).toNat) (t.take (200 : Int).toNat) (hs40 _ (fun x hx => hx)) htkt.sub (by omega))) (.some rfl rfl rfl rfl) rfl ?_
  rintro _ _ ⟨rfl, bS, rfl, hS⟩
  have hS2 := hS.2 rfl
  subst hS2
  refine AO.val (RV.not rfl) (.some rfl rfl rfl rfl) rfl ?_
  refine AO.val (RV.pickF rfl rfl) (.none rfl) rfl ?_
  refine AO.val (RV.move rfl) (.none rfl) rfl ?_
  refine AO.val (RV.move rfl) (.some rfl rfl rfl rfl) rfl ?_
  refine AO.val ((RV.neq rfl rfl).to (v' := .bool false) (by simp)) (.some rfl rfl rfl rfl) rfl ?_
  refine AO.val (RV.pickF rfl rfl) (.none rfl) rfl ?_
  refine AO.nil ?_
  refine AK.condF rfl ?_
  refine AK.skip ?_
  refine AK.seq ?_
  refine AK.region ?_
  refine AO.val (by first | exact RV.loadAggO rfl rfl (by simp) | exact RV.loadAggP rfl rfl rfl (by simp)) (.none rfl) rfl ?_
  refine AO.val (RV.move rfl) (.none rfl) rfl ?_
  refine AO.eff (EF.callF rfl (open_spec (cap := cap2) B _ lo hi (l.take (200 : Int).toNat) htkl.sub htbl htcl (by omega))) (.none rfl) rfl ?_
  rintro _ _ ⟨A66, c66, p66, rfl, hs66, rfl⟩
  refine AO.val (RV.move rfl) (.none rfl) rfl ?_
  refine AO.val (RV.extract rfl rfl) (.none rfl) rfl ?_
  refine AO.val (RV.extract rfl rfl) (.none rfl) rfl ?_
  refine AO.val (RV.extract rfl rfl) (.none rfl) rfl ?_
  refine AO.val (RV.extract rfl rfl) (.none rfl) rfl ?_
  refine AO.val (RV.assign rfl) (.none rfl) rfl ?_
  refine AO.val (RV.assign rfl) (.none rfl) rfl ?_
  refine AO.val (RV.assign rfl) (.none rfl) rfl ?_
  refine AO.val (RV.assign rfl) (.none rfl) rfl ?_
  refine AO.nil ?_
  refine AK.seq ?_
  refine AK.region ?_
  refine AO.val (by first | exact RV.loadAggO rfl rfl (by simp) | exact RV.loadAggP rfl rfl rfl (by simp)) (.none rfl) rfl ?_
  refine AO.val (RV.move rfl) (.none rfl) rfl ?_
  refine AO.eff (EF.callF rfl (ropen_spec (cap := cap2) B _ lo hi (l.take (200 : Int).toNat) htkl.sub htbl htcl (by omega))) (.none rfl) rfl ?_
  rintro _ _ ⟨A74, c74, p74, rfl, hs74, rfl⟩
  refine AO.val (RV.move rfl) (.none rfl) rfl ?_
  refine AO.val (RV.extract rfl rfl) (.none rfl) rfl ?_
  refine AO.val (RV.extract rfl rfl) (.none rfl) rfl ?_
  refine AO.val (RV.extract rfl rfl) (.none rfl) rfl ?_
  refine AO.val (RV.extract rfl rfl) (.none rfl) rfl ?_
  refine AO.val (RV.assign rfl) (.none rfl) rfl ?_
  refine AO.val (RV.assign rfl) (.none rfl) rfl ?_
  refine AO.val (RV.assign rfl) (.none rfl) rfl ?_
  refine AO.val (RV.assign rfl) (.none rfl) rfl ?_
  refine AO.nil ?_
  refine AK.seq ?_
  refine AK.region ?_
  refine AO.val (RV.move rfl) (.none rfl) rfl ?_
  refine AO.val (RV.move rfl) (.none rfl) rfl ?_
  refine AO.val ((RV.eql rfl rfl).to (v' := .bool true) (by simp)) (.none rfl) rfl ?_
  refine AO.val (RV.move rfl) (.none rfl) rfl ?_
  refine AO.val (RV.move rfl) (.some rfl rfl rfl rfl) rfl ?_
  refine AO.val (RV.move rfl) (.some rfl rfl rfl rfl) rfl ?_
  refine AO.val ((RV.eql rfl rfl).to (v' := .bool true) (by simp)) (.some rfl rfl rfl rfl) rfl ?_
  refine AO.val (RV.pickT rfl rfl) (.none rfl) rfl ?_
  refine AO.val (RV.move rfl) (.none rfl) rfl ?_
  refine AO.val (RV.move rfl) (.some rfl rfl rfl rfl) rfl ?_
  refine AO.val (RV.move rfl) (.some rfl rfl rfl rfl) rfl ?_
  refine AO.eff (EF.callF rfl (same_spec (cap := c66) (cap2 := c74) B _ (openS lo hi (l.take (200 : Int).toNat)).2.2.1 (openS lo hi (l.take (200 : Int).toNat)).2.2.1 (hs66 _ (fun x hx => by first | exact hx | exact List.mem_append_right _ hx)) (hs74 _ (fun x hx => hx)) (by omega))) (.some rfl rfl rfl rfl) rfl ?_
  rintro _ _ ⟨rfl, bS, rfl, hS⟩
  have hS2 := hS.2 rfl
  subst hS2
  refine AO.val (RV.pickT rfl rfl) (.none rfl) rfl ?_
  refine AO.val (RV.move rfl) (.none rfl) rfl ?_
  refine AO.val (RV.move rfl) (.some rfl rfl rfl rfl) rfl ?_
  refine AO.val (RV.move rfl) (.some rfl rfl rfl rfl) rfl ?_
  refine AO.val ((RV.eql rfl rfl).to (v' := .bool true) (by simp)) (.some rfl rfl rfl rfl) rfl ?_
  refine AO.val (RV.pickT rfl rfl) (.none rfl) rfl ?_
  refine AO.val (RV.move rfl) (.none rfl) rfl ?_
  refine AO.eff (EF.callF rfl (lives_spec B _)) (.some rfl rfl rfl rfl) rfl ?_
  rintro _ _ rfl
  refine AO.val (RV.pickT rfl rfl) (.none rfl) rfl ?_
  refine AO.val (RV.assign rfl) (.none rfl) rfl ?_
  refine AO.nil ?_
  -- at 
  refine AK.ret (h' := []) Try.func5 (.tmp rfl .nil) ?_ (List.nil_sublist _)
  rfl

set_option maxRecDepth 100000 in
theorem tagAnswers_lifted (os : Os) (started : os.Started) (H : Type) (enc : TypeId × Value → H) :
    ReturnsInHanded {} Try.checked os 5 .any (Rows.tagAnswersSpec.pre6 enc Try.prog Try.f5 Rows.tagAnswersRow.domain false) (Rows.tagAnswersSpec.post enc Try.prog Try.f5 false true false false) := by
  refine returnsInHanded_of_change (C := Try.checked) own_ started (by kernel_rfl) Try.func5
    (ChangeSpec.witness6 (enc := enc) (C := Try.checked) false ⟨#[], #[(Value.agg #[(Value.int IntKind.u64 0), (Value.int IntKind.u64 0)]), (Value.int IntKind.u64 0), (Value.int IntKind.u8 0), (Value.slice none 0 0), (Value.slice none 0 0)], []⟩ 8 (by kernel_rfl) (by kernel_rfl) (by kernel_rfl) (by kernel_rfl)) ?_
  intro W base args ds gs before hval0 hW hcnd _
  have hval : ∀ (j : Nat) t v, Try.f5.params[j]? = some t → args[j]? = some v → Value.okWide Try.prog W .any base t v := hval0
  have hW' := hW
  obtain ⟨p, q, hA0, hV, rfl, hfz, hnd⟩ := hW
  have hA : DataW.TrodAll enc Try.prog W 0 (fun _ => true) true Try.f5.params.toList args.toList ds p := hA0
  rw [Try.params5] at hA hval
  obtain ⟨args⟩ := args
  simp only at hA
  obtain ⟨v0, vs0, d0, ds0, p0, q0, e0a, e0b, e0c, t0, r0⟩ := trodAll_cons hA
  obtain ⟨v1, vs1, d1, ds1, p1, q1, e1a, e1b, e1c, t1, r1⟩ := trodAll_cons r0
  obtain ⟨v2, vs2, d2, ds2, p2, q2, e2a, e2b, e2c, t2, r2⟩ := trodAll_cons r1
  obtain ⟨v3, vs3, d3, ds3, p3, q3, e3a, e3b, e3c, t3, r3⟩ := trodAll_cons r2
  obtain ⟨v4, vs4, d4, ds4, p4, q4, e4a, e4b, e4c, t4, r4⟩ := trodAll_cons r3
  subst e0a e0b e0c
  subst e1a e1b e1c
  subst e2a e2b e2c
  subst e3a e3b e3c
  subst e4a e4b e4c
  obtain ⟨rfl, rfl, rfl⟩ := trodAll_nil r4
  obtain ⟨rfl, rfl⟩ := trodVars_none hV
  have hlt := hW'.lt
  have k0 : Value.okWide Try.prog W .any base 24 v0 := hval 0 _ v0 rfl rfl
  obtain ⟨k, w0, hk⟩ := Dec.argA k0 t0 ((.cons (off := 0) (sz := 1) (by rfl) (by kernel_rfl) (Dec.int (t := 22) (k := .u64)) (.cons (off := 1) (sz := 1) (by rfl) (by kernel_rfl) (Dec.int (t := 22) (k := .u64)) .nil))) (by kernel_rfl)
  have k1 : Value.okWide Try.prog W .any base 22 v1 := hval 1 _ v1 rfl rfl
  obtain ⟨n, w1, n_lo, n_hi⟩ := Dec.argI k1 t1
  have k2 : Value.okWide Try.prog W .any base 5 v2 := hval 2 _ v2 rfl rfl
  obtain ⟨code, w2, code_lo, code_hi⟩ := Dec.argI k2 t2
  have k3 : Value.okWide Try.prog W .any base 29 v3 := hval 3 _ v3 rfl rfl
  obtain ⟨t, w3, ht⟩ := Dec.argS k3 t3 ((Dec.int (t := 5) (k := .u8))) (by decide)
  have k4 : Value.okWide Try.prog W .any base 29 v4 := hval 4 _ v4 rfl rfl
  obtain ⟨l, w4, hl⟩ := Dec.argS k4 t4 ((Dec.int (t := 5) (k := .u8))) (by decide)
  have htri : Tri Try.prog W 5 [v0, v1, v2, v3, v4] [] (fun v _ => v = .bool true) := by
    subst w0 w1 w2 w3 w4
    exact answers_law W [] k.1 k.2.1 n code ⟨n_lo, n_hi⟩ ⟨code_lo, code_hi⟩ t.l l.l ht.src1 ht.2.2.2.1 ht.2.1 hl.src1 hl.2.2.2.1 hl.2.1
  clear w0 w1 w2 w3 w4
  refine (htri.run W (Models.start W)).mono fun e W' ⟨v, h2, he, m2, hv⟩ => ?_
  subst he; subst hv
  have hb := m2.below
  refine ⟨_, rfl, post_of_below (pa := (p0 ++ (p1 ++ (p2 ++ (p3 ++ (p4 ++ ([]))))))) (pv := []) hW' (fun _ _ _ => trodAll_mk1 (shut_bool (Try.underlying4) true)) (fun sp hsp => ?_) (fun _ _ => rfl) rfl hb (ok_one (t := 4) (by kernel_rfl) rfl ?_)⟩
  · refine TAcons (WideElems.Trod_stays laidOut_ (by kernel_rfl) (of_decide_eq_true (by kernel_rfl)) t0 (fun x hx => hb.same (hlt x (by simp [hx]))) (fun x hx => hsp x (by simp [hx]))) ?_
    refine TAcons (WideElems.Trod_stays laidOut_ (by kernel_rfl) (of_decide_eq_true (by kernel_rfl)) t1 (fun x hx => hb.same (hlt x (by simp [hx]))) (fun x hx => hsp x (by simp [hx]))) ?_
    refine TAcons (WideElems.Trod_stays laidOut_ (by kernel_rfl) (of_decide_eq_true (by kernel_rfl)) t2 (fun x hx => hb.same (hlt x (by simp [hx]))) (fun x hx => hsp x (by simp [hx]))) ?_
    refine TAcons (WideElems.Trod_stays laidOut_ (by kernel_rfl) (of_decide_eq_true (by kernel_rfl)) t3 (fun x hx => hb.same (hlt x (by simp [hx]))) (fun x hx => hsp x (by simp [hx]))) ?_
    refine TAcons (WideElems.Trod_stays laidOut_ (by kernel_rfl) (of_decide_eq_true (by kernel_rfl)) t4 (fun x hx => hb.same (hlt x (by simp [hx]))) (fun x hx => hsp x (by simp [hx]))) ?_
    rfl
  · exact okBool Try.underlying4

theorem tagAnswers_holds : Rows.TagAnswersSaid :=
  OpenClaim.holds_of_wide 5 Try.f5 rfl rfl rfl rfl rfl rfl rfl ⟨rfl, rfl, rfl, rfl, rfl⟩ rfl rfl rfl rfl rfl (by kernel_rfl) Try.func5 (by kernel_rfl)
    (of_decide_eq_true (by kernel_rfl)) (by unfold Func.isWrapper; first | (rw [if_pos (by decide +kernel)]; kernel_rfl) | (rw [if_neg (by decide +kernel)]; exact ⟨rfl, rfl⟩))
    (fun os started H enc _ => tagAnswers_lifted os started H enc)

end Go.Proofs.Ytiafefofomdcgaa
