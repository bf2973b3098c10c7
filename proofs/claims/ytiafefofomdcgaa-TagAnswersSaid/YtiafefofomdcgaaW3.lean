/- Walks through the code: what each function that is named here gives back, from any memory that holds its arguments. Written by a program of the claim's author, out of the program's form in Lean. -/
import Derived.Test.YtiafefofomdcgaaW2
set_option linter.unusedSimpArgs false
set_option linter.unusedVariables false
namespace Go.Proofs.Ytiafefofomdcgaa
open Go.Sep Go.Sep.Sip Go.Sep.Tag Go.RowKit Go.WideShapes Go.ChangeShapes
theorem own_ : ownKnob Try.prog.godebug = none := by kernel_rfl
theorem laidOut_ : laidOutB Try.prog = true := by kernel_rfl

theorem order_eq (o : Ord) (w : World) : (Op.eqFields 9999 (encO o).toArray (encO o).toArray (Try.prog.fieldsOf 28).toList).run Try.prog w = .ok true w := by
  have e : (Try.prog.fieldsOf 28) = #[(Field.mk "Count" 22 0 false "" "" 0), (Field.mk "Op" 3 1 false "" "" 8), (Field.mk "Id" 3 2 false "" "" 16), (Field.mk "Vip" 3 3 false "" "" 24), (Field.mk "Addr" 25 4 false "" "" 32), (Field.mk "Port" 26 5 false "" "" 36), (Field.mk "Proto" 5 6 false "" "" 38), (Field.mk "Num" 3 7 false "" "" 40)] := by kernel_rfl
  rw [e]
  have hu3 := UndIs.eq (P := Try.prog) (t := 3)
  have hu5 := UndIs.eq (P := Try.prog) (t := 5)
  have hu22 := UndIs.eq (P := Try.prog) (t := 22)
  have hu25 := UndIs.eq (P := Try.prog) (t := 25)
  have hu26 := UndIs.eq (P := Try.prog) (t := 26)
  simp [Op.eqFields, part, UndIs.run, AggIs.run, run_equalIn_int, hu3, hu5, hu22, hu25, hu26]

set_option maxHeartbeats 1000000 in
theorem parse_spec (B : World) (h : Own) (lo hi : Int) {A : Option Addr} {cap : Nat} (l : List Int) (hl : Src B h A l.length 1 (l.map (fun x => Value.int .u8 x))) (hb : Bytes l) (hcap : l.length ≤ cap) (hln : l.length ≤ 100000) : Tri Try.prog B 9 [.agg #[.int .u64 lo, .int .u64 hi], .slice A l.length cap] h fun v h' => h = h' ∧ v = .tuple #[.agg (encO (parseS lo hi l).1).toArray, .int .i64 (parseS lo hi l).2] := by
  refine Tri.enter (n := 56) Try.func9 rfl rfl rfl ?_
  simp only [argsE, Nat.reduceAdd]
  try dsimp only [argsE]
  refine AK.seq ?_
  refine AK.region ?_
  refine AO.eff (EF.box rfl rfl) (.none rfl) rfl ?_
  rintro _ _ ⟨b2, hf2, rfl, rfl⟩
  refine AO.eff (EF.alloc) (.none rfl) rfl ?_
  rintro _ _ ⟨b4, hf4, rfl, rfl⟩
  refine AO.val (RV.assign rfl) (.none rfl) rfl ?_
  refine AO.nil ?_
  refine AK.seq ?_
  refine AK.seq ?_
  refine AK.region ?_
  refine AO.val (RV.move rfl) (.none rfl) rfl ?_
  refine AO.val (RV.lenS rfl) (.none rfl) rfl ?_
  refine AO.val (RV.neq rfl rfl) (.none rfl) rfl ?_
  refine AO.nil ?_
  refine AK.cond rfl ?_ ?_
  · intro hc1
    try simp only [decide_eq_true_eq, decide_eq_false_iff_not, Bool.not_eq_true', Bool.not_eq_false', beq_iff_eq] at hc1
    refine AK.seq ?_
    refine AK.region ?_
    refine AO.val (RV.build rfl .nil) (.none rfl) rfl ?_
    refine AO.effN (EF.storeO rfl rfl rfl rfl rfl rfl) (.none rfl) ?_
    rintro _ _ rfl
    refine AO.val (RV.assign rfl) (.none rfl) rfl ?_
    refine AO.nil ?_
    -- at T
    refine AK.ret (h' := h) Try.func9 (.aggO rfl rfl (.tmp rfl .nil)) ?_ (by first | exact SubO.sub | exact List.Sublist.refl _ | exact .cons _ (List.Sublist.refl _) | exact .cons _ (.cons _ (List.Sublist.refl _)) | exact .cons _ (.cons _ (.cons _ (List.Sublist.refl _))))
    have hp : parseS lo hi l = (noO, 3) := by unfold parseS; rw [if_pos (by omega)]
    rw [hp]
    exact ⟨rfl, rfl⟩
  · intro hc1
    try simp only [decide_eq_true_eq, decide_eq_false_iff_not, Bool.not_eq_true', Bool.not_eq_false', beq_iff_eq] at hc1
    have h28 : l.length = 28 := by omega
    refine AK.skip ?_
    refine AK.seq ?_
    refine AK.seq ?_
    refine AK.region ?_
    refine AO.val (by first | exact RV.loadAggO rfl rfl (by simp) | exact RV.loadAggP rfl rfl rfl (by simp)) (.none rfl) rfl ?_
    refine AO.val (RV.move rfl) (.none rfl) rfl ?_
    refine AO.eff (EF.callF rfl (right_spec B _ lo hi l hl.sub hb hcap hln (by omega))) (.none rfl) rfl ?_
    rintro _ _ ⟨rfl, rfl⟩
    refine AO.val (RV.not rfl) (.none rfl) rfl ?_
    refine AO.nil ?_
    refine AK.cond rfl ?_ ?_
    · intro hc2
      try simp only [decide_eq_true_eq, decide_eq_false_iff_not, Bool.not_eq_true', Bool.not_eq_false', beq_iff_eq] at hc2
      refine AK.seq ?_
      refine AK.region ?_
      refine AO.val (RV.build rfl .nil) (.none rfl) rfl ?_
      refine AO.effN (EF.storeO rfl rfl rfl rfl rfl rfl) (.none rfl) ?_
      rintro _ _ rfl
      refine AO.val (RV.assign rfl) (.none rfl) rfl ?_
      refine AO.nil ?_
      -- at FT
      refine AK.ret (h' := h) Try.func9 (.aggO rfl rfl (.tmp rfl .nil)) ?_ (by first | exact SubO.sub | exact List.Sublist.refl _ | exact .cons _ (List.Sublist.refl _) | exact .cons _ (.cons _ (List.Sublist.refl _)) | exact .cons _ (.cons _ (.cons _ (List.Sublist.refl _))))
      have hp : parseS lo hi l = (noO, 12) := by unfold parseS; rw [if_neg (by omega), if_pos (by simpa [h28] using hc2)]
      rw [hp]
      exact ⟨rfl, rfl⟩
    · intro hc2
      try simp only [decide_eq_true_eq, decide_eq_false_iff_not, Bool.not_eq_true', Bool.not_eq_false', beq_iff_eq] at hc2
      have hs : signB lo hi (l.take 20) = l := by simpa [h28] using hc2
      have hp : parseS lo hi l = (ordB l, 0) := by unfold parseS; rw [if_neg (by omega), if_neg (by simp [hs])]
      have ht9 : thereB l 9 2 = true := by simp [thereB]; omega
      have ht16 : thereB l 16 2 = true := by simp [thereB]; omega
      have ht12 : thereB l 12 4 = true := by simp [thereB]; omega
      have h29 : beV (cutL l 9 2) = lget l 9 * 256 + lget l 10 := beV_cut2 l 9 (by omega) (by omega)
      have h216 : beV (cutL l 16 2) = lget l 16 * 256 + lget l 17 := beV_cut2 l 16 (by omega) (by omega)
      have hcn := countB_in hb (by omega)
      have hx8 := lget_bytes hb 8 (by omega) (by omega)
      have hx9 := lget_bytes hb 9 (by omega) (by omega)
      have hx10 := lget_bytes hb 10 (by omega) (by omega)
      have hx11 := lget_bytes hb 11 (by omega) (by omega)
      have hx16 := lget_bytes hb 16 (by omega) (by omega)
      have hx17 := lget_bytes hb 17 (by omega) (by omega)
      have hx18 := lget_bytes hb 18 (by omega) (by omega)
      have hx19 := lget_bytes hb 19 (by omega) (by omega)
      refine AK.skip ?_
      refine AK.seq ?_
      refine AK.region ?_
      refine AO.val (RV.move rfl) (.none rfl) rfl ?_
      refine AO.eff (EF.callF rfl (get16_spec B _ l hl.sub hcap (by omega) hb 9 (by decide))) (.none rfl) rfl ?_
      rintro _ _ ⟨rfl, rfl⟩
      rw [ht9]
      simp only [if_true]
      rw [h29]
      refine AO.val (RV.move rfl) (.none rfl) rfl ?_
      refine AO.val (RV.extract rfl rfl) (.none rfl) rfl ?_
      refine AO.val (RV.extract rfl rfl) (.none rfl) rfl ?_
      refine AO.val (RV.assign rfl) (.none rfl) rfl ?_
      refine AO.val (RV.assign rfl) (.none rfl) rfl ?_
      refine AO.nil ?_
      refine AK.seq ?_
      refine AK.draw [] [21] mixed ?_
      refine AD.takeP 0 rfl (by kernel_rfl) (RV.move rfl) (.none rfl) rfl ?_
      refine AD.takeP 2 rfl (by kernel_rfl) (RV.move rfl) (.none rfl) rfl ?_
      refine AD.takeP 3 rfl (by kernel_rfl) (by first | exact RV.indexS rfl rfl (by assumption) (by omega) rfl | exact RV.indexAddr rfl rfl (by omega)) (.none rfl) rfl ?_
      refine AD.take 4 rfl (by kernel_rfl) (RV.loadS (enc := Value.int .u8) (l := l) (i := 8) rfl hl (by omega) (by simp)) (.none rfl) rfl ?_
      refine AD.takeP 5 rfl (by kernel_rfl) (RV.convIn rfl (by simp only [kb]; omega)) (.none rfl) rfl ?_
      refine AD.takeP 6 rfl (by kernel_rfl) (RV.move rfl) (.none rfl) rfl ?_
      refine AD.takeP 7 rfl (by kernel_rfl) (RV.convIn rfl (by simp only [kb]; omega)) (.none rfl) rfl ?_
      refine AD.takeP 8 rfl (by kernel_rfl) (RV.move rfl) (.none rfl) rfl ?_
      refine AD.takeP 9 rfl (by kernel_rfl) (by first | exact RV.indexS rfl rfl (by assumption) (by omega) rfl | exact RV.indexAddr rfl rfl (by omega)) (.none rfl) rfl ?_
      refine AD.take 10 rfl (by kernel_rfl) (RV.loadS (enc := Value.int .u8) (l := l) (i := 11) rfl hl (by omega) (by simp)) (.none rfl) rfl ?_
      refine AD.takeP 11 rfl (by kernel_rfl) (RV.convIn rfl (by simp only [kb]; omega)) (.none rfl) rfl ?_
      refine AD.takeP 12 rfl (by kernel_rfl) (RV.move rfl) (.none rfl) rfl ?_
      refine AD.takeP 13 rfl (by kernel_rfl) (by first | exact RV.indexS rfl rfl (by assumption) (by omega) rfl | exact RV.indexAddr rfl rfl (by omega)) (.none rfl) rfl ?_
      refine AD.take 14 rfl (by kernel_rfl) (RV.loadS (enc := Value.int .u8) (l := l) (i := 18) rfl hl (by omega) (by simp)) (.none rfl) rfl ?_
      refine AD.takeP 15 rfl (by kernel_rfl) (RV.move rfl) (.none rfl) rfl ?_
      refine AD.takeP 16 rfl (by kernel_rfl) (by first | exact RV.indexS rfl rfl (by assumption) (by omega) rfl | exact RV.indexAddr rfl rfl (by omega)) (.none rfl) rfl ?_
      refine AD.take 17 rfl (by kernel_rfl) (RV.loadS (enc := Value.int .u8) (l := l) (i := 19) rfl hl (by omega) (by simp)) (.none rfl) rfl ?_
      refine AD.takeP 18 rfl (by kernel_rfl) (RV.convIn rfl (by simp only [kb]; omega)) (.none rfl) rfl ?_
      refine AD.many (i := 1) (l := [20]) (by kernel_rfl) (.cons ?_ (.cons ?_ (.nil)))
      · skip
        refine AE.eff rfl (EF.callF rfl (count_spec B _ l hl.sub hb hcap hln (by omega))) (.none rfl) rfl ?_
        rintro _ _ ⟨rfl, rfl⟩
        refine ⟨(by first | exact .inr fun x hx hM => hx | exact .inr fun x hx hM => List.mem_cons_of_mem _ hx | exact .inr fun x hx hM => List.mem_append_right _ hx), ?_⟩
        refine AD.takeP 19 rfl (by kernel_rfl) (RV.build rfl (.cons rfl rfl rfl rfl (.cons rfl rfl rfl rfl (.cons rfl rfl rfl rfl (.cons rfl rfl rfl rfl (.cons rfl rfl rfl rfl (.cons rfl rfl rfl rfl .nil))))))) (.none rfl) rfl ?_
        refine AD.one 20 (by kernel_rfl) (AE.eff rfl (EF.alloc) (.none rfl) rfl ?_)
        rintro _ _ ⟨b8, hf8, rfl, rfl⟩
        refine ⟨(by first | exact .inr fun x hx hM => hx | exact .inr fun x hx hM => List.mem_cons_of_mem _ hx | exact .inr fun x hx hM => List.mem_append_right _ hx), ?_⟩
        refine AD.one 21 (by kernel_rfl) (AE.effN rfl (EF.storeO rfl rfl rfl rfl rfl rfl) (.none rfl) ?_)
        rintro _ _ rfl
        refine ⟨.inl (by kernel_rfl), ?_⟩
        refine AD.done (by kernel_rfl) ?_
        refine AK.seq ?_
        refine AK.region ?_
        refine AO.val (RV.move rfl) (.none rfl) rfl ?_
        refine AO.eff (EF.callF rfl (get32_spec B _ l hl.sub hcap (by omega) hb 12 (by decide))) (.none rfl) rfl ?_
        rintro _ _ ⟨rfl, rfl⟩
        rw [ht12]
        simp only [if_true]
        refine AO.val (RV.move rfl) (.none rfl) rfl ?_
        refine AO.val (RV.extract rfl rfl) (.none rfl) rfl ?_
        refine AO.val (RV.extract rfl rfl) (.none rfl) rfl ?_
        refine AO.val (RV.fieldAddr rfl) (.none rfl) rfl ?_
        refine AO.effN (EF.storeO rfl rfl rfl rfl rfl rfl) (.none rfl) ?_
        rintro _ _ rfl
        refine AO.nil ?_
        refine AK.seq ?_
        refine AK.region ?_
        refine AO.val (RV.move rfl) (.none rfl) rfl ?_
        refine AO.eff (EF.callF rfl (get16_spec B _ l hl.sub hcap (by omega) hb 16 (by decide))) (.none rfl) rfl ?_
        rintro _ _ ⟨rfl, rfl⟩
        rw [ht16]
        simp only [if_true]
        rw [h216]
        refine AO.val (RV.move rfl) (.none rfl) rfl ?_
        refine AO.val (RV.extract rfl rfl) (.none rfl) rfl ?_
        refine AO.val (RV.extract rfl rfl) (.none rfl) rfl ?_
        refine AO.val (RV.fieldAddr rfl) (.none rfl) rfl ?_
        refine AO.effN (EF.storeO rfl rfl rfl rfl rfl rfl) (.none rfl) ?_
        rintro _ _ rfl
        refine AO.nil ?_
        refine AK.seq ?_
        refine AK.region ?_
        refine AO.val (by first | exact RV.loadAggO rfl rfl (by simp) | exact RV.loadAggP rfl rfl rfl (by simp)) (.none rfl) rfl ?_
        refine AO.effN (EF.storeO rfl rfl rfl rfl rfl rfl) (.none rfl) ?_
        rintro _ _ rfl
        refine AO.val (RV.assign rfl) (.none rfl) rfl ?_
        refine AO.nil ?_
        -- at FF
        refine AK.ret (h' := h) Try.func9 (.aggO rfl rfl (.tmp rfl .nil)) ?_ (by first | exact SubO.sub | exact List.Sublist.refl _ | exact .cons _ (List.Sublist.refl _) | exact .cons _ (.cons _ (List.Sublist.refl _)) | exact .cons _ (.cons _ (.cons _ (List.Sublist.refl _))))
        rw [hp]
        exact ⟨rfl, rfl⟩
      · skip
        refine AE.eff rfl (EF.alloc) (.none rfl) rfl ?_
        rintro _ _ ⟨b8, hf8, rfl, rfl⟩
        refine ⟨(by first | exact .inr fun x hx hM => hx | exact .inr fun x hx hM => List.mem_cons_of_mem _ hx | exact .inr fun x hx hM => List.mem_append_right _ hx), ?_⟩
        refine AD.one 1 (by kernel_rfl) (AE.eff rfl (EF.callF rfl (count_spec B _ l hl.sub hb hcap hln (by omega))) (.none rfl) rfl ?_)
        rintro _ _ ⟨rfl, rfl⟩
        refine ⟨(by first | exact .inr fun x hx hM => hx | exact .inr fun x hx hM => List.mem_cons_of_mem _ hx | exact .inr fun x hx hM => List.mem_append_right _ hx), ?_⟩
        refine AD.takeP 19 rfl (by kernel_rfl) (RV.build rfl (.cons rfl rfl rfl rfl (.cons rfl rfl rfl rfl (.cons rfl rfl rfl rfl (.cons rfl rfl rfl rfl (.cons rfl rfl rfl rfl (.cons rfl rfl rfl rfl .nil))))))) (.none rfl) rfl ?_
        refine AD.one 21 (by kernel_rfl) (AE.effN rfl (EF.storeO rfl rfl rfl rfl rfl rfl) (.none rfl) ?_)
        rintro _ _ rfl
        refine ⟨.inl (by kernel_rfl), ?_⟩
        refine AD.done (by kernel_rfl) ?_
        refine AK.seq ?_
        refine AK.region ?_
        refine AO.val (RV.move rfl) (.none rfl) rfl ?_
        refine AO.eff (EF.callF rfl (get32_spec B _ l hl.sub hcap (by omega) hb 12 (by decide))) (.none rfl) rfl ?_
        rintro _ _ ⟨rfl, rfl⟩
        rw [ht12]
        simp only [if_true]
        refine AO.val (RV.move rfl) (.none rfl) rfl ?_
        refine AO.val (RV.extract rfl rfl) (.none rfl) rfl ?_
        refine AO.val (RV.extract rfl rfl) (.none rfl) rfl ?_
        refine AO.val (RV.fieldAddr rfl) (.none rfl) rfl ?_
        refine AO.effN (EF.storeO rfl rfl rfl rfl rfl rfl) (.none rfl) ?_
        rintro _ _ rfl
        refine AO.nil ?_
        refine AK.seq ?_
        refine AK.region ?_
        refine AO.val (RV.move rfl) (.none rfl) rfl ?_
        refine AO.eff (EF.callF rfl (get16_spec B _ l hl.sub hcap (by omega) hb 16 (by decide))) (.none rfl) rfl ?_
        rintro _ _ ⟨rfl, rfl⟩
        rw [ht16]
        simp only [if_true]
        rw [h216]
        refine AO.val (RV.move rfl) (.none rfl) rfl ?_
        refine AO.val (RV.extract rfl rfl) (.none rfl) rfl ?_
        refine AO.val (RV.extract rfl rfl) (.none rfl) rfl ?_
        refine AO.val (RV.fieldAddr rfl) (.none rfl) rfl ?_
        refine AO.effN (EF.storeO rfl rfl rfl rfl rfl rfl) (.none rfl) ?_
        rintro _ _ rfl
        refine AO.nil ?_
        refine AK.seq ?_
        refine AK.region ?_
        refine AO.val (by first | exact RV.loadAggO rfl rfl (by simp) | exact RV.loadAggP rfl rfl rfl (by simp)) (.none rfl) rfl ?_
        refine AO.effN (EF.storeO rfl rfl rfl rfl rfl rfl) (.none rfl) ?_
        rintro _ _ rfl
        refine AO.val (RV.assign rfl) (.none rfl) rfl ?_
        refine AO.nil ?_
        -- at FF
        refine AK.ret (h' := h) Try.func9 (.aggO rfl rfl (.tmp rfl .nil)) ?_ (by first | exact SubO.sub | exact List.Sublist.refl _ | exact .cons _ (List.Sublist.refl _) | exact .cons _ (.cons _ (List.Sublist.refl _)) | exact .cons _ (.cons _ (.cons _ (List.Sublist.refl _))))
        rw [hp]
        exact ⟨rfl, rfl⟩

set_option maxHeartbeats 1000000 in
theorem rparse_spec (B : World) (h : Own) (lo hi : Int) {A : Option Addr} {cap : Nat} (l : List Int) (hl : Src B h A l.length 1 (l.map (fun x => Value.int .u8 x))) (hb : Bytes l) (hcap : l.length ≤ cap) (hln : l.length ≤ 100000) : Tri Try.prog B 12 [.agg #[.int .u64 lo, .int .u64 hi], .slice A l.length cap] h fun v h' => h = h' ∧ v = .tuple #[.agg (encO (parseS lo hi l).1).toArray, .int .i64 (parseS lo hi l).2] := by
  refine Tri.enter (n := 64) Try.func12 rfl rfl rfl ?_
  simp only [argsE, Nat.reduceAdd]
  try dsimp only [argsE]
  refine AK.seq ?_
  refine AK.region ?_
  refine AO.eff (EF.box rfl rfl) (.none rfl) rfl ?_
  rintro _ _ ⟨b2, hf2, rfl, rfl⟩
  refine AO.eff (EF.alloc) (.none rfl) rfl ?_
  rintro _ _ ⟨b4, hf4, rfl, rfl⟩
  refine AO.val (RV.assign rfl) (.none rfl) rfl ?_
  refine AO.nil ?_
  refine AK.seq ?_
  refine AK.seq ?_
  refine AK.region ?_
  refine AO.val (RV.move rfl) (.none rfl) rfl ?_
  refine AO.val (RV.lenS rfl) (.none rfl) rfl ?_
  refine AO.val (RV.neq rfl rfl) (.none rfl) rfl ?_
  refine AO.nil ?_
  refine AK.cond rfl ?_ ?_
  · intro hc1
    try simp only [decide_eq_true_eq, decide_eq_false_iff_not, Bool.not_eq_true', Bool.not_eq_false', beq_iff_eq] at hc1
    refine AK.seq ?_
    refine AK.region ?_
    refine AO.val (RV.build rfl .nil) (.none rfl) rfl ?_
    refine AO.effN (EF.storeO rfl rfl rfl rfl rfl rfl) (.none rfl) ?_
    rintro _ _ rfl
    refine AO.val (RV.assign rfl) (.none rfl) rfl ?_
    refine AO.nil ?_
    -- at T
    refine AK.ret (h' := h) Try.func12 (.aggO rfl rfl (.tmp rfl .nil)) ?_ (by exact SubO.sub)
    have hp : parseS lo hi l = (noO, 3) := by unfold parseS; rw [if_pos (by omega)]
    rw [hp]
    exact ⟨rfl, rfl⟩
  · intro hc1
    try simp only [decide_eq_true_eq, decide_eq_false_iff_not, Bool.not_eq_true', Bool.not_eq_false', beq_iff_eq] at hc1
    have h28 : l.length = 28 := by omega
    have htk : Src B h A (l.take 20).length 1 ((l.take 20).map (fun x => Value.int .u8 x)) := by
      have := hl.take 20 (by omega)
      rw [Nat.mul_one, ← List.map_take] at this
      rw [List.length_take, show min 20 l.length = 20 by omega]; exact this
    have htl : (l.take 20).length = 20 := by rw [List.length_take]; omega
    refine AK.skip ?_
    refine AK.seq ?_
    refine AK.seq ?_
    refine AK.draw [] [3, 5] mixed ?_
    refine AD.take 0 rfl (by kernel_rfl) (by first | exact RV.loadAggO rfl rfl (by simp) | exact RV.loadAggP rfl rfl rfl (by simp)) (.none rfl) rfl ?_
    refine AD.takeP 1 rfl (by kernel_rfl) (RV.move rfl) (.none rfl) rfl ?_
    refine AD.takeP 2 rfl (by kernel_rfl) ((RV.sliceHi rfl rfl (by omega)).to (v' := .slice A (l.take 20).length cap) (by rw [htl]; rfl)) (.none rfl) rfl ?_
    refine AD.takeP 4 rfl (by kernel_rfl) (RV.move rfl) (.none rfl) rfl ?_
    refine AD.one 3 (by kernel_rfl) (AE.eff rfl (EF.callF rfl (rsigned_spec (cap := cap) B _ lo hi (l.take 20) (htk.mono fun x hx => by simp [hx]) (bytes_take hb _) (by omega) (by omega))) (.none rfl) rfl ?_)
    rintro _ _ ⟨A14, c14, p14, rfl, hr14, hc14, rfl⟩
    refine ⟨.inl (by kernel_rfl), ?_⟩
    refine AD.one 5 (by kernel_rfl) (AE.eff rfl (EF.callF rfl (same_spec (cap := c14) (cap2 := cap) B _ (signB lo hi (l.take 20)) l ((hr14.src (h := p14) (fun x hx => hx)).mono fun x hx => by simp [hx]) (hl.mono fun x hx => by simp [hx]) (by rw [signB_len]; omega))) (.none rfl) rfl ?_)
    rintro _ _ ⟨rfl, bS, rfl, hS⟩
    refine ⟨.inl (by kernel_rfl), ?_⟩
    refine AD.takeP 6 rfl (by kernel_rfl) (RV.not rfl) (.none rfl) rfl ?_
    refine AD.done (by kernel_rfl) ?_
    refine AK.cond rfl ?_ ?_
    · intro hc2
      try simp only [decide_eq_true_eq, decide_eq_false_iff_not, Bool.not_eq_true', Bool.not_eq_false', beq_iff_eq] at hc2
      refine AK.seq ?_
      refine AK.region ?_
      refine AO.val (RV.build rfl .nil) (.none rfl) rfl ?_
      refine AO.effN (EF.storeO rfl rfl rfl rfl rfl rfl) (.none rfl) ?_
      rintro _ _ rfl
      refine AO.val (RV.assign rfl) (.none rfl) rfl ?_
      refine AO.nil ?_
      -- at FT
      refine AK.ret (h' := h) Try.func12 (.aggO rfl rfl (.tmp rfl .nil)) ?_ (by exact SubO.sub)
      have hp : parseS lo hi l = (noO, 12) := by unfold parseS; rw [if_neg (by omega), if_pos (by intro e; have := hS.2 e; simp_all)]
      rw [hp]
      exact ⟨rfl, rfl⟩
    · intro hc2
      try simp only [decide_eq_true_eq, decide_eq_false_iff_not, Bool.not_eq_true', Bool.not_eq_false', beq_iff_eq] at hc2
      have hs : signB lo hi (l.take 20) = l := by exact hS.1 (by simpa using hc2)
      have hp : parseS lo hi l = (ordB l, 0) := by unfold parseS; rw [if_neg (by omega), if_neg (by simp [hs])]
      have ht9 : thereB l 9 2 = true := by simp [thereB]; omega
      have ht16 : thereB l 16 2 = true := by simp [thereB]; omega
      have ht12 : thereB l 12 4 = true := by simp [thereB]; omega
      have h29 : beV (cutL l 9 2) = lget l 9 * 256 + lget l 10 := beV_cut2 l 9 (by omega) (by omega)
      have h216 : beV (cutL l 16 2) = lget l 16 * 256 + lget l 17 := beV_cut2 l 16 (by omega) (by omega)
      have hcn := countB_in hb (by omega)
      have hx8 := lget_bytes hb 8 (by omega) (by omega)
      have hx9 := lget_bytes hb 9 (by omega) (by omega)
      have hx10 := lget_bytes hb 10 (by omega) (by omega)
      have hx11 := lget_bytes hb 11 (by omega) (by omega)
      have hx16 := lget_bytes hb 16 (by omega) (by omega)
      have hx17 := lget_bytes hb 17 (by omega) (by omega)
      have hx18 := lget_bytes hb 18 (by omega) (by omega)
      have hx19 := lget_bytes hb 19 (by omega) (by omega)
      refine AK.skip ?_
      refine AK.seq ?_
      refine AK.draw [] [39] mixed ?_
      refine AD.takeP 0 rfl (by kernel_rfl) (RV.move rfl) (.none rfl) rfl ?_
      refine AD.takeP 2 rfl (by kernel_rfl) (RV.move rfl) (.none rfl) rfl ?_
      refine AD.takeP 3 rfl (by kernel_rfl) (by first | exact RV.indexS rfl rfl (by assumption) (by omega) rfl | exact RV.indexAddr rfl rfl (by omega)) (.none rfl) rfl ?_
      refine AD.take 4 rfl (by kernel_rfl) (RV.loadS (enc := Value.int .u8) (l := l) (i := 8) rfl hl (by omega) (by simp)) (.none rfl) rfl ?_
      refine AD.takeP 5 rfl (by kernel_rfl) (RV.convIn rfl (by simp only [kb]; omega)) (.none rfl) rfl ?_
      refine AD.takeP 6 rfl (by kernel_rfl) (RV.move rfl) (.none rfl) rfl ?_
      refine AD.takeP 7 rfl (by kernel_rfl) (by first | exact RV.indexS rfl rfl (by assumption) (by omega) rfl | exact RV.indexAddr rfl rfl (by omega)) (.none rfl) rfl ?_
      refine AD.take 8 rfl (by kernel_rfl) (RV.loadS (enc := Value.int .u8) (l := l) (i := 9) rfl hl (by omega) (by simp)) (.none rfl) rfl ?_
      refine AD.takeP 9 rfl (by kernel_rfl) (RV.convIn rfl (by simp only [kb]; omega)) (.none rfl) rfl ?_
      refine AD.takeP 10 rfl (by kernel_rfl) (by first | exact RV.mulIn rfl rfl (by omega) | exact RV.mul rfl rfl) (.none rfl) rfl ?_
      refine AD.takeP 11 rfl (by kernel_rfl) (RV.move rfl) (.none rfl) rfl ?_
      refine AD.takeP 12 rfl (by kernel_rfl) (by first | exact RV.indexS rfl rfl (by assumption) (by omega) rfl | exact RV.indexAddr rfl rfl (by omega)) (.none rfl) rfl ?_
      refine AD.take 13 rfl (by kernel_rfl) (RV.loadS (enc := Value.int .u8) (l := l) (i := 10) rfl hl (by omega) (by simp)) (.none rfl) rfl ?_
      refine AD.takeP 14 rfl (by kernel_rfl) (RV.convIn rfl (by simp only [kb]; omega)) (.none rfl) rfl ?_
      refine AD.takeP 15 rfl (by kernel_rfl) (by first | exact RV.addIn rfl rfl (by omega) | exact RV.add rfl rfl) (.none rfl) rfl ?_
      refine AD.takeP 16 rfl (by kernel_rfl) (RV.move rfl) (.none rfl) rfl ?_
      refine AD.takeP 17 rfl (by kernel_rfl) (by first | exact RV.indexS rfl rfl (by assumption) (by omega) rfl | exact RV.indexAddr rfl rfl (by omega)) (.none rfl) rfl ?_
      refine AD.take 18 rfl (by kernel_rfl) (RV.loadS (enc := Value.int .u8) (l := l) (i := 11) rfl hl (by omega) (by simp)) (.none rfl) rfl ?_
      refine AD.takeP 19 rfl (by kernel_rfl) (RV.convIn rfl (by simp only [kb]; omega)) (.none rfl) rfl ?_
      refine AD.takeP 20 rfl (by kernel_rfl) (RV.move rfl) (.none rfl) rfl ?_
      refine AD.takeP 21 rfl (by kernel_rfl) (by first | exact RV.indexS rfl rfl (by assumption) (by omega) rfl | exact RV.indexAddr rfl rfl (by omega)) (.none rfl) rfl ?_
      refine AD.take 22 rfl (by kernel_rfl) (RV.loadS (enc := Value.int .u8) (l := l) (i := 16) rfl hl (by omega) (by simp)) (.none rfl) rfl ?_
      refine AD.takeP 23 rfl (by kernel_rfl) (RV.convIn rfl (by simp only [kb]; omega)) (.none rfl) rfl ?_
      refine AD.takeP 24 rfl (by kernel_rfl) (RV.mulK rfl rfl (by simp only [kb]; omega)) (.none rfl) rfl ?_
      refine AD.takeP 25 rfl (by kernel_rfl) (RV.move rfl) (.none rfl) rfl ?_
      refine AD.takeP 26 rfl (by kernel_rfl) (by first | exact RV.indexS rfl rfl (by assumption) (by omega) rfl | exact RV.indexAddr rfl rfl (by omega)) (.none rfl) rfl ?_
      refine AD.take 27 rfl (by kernel_rfl) (RV.loadS (enc := Value.int .u8) (l := l) (i := 17) rfl hl (by omega) (by simp)) (.none rfl) rfl ?_
      refine AD.takeP 28 rfl (by kernel_rfl) (RV.convIn rfl (by simp only [kb]; omega)) (.none rfl) rfl ?_
      refine AD.takeP 29 rfl (by kernel_rfl) (RV.addK rfl rfl (by simp only [kb]; omega)) (.none rfl) rfl ?_
      refine AD.takeP 30 rfl (by kernel_rfl) (RV.move rfl) (.none rfl) rfl ?_
      refine AD.takeP 31 rfl (by kernel_rfl) (by first | exact RV.indexS rfl rfl (by assumption) (by omega) rfl | exact RV.indexAddr rfl rfl (by omega)) (.none rfl) rfl ?_
      refine AD.take 32 rfl (by kernel_rfl) (RV.loadS (enc := Value.int .u8) (l := l) (i := 18) rfl hl (by omega) (by simp)) (.none rfl) rfl ?_
      refine AD.takeP 33 rfl (by kernel_rfl) (RV.move rfl) (.none rfl) rfl ?_
      refine AD.takeP 34 rfl (by kernel_rfl) (by first | exact RV.indexS rfl rfl (by assumption) (by omega) rfl | exact RV.indexAddr rfl rfl (by omega)) (.none rfl) rfl ?_
      refine AD.take 35 rfl (by kernel_rfl) (RV.loadS (enc := Value.int .u8) (l := l) (i := 19) rfl hl (by omega) (by simp)) (.none rfl) rfl ?_
      refine AD.takeP 36 rfl (by kernel_rfl) (RV.convIn rfl (by simp only [kb]; omega)) (.none rfl) rfl ?_
      refine AD.many (i := 1) (l := [38]) (by kernel_rfl) (.cons ?_ (.cons ?_ (.nil)))
      · skip
        refine AE.eff rfl (EF.callF rfl (rcount_spec B _ l hl.sub hb hcap hln (by omega))) (.none rfl) rfl ?_
        rintro _ _ ⟨rfl, rfl⟩
        refine ⟨(by first | exact .inr fun x hx hM => hx | exact .inr fun x hx hM => List.mem_cons_of_mem _ hx | exact .inr fun x hx hM => List.mem_append_right _ hx), ?_⟩
        refine AD.takeP 37 rfl (by kernel_rfl) (RV.build rfl (.cons rfl rfl rfl rfl (.cons rfl rfl rfl rfl (.cons rfl rfl rfl rfl (.cons rfl rfl rfl rfl (.cons rfl rfl rfl rfl (.cons rfl rfl rfl rfl (.cons rfl rfl rfl rfl .nil)))))))) (.none rfl) rfl ?_
        refine AD.one 38 (by kernel_rfl) (AE.eff rfl (EF.alloc) (.none rfl) rfl ?_)
        rintro _ _ ⟨b6, hf6, rfl, rfl⟩
        refine ⟨(by first | exact .inr fun x hx hM => hx | exact .inr fun x hx hM => List.mem_cons_of_mem _ hx | exact .inr fun x hx hM => List.mem_append_right _ hx), ?_⟩
        refine AD.one 39 (by kernel_rfl) (AE.effN rfl (EF.storeO rfl rfl rfl rfl rfl rfl) (.none rfl) ?_)
        rintro _ _ rfl
        refine ⟨.inl (by kernel_rfl), ?_⟩
        refine AD.done (by kernel_rfl) ?_
        refine AK.seq ?_
        refine AK.region ?_
        refine AO.val (RV.move rfl) (.none rfl) rfl ?_
        refine AO.eff (EF.callF rfl (rget_spec B _ l hl.sub hcap (by omega) hb 12 4 (by decide) (by decide))) (.none rfl) rfl ?_
        rintro _ _ ⟨rfl, rfl⟩
        rw [ht12]
        simp only [if_true]
        refine AO.val (RV.move rfl) (.none rfl) rfl ?_
        refine AO.val (RV.extract rfl rfl) (.none rfl) rfl ?_
        refine AO.val (RV.extract rfl rfl) (.none rfl) rfl ?_
        refine AO.val (RV.fieldAddr rfl) (.none rfl) rfl ?_
        refine AO.effN (EF.storeO rfl rfl rfl rfl rfl rfl) (.none rfl) ?_
        rintro _ _ rfl
        refine AO.nil ?_
        refine AK.seq ?_
        refine AK.region ?_
        refine AO.val (by first | exact RV.loadAggO rfl rfl (by simp) | exact RV.loadAggP rfl rfl rfl (by simp)) (.none rfl) rfl ?_
        refine AO.effN (EF.storeO rfl rfl rfl rfl rfl rfl) (.none rfl) ?_
        rintro _ _ rfl
        refine AO.val (RV.assign rfl) (.none rfl) rfl ?_
        refine AO.nil ?_
        -- at FF
        refine AK.ret (h' := h) Try.func12 (.aggO rfl rfl (.tmp rfl .nil)) ?_ (by exact SubO.sub)
        rw [hp]
        exact ⟨rfl, rfl⟩
      · skip
        refine AE.eff rfl (EF.alloc) (.none rfl) rfl ?_
        rintro _ _ ⟨b6, hf6, rfl, rfl⟩
        refine ⟨(by first | exact .inr fun x hx hM => hx | exact .inr fun x hx hM => List.mem_cons_of_mem _ hx | exact .inr fun x hx hM => List.mem_append_right _ hx), ?_⟩
        refine AD.one 1 (by kernel_rfl) (AE.eff rfl (EF.callF rfl (rcount_spec B _ l hl.sub hb hcap hln (by omega))) (.none rfl) rfl ?_)
        rintro _ _ ⟨rfl, rfl⟩
        refine ⟨(by first | exact .inr fun x hx hM => hx | exact .inr fun x hx hM => List.mem_cons_of_mem _ hx | exact .inr fun x hx hM => List.mem_append_right _ hx), ?_⟩
        refine AD.takeP 37 rfl (by kernel_rfl) (RV.build rfl (.cons rfl rfl rfl rfl (.cons rfl rfl rfl rfl (.cons rfl rfl rfl rfl (.cons rfl rfl rfl rfl (.cons rfl rfl rfl rfl (.cons rfl rfl rfl rfl (.cons rfl rfl rfl rfl .nil)))))))) (.none rfl) rfl ?_
        refine AD.one 39 (by kernel_rfl) (AE.effN rfl (EF.storeO rfl rfl rfl rfl rfl rfl) (.none rfl) ?_)
        rintro _ _ rfl
        refine ⟨.inl (by kernel_rfl), ?_⟩
        refine AD.done (by kernel_rfl) ?_
        refine AK.seq ?_
        refine AK.region ?_
        refine AO.val (RV.move rfl) (.none rfl) rfl ?_
        refine AO.eff (EF.callF rfl (rget_spec B _ l hl.sub hcap (by omega) hb 12 4 (by decide) (by decide))) (.none rfl) rfl ?_
        rintro _ _ ⟨rfl, rfl⟩
        rw [ht12]
        simp only [if_true]
        refine AO.val (RV.move rfl) (.none rfl) rfl ?_
        refine AO.val (RV.extract rfl rfl) (.none rfl) rfl ?_
        refine AO.val (RV.extract rfl rfl) (.none rfl) rfl ?_
        refine AO.val (RV.fieldAddr rfl) (.none rfl) rfl ?_
        refine AO.effN (EF.storeO rfl rfl rfl rfl rfl rfl) (.none rfl) ?_
        rintro _ _ rfl
        refine AO.nil ?_
        refine AK.seq ?_
        refine AK.region ?_
        refine AO.val (by first | exact RV.loadAggO rfl rfl (by simp) | exact RV.loadAggP rfl rfl rfl (by simp)) (.none rfl) rfl ?_
        refine AO.effN (EF.storeO rfl rfl rfl rfl rfl rfl) (.none rfl) ?_
        rintro _ _ rfl
        refine AO.val (RV.assign rfl) (.none rfl) rfl ?_
        refine AO.nil ?_
        -- at FF
        refine AK.ret (h' := h) Try.func12 (.aggO rfl rfl (.tmp rfl .nil)) ?_ (by exact SubO.sub)
        rw [hp]
        exact ⟨rfl, rfl⟩

theorem xp_len (lo hi : Int) (o : Ord) : (if okO o = true then signB lo hi (bodyB o) else []).length ≤ 28 := by split <;> simp [signB_len, bodyB_len]
theorem xp_bytes (lo hi : Int) (o : Ord) (ko : OOk o) : Bytes (if okO o = true then signB lo hi (bodyB o) else []) := by
  split
  · next h => exact signB_bytes (bodyB_bytes h ko)
  · intro x hx; simp at hx
theorem o1_ok : OOk ((9, 7, 300, 0, 0, 0, 0, 0, ()) : Ord) := by constructor <;> decide

theorem lives_spec (B : World) (h : Own)  : Tri Try.prog B 10 [] h fun v h' => v = .bool true := by
  have hok : okO ((9, 7, 300, 0, 0, 0, 0, 0, ()) : Ord) = true := by decide
  have hpp : parseS 1 0 (if okO ((9, 7, 300, 0, 0, 0, 0, 0, ()) : Ord) = true then signB 1 0 (bodyB ((9, 7, 300, 0, 0, 0, 0, 0, ()) : Ord)) else []) = (((9, 7, 300, 0, 0, 0, 0, 0, ()) : Ord), 0) := by rw [if_pos hok]; exact parse_put 1 0 _ hok o1_ok
  have hll : (if okO ((9, 7, 300, 0, 0, 0, 0, 0, ()) : Ord) = true then signB 1 0 (bodyB ((9, 7, 300, 0, 0, 0, 0, 0, ()) : Ord)) else []).length = 28 := by rw [if_pos hok, signB_len, bodyB_len]
  refine Tri.enter (n := 38) Try.func10 rfl rfl rfl ?_
  try dsimp only [argsE]
  refine AK.seq ?_
  refine AK.region ?_
  refine AO.val (RV.assign rfl) (.none rfl) rfl ?_
  refine AO.nil ?_
  refine AK.seq ?_
  refine AK.region ?_
  refine AO.val (RV.build rfl (.cons rfl rfl rfl rfl .nil)) (.none rfl) rfl ?_
  refine AO.val (RV.build rfl (.cons rfl rfl rfl rfl (.cons rfl rfl rfl rfl (.cons rfl rfl rfl rfl .nil)))) (.none rfl) rfl ?_
  refine AO.eff (EF.callF rfl (put_o_spec B _ 1 0 ((9, 7, 300, 0, 0, 0, 0, 0, ()) : Ord) o1_ok)) (.none rfl) rfl ?_
  rintro _ _ ⟨w8, rfl, A8, c8, p8, rfl, hr8, hc8, rfl⟩
  refine AO.val (RV.move rfl) (.none rfl) rfl ?_
  refine AO.val (RV.extract rfl rfl) (.none rfl) rfl ?_
  refine AO.val (RV.extract rfl rfl) (.none rfl) rfl ?_
  refine AO.val (RV.assign rfl) (.none rfl) rfl ?_
  refine AO.val (RV.assign rfl) (.none rfl) rfl ?_
  refine AO.nil ?_
  refine AK.seq ?_
  refine AK.region ?_
  refine AO.val (RV.build rfl (.cons rfl rfl rfl rfl .nil)) (.none rfl) rfl ?_
  refine AO.val (RV.move rfl) (.none rfl) rfl ?_
  refine AO.eff (EF.callF rfl (parse_spec (cap := c8) B _ 1 0 (if okO ((9, 7, 300, 0, 0, 0, 0, 0, ()) : Ord) = true then signB 1 0 (bodyB ((9, 7, 300, 0, 0, 0, 0, 0, ()) : Ord)) else []) ((hr8.src (h := p8) (fun x hx => hx)).mono fun x hx => by simp [hx]) (xp_bytes 1 0 _ o1_ok) hc8 (by omega))) (.none rfl) rfl ?_
  rintro _ _ ⟨rfl, rfl⟩
  rw [hpp]
  refine AO.val (RV.move rfl) (.none rfl) rfl ?_
  refine AO.val (RV.extract rfl rfl) (.none rfl) rfl ?_
  refine AO.val (RV.extract rfl rfl) (.none rfl) rfl ?_
  refine AO.eff (EF.alloc) (.none rfl) rfl ?_
  rintro _ _ ⟨b3, hf3, rfl, rfl⟩
  refine AO.effN (EF.storeO rfl rfl rfl rfl rfl rfl) (.none rfl) ?_
  rintro _ _ rfl
  refine AO.val (RV.assign rfl) (.none rfl) rfl ?_
  refine AO.nil ?_
  refine AK.seq ?_
  refine AK.region ?_
  refine AO.val (RV.move rfl) (.none rfl) rfl ?_
  refine AO.val ((RV.eql rfl rfl).to (v' := .bool true) (by rw [if_pos hok]; rfl)) (.none rfl) rfl ?_
  refine AO.val (RV.move rfl) (.none rfl) rfl ?_
  refine AO.val (RV.move rfl) (.some rfl rfl rfl rfl) rfl ?_
  refine AO.val ((RV.eql rfl rfl).to (v' := .bool true) (by rfl)) (.some rfl rfl rfl rfl) rfl ?_
  refine AO.val (RV.pickT rfl rfl) (.none rfl) rfl ?_
  refine AO.val (RV.move rfl) (.none rfl) rfl ?_
  refine AO.val (RV.move rfl) (.some rfl rfl rfl rfl) rfl ?_
  refine AO.val (RV.lenS rfl) (.some rfl rfl rfl rfl) rfl ?_
  refine AO.val ((RV.eql rfl rfl).to (v' := .bool true) (by rw [hll]; rfl)) (.some rfl rfl rfl rfl) rfl ?_
  refine AO.val (RV.pickT rfl rfl) (.none rfl) rfl ?_
  refine AO.val (RV.move rfl) (.none rfl) rfl ?_
  refine AO.val (RV.fieldAddr rfl) (.some rfl rfl rfl rfl) rfl ?_
  refine AO.val (by first | exact RV.loadO rfl rfl (by simp) | exact RV.loadS rfl (by assumption) (by omega) (by simp)) (.some rfl rfl rfl rfl) rfl ?_
  refine AO.val ((RV.eql rfl rfl).to (v' := .bool true) (by rfl)) (.some rfl rfl rfl rfl) rfl ?_
  refine AO.val (RV.pickT rfl rfl) (.none rfl) rfl ?_
  refine AO.val (RV.move rfl) (.none rfl) rfl ?_
  refine AO.val (RV.fieldAddr rfl) (.some rfl rfl rfl rfl) rfl ?_
  refine AO.val (by first | exact RV.loadO rfl rfl (by simp) | exact RV.loadS rfl (by assumption) (by omega) (by simp)) (.some rfl rfl rfl rfl) rfl ?_
  refine AO.val ((RV.eql rfl rfl).to (v' := .bool true) (by rfl)) (.some rfl rfl rfl rfl) rfl ?_
  refine AO.val (RV.pickT rfl rfl) (.none rfl) rfl ?_
  refine AO.val (RV.assign rfl) (.none rfl) rfl ?_
  refine AO.nil ?_
  -- at 
  refine AK.ret (h' := []) Try.func10 (.tmp rfl .nil) ?_ (List.nil_sublist _)
  rfl

theorem puts_law (B : World) (h : Own) (lo hi : Int) (o : Ord) (ko : OOk o) : Tri Try.prog B 3 [.agg #[.int .u64 lo, .int .u64 hi], .agg (encO o).toArray] h fun v h' => v = .bool true := by
  have hxl := xp_len lo hi o
  have hxb := xp_bytes lo hi o ko
  refine Tri.enter (n := 55) Try.func3 rfl rfl rfl ?_
  simp only [argsE, Nat.reduceAdd]
  try dsimp only [argsE]
  refine AK.seq ?_
  refine AK.region ?_
  refine AO.eff (EF.box rfl rfl) (.none rfl) rfl ?_
  rintro _ _ ⟨b2, hf2, rfl, rfl⟩
  refine AO.eff (EF.box rfl rfl) (.none rfl) rfl ?_
  rintro _ _ ⟨b3, hf3, rfl, rfl⟩
  refine AO.val (RV.assign rfl) (.none rfl) rfl ?_
  refine AO.nil ?_
  refine AK.seq ?_
  refine AK.region ?_
  refine AO.val (by first | exact RV.loadAggO rfl rfl (by simp) | exact RV.loadAggP rfl rfl rfl (by simp)) (.none rfl) rfl ?_
  refine AO.val (by first | exact RV.loadAggO rfl rfl (by simp) | exact RV.loadAggP rfl rfl rfl (by simp)) (.none rfl) rfl ?_
  refine AO.eff (EF.callF rfl (put_o_spec B _ lo hi o ko)) (.none rfl) rfl ?_
  rintro _ _ ⟨w14, rfl, A14, c14, p14, rfl, hr14, hc14, rfl⟩
  refine AO.val (RV.move rfl) (.none rfl) rfl ?_
  refine AO.val (RV.extract rfl rfl) (.none rfl) rfl ?_
  refine AO.val (RV.extract rfl rfl) (.none rfl) rfl ?_
  refine AO.val (RV.assign rfl) (.none rfl) rfl ?_
  refine AO.val (RV.assign rfl) (.none rfl) rfl ?_
  refine AO.nil ?_
  refine AK.seq ?_
  refine AK.region ?_
  refine AO.val (by first | exact RV.loadAggO rfl rfl (by simp) | exact RV.loadAggP rfl rfl rfl (by simp)) (.none rfl) rfl ?_
  refine AO.val (by first | exact RV.loadAggO rfl rfl (by simp) | exact RV.loadAggP rfl rfl rfl (by simp)) (.none rfl) rfl ?_
  refine AO.eff (EF.callF rfl (rput_o_spec B _ lo hi o ko)) (.none rfl) rfl ?_
  rintro _ _ ⟨w20, rfl, A20, c20, p20, rfl, hr20, hc20, rfl⟩
  refine AO.val (RV.move rfl) (.none rfl) rfl ?_
  refine AO.val (RV.extract rfl rfl) (.none rfl) rfl ?_
  refine AO.val (RV.extract rfl rfl) (.none rfl) rfl ?_
  refine AO.val (RV.assign rfl) (.none rfl) rfl ?_
  refine AO.val (RV.assign rfl) (.none rfl) rfl ?_
  refine AO.nil ?_
  refine AK.seq ?_
  refine AK.seq ?_
  refine AK.region ?_
  refine AO.val (RV.move rfl) (.none rfl) rfl ?_
  refine AO.val (RV.move rfl) (.none rfl) rfl ?_
  refine AO.eff (EF.callF rfl (same_spec (cap := c14) (cap2 := c20) B _ (if okO o = true then signB lo hi (bodyB o) else []) (if okO o = true then signB lo hi (bodyB o) else []) ((hr14.src (h := p14) (fun x hx => hx)).mono fun x hx => by simp [hx]) ((hr20.src (h := p20) (fun x hx => hx)).mono fun x hx => by simp [hx]) (by omega))) (.none rfl) rfl ?_
  rintro _ _ ⟨rfl, bS, rfl, hS⟩
  have hS2 := hS.2 rfl
  subst hS2
  refine AO.val (RV.not rfl) (.none rfl) rfl ?_
  refine AO.val (RV.move rfl) (.none rfl) rfl ?_
  refine AO.val (RV.move rfl) (.some rfl rfl rfl rfl) rfl ?_
  refine AO.val (RV.move rfl) (.some rfl rfl rfl rfl) rfl ?_
  refine AO.val ((RV.neq rfl rfl).to (v' := .bool false) (by simp)) (.some rfl rfl rfl rfl) rfl ?_
  refine AO.val (RV.pickF rfl rfl) (.none rfl) rfl ?_
  refine AO.nil ?_
  refine AK.condF rfl ?_
  refine AK.skip ?_
  refine AK.seq ?_
  refine AK.region ?_
  refine AO.val (by first | exact RV.loadAggO rfl rfl (by simp) | exact RV.loadAggP rfl rfl rfl (by simp)) (.none rfl) rfl ?_
  refine AO.val (RV.move rfl) (.none rfl) rfl ?_
  refine AO.eff (EF.callF rfl (parse_spec (cap := c14) B _ lo hi (if okO o = true then signB lo hi (bodyB o) else []) ((hr14.src (h := p14) (fun x hx => hx)).mono fun x hx => by simp [hx]) hxb hc14 (by omega))) (.none rfl) rfl ?_
  rintro _ _ ⟨rfl, rfl⟩
  refine AO.val (RV.move rfl) (.none rfl) rfl ?_
  refine AO.val (RV.extract rfl rfl) (.none rfl) rfl ?_
  refine AO.val (RV.extract rfl rfl) (.none rfl) rfl ?_
  refine AO.eff (EF.alloc) (.none rfl) rfl ?_
  rintro _ _ ⟨b9, hf9, rfl, rfl⟩
  refine AO.effN (EF.storeO rfl rfl rfl rfl rfl rfl) (.none rfl) ?_
  rintro _ _ rfl
  refine AO.val (RV.assign rfl) (.none rfl) rfl ?_
  refine AO.nil ?_
  refine AK.seq ?_
  refine AK.seq ?_
  refine AK.region ?_
  refine AO.val (RV.move rfl) (.none rfl) rfl ?_
  refine AO.val (RV.neq rfl rfl) (.none rfl) rfl ?_
  refine AO.nil ?_
  refine AK.cond rfl ?_ ?_
  · intro hc1
    try simp only [decide_eq_true_eq, decide_eq_false_iff_not, Bool.not_eq_true', Bool.not_eq_false', beq_iff_eq] at hc1
    have hok : okO o = false := by
      cases h : okO o with
      | false => rfl
      | true => simp [h] at hc1
    refine AK.seq ?_
    refine AK.region ?_
    refine AO.val (RV.move rfl) (.none rfl) rfl ?_
    refine AO.val ((RV.eql rfl rfl).to (v' := .bool true) (by simp [parseS, hok])) (.none rfl) rfl ?_
    refine AO.val (RV.move rfl) (.none rfl) rfl ?_
    refine AO.eff (EF.callF rfl (lives_spec B _)) (.some rfl rfl rfl rfl) rfl ?_
    rintro _ _ rfl
    refine AO.val (RV.pickT rfl rfl) (.none rfl) rfl ?_
    refine AO.val (RV.assign rfl) (.none rfl) rfl ?_
    refine AO.nil ?_
    -- at T
    refine AK.ret (h' := []) Try.func3 (.tmp rfl .nil) ?_ (List.nil_sublist _)
    rfl
  · intro hc1
    try simp only [decide_eq_true_eq, decide_eq_false_iff_not, Bool.not_eq_true', Bool.not_eq_false', beq_iff_eq] at hc1
    have hok : okO o = true := by
      cases h : okO o with
      | true => rfl
      | false => simp [h] at hc1
    have hpp : parseS lo hi (if okO o = true then signB lo hi (bodyB o) else []) = (o, 0) := by rw [if_pos hok]; exact parse_put lo hi o hok ko
    rw [hpp]
    refine AK.skip ?_
    refine AK.seq ?_
    refine AK.region ?_
    refine AO.val (RV.move rfl) (.none rfl) rfl ?_
    refine AO.val ((RV.eql rfl rfl).to (v' := .bool true) (by rfl)) (.none rfl) rfl ?_
    refine AO.val (RV.move rfl) (.none rfl) rfl ?_
    refine AO.val (by first | exact RV.loadAggO rfl rfl (by simp) | exact RV.loadAggP rfl rfl rfl (by simp)) (.some rfl rfl rfl rfl) rfl ?_
    refine AO.val (by first | exact RV.loadAggO rfl rfl (by simp) | exact RV.loadAggP rfl rfl rfl (by simp)) (.some rfl rfl rfl rfl) rfl ?_
    refine AO.val (RV.eqlAgg (xs := encO o) (ys := encO o) (b := true) rfl rfl (by kernel_rfl) (by kernel_rfl) (by kernel_rfl) (order_eq o)) (.some rfl rfl rfl rfl) rfl ?_
    refine AO.val (RV.pickT rfl rfl) (.none rfl) rfl ?_
    refine AO.val (RV.move rfl) (.none rfl) rfl ?_
    refine AO.eff (EF.callF rfl (lives_spec B _)) (.some rfl rfl rfl rfl) rfl ?_
    rintro _ _ rfl
    refine AO.val (RV.pickT rfl rfl) (.none rfl) rfl ?_
    refine AO.val (RV.assign rfl) (.none rfl) rfl ?_
    refine AO.nil ?_
    -- at F
    refine AK.ret (h' := []) Try.func3 (.tmp rfl .nil) ?_ (List.nil_sublist _)
    rfl

theorem parses_law (B : World) (h : Own) (lo hi : Int) {A : Option Addr} {cap : Nat} (l : List Int) (hl : Src B h A l.length 1 (l.map (fun x => Value.int .u8 x))) (hb : Bytes l) (hcap : l.length ≤ cap) : Tri Try.prog B 4 [.agg #[.int .u64 lo, .int .u64 hi], .slice A l.length cap] h fun v h' => v = .bool true := by
  have htk : Src B h A (l.take (100 : Int).toNat).length 1 ((l.take (100 : Int).toNat).map (fun x => Value.int .u8 x)) := by
    have := hl.take (min 100 l.length) (by omega)
    rw [Nat.mul_one, ← List.map_take] at this
    rw [List.length_take, show (100 : Int).toNat = 100 from rfl]
    have e : l.take 100 = l.take (min 100 l.length) := by rw [List.take_eq_take_min]
    rw [e]; exact this
  have htn : (l.take (100 : Int).toNat).length ≤ 100 := by rw [List.length_take]; exact Nat.min_le_left _ _
  have htc : (l.take (100 : Int).toNat).length ≤ cap := by rw [List.length_take]; omega
  have htb : Bytes (l.take (100 : Int).toNat) := bytes_take hb _
  refine Tri.enter (n := 34) Try.func4 rfl rfl rfl ?_
  simp only [argsE, Nat.reduceAdd]
  try dsimp only [argsE]
  refine AK.seq ?_
  refine AK.region ?_
  refine AO.eff (EF.box rfl rfl) (.none rfl) rfl ?_
  rintro _ _ ⟨b2, hf2, rfl, rfl⟩
  refine AO.val (RV.assign rfl) (.none rfl) rfl ?_
  refine AO.nil ?_
  refine AK.seq ?_
  refine AK.region ?_
  refine AO.val (RV.move rfl) (.none rfl) rfl ?_
  refine AO.eff (EF.callF rfl (few_spec B _ l 100 (by omega) hcap)) (.none rfl) rfl ?_
  rintro _ _ ⟨rfl, rfl⟩
  refine AO.val (RV.assign rfl) (.none rfl) rfl ?_
  refine AO.nil ?_
  refine AK.seq ?_
  refine AK.region ?_
  refine AO.val (by first | exact RV.loadAggO rfl rfl (by simp) | exact RV.loadAggP rfl rfl rfl (by simp)) (.none rfl) rfl ?_
  refine AO.val (RV.move rfl) (.none rfl) rfl ?_
  refine AO.eff (EF.callF rfl (parse_spec (cap := cap) B _ lo hi (l.take (100 : Int).toNat) htk.sub htb htc (by omega))) (.none rfl) rfl ?_
  rintro _ _ ⟨rfl, rfl⟩
  refine AO.val (RV.move rfl) (.none rfl) rfl ?_
  refine AO.val (RV.extract rfl rfl) (.none rfl) rfl ?_
  refine AO.val (RV.extract rfl rfl) (.none rfl) rfl ?_
  refine AO.eff (EF.alloc) (.none rfl) rfl ?_
  rintro _ _ ⟨b5, hf5, rfl, rfl⟩
  refine AO.effN (EF.storeO rfl rfl rfl rfl rfl rfl) (.none rfl) ?_
  rintro _ _ rfl
  refine AO.val (RV.assign rfl) (.none rfl) rfl ?_
  refine AO.nil ?_
  refine AK.seq ?_
  refine AK.region ?_
  refine AO.val (by first | exact RV.loadAggO rfl rfl (by simp) | exact RV.loadAggP rfl rfl rfl (by simp)) (.none rfl) rfl ?_
  refine AO.val (RV.move rfl) (.none rfl) rfl ?_
  refine AO.eff (EF.callF rfl (rparse_spec (cap := cap) B _ lo hi (l.take (100 : Int).toNat) htk.sub htb htc (by omega))) (.none rfl) rfl ?_
  rintro _ _ ⟨rfl, rfl⟩
  refine AO.val (RV.move rfl) (.none rfl) rfl ?_
  refine AO.val (RV.extract rfl rfl) (.none rfl) rfl ?_
  refine AO.val (RV.extract rfl rfl) (.none rfl) rfl ?_
  refine AO.eff (EF.alloc) (.none rfl) rfl ?_
  rintro _ _ ⟨b7, hf7, rfl, rfl⟩
  refine AO.effN (EF.storeO rfl rfl rfl rfl rfl rfl) (.none rfl) ?_
  rintro _ _ rfl
  refine AO.val (RV.assign rfl) (.none rfl) rfl ?_
  refine AO.nil ?_
  refine AK.seq ?_
  refine AK.region ?_
  refine AO.val (by first | exact RV.loadAggO rfl rfl (by simp) | exact RV.loadAggP rfl rfl rfl (by simp)) (.none rfl) rfl ?_
  refine AO.val (by first | exact RV.loadAggO rfl rfl (by simp) | exact RV.loadAggP rfl rfl rfl (by simp)) (.none rfl) rfl ?_
  refine AO.val (RV.eqlAgg (xs := encO (parseS lo hi (l.take (100 : Int).toNat)).1) (ys := encO (parseS lo hi (l.take (100 : Int).toNat)).1) (b := true) rfl rfl (by kernel_rfl) (by kernel_rfl) (by kernel_rfl) (order_eq (parseS lo hi (l.take (100 : Int).toNat)).1)) (.none rfl) rfl ?_
  refine AO.val (RV.move rfl) (.none rfl) rfl ?_
  refine AO.val (RV.move rfl) (.some rfl rfl rfl rfl) rfl ?_
  refine AO.val (RV.move rfl) (.some rfl rfl rfl rfl) rfl ?_
  refine AO.val ((RV.eql rfl rfl).to (v' := .bool true) (by simp)) (.some rfl rfl rfl rfl) rfl ?_
  refine AO.val (RV.pickT rfl rfl) (.none rfl) rfl ?_
  refine AO.val (RV.move rfl) (.none rfl) rfl ?_
  refine AO.eff (EF.callF rfl (lives_spec B _)) (.some rfl rfl rfl rfl) rfl ?_
  rintro _ _ rfl
  refine AO.val (RV.pickT rfl rfl) (.none rfl) rfl ?_
  refine AO.val (RV.assign rfl) (.none rfl) rfl ?_
  refine AO.nil ?_
  -- at 
  refine AK.ret (h' := []) Try.func4 (.tmp rfl .nil) ?_ (List.nil_sublist _)
  rfl

set_option maxRecDepth 100000 in
theorem tagPuts_lifted (os : Os) (started : os.Started) (H : Type) (enc : TypeId × Value → H) :
    ReturnsInHanded {} Try.checked os 3 .any (Rows.tagPutsSpec.pre6 enc Try.prog Try.f3 Rows.tagPutsRow.domain false) (Rows.tagPutsSpec.post enc Try.prog Try.f3 false true false false) := by
  refine returnsInHanded_of_change (C := Try.checked) own_ started (by kernel_rfl) Try.func3
    (ChangeSpec.witness6 (enc := enc) (C := Try.checked) false ⟨#[], #[(Value.agg #[(Value.int IntKind.u64 0), (Value.int IntKind.u64 0)]), (Value.agg #[(Value.int IntKind.u64 0), (Value.int IntKind.i64 0), (Value.int IntKind.i64 0), (Value.int IntKind.i64 0), (Value.int IntKind.u32 0), (Value.int IntKind.u16 0), (Value.int IntKind.u8 0), (Value.int IntKind.i64 0)])], []⟩ 8 (by kernel_rfl) (by kernel_rfl) (by kernel_rfl) (by kernel_rfl)) ?_
  intro W base args ds gs before hval0 hW hcnd _
  have hval : ∀ (j : Nat) t v, Try.f3.params[j]? = some t → args[j]? = some v → Value.okWide Try.prog W .any base t v := hval0
  have hW' := hW
  obtain ⟨p, q, hA0, hV, rfl, hfz, hnd⟩ := hW
  have hA : DataW.TrodAll enc Try.prog W 0 (fun _ => true) true Try.f3.params.toList args.toList ds p := hA0
  rw [Try.params3] at hA hval
  obtain ⟨args⟩ := args
  simp only at hA
  obtain ⟨v0, vs0, d0, ds0, p0, q0, e0a, e0b, e0c, t0, r0⟩ := trodAll_cons hA
  obtain ⟨v1, vs1, d1, ds1, p1, q1, e1a, e1b, e1c, t1, r1⟩ := trodAll_cons r0
  subst e0a e0b e0c
  subst e1a e1b e1c
  obtain ⟨rfl, rfl, rfl⟩ := trodAll_nil r1
  obtain ⟨rfl, rfl⟩ := trodVars_none hV
  have hlt := hW'.lt
  have k0 : Value.okWide Try.prog W .any base 24 v0 := hval 0 _ v0 rfl rfl
  obtain ⟨k, w0, hk⟩ := Dec.argA k0 t0 ((.cons (off := 0) (sz := 1) (by rfl) (by kernel_rfl) (Dec.int (t := 22) (k := .u64)) (.cons (off := 1) (sz := 1) (by rfl) (by kernel_rfl) (Dec.int (t := 22) (k := .u64)) .nil))) (by kernel_rfl)
  have k1 : Value.okWide Try.prog W .any base 28 v1 := hval 1 _ v1 rfl rfl
  obtain ⟨o, w1, ho⟩ := Dec.argA k1 t1 ((.cons (off := 0) (sz := 1) (by rfl) (by kernel_rfl) (Dec.int (t := 22) (k := .u64)) (.cons (off := 1) (sz := 1) (by rfl) (by kernel_rfl) (Dec.int (t := 3) (k := .i64)) (.cons (off := 2) (sz := 1) (by rfl) (by kernel_rfl) (Dec.int (t := 3) (k := .i64)) (.cons (off := 3) (sz := 1) (by rfl) (by kernel_rfl) (Dec.int (t := 3) (k := .i64)) (.cons (off := 4) (sz := 1) (by rfl) (by kernel_rfl) (Dec.int (t := 25) (k := .u32)) (.cons (off := 5) (sz := 1) (by rfl) (by kernel_rfl) (Dec.int (t := 26) (k := .u16)) (.cons (off := 6) (sz := 1) (by rfl) (by kernel_rfl) (Dec.int (t := 5) (k := .u8)) (.cons (off := 7) (sz := 1) (by rfl) (by kernel_rfl) (Dec.int (t := 3) (k := .i64)) .nil))))))))) (by kernel_rfl)
  have htri : Tri Try.prog W 3 [v0, v1] [] (fun v _ => v = .bool true) := by
    subst w0 w1
    exact puts_law W [] k.1 k.2.1 o ⟨ho.1, ho.2.2.2.2.1, ho.2.2.2.2.2.1, ho.2.2.2.2.2.2.1⟩
  clear w0 w1
  refine (htri.run W (Models.start W)).mono fun e W' ⟨v, h2, he, m2, hv⟩ => ?_
  subst he; subst hv
  have hb := m2.below
  refine ⟨_, rfl, post_of_below (pa := (p0 ++ (p1 ++ ([])))) (pv := []) hW' (fun _ _ _ => trodAll_mk1 (shut_bool (Try.underlying4) true)) (fun sp hsp => ?_) (fun _ _ => rfl) rfl hb (ok_one (t := 4) (by kernel_rfl) rfl ?_)⟩
  · refine TAcons (WideElems.Trod_stays laidOut_ (by kernel_rfl) (of_decide_eq_true (by kernel_rfl)) t0 (fun x hx => hb.same (hlt x (by simp [hx]))) (fun x hx => hsp x (by simp [hx]))) ?_
    refine TAcons (WideElems.Trod_stays laidOut_ (by kernel_rfl) (of_decide_eq_true (by kernel_rfl)) t1 (fun x hx => hb.same (hlt x (by simp [hx]))) (fun x hx => hsp x (by simp [hx]))) ?_
    rfl
  · exact okBool Try.underlying4

theorem tagPuts_holds : Rows.TagPutsSaid :=
  OpenClaim.holds_of_wide 3 Try.f3 rfl rfl rfl rfl rfl rfl rfl ⟨rfl, rfl, rfl, rfl, rfl⟩ rfl rfl rfl rfl rfl (by kernel_rfl) Try.func3 (by kernel_rfl)
    (of_decide_eq_true (by kernel_rfl)) (by unfold Func.isWrapper; first | (rw [if_pos (by decide +kernel)]; kernel_rfl) | (rw [if_neg (by decide +kernel)]; exact ⟨rfl, rfl⟩))
    (fun os started H enc _ => tagPuts_lifted os started H enc)

set_option maxRecDepth 100000 in
theorem tagParses_lifted (os : Os) (started : os.Started) (H : Type) (enc : TypeId × Value → H) :
    ReturnsInHanded {} Try.checked os 4 .any (Rows.tagParsesSpec.pre6 enc Try.prog Try.f4 Rows.tagParsesRow.domain false) (Rows.tagParsesSpec.post enc Try.prog Try.f4 false true false false) := by
  refine returnsInHanded_of_change (C := Try.checked) own_ started (by kernel_rfl) Try.func4
    (ChangeSpec.witness6 (enc := enc) (C := Try.checked) false ⟨#[], #[(Value.agg #[(Value.int IntKind.u64 0), (Value.int IntKind.u64 0)]), (Value.slice none 0 0)], []⟩ 8 (by kernel_rfl) (by kernel_rfl) (by kernel_rfl) (by kernel_rfl)) ?_
  intro W base args ds gs before hval0 hW hcnd _
  have hval : ∀ (j : Nat) t v, Try.f4.params[j]? = some t → args[j]? = some v → Value.okWide Try.prog W .any base t v := hval0
  have hW' := hW
  obtain ⟨p, q, hA0, hV, rfl, hfz, hnd⟩ := hW
  have hA : DataW.TrodAll enc Try.prog W 0 (fun _ => true) true Try.f4.params.toList args.toList ds p := hA0
  rw [Try.params4] at hA hval
  obtain ⟨args⟩ := args
  simp only at hA
  obtain ⟨v0, vs0, d0, ds0, p0, q0, e0a, e0b, e0c, t0, r0⟩ := trodAll_cons hA
  obtain ⟨v1, vs1, d1, ds1, p1, q1, e1a, e1b, e1c, t1, r1⟩ := trodAll_cons r0
  subst e0a e0b e0c
  subst e1a e1b e1c
  obtain ⟨rfl, rfl, rfl⟩ := trodAll_nil r1
  obtain ⟨rfl, rfl⟩ := trodVars_none hV
  have hlt := hW'.lt
  have k0 : Value.okWide Try.prog W .any base 24 v0 := hval 0 _ v0 rfl rfl
  obtain ⟨k, w0, hk⟩ := Dec.argA k0 t0 ((.cons (off := 0) (sz := 1) (by rfl) (by kernel_rfl) (Dec.int (t := 22) (k := .u64)) (.cons (off := 1) (sz := 1) (by rfl) (by kernel_rfl) (Dec.int (t := 22) (k := .u64)) .nil))) (by kernel_rfl)
  have k1 : Value.okWide Try.prog W .any base 29 v1 := hval 1 _ v1 rfl rfl
  obtain ⟨l, w1, hl⟩ := Dec.argS k1 t1 ((Dec.int (t := 5) (k := .u8))) (by decide)
  have htri : Tri Try.prog W 4 [v0, v1] [] (fun v _ => v = .bool true) := by
    subst w0 w1
    exact parses_law W [] k.1 k.2.1 l.l hl.src1 hl.2.2.2.1 hl.2.1
  clear w0 w1
  refine (htri.run W (Models.start W)).mono fun e W' ⟨v, h2, he, m2, hv⟩ => ?_
  subst he; subst hv
  have hb := m2.below
  refine ⟨_, rfl, post_of_below (pa := (p0 ++ (p1 ++ ([])))) (pv := []) hW' (fun _ _ _ => trodAll_mk1 (shut_bool (Try.underlying4) true)) (fun sp hsp => ?_) (fun _ _ => rfl) rfl hb (ok_one (t := 4) (by kernel_rfl) rfl ?_)⟩
  · refine TAcons (WideElems.Trod_stays laidOut_ (by kernel_rfl) (of_decide_eq_true (by kernel_rfl)) t0 (fun x hx => hb.same (hlt x (by simp [hx]))) (fun x hx => hsp x (by simp [hx]))) ?_
    refine TAcons (WideElems.Trod_stays laidOut_ (by kernel_rfl) (of_decide_eq_true (by kernel_rfl)) t1 (fun x hx => hb.same (hlt x (by simp [hx]))) (fun x hx => hsp x (by simp [hx]))) ?_
    rfl
  · exact okBool Try.underlying4

theorem tagParses_holds : Rows.TagParsesSaid :=
  OpenClaim.holds_of_wide 4 Try.f4 rfl rfl rfl rfl rfl rfl rfl ⟨rfl, rfl, rfl, rfl, rfl⟩ rfl rfl rfl rfl rfl (by kernel_rfl) Try.func4 (by kernel_rfl)
    (of_decide_eq_true (by kernel_rfl)) (by unfold Func.isWrapper; first | (rw [if_pos (by decide +kernel)]; kernel_rfl) | (rw [if_neg (by decide +kernel)]; exact ⟨rfl, rfl⟩))
    (fun os started H enc _ => tagParses_lifted os started H enc)

end Go.Proofs.Ytiafefofomdcgaa
