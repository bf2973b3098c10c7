/- Walks through the code: what each function that is named here gives back, from any memory that holds its arguments. Written by a program of the claim's author, out of the program's form in Lean. -/
import Derived.Test.YtdefjkokbffccaaW3
set_option linter.unusedSimpArgs false
set_option linter.unusedVariables false
namespace Go.Proofs.Ytdefjkokbffccaa
open Go.Sep Go.Sep.Meter

theorem ask_spec (B : World) (pre h : Own) (p bm : Nat) (s : MS) (mi : MI s) (hk : KeysOk s.l) (hst : StampT s.l s.c) (k now : Int) : Tri Try.prog B 8 [.pointer (some ⟨p, 0, none⟩), .int .u32 k, .int .i64 now] (pre ++ ((p, Blk.cells [.int .i64 (s).size, .int .i64 (s).rate, .int .i64 (s).burst, .int .i64 (s).now, .map (some bm)] 48 (0, 0)) :: (bm, mapB .u32 evB (s).l (s).c) :: h)) fun v h' => v = .bool (decide (0 < leftM s k now)) ∧ ∃ l, Kept s k l ∧ h' = pre ++ ((p, Blk.cells [.int .i64 ((nextM s k now l s.c)).size, .int .i64 ((nextM s k now l s.c)).rate, .int .i64 ((nextM s k now l s.c)).burst, .int .i64 ((nextM s k now l s.c)).now, .map (some bm)] 48 (0, 0)) :: (bm, mapB .u32 evB ((nextM s k now l s.c)).l ((nextM s k now l s.c)).c) :: h) := by
  have hsz := mi.size
  have hrt := mi.rate
  have hbu := mi.burst
  have hnw := mi.now
  have hlf := left_in mi k now
  have htk : s.now ≤ tickM s now ∧ tickM s now ≤ 1073741824 := by unfold tickM; omega
  have hyb : (findT s.l k).isSome = true → (0 ≤ ((findT s.l k).getD (0, 0)).1 ∧ ((findT s.l k).getD (0, 0)).1 ≤ 1000) ∧ 0 ≤ ((findT s.l k).getD (0, 0)).2 ∧ ((findT s.l k).getD (0, 0)).2 ≤ tickM s now ∧ leftM s k now = min (((findT s.l k).getD (0, 0)).1 + min (tickM s now - ((findT s.l k).getD (0, 0)).2) 1000 * s.rate) s.burst := by
    intro hs
    cases hf : findT s.l k with
    | none => simp [hf] at hs
    | some x =>
      have := mi.bk k x hf
      refine ⟨⟨by simp; omega, by simp; omega⟩, by simp; omega, by simp; omega, by simp [leftM, hf, fillM]⟩
  have hnb : (findT s.l k).isSome = false → leftM s k now = s.burst := by
    intro hs
    cases hf : findT s.l k with
    | none => simp [leftM, hf]
    | some x => simp [hf] at hs
  have mi2 : MI (⟨s.size, s.rate, s.burst, tickM s now, s.l, s.c⟩ : MS) := ⟨mi.size, mi.rate, mi.burst, by dsimp only; omega, fun j x hx => by have := mi.bk j x hx; dsimp only; omega⟩
  refine Tri.enter (n := 73) Try.func8 rfl rfl rfl ?_
  simp only [argsE, Nat.reduceAdd]
  try dsimp only [argsE]
  refine AK.seq ?_
  refine AK.region ?_
  refine AO.val (RV.assign rfl) (.none rfl) rfl ?_
  refine AO.nil ?_
  refine AK.seq ?_
  refine AK.seq ?_
  refine AK.region ?_
  refine AO.val (RV.move rfl) (.none rfl) rfl ?_
  refine AO.val (RV.eqlP rfl rfl) (.none rfl) rfl ?_
  refine AO.nil ?_
  refine AK.condF rfl ?_
  refine AK.skip ?_
  refine AK.seq ?_
  refine AK.region ?_
  refine AO.val (RV.move rfl) (.none rfl) rfl ?_
  refine AO.val (RV.move rfl) (.none rfl) rfl ?_
  refine AO.val (RV.nilCheck rfl) (.none rfl) rfl ?_
  refine AO.val (RV.fieldAddr rfl) (.none rfl) rfl ?_
  refine AO.val (by first | exact RV.loadO rfl rfl (by simp) | exact RV.loadS rfl (by assumption) (by omega) (by simp)) (.none rfl) rfl ?_
  refine AO.val (RV.move rfl) (.none rfl) rfl ?_
  refine AO.val (RV.min2 rfl rfl) (.none rfl) rfl ?_
  refine AO.val ((RV.max2 rfl rfl).to (v' := .int .i64 (tickM s now)) rfl) (.none rfl) rfl ?_
  refine AO.val (RV.nilCheck rfl) (.none rfl) rfl ?_
  refine AO.val (RV.fieldAddr rfl) (.none rfl) rfl ?_
  refine AO.effN (EF.storeO rfl rfl rfl rfl rfl rfl) (.none rfl) ?_
  rintro _ _ rfl
  refine AO.nil ?_
  refine AK.seq ?_
  refine AK.region ?_
  refine AO.val (RV.move rfl) (.none rfl) rfl ?_
  refine AO.val (RV.nilCheck rfl) (.none rfl) rfl ?_
  refine AO.val (RV.fieldAddr rfl) (.none rfl) rfl ?_
  refine AO.val (by first | exact RV.loadO rfl rfl (by simp) | exact RV.loadS rfl (by assumption) (by omega) (by simp)) (.none rfl) rfl ?_
  refine AO.val (RV.move rfl) (.none rfl) rfl ?_
  refine AO.val (RV.lookupOk (((0, 0) : Bk)) rfl rfl rfl (by simp)) (.none rfl) rfl ?_
  refine AO.val (RV.move rfl) (.none rfl) rfl ?_
  refine AO.val (RV.extract rfl rfl) (.none rfl) rfl ?_
  refine AO.val (RV.extract rfl rfl) (.none rfl) rfl ?_
  refine AO.eff (EF.alloc) (.none rfl) rfl ?_
  rintro _ _ ⟨b7, hf7, rfl, rfl⟩
  refine AO.effN (EF.storeO rfl rfl rfl rfl rfl rfl) (.none rfl) ?_
  rintro _ _ rfl
  refine AO.val (RV.assign rfl) (.none rfl) rfl ?_
  refine AO.nil ?_
  refine AK.seq ?_
  refine AK.seq ?_
  refine AK.region ?_
  refine AO.val (RV.move rfl) (.none rfl) rfl ?_
  refine AO.nil ?_
  refine AK.cond rfl ?_ ?_
  · intro hc1
    try simp only [decide_eq_true_eq, decide_eq_false_iff_not, Bool.not_eq_true', Bool.not_eq_false', beq_iff_eq] at hc1
    have hle := (hyb hc1).2.2.2
    refine AK.region ?_
    refine AO.val (RV.move rfl) (.none rfl) rfl ?_
    refine AO.val (by first | exact RV.loadAggO rfl rfl (by simp) | exact RV.loadAggP rfl rfl rfl (by simp)) (.none rfl) rfl ?_
    refine AO.eff (EF.callF rfl (filled_spec B ((b7, _) :: pre) _ p bm (⟨s.size, s.rate, s.burst, tickM s now, s.l, s.c⟩ : MS) mi2 ((findT s.l k).getD (0, 0)).1 ((findT s.l k).getD (0, 0)).2 (hyb hc1).1 ⟨(hyb hc1).2.1, (hyb hc1).2.2.1⟩)) (.none rfl) rfl ?_
    rintro _ _ ⟨rfl, rfl⟩
    simp only [List.nil_append, List.cons_append]
    rw [← (hyb hc1).2.2.2]
    refine AO.val (RV.fieldAddr rfl) (.none rfl) rfl ?_
    refine AO.effN (EF.storeO rfl rfl rfl rfl rfl rfl) (.none rfl) ?_
    rintro _ _ rfl
    refine AO.nil ?_
    refine AK.seq ?_
    refine AK.region ?_
    refine AO.val (RV.fieldAddr rfl) (.none rfl) rfl ?_
    refine AO.val (by first | exact RV.loadO rfl rfl (by simp) | exact RV.loadS rfl (by assumption) (by omega) (by simp)) (.none rfl) rfl ?_
    refine AO.val (RV.gtr rfl rfl) (.none rfl) rfl ?_
    refine AO.val (RV.assign rfl) (.none rfl) rfl ?_
    refine AO.nil ?_
    refine AK.seq ?_
    refine AK.seq ?_
    refine AK.region ?_
    refine AO.val (RV.move rfl) (.none rfl) rfl ?_
    refine AO.nil ?_
    refine AK.cond rfl ?_ ?_
    · intro hc2
      try simp only [decide_eq_true_eq, decide_eq_false_iff_not, Bool.not_eq_true', Bool.not_eq_false', beq_iff_eq] at hc2
      refine AK.region ?_
      refine AO.val (RV.fieldAddr rfl) (.none rfl) rfl ?_
      refine AO.val (by first | exact RV.loadO rfl rfl (by simp) | exact RV.loadS rfl (by assumption) (by omega) (by simp)) (.none rfl) rfl ?_
      refine AO.val (by first | exact RV.subIn rfl rfl (by omega) | exact RV.sub rfl rfl) (.none rfl) rfl ?_
      refine AO.val (RV.fieldAddr rfl) (.none rfl) rfl ?_
      refine AO.effN (EF.storeO rfl rfl rfl rfl rfl rfl) (.none rfl) ?_
      rintro _ _ rfl
      refine AO.nil ?_
      refine AK.seq ?_
      refine AK.region ?_
      refine AO.val (RV.move rfl) (.none rfl) rfl ?_
      refine AO.val (RV.nilCheck rfl) (.none rfl) rfl ?_
      refine AO.val (RV.fieldAddr rfl) (.none rfl) rfl ?_
      refine AO.val (by first | exact RV.loadO rfl rfl (by simp) | exact RV.loadS rfl (by assumption) (by omega) (by simp)) (.none rfl) rfl ?_
      refine AO.val (RV.fieldAddr rfl) (.none rfl) rfl ?_
      refine AO.effN (EF.storeO rfl rfl rfl rfl rfl rfl) (.none rfl) ?_
      rintro _ _ rfl
      refine AO.nil ?_
      refine AK.seq ?_
      refine AK.draw [] [6] mixed ?_
      refine AD.takeP 0 rfl (by kernel_rfl) (RV.move rfl) (.none rfl) rfl ?_
      refine AD.takeP 1 rfl (by kernel_rfl) (RV.nilCheck rfl) (.none rfl) rfl ?_
      refine AD.takeP 2 rfl (by kernel_rfl) (RV.fieldAddr rfl) (.none rfl) rfl ?_
      refine AD.take 3 rfl (by kernel_rfl) (by first | exact RV.loadO rfl rfl (by simp) | exact RV.loadS rfl (by assumption) (by omega) (by simp)) (.none rfl) rfl ?_
      refine AD.takeP 4 rfl (by kernel_rfl) (RV.move rfl) (.none rfl) rfl ?_
      refine AD.take 5 rfl (by kernel_rfl) (by first | exact RV.loadAggO rfl rfl (by simp) | exact RV.loadAggP rfl rfl rfl (by simp)) (.none rfl) rfl ?_
      refine AD.one 6 (by kernel_rfl) (AE.effN rfl (EF.mapUpdate ((leftM s k now - 1, tickM s now)) rfl rfl rfl) (.none rfl) ?_)
      rintro _ _ rfl
      refine ⟨.inl (by kernel_rfl), ?_⟩
      refine AD.done (by kernel_rfl) ?_
      refine AK.seq ?_
      refine AK.region ?_
      refine AO.val (RV.move rfl) (.none rfl) rfl ?_
      refine AO.val (RV.assign rfl) (.none rfl) rfl ?_
      refine AO.nil ?_
      -- at TT
      refine AK.ret (h' := pre ++ ((p, Blk.cells [.int .i64 ((⟨s.size, s.rate, s.burst, tickM s now, updT s.l s.c k (leftM s k now - 1, tickM s now), clkT s.l s.c k⟩ : MS)).size, .int .i64 ((⟨s.size, s.rate, s.burst, tickM s now, updT s.l s.c k (leftM s k now - 1, tickM s now), clkT s.l s.c k⟩ : MS)).rate, .int .i64 ((⟨s.size, s.rate, s.burst, tickM s now, updT s.l s.c k (leftM s k now - 1, tickM s now), clkT s.l s.c k⟩ : MS)).burst, .int .i64 ((⟨s.size, s.rate, s.burst, tickM s now, updT s.l s.c k (leftM s k now - 1, tickM s now), clkT s.l s.c k⟩ : MS)).now, .map (some bm)] 48 (0, 0)) :: (bm, mapB .u32 evB ((⟨s.size, s.rate, s.burst, tickM s now, updT s.l s.c k (leftM s k now - 1, tickM s now), clkT s.l s.c k⟩ : MS)).l ((⟨s.size, s.rate, s.burst, tickM s now, updT s.l s.c k (leftM s k now - 1, tickM s now), clkT s.l s.c k⟩ : MS)).c) :: h)) Try.func8 (.tmp rfl .nil) ?_ (List.Sublist.cons _ (List.Sublist.refl _))
      have e : nextM s k now s.l s.c = (⟨s.size, s.rate, s.burst, tickM s now, updT s.l s.c k (leftM s k now - 1, tickM s now), clkT s.l s.c k⟩ : MS) := by unfold nextM; rw [if_pos (by omega)]
      refine ⟨by first | (simp [oneOr]; done) | (simp [oneOr]; omega), s.l, .inl ⟨.inl hc1, rfl⟩, ?_⟩
      rw [e]
    · intro hc2
      try simp only [decide_eq_true_eq, decide_eq_false_iff_not, Bool.not_eq_true', Bool.not_eq_false', beq_iff_eq] at hc2
      refine AK.skip ?_
      refine AK.seq ?_
      refine AK.region ?_
      refine AO.val (RV.move rfl) (.none rfl) rfl ?_
      refine AO.val (RV.nilCheck rfl) (.none rfl) rfl ?_
      refine AO.val (RV.fieldAddr rfl) (.none rfl) rfl ?_
      refine AO.val (by first | exact RV.loadO rfl rfl (by simp) | exact RV.loadS rfl (by assumption) (by omega) (by simp)) (.none rfl) rfl ?_
      refine AO.val (RV.fieldAddr rfl) (.none rfl) rfl ?_
      refine AO.effN (EF.storeO rfl rfl rfl rfl rfl rfl) (.none rfl) ?_
      rintro _ _ rfl
      refine AO.nil ?_
      refine AK.seq ?_
      refine AK.draw [] [6] mixed ?_
      refine AD.takeP 0 rfl (by kernel_rfl) (RV.move rfl) (.none rfl) rfl ?_
      refine AD.takeP 1 rfl (by kernel_rfl) (RV.nilCheck rfl) (.none rfl) rfl ?_
      refine AD.takeP 2 rfl (by kernel_rfl) (RV.fieldAddr rfl) (.none rfl) rfl ?_
      refine AD.take 3 rfl (by kernel_rfl) (by first | exact RV.loadO rfl rfl (by simp) | exact RV.loadS rfl (by assumption) (by omega) (by simp)) (.none rfl) rfl ?_
      refine AD.takeP 4 rfl (by kernel_rfl) (RV.move rfl) (.none rfl) rfl ?_
      refine AD.take 5 rfl (by kernel_rfl) (by first | exact RV.loadAggO rfl rfl (by simp) | exact RV.loadAggP rfl rfl rfl (by simp)) (.none rfl) rfl ?_
      refine AD.one 6 (by kernel_rfl) (AE.effN rfl (EF.mapUpdate ((leftM s k now, tickM s now)) rfl rfl rfl) (.none rfl) ?_)
      rintro _ _ rfl
      refine ⟨.inl (by kernel_rfl), ?_⟩
      refine AD.done (by kernel_rfl) ?_
      refine AK.seq ?_
      refine AK.region ?_
      refine AO.val (RV.move rfl) (.none rfl) rfl ?_
      refine AO.val (RV.assign rfl) (.none rfl) rfl ?_
      refine AO.nil ?_
      -- at TF
      refine AK.ret (h' := pre ++ ((p, Blk.cells [.int .i64 ((⟨s.size, s.rate, s.burst, tickM s now, updT s.l s.c k (leftM s k now, tickM s now), clkT s.l s.c k⟩ : MS)).size, .int .i64 ((⟨s.size, s.rate, s.burst, tickM s now, updT s.l s.c k (leftM s k now, tickM s now), clkT s.l s.c k⟩ : MS)).rate, .int .i64 ((⟨s.size, s.rate, s.burst, tickM s now, updT s.l s.c k (leftM s k now, tickM s now), clkT s.l s.c k⟩ : MS)).burst, .int .i64 ((⟨s.size, s.rate, s.burst, tickM s now, updT s.l s.c k (leftM s k now, tickM s now), clkT s.l s.c k⟩ : MS)).now, .map (some bm)] 48 (0, 0)) :: (bm, mapB .u32 evB ((⟨s.size, s.rate, s.burst, tickM s now, updT s.l s.c k (leftM s k now, tickM s now), clkT s.l s.c k⟩ : MS)).l ((⟨s.size, s.rate, s.burst, tickM s now, updT s.l s.c k (leftM s k now, tickM s now), clkT s.l s.c k⟩ : MS)).c) :: h)) Try.func8 (.tmp rfl .nil) ?_ (List.Sublist.cons _ (List.Sublist.refl _))
      have e : nextM s k now s.l s.c = (⟨s.size, s.rate, s.burst, tickM s now, updT s.l s.c k (leftM s k now, tickM s now), clkT s.l s.c k⟩ : MS) := by unfold nextM; rw [if_neg (by omega)]
      refine ⟨by first | (simp [oneOr]; done) | (simp [oneOr]; omega), s.l, .inl ⟨.inl hc1, rfl⟩, ?_⟩
      rw [e]
  · intro hc1
    try simp only [decide_eq_true_eq, decide_eq_false_iff_not, Bool.not_eq_true', Bool.not_eq_false', beq_iff_eq] at hc1
    refine AK.seq ?_
    refine AK.seq ?_
    refine AK.draw [] [] mixed ?_
    refine AD.takeP 0 rfl (by kernel_rfl) (RV.move rfl) (.none rfl) rfl ?_
    refine AD.takeP 1 rfl (by kernel_rfl) (RV.nilCheck rfl) (.none rfl) rfl ?_
    refine AD.takeP 2 rfl (by kernel_rfl) (RV.fieldAddr rfl) (.none rfl) rfl ?_
    refine AD.take 3 rfl (by kernel_rfl) (by first | exact RV.loadO rfl rfl (by simp) | exact RV.loadS rfl (by assumption) (by omega) (by simp)) (.none rfl) rfl ?_
    refine AD.take 4 rfl (by kernel_rfl) (RV.lenM rfl (by simp)) (.none rfl) rfl ?_
    refine AD.takeP 5 rfl (by kernel_rfl) (RV.move rfl) (.none rfl) rfl ?_
    refine AD.takeP 6 rfl (by kernel_rfl) (RV.nilCheck rfl) (.none rfl) rfl ?_
    refine AD.takeP 7 rfl (by kernel_rfl) (RV.fieldAddr rfl) (.none rfl) rfl ?_
    refine AD.take 8 rfl (by kernel_rfl) (by first | exact RV.loadO rfl rfl (by simp) | exact RV.loadS rfl (by assumption) (by omega) (by simp)) (.none rfl) rfl ?_
    refine AD.takeP 9 rfl (by kernel_rfl) (RV.geq rfl rfl) (.none rfl) rfl ?_
    refine AD.done (by kernel_rfl) ?_
    refine AK.cond rfl ?_ ?_
    · intro hc3
      try simp only [decide_eq_true_eq, decide_eq_false_iff_not, Bool.not_eq_true', Bool.not_eq_false', beq_iff_eq] at hc3
      have hle := hnb hc1
      have hfull := hc3
      refine AK.region ?_
      refine AO.val (RV.move rfl) (.none rfl) rfl ?_
      refine AO.eff (EF.callF rfl (forget_spec B ((b7, _) :: pre) _ p bm (⟨s.size, s.rate, s.burst, tickM s now, s.l, s.c⟩ : MS) mi2 hk hst (by intro e; have e : s.l = [] := e; rw [e] at hfull; simp at hfull; omega))) (.none rfl) rfl ?_
      rintro _ _ ⟨xx, hxl, hxo, rfl⟩
      simp only [List.nil_append, List.cons_append]
      refine AO.nil ?_
      refine AK.region ?_
      refine AO.val (RV.move rfl) (.none rfl) rfl ?_
      refine AO.val (RV.nilCheck rfl) (.none rfl) rfl ?_
      refine AO.val (RV.fieldAddr rfl) (.none rfl) rfl ?_
      refine AO.val ((RV.loadO rfl rfl (by simp)).to (v' := .int .i64 (leftM s k now)) (by rw [hle])) (.none rfl) rfl ?_
      refine AO.val (RV.fieldAddr rfl) (.none rfl) rfl ?_
      refine AO.effN (EF.storeO rfl rfl rfl rfl rfl rfl) (.none rfl) ?_
      rintro _ _ rfl
      refine AO.nil ?_
      refine AK.seq ?_
      refine AK.region ?_
      refine AO.val (RV.fieldAddr rfl) (.none rfl) rfl ?_
      refine AO.val (by first | exact RV.loadO rfl rfl (by simp) | exact RV.loadS rfl (by assumption) (by omega) (by simp)) (.none rfl) rfl ?_
      refine AO.val (RV.gtr rfl rfl) (.none rfl) rfl ?_
      refine AO.val (RV.assign rfl) (.none rfl) rfl ?_
      refine AO.nil ?_
      refine AK.seq ?_
      refine AK.seq ?_
      refine AK.region ?_
      refine AO.val (RV.move rfl) (.none rfl) rfl ?_
      refine AO.nil ?_
      refine AK.cond rfl ?_ ?_
      · intro hc4
        try simp only [decide_eq_true_eq, decide_eq_false_iff_not, Bool.not_eq_true', Bool.not_eq_false', beq_iff_eq] at hc4
        refine AK.region ?_
        refine AO.val (RV.fieldAddr rfl) (.none rfl) rfl ?_
        refine AO.val (by first | exact RV.loadO rfl rfl (by simp) | exact RV.loadS rfl (by assumption) (by omega) (by simp)) (.none rfl) rfl ?_
        refine AO.val (by first | exact RV.subIn rfl rfl (by omega) | exact RV.sub rfl rfl) (.none rfl) rfl ?_
        refine AO.val (RV.fieldAddr rfl) (.none rfl) rfl ?_
        refine AO.effN (EF.storeO rfl rfl rfl rfl rfl rfl) (.none rfl) ?_
        rintro _ _ rfl
        refine AO.nil ?_
        refine AK.seq ?_
        refine AK.region ?_
        refine AO.val (RV.move rfl) (.none rfl) rfl ?_
        refine AO.val (RV.nilCheck rfl) (.none rfl) rfl ?_
        refine AO.val (RV.fieldAddr rfl) (.none rfl) rfl ?_
        refine AO.val (by first | exact RV.loadO rfl rfl (by simp) | exact RV.loadS rfl (by assumption) (by omega) (by simp)) (.none rfl) rfl ?_
        refine AO.val (RV.fieldAddr rfl) (.none rfl) rfl ?_
        refine AO.effN (EF.storeO rfl rfl rfl rfl rfl rfl) (.none rfl) ?_
        rintro _ _ rfl
        refine AO.nil ?_
        refine AK.seq ?_
        refine AK.draw [] [6] mixed ?_
        refine AD.takeP 0 rfl (by kernel_rfl) (RV.move rfl) (.none rfl) rfl ?_
        refine AD.takeP 1 rfl (by kernel_rfl) (RV.nilCheck rfl) (.none rfl) rfl ?_
        refine AD.takeP 2 rfl (by kernel_rfl) (RV.fieldAddr rfl) (.none rfl) rfl ?_
        refine AD.take 3 rfl (by kernel_rfl) (by first | exact RV.loadO rfl rfl (by simp) | exact RV.loadS rfl (by assumption) (by omega) (by simp)) (.none rfl) rfl ?_
        refine AD.takeP 4 rfl (by kernel_rfl) (RV.move rfl) (.none rfl) rfl ?_
        refine AD.take 5 rfl (by kernel_rfl) (by first | exact RV.loadAggO rfl rfl (by simp) | exact RV.loadAggP rfl rfl rfl (by simp)) (.none rfl) rfl ?_
        refine AD.one 6 (by kernel_rfl) (AE.effN rfl (EF.mapUpdate ((leftM s k now - 1, tickM s now)) rfl rfl rfl) (.none rfl) ?_)
        rintro _ _ rfl
        refine ⟨.inl (by kernel_rfl), ?_⟩
        refine AD.done (by kernel_rfl) ?_
        refine AK.seq ?_
        refine AK.region ?_
        refine AO.val (RV.move rfl) (.none rfl) rfl ?_
        refine AO.val (RV.assign rfl) (.none rfl) rfl ?_
        refine AO.nil ?_
        -- at FTT
        refine AK.ret (h' := pre ++ ((p, Blk.cells [.int .i64 ((⟨s.size, s.rate, s.burst, tickM s now, updT (delT s.l xx.1) s.c k (leftM s k now - 1, tickM s now), clkT (delT s.l xx.1) s.c k⟩ : MS)).size, .int .i64 ((⟨s.size, s.rate, s.burst, tickM s now, updT (delT s.l xx.1) s.c k (leftM s k now - 1, tickM s now), clkT (delT s.l xx.1) s.c k⟩ : MS)).rate, .int .i64 ((⟨s.size, s.rate, s.burst, tickM s now, updT (delT s.l xx.1) s.c k (leftM s k now - 1, tickM s now), clkT (delT s.l xx.1) s.c k⟩ : MS)).burst, .int .i64 ((⟨s.size, s.rate, s.burst, tickM s now, updT (delT s.l xx.1) s.c k (leftM s k now - 1, tickM s now), clkT (delT s.l xx.1) s.c k⟩ : MS)).now, .map (some bm)] 48 (0, 0)) :: (bm, mapB .u32 evB ((⟨s.size, s.rate, s.burst, tickM s now, updT (delT s.l xx.1) s.c k (leftM s k now - 1, tickM s now), clkT (delT s.l xx.1) s.c k⟩ : MS)).l ((⟨s.size, s.rate, s.burst, tickM s now, updT (delT s.l xx.1) s.c k (leftM s k now - 1, tickM s now), clkT (delT s.l xx.1) s.c k⟩ : MS)).c) :: h)) Try.func8 (.tmp rfl .nil) ?_ (List.Sublist.cons _ (List.Sublist.refl _))
        have e : nextM s k now (delT s.l xx.1) s.c = (⟨s.size, s.rate, s.burst, tickM s now, updT (delT s.l xx.1) s.c k (leftM s k now - 1, tickM s now), clkT (delT s.l xx.1) s.c k⟩ : MS) := by unfold nextM; rw [if_pos (by omega)]
        refine ⟨by first | (simp [oneOr]; done) | (simp [oneOr]; omega), (delT s.l xx.1), .inr ⟨by simpa using hc1, by omega, xx, hxl, hxo, rfl⟩, ?_⟩
        rw [e]
      · intro hc4
        try simp only [decide_eq_true_eq, decide_eq_false_iff_not, Bool.not_eq_true', Bool.not_eq_false', beq_iff_eq] at hc4
        refine AK.skip ?_
        refine AK.seq ?_
        refine AK.region ?_
        refine AO.val (RV.move rfl) (.none rfl) rfl ?_
        refine AO.val (RV.nilCheck rfl) (.none rfl) rfl ?_
        refine AO.val (RV.fieldAddr rfl) (.none rfl) rfl ?_
        refine AO.val (by first | exact RV.loadO rfl rfl (by simp) | exact RV.loadS rfl (by assumption) (by omega) (by simp)) (.none rfl) rfl ?_
        refine AO.val (RV.fieldAddr rfl) (.none rfl) rfl ?_
        refine AO.effN (EF.storeO rfl rfl rfl rfl rfl rfl) (.none rfl) ?_
        rintro _ _ rfl
        refine AO.nil ?_
        refine AK.seq ?_
        refine AK.draw [] [6] mixed ?_
        refine AD.takeP 0 rfl (by kernel_rfl) (RV.move rfl) (.none rfl) rfl ?_
        refine AD.takeP 1 rfl (by kernel_rfl) (RV.nilCheck rfl) (.none rfl) rfl ?_
        refine AD.takeP 2 rfl (by kernel_rfl) (RV.fieldAddr rfl) (.none rfl) rfl ?_
        refine AD.take 3 rfl (by kernel_rfl) (by first | exact RV.loadO rfl rfl (by simp) | exact RV.loadS rfl (by assumption) (by omega) (by simp)) (.none rfl) rfl ?_
        refine AD.takeP 4 rfl (by kernel_rfl) (RV.move rfl) (.none rfl) rfl ?_
        refine AD.take 5 rfl (by kernel_rfl) (by first | exact RV.loadAggO rfl rfl (by simp) | exact RV.loadAggP rfl rfl rfl (by simp)) (.none rfl) rfl ?_
        refine AD.one 6 (by kernel_rfl) (AE.effN rfl (EF.mapUpdate ((leftM s k now, tickM s now)) rfl rfl rfl) (.none rfl) ?_)
        rintro _ _ rfl
        refine ⟨.inl (by kernel_rfl), ?_⟩
        refine AD.done (by kernel_rfl) ?_
        refine AK.seq ?_
        refine AK.region ?_
        refine AO.val (RV.move rfl) (.none rfl) rfl ?_
        refine AO.val (RV.assign rfl) (.none rfl) rfl ?_
        refine AO.nil ?_
        -- at FTF
        refine AK.ret (h' := pre ++ ((p, Blk.cells [.int .i64 ((⟨s.size, s.rate, s.burst, tickM s now, updT (delT s.l xx.1) s.c k (leftM s k now, tickM s now), clkT (delT s.l xx.1) s.c k⟩ : MS)).size, .int .i64 ((⟨s.size, s.rate, s.burst, tickM s now, updT (delT s.l xx.1) s.c k (leftM s k now, tickM s now), clkT (delT s.l xx.1) s.c k⟩ : MS)).rate, .int .i64 ((⟨s.size, s.rate, s.burst, tickM s now, updT (delT s.l xx.1) s.c k (leftM s k now, tickM s now), clkT (delT s.l xx.1) s.c k⟩ : MS)).burst, .int .i64 ((⟨s.size, s.rate, s.burst, tickM s now, updT (delT s.l xx.1) s.c k (leftM s k now, tickM s now), clkT (delT s.l xx.1) s.c k⟩ : MS)).now, .map (some bm)] 48 (0, 0)) :: (bm, mapB .u32 evB ((⟨s.size, s.rate, s.burst, tickM s now, updT (delT s.l xx.1) s.c k (leftM s k now, tickM s now), clkT (delT s.l xx.1) s.c k⟩ : MS)).l ((⟨s.size, s.rate, s.burst, tickM s now, updT (delT s.l xx.1) s.c k (leftM s k now, tickM s now), clkT (delT s.l xx.1) s.c k⟩ : MS)).c) :: h)) Try.func8 (.tmp rfl .nil) ?_ (List.Sublist.cons _ (List.Sublist.refl _))
        have e : nextM s k now (delT s.l xx.1) s.c = (⟨s.size, s.rate, s.burst, tickM s now, updT (delT s.l xx.1) s.c k (leftM s k now, tickM s now), clkT (delT s.l xx.1) s.c k⟩ : MS) := by unfold nextM; rw [if_neg (by omega)]
        refine ⟨by first | (simp [oneOr]; done) | (simp [oneOr]; omega), (delT s.l xx.1), .inr ⟨by simpa using hc1, by omega, xx, hxl, hxo, rfl⟩, ?_⟩
        rw [e]
    · intro hc3
      try simp only [decide_eq_true_eq, decide_eq_false_iff_not, Bool.not_eq_true', Bool.not_eq_false', beq_iff_eq] at hc3
      have hle := hnb hc1
      refine AK.skip ?_
      refine AK.region ?_
      refine AO.val (RV.move rfl) (.none rfl) rfl ?_
      refine AO.val (RV.nilCheck rfl) (.none rfl) rfl ?_
      refine AO.val (RV.fieldAddr rfl) (.none rfl) rfl ?_
      refine AO.val ((RV.loadO rfl rfl (by simp)).to (v' := .int .i64 (leftM s k now)) (by rw [hle])) (.none rfl) rfl ?_
      refine AO.val (RV.fieldAddr rfl) (.none rfl) rfl ?_
      refine AO.effN (EF.storeO rfl rfl rfl rfl rfl rfl) (.none rfl) ?_
      rintro _ _ rfl
      refine AO.nil ?_
      refine AK.seq ?_
      refine AK.region ?_
      refine AO.val (RV.fieldAddr rfl) (.none rfl) rfl ?_
      refine AO.val (by first | exact RV.loadO rfl rfl (by simp) | exact RV.loadS rfl (by assumption) (by omega) (by simp)) (.none rfl) rfl ?_
      refine AO.val (RV.gtr rfl rfl) (.none rfl) rfl ?_
      refine AO.val (RV.assign rfl) (.none rfl) rfl ?_
      refine AO.nil ?_
      refine AK.seq ?_
      refine AK.seq ?_
      refine AK.region ?_
      refine AO.val (RV.move rfl) (.none rfl) rfl ?_
      refine AO.nil ?_
      refine AK.cond rfl ?_ ?_
      · intro hc5
        try simp only [decide_eq_true_eq, decide_eq_false_iff_not, Bool.not_eq_true', Bool.not_eq_false', beq_iff_eq] at hc5
        refine AK.region ?_
        refine AO.val (RV.fieldAddr rfl) (.none rfl) rfl ?_
        refine AO.val (by first | exact RV.loadO rfl rfl (by simp) | exact RV.loadS rfl (by assumption) (by omega) (by simp)) (.none rfl) rfl ?_
        refine AO.val (by first | exact RV.subIn rfl rfl (by omega) | exact RV.sub rfl rfl) (.none rfl) rfl ?_
        refine AO.val (RV.fieldAddr rfl) (.none rfl) rfl ?_
        refine AO.effN (EF.storeO rfl rfl rfl rfl rfl rfl) (.none rfl) ?_
        rintro _ _ rfl
        refine AO.nil ?_
        refine AK.seq ?_
        refine AK.region ?_
        refine AO.val (RV.move rfl) (.none rfl) rfl ?_
        refine AO.val (RV.nilCheck rfl) (.none rfl) rfl ?_
        refine AO.val (RV.fieldAddr rfl) (.none rfl) rfl ?_
        refine AO.val (by first | exact RV.loadO rfl rfl (by simp) | exact RV.loadS rfl (by assumption) (by omega) (by simp)) (.none rfl) rfl ?_
        refine AO.val (RV.fieldAddr rfl) (.none rfl) rfl ?_
        refine AO.effN (EF.storeO rfl rfl rfl rfl rfl rfl) (.none rfl) ?_
        rintro _ _ rfl
        refine AO.nil ?_
        refine AK.seq ?_
        refine AK.draw [] [6] mixed ?_
        refine AD.takeP 0 rfl (by kernel_rfl) (RV.move rfl) (.none rfl) rfl ?_
        refine AD.takeP 1 rfl (by kernel_rfl) (RV.nilCheck rfl) (.none rfl) rfl ?_
        refine AD.takeP 2 rfl (by kernel_rfl) (RV.fieldAddr rfl) (.none rfl) rfl ?_
        refine AD.take 3 rfl (by kernel_rfl) (by first | exact RV.loadO rfl rfl (by simp) | exact RV.loadS rfl (by assumption) (by omega) (by simp)) (.none rfl) rfl ?_
        refine AD.takeP 4 rfl (by kernel_rfl) (RV.move rfl) (.none rfl) rfl ?_
        refine AD.take 5 rfl (by kernel_rfl) (by first | exact RV.loadAggO rfl rfl (by simp) | exact RV.loadAggP rfl rfl rfl (by simp)) (.none rfl) rfl ?_
        refine AD.one 6 (by kernel_rfl) (AE.effN rfl (EF.mapUpdate ((leftM s k now - 1, tickM s now)) rfl rfl rfl) (.none rfl) ?_)
        rintro _ _ rfl
        refine ⟨.inl (by kernel_rfl), ?_⟩
        refine AD.done (by kernel_rfl) ?_
        refine AK.seq ?_
        refine AK.region ?_
        refine AO.val (RV.move rfl) (.none rfl) rfl ?_
        refine AO.val (RV.assign rfl) (.none rfl) rfl ?_
        refine AO.nil ?_
        -- at FFT
        refine AK.ret (h' := pre ++ ((p, Blk.cells [.int .i64 ((⟨s.size, s.rate, s.burst, tickM s now, updT s.l s.c k (leftM s k now - 1, tickM s now), clkT s.l s.c k⟩ : MS)).size, .int .i64 ((⟨s.size, s.rate, s.burst, tickM s now, updT s.l s.c k (leftM s k now - 1, tickM s now), clkT s.l s.c k⟩ : MS)).rate, .int .i64 ((⟨s.size, s.rate, s.burst, tickM s now, updT s.l s.c k (leftM s k now - 1, tickM s now), clkT s.l s.c k⟩ : MS)).burst, .int .i64 ((⟨s.size, s.rate, s.burst, tickM s now, updT s.l s.c k (leftM s k now - 1, tickM s now), clkT s.l s.c k⟩ : MS)).now, .map (some bm)] 48 (0, 0)) :: (bm, mapB .u32 evB ((⟨s.size, s.rate, s.burst, tickM s now, updT s.l s.c k (leftM s k now - 1, tickM s now), clkT s.l s.c k⟩ : MS)).l ((⟨s.size, s.rate, s.burst, tickM s now, updT s.l s.c k (leftM s k now - 1, tickM s now), clkT s.l s.c k⟩ : MS)).c) :: h)) Try.func8 (.tmp rfl .nil) ?_ (List.Sublist.cons _ (List.Sublist.refl _))
        have e : nextM s k now s.l s.c = (⟨s.size, s.rate, s.burst, tickM s now, updT s.l s.c k (leftM s k now - 1, tickM s now), clkT s.l s.c k⟩ : MS) := by unfold nextM; rw [if_pos (by omega)]
        refine ⟨by first | (simp [oneOr]; done) | (simp [oneOr]; omega), s.l, .inl ⟨.inr (by omega), rfl⟩, ?_⟩
        rw [e]
      · intro hc5
        try simp only [decide_eq_true_eq, decide_eq_false_iff_not, Bool.not_eq_true', Bool.not_eq_false', beq_iff_eq] at hc5
        refine AK.skip ?_
        refine AK.seq ?_
        refine AK.region ?_
        refine AO.val (RV.move rfl) (.none rfl) rfl ?_
        refine AO.val (RV.nilCheck rfl) (.none rfl) rfl ?_
        refine AO.val (RV.fieldAddr rfl) (.none rfl) rfl ?_
        refine AO.val (by first | exact RV.loadO rfl rfl (by simp) | exact RV.loadS rfl (by assumption) (by omega) (by simp)) (.none rfl) rfl ?_
        refine AO.val (RV.fieldAddr rfl) (.none rfl) rfl ?_
        refine AO.effN (EF.storeO rfl rfl rfl rfl rfl rfl) (.none rfl) ?_
        rintro _ _ rfl
        refine AO.nil ?_
        refine AK.seq ?_
        refine AK.draw [] [6] mixed ?_
        refine AD.takeP 0 rfl (by kernel_rfl) (RV.move rfl) (.none rfl) rfl ?_
        refine AD.takeP 1 rfl (by kernel_rfl) (RV.nilCheck rfl) (.none rfl) rfl ?_
        refine AD.takeP 2 rfl (by kernel_rfl) (RV.fieldAddr rfl) (.none rfl) rfl ?_
        refine AD.take 3 rfl (by kernel_rfl) (by first | exact RV.loadO rfl rfl (by simp) | exact RV.loadS rfl (by assumption) (by omega) (by simp)) (.none rfl) rfl ?_
        refine AD.takeP 4 rfl (by kernel_rfl) (RV.move rfl) (.none rfl) rfl ?_
        refine AD.take 5 rfl (by kernel_rfl) (by first | exact RV.loadAggO rfl rfl (by simp) | exact RV.loadAggP rfl rfl rfl (by simp)) (.none rfl) rfl ?_
        refine AD.one 6 (by kernel_rfl) (AE.effN rfl (EF.mapUpdate ((leftM s k now, tickM s now)) rfl rfl rfl) (.none rfl) ?_)
        rintro _ _ rfl
        refine ⟨.inl (by kernel_rfl), ?_⟩
        refine AD.done (by kernel_rfl) ?_
        refine AK.seq ?_
        refine AK.region ?_
        refine AO.val (RV.move rfl) (.none rfl) rfl ?_
        refine AO.val (RV.assign rfl) (.none rfl) rfl ?_
        refine AO.nil ?_
        -- at FFF
        refine AK.ret (h' := pre ++ ((p, Blk.cells [.int .i64 ((⟨s.size, s.rate, s.burst, tickM s now, updT s.l s.c k (leftM s k now, tickM s now), clkT s.l s.c k⟩ : MS)).size, .int .i64 ((⟨s.size, s.rate, s.burst, tickM s now, updT s.l s.c k (leftM s k now, tickM s now), clkT s.l s.c k⟩ : MS)).rate, .int .i64 ((⟨s.size, s.rate, s.burst, tickM s now, updT s.l s.c k (leftM s k now, tickM s now), clkT s.l s.c k⟩ : MS)).burst, .int .i64 ((⟨s.size, s.rate, s.burst, tickM s now, updT s.l s.c k (leftM s k now, tickM s now), clkT s.l s.c k⟩ : MS)).now, .map (some bm)] 48 (0, 0)) :: (bm, mapB .u32 evB ((⟨s.size, s.rate, s.burst, tickM s now, updT s.l s.c k (leftM s k now, tickM s now), clkT s.l s.c k⟩ : MS)).l ((⟨s.size, s.rate, s.burst, tickM s now, updT s.l s.c k (leftM s k now, tickM s now), clkT s.l s.c k⟩ : MS)).c) :: h)) Try.func8 (.tmp rfl .nil) ?_ (List.Sublist.cons _ (List.Sublist.refl _))
        have e : nextM s k now s.l s.c = (⟨s.size, s.rate, s.burst, tickM s now, updT s.l s.c k (leftM s k now, tickM s now), clkT s.l s.c k⟩ : MS) := by unfold nextM; rw [if_neg (by omega)]
        refine ⟨by first | (simp [oneOr]; done) | (simp [oneOr]; omega), s.l, .inl ⟨.inr (by omega), rfl⟩, ?_⟩
        rw [e]

end Go.Proofs.Ytdefjkokbffccaa
