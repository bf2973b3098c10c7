/- Walks through the code: what each function that is named here gives back, from any memory that holds its arguments. Written by a program of the claim's author, out of the program's form in Lean. -/
import Derived.Test.YtpmfnjgbckdmoaaW2
import Derived.Test.YtpmfnjgbckdmoaaSep10
set_option linter.unusedSimpArgs false
set_option linter.unusedVariables false
namespace Go.Proofs.Ytpmfnjgbckdmoaa
open Go.Sep Go.Sep.Sip Go.Sep.Perm Go.RowKit Go.WideShapes Go.ChangeShapes

theorem once_law (B : World) (h : Own) (lo hi id m : Int) (hid : -9223372036854775808 ≤ id ∧ id ≤ 9223372036854775807) : Tri Try.prog B 3 [.agg #[.int .u64 lo, .int .u64 hi], .int .i64 id, .int .i64 m] h fun v h' => v = .bool true := by
  refine Tri.enter (n := 58) Try.func3 rfl rfl rfl ?_
  simp only [argsE, Nat.reduceAdd]
  try dsimp only [argsE]
  refine AK.seq ?_
  refine AK.region ?_
  refine AO.eff (EF.box rfl rfl) (.none rfl) rfl ?_
  rintro _ _ ⟨b3, hf3, rfl, rfl⟩
  refine AO.val (RV.assign rfl) (.none rfl) rfl ?_
  refine AO.nil ?_
  refine AK.seq ?_
  refine AK.seq ?_
  refine AK.region ?_
  refine AO.val (RV.move rfl) (.none rfl) rfl ?_
  refine AO.eff (EF.callF rfl (rprime_spec B _ _)) (.none rfl) rfl ?_
  rintro _ _ ⟨rfl, rfl⟩
  refine AO.val (RV.not rfl) (.none rfl) rfl ?_
  refine AO.nil ?_
  refine AK.cond rfl ?_ ?_
  · intro hc1
    try simp only [decide_eq_true_eq, decide_eq_false_iff_not, Bool.not_eq_true', Bool.not_eq_false', beq_iff_eq] at hc1
    refine AK.seq ?_
    refine AK.region ?_
    refine AO.eff (EF.callF rfl (lives_spec B _)) (.none rfl) rfl ?_
    rintro _ _ ⟨rfl, rfl⟩
    refine AO.val (RV.assign rfl) (.none rfl) rfl ?_
    refine AO.nil ?_
    -- at T
    refine AK.ret (h' := []) Try.func3 (.tmp rfl .nil) ?_ (List.nil_sublist _)
    rfl
  · intro hc1
    try simp only [decide_eq_true_eq, decide_eq_false_iff_not, Bool.not_eq_true', Bool.not_eq_false', beq_iff_eq] at hc1
    have hst := start_in lo hi id hc1
    have hrl : ((rowS lo hi id m).length : Int) = m := by simp [rowS, hc1, rowK_len]; omega
    refine AK.skip ?_
    refine AK.seq ?_
    refine AK.region ?_
    refine AO.val (by first | exact RV.loadAggO rfl rfl (by simp) | exact RV.loadAggP rfl rfl rfl (by simp)) (.none rfl) rfl ?_
    refine AO.val (RV.move rfl) (.none rfl) rfl ?_
    refine AO.val (RV.move rfl) (.none rfl) rfl ?_
    refine AO.eff (EF.callF rfl (row_spec B _ lo hi id m hid)) (.none rfl) rfl ?_
    rintro _ _ ⟨A17, c17, p17, rfl, hr17, hc17, rfl⟩
    have hsrc : Src B p17 A17 (rowS lo hi id m).length 1 ((rowS lo hi id m).map (fun x => Value.int .i64 x)) := hr17.src (fun x hx => hx)
    refine AO.val (RV.assign rfl) (.none rfl) rfl ?_
    refine AO.nil ?_
    refine AK.seq ?_
    refine AK.region ?_
    refine AO.eff (EF.makeMap (α := Bool) .i64 (Value.bool)) (.none rfl) rfl ?_
    rintro _ _ ⟨b18, hf18, rfl, rfl⟩
    refine AO.val (RV.assign rfl) (.none rfl) rfl ?_
    refine AO.nil ?_
    refine AK.seq ?_
    refine AK.seq ?_
    refine AK.region ?_
    refine AO.val (RV.assign rfl) (.none rfl) rfl ?_
    refine AO.nil ?_
    refine AK.block ?_
    refine AK.loop (α := Int × List (Ent Bool) × Nat) (E := fun (i, l, c) => [(2, .int .i64 m), (7, .slice A17 (rowS lo hi id m).length c17), (8, .map (some b18)), (9, .int .i64 i)]) (H := fun (i, l, c) => (b18, mapB .i64 Value.bool l c) :: (p17 ++ h)) (Inv := fun (i, l, c) => 0 ≤ i ∧ i ≤ m ∧ (l.length : Int) = i ∧ ∀ x, (findT l x).isSome = true ↔ ∃ j, 0 ≤ j ∧ j < i ∧ lget (rowS lo hi id m) j = x) (μ := fun (i, l, c) => (m - i).toNat) (0, [], 0) ?_ (.cons (by exact rfl) (.cons (by exact rfl) (.cons (by exact rfl) (.cons (by exact rfl) .nil)))) ?_ ?_
    · exact ⟨by omega, by omega, rfl, fun x => ⟨by simp [findT], by rintro ⟨j, h1, h2, _⟩; omega⟩⟩
    · exact .cons_cons _ (List.Sublist.append_left (List.sublist_cons_self _ _) _)
    rintro ⟨i, l, c⟩ ⟨hi0, him, hlen, hmem⟩ hih0
    try dsimp only at hih0 ⊢
    refine AK.seq ?_
    refine AK.seq ?_
    refine AK.region ?_
    refine AO.val (RV.move rfl) (.none rfl) rfl ?_
    refine AO.val (RV.move rfl) (.none rfl) rfl ?_
    refine AO.val (RV.lenS rfl) (.none rfl) rfl ?_
    refine AO.val (RV.lss rfl rfl) (.none rfl) rfl ?_
    refine AO.nil ?_
    refine AK.cond rfl ?_ ?_
    · intro hc2
      try simp only [decide_eq_true_eq, decide_eq_false_iff_not, Bool.not_eq_true', Bool.not_eq_false', beq_iff_eq] at hc2
      have hmi : 0 ≤ (lget (rowS lo hi id m) i) ∧ (lget (rowS lo hi id m) i) < m := by rw [lget_row hc1 i hi0 (by omega)]; exact ⟨Int.emod_nonneg _ (by omega), Int.emod_lt_of_pos _ (by omega)⟩
      have hnew : findT l (lget (rowS lo hi id m) i) = none := by
        cases hf : findT l (lget (rowS lo hi id m) i) with
        | none => rfl
        | some b =>
          obtain ⟨j, hj0, hj1, hj2⟩ := (hmem _).1 (by rw [hf]; rfl)
          exfalso
          rw [lget_row hc1 i hi0 (by omega), lget_row hc1 j hj0 (by omega)] at hj2
          have := row_ne (lo := lo) (hi := hi) (id := id) hc1 (i := j.toNat) (j := i.toNat) (by omega) (by omega)
          rw [Int.toNat_of_nonneg hj0, Int.toNat_of_nonneg hi0] at this
          exact this hj2
      refine AK.skip ?_
      refine AK.seq ?_
      refine AK.block ?_
      refine AK.seq ?_
      refine AK.seq ?_
      refine AK.region ?_
      refine AO.val (RV.move rfl) (.none rfl) rfl ?_
      refine AO.val (RV.move rfl) (.none rfl) rfl ?_
      refine AO.val (by first | exact RV.indexS rfl rfl (by assumption) (by omega) rfl | exact RV.indexAddr rfl rfl (by omega)) (.none rfl) rfl ?_
      refine AO.val (RV.loadS (enc := Value.int .i64) (l := rowS lo hi id m) rfl hsrc (by omega) (by simp)) (.none rfl) rfl ?_
      refine AO.val ((RV.lss rfl rfl).to (v' := .bool false) (by simp; omega)) (.none rfl) rfl ?_
      refine AO.val (RV.move rfl) (.none rfl) rfl ?_
      refine AO.val (RV.move rfl) (.some rfl rfl rfl rfl) rfl ?_
      refine AO.val (RV.move rfl) (.some rfl rfl rfl rfl) rfl ?_
      refine AO.val (by first | exact RV.indexS rfl rfl (by assumption) (by omega) rfl | exact RV.indexAddr rfl rfl (by omega)) (.some rfl rfl rfl rfl) rfl ?_
      refine AO.val (RV.loadS (enc := Value.int .i64) (l := rowS lo hi id m) rfl hsrc (by omega) (by simp)) (.some rfl rfl rfl rfl) rfl ?_
      refine AO.val (RV.move rfl) (.some rfl rfl rfl rfl) rfl ?_
      refine AO.val ((RV.geq rfl rfl).to (v' := .bool false) (by simp; omega)) (.some rfl rfl rfl rfl) rfl ?_
      refine AO.val (RV.pickF rfl rfl) (.none rfl) rfl ?_
      refine AO.val (RV.move rfl) (.none rfl) rfl ?_
      refine AO.val (RV.move rfl) (.some rfl rfl rfl rfl) rfl ?_
      refine AO.val (RV.move rfl) (.some rfl rfl rfl rfl) rfl ?_
      refine AO.val (RV.move rfl) (.some rfl rfl rfl rfl) rfl ?_
      refine AO.val (by first | exact RV.indexS rfl rfl (by assumption) (by omega) rfl | exact RV.indexAddr rfl rfl (by omega)) (.some rfl rfl rfl rfl) rfl ?_
      refine AO.val (RV.loadS (enc := Value.int .i64) (l := rowS lo hi id m) rfl hsrc (by omega) (by simp)) (.some rfl rfl rfl rfl) rfl ?_
      refine AO.val ((RV.lookup false rfl rfl rfl (by simp)).to (v' := .bool false) (by rw [hnew]; rfl)) (.some rfl rfl rfl rfl) rfl ?_
      refine AO.val (RV.pickF rfl rfl) (.none rfl) rfl ?_
      refine AO.nil ?_
      refine AK.condF rfl ?_
      refine AK.skip ?_
      refine AK.region ?_
      refine AO.val (RV.move rfl) (.none rfl) rfl ?_
      refine AO.val (RV.move rfl) (.none rfl) rfl ?_
      refine AO.val (RV.move rfl) (.none rfl) rfl ?_
      refine AO.val (by first | exact RV.indexS rfl rfl (by assumption) (by omega) rfl | exact RV.indexAddr rfl rfl (by omega)) (.none rfl) rfl ?_
      refine AO.val (RV.loadS (enc := Value.int .i64) (l := rowS lo hi id m) rfl hsrc (by omega) (by simp)) (.none rfl) rfl ?_
      refine AO.effN (EF.mapUpdate (_) rfl rfl rfl) (.none rfl) ?_
      rintro _ _ rfl
      refine AO.nil ?_
      refine AK.inBlock ?_
      refine AK.region ?_
      refine AO.val (RV.move rfl) (.none rfl) rfl ?_
      refine AO.val (by first | exact RV.addIn rfl rfl (by omega) | exact RV.add rfl rfl) (.none rfl) rfl ?_
      refine AO.val (RV.assign rfl) (.none rfl) rfl ?_
      refine AO.nil ?_
      -- round ends at FL0T
      refine AK.weak (.cons (by exact rfl) (.cons (by exact rfl) (.cons (by exact rfl) (.cons (by exact rfl) .nil)))) (by first | exact SubO.sub | exact List.Sublist.refl _ | exact .cons _ (List.Sublist.refl _) | exact .cons _ (.cons _ (List.Sublist.refl _)) | exact .cons _ (.cons _ (.cons _ (List.Sublist.refl _)))) (hih0 (i + 1, updT l c (lget (rowS lo hi id m) i) true, clkT l c (lget (rowS lo hi id m) i)) ?_ ?_)
      · try dsimp only
        refine ⟨by omega, by omega, ?_, fun x => ?_⟩
        · rw [len_upd, hnew]; simp; omega
        · rw [findT_upd]
          by_cases hx : x = (lget (rowS lo hi id m) i)
          · rw [if_pos hx]; simp only [Option.isSome_some, true_iff]; exact ⟨i, hi0, by omega, hx.symm⟩
          · rw [if_neg hx, hmem]
            constructor
            · rintro ⟨j, h1, h2, h3⟩; exact ⟨j, h1, by omega, h3⟩
            · rintro ⟨j, h1, h2, h3⟩
              refine ⟨j, h1, ?_, h3⟩
              rcases Int.lt_or_le j i with h | h
              · exact h
              · exfalso; apply hx; rw [← h3, show j = i by omega]
      · try dsimp only
        omega
    · intro hc2
      try simp only [decide_eq_true_eq, decide_eq_false_iff_not, Bool.not_eq_true', Bool.not_eq_false', beq_iff_eq] at hc2
      refine AK.exit rfl ?_
      refine AK.seq ?_
      refine AK.region ?_
      refine AO.val (RV.move rfl) (.none rfl) rfl ?_
      refine AO.val (RV.lenM rfl (by simp)) (.none rfl) rfl ?_
      refine AO.val (RV.move rfl) (.none rfl) rfl ?_
      refine AO.val ((RV.eql rfl rfl).to (v' := .bool true) (by simp; omega)) (.none rfl) rfl ?_
      refine AO.val (RV.move rfl) (.none rfl) rfl ?_
      refine AO.eff (EF.callF rfl (lives_spec B _)) (.some rfl rfl rfl rfl) rfl ?_
      rintro _ _ ⟨rfl, rfl⟩
      refine AO.val (RV.pickT rfl rfl) (.none rfl) rfl ?_
      refine AO.val (RV.assign rfl) (.none rfl) rfl ?_
      refine AO.nil ?_
      -- at FL0F
      clear hih0
      refine AK.ret (h' := []) Try.func3 (.tmp rfl .nil) ?_ (List.nil_sublist _)
      rfl

set_option maxRecDepth 100000 in
theorem permOnce_lifted (os : Os) (started : os.Started) (H : Type) (enc : TypeId × Value → H) :
    ReturnsInHanded {} Try.checked os 3 .any (Rows.permOnceSpec.pre6 enc Try.prog Try.f3 Rows.permOnceRow.domain false) (Rows.permOnceSpec.post enc Try.prog Try.f3 false true false false) := by
  refine returnsInHanded_of_change (C := Try.checked) own_ started (by kernel_rfl) Try.func3
    (ChangeSpec.witness6 (enc := enc) (C := Try.checked) false ⟨#[], #[(Value.agg #[(Value.int IntKind.u64 0), (Value.int IntKind.u64 0)]), (Value.int IntKind.i64 0), (Value.int IntKind.i64 0)], []⟩ 8 (by kernel_rfl) (by kernel_rfl) (by kernel_rfl) (by kernel_rfl)) ?_
  intro W base args ds gs before hval0 hW hcnd _
  have hval : ∀ (j : Nat) t v, Try.f3.params[j]? = some t → args[j]? = some v → Value.okWide Try.prog W .any base t v := hval0
  have hW' := hW
  obtain ⟨p, q, hA0, hV, rfl, hfz, hnd⟩ := hW
  have hA : DataW.TrodAll enc Try.prog W 0 (fun _ => true) true Try.f3.params.toList args.toList ds p := hA0
  rw [Try.params3] at hA hval
  obtain ⟨args⟩ := args
  simp only at hA
  obtain ⟨v0, vs0, d0, ds0, p0, q0, e0a, e0b, e0c, t0, r0⟩ := trodAll_cons hA
  obtain ⟨v1, vs1, d1, ds1, p1, q1, e1a, e1b, e1c, t1, r1⟩ := trodAll_cons r0
  obtain ⟨v2, vs2, d2, ds2, p2, q2, e2a, e2b, e2c, t2, r2⟩ := trodAll_cons r1
  subst e0a e0b e0c
  subst e1a e1b e1c
  subst e2a e2b e2c
  obtain ⟨rfl, rfl, rfl⟩ := trodAll_nil r2
  obtain ⟨rfl, rfl⟩ := trodVars_none hV
  have hlt := hW'.lt
  have k0 : Value.okWide Try.prog W .any base 24 v0 := hval 0 _ v0 rfl rfl
  obtain ⟨k, w0, hk⟩ := Dec.argA k0 t0 ((.cons (off := 0) (sz := 1) (by rfl) (by kernel_rfl) (Dec.int (t := 22) (k := .u64)) (.cons (off := 1) (sz := 1) (by rfl) (by kernel_rfl) (Dec.int (t := 22) (k := .u64)) .nil))) (by kernel_rfl)
  have k1 : Value.okWide Try.prog W .any base 3 v1 := hval 1 _ v1 rfl rfl
  obtain ⟨id, w1, id_lo, id_hi⟩ := Dec.argI k1 t1
  have k2 : Value.okWide Try.prog W .any base 3 v2 := hval 2 _ v2 rfl rfl
  obtain ⟨m, w2, m_lo, m_hi⟩ := Dec.argI k2 t2
  have htri : Tri Try.prog W 3 [v0, v1, v2] [] (fun v _ => v = .bool true) := by
    subst w0 w1 w2
    exact once_law W [] k.1 k.2.1 id m ⟨id_lo, id_hi⟩
  clear w0 w1 w2
  refine (htri.run W (Models.start W)).mono fun e W' ⟨v, h2, he, m2, hv⟩ => ?_
  subst he; subst hv
  have hb := m2.below
  refine ⟨_, rfl, post_of_below (pa := (p0 ++ (p1 ++ (p2 ++ ([]))))) (pv := []) hW' (fun _ _ _ => trodAll_mk1 (shut_bool (Try.underlying4) true)) (fun sp hsp => ?_) (fun _ _ => rfl) rfl hb (ok_one (t := 4) (by kernel_rfl) rfl ?_)⟩
  · refine TAcons (WideElems.Trod_stays laidOut_ (by kernel_rfl) (of_decide_eq_true (by kernel_rfl)) t0 (fun x hx => hb.same (hlt x (by simp [hx]))) (fun x hx => hsp x (by simp [hx]))) ?_
    refine TAcons (WideElems.Trod_stays laidOut_ (by kernel_rfl) (of_decide_eq_true (by kernel_rfl)) t1 (fun x hx => hb.same (hlt x (by simp [hx]))) (fun x hx => hsp x (by simp [hx]))) ?_
    refine TAcons (WideElems.Trod_stays laidOut_ (by kernel_rfl) (of_decide_eq_true (by kernel_rfl)) t2 (fun x hx => hb.same (hlt x (by simp [hx]))) (fun x hx => hsp x (by simp [hx]))) ?_
    rfl
  · exact okBool Try.underlying4

theorem permOnce_holds : Rows.PermOnceSaid :=
  OpenClaim.holds_of_wide 3 Try.f3 rfl rfl rfl rfl rfl rfl rfl ⟨rfl, rfl, rfl, rfl, rfl⟩ rfl rfl rfl rfl rfl (by kernel_rfl) Try.func3 (by kernel_rfl)
    (of_decide_eq_true (by kernel_rfl)) (by unfold Func.isWrapper; first | (rw [if_pos (by decide +kernel)]; kernel_rfl) | (rw [if_neg (by decide +kernel)]; exact ⟨rfl, rfl⟩))
    (fun os started H enc _ => permOnce_lifted os started H enc)

end Go.Proofs.Ytpmfnjgbckdmoaa
