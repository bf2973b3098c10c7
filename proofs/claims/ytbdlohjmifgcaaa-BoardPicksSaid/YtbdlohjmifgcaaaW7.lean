/- Walks through the code: what each function that is named here gives back, from any memory that holds its arguments. Written by a program of the claim's author, out of the program's form in Lean. -/
import Derived.Test.YtbdlohjmifgcaaaW6
import Derived.Test.YtbdlohjmifgcaaaPlainQ52
set_option linter.unusedSimpArgs false
set_option linter.unusedVariables false
namespace Go.Proofs.Ytbdlohjmifgcaaa
open Go.Sep Go.Sep.Sip Go.Sep.Perm Go.Sep.Maglev Go.Sep.Board Go.Sep.Cookie

set_option maxHeartbeats 2000000 in
theorem turned_spec (B : World) (h : Own) (fa fb : FM) (ia : FIn B h fa) (ib : FIn B h fb) (oa : FarmOk fa) (ob : FarmOk fb) : Tri Try.prog B 10 [.agg (encFM fa).toArray, .agg (encFM fb).toArray] h fun v h' => h = h' ∧ ∃ t, v = .bool t ∧ (t = true ↔ ∃ id : Int, 0 ≤ id ∧ id < 100 ∧ fitP fa.bs.l id ≠ fitP fb.bs.l id) := by
  have ha := oa.lb
  have hb := ob.lb
  refine Tri.enter (n := 54) Try.func10 rfl rfl rfl ?_
  simp only [argsE, Nat.reduceAdd]
  try dsimp only [argsE]
  refine AK.seq ?_
  refine AK.region ?_
  refine AO.eff (EF.box rfl rfl) (.none rfl) rfl ?_
  rintro _ _ ⟨b2, hf2, rfl, rfl⟩
  refine AO.eff (EF.box rfl rfl) (.none rfl) rfl ?_
  rintro _ _ ⟨b3, hf3, rfl, rfl⟩
  refine AO.val (RV.assign rfl) (.none rfl) rfl ?_
  refine AO.nil ?_
  refine AK.seq ?_
  refine AK.seq ?_
  refine AK.region ?_
  refine AO.val (RV.assign rfl) (.none rfl) rfl ?_
  refine AO.nil ?_
  refine AK.block ?_
  refine AK.loop (α := Int) (E := fun id => [(2, .pointer (some ⟨b2, 0, none⟩)), (3, .pointer (some ⟨b3, 0, none⟩)), (5, .int .i64 id)]) (H := fun id => ((b3, Blk.cells (encFM fb) 37 (0, 0)) :: (b2, Blk.cells (encFM fa) 37 (0, 0)) :: h)) (Inv := fun id => 0 ≤ id ∧ id ≤ 100 ∧ ∀ k : Int, 0 ≤ k → k < id → fitP fa.bs.l k = fitP fb.bs.l k) (μ := fun id => (100 - id).toNat) 0 ?_ (.cons (by exact rfl) (.cons (by exact rfl) (.cons (by exact rfl) .nil))) ?_ ?_
  · exact ⟨by omega, by omega, fun k h1 h2 => by omega⟩
  · exact (by first | exact SubO.sub | exact List.Sublist.refl _ | exact .cons _ (List.Sublist.refl _) | exact .cons _ (.cons _ (List.Sublist.refl _)) | exact .cons _ (.cons _ (.cons _ (List.Sublist.refl _))))
  rintro id ⟨hi0, hi1, hall⟩ hih0
  try dsimp only at hih0 ⊢
  refine AK.seq ?_
  refine AK.seq ?_
  refine AK.region ?_
  refine AO.val (RV.move rfl) (.none rfl) rfl ?_
  refine AO.val (RV.lss rfl rfl) (.none rfl) rfl ?_
  refine AO.nil ?_
  refine AK.cond rfl ?_ ?_
  · intro hc1
    try simp only [decide_eq_true_eq, decide_eq_false_iff_not, Bool.not_eq_true', Bool.not_eq_false', beq_iff_eq] at hc1
    refine AK.skip ?_
    refine AK.seq ?_
    refine AK.block ?_
    refine AK.seq ?_
    refine AK.draw [] [5] mixed ?_
    refine AD.take 0 rfl (by kernel_rfl) (by first | exact RV.loadAggO rfl rfl (by first | simp | assumption) | exact RV.loadAggP rfl rfl rfl (by first | simp | assumption)) (.none rfl) rfl ?_
    refine AD.takeP 1 rfl (by kernel_rfl) (RV.move rfl) (.none rfl) rfl ?_
    refine AD.take 3 rfl (by kernel_rfl) (by first | exact RV.loadAggO rfl rfl (by first | simp | assumption) | exact RV.loadAggP rfl rfl rfl (by first | simp | assumption)) (.none rfl) rfl ?_
    refine AD.takeP 4 rfl (by kernel_rfl) (RV.move rfl) (.none rfl) rfl ?_
    refine AD.one 2 (by kernel_rfl) (AE.eff rfl (EF.callF rfl (rfit_spec B _ id fa.bs.l (ia.sb.mono fun x hx => by simp [hx]) (by omega))) (.none rfl) rfl ?_)
    rintro _ _ ⟨A15, c15, p15, rfl, hr15, hc15, rfl⟩
    refine ⟨(by first | exact .inr fun x hx hM => hx | exact .inr fun x hx hM => List.mem_cons_of_mem _ hx | exact .inr fun x hx hM => List.mem_append_right _ hx), ?_⟩
    refine AD.one 5 (by kernel_rfl) (AE.eff rfl (EF.callF rfl (rfit_spec B _ id fb.bs.l (ib.sb.mono fun x hx => by simp [hx]) (by omega))) (.none rfl) rfl ?_)
    rintro _ _ ⟨A18, c18, p18, rfl, hr18, hc18, rfl⟩
    have hla := fit_len fa.bs.l id
    have hlb := fit_len fb.bs.l id
    refine ⟨.inl (by kernel_rfl), ?_⟩
    refine AD.takeP 6 rfl (by kernel_rfl) (RV.assign rfl) (.none rfl) rfl ?_
    refine AD.takeP 7 rfl (by kernel_rfl) (RV.assign rfl) (.none rfl) rfl ?_
    refine AD.done (by kernel_rfl) ?_
    refine AK.seq ?_
    refine AK.seq ?_
    refine AK.region ?_
    refine AO.val (RV.move rfl) (.none rfl) rfl ?_
    refine AO.val (RV.lenS rfl) (.none rfl) rfl ?_
    refine AO.val (RV.move rfl) (.none rfl) rfl ?_
    refine AO.val (RV.lenS rfl) (.none rfl) rfl ?_
    refine AO.val (RV.neq rfl rfl) (.none rfl) rfl ?_
    refine AO.nil ?_
    refine AK.cond rfl ?_ ?_
    · intro hc2
      try simp only [decide_eq_true_eq, decide_eq_false_iff_not, Bool.not_eq_true', Bool.not_eq_false', beq_iff_eq] at hc2
      refine AK.seq ?_
      refine AK.region ?_
      refine AO.val (RV.assign rfl) (.none rfl) rfl ?_
      refine AO.nil ?_
      -- at L0TT
      clear hih0
      refine AK.ret (h' := h) Try.func10 (.tmp rfl .nil) ?_ (by first | exact SubO.sub | exact .cons _ (.cons _ (List.Sublist.refl _)) | exact ((List.sublist_cons_self _ _).trans (List.sublist_cons_self _ _)).trans ((List.sublist_append_right _ _).trans (List.sublist_append_right _ _)))
      refine ⟨rfl, true, rfl, ?_⟩
      refine ⟨fun _ => ⟨id, hi0, by omega, fun e => ?_⟩, fun _ => rfl⟩
      have h1 := congrArg List.length e
      simp only [fitP, List.length_map] at h1; omega
    · intro hc2
      try simp only [decide_eq_true_eq, decide_eq_false_iff_not, Bool.not_eq_true', Bool.not_eq_false', beq_iff_eq] at hc2
      refine AK.skip ?_
      refine AK.seq ?_
      refine AK.region ?_
      refine AO.val (RV.assign rfl) (.none rfl) rfl ?_
      refine AO.nil ?_
      refine AK.block ?_
      refine AK.loop (α := Int) (E := fun j => [(2, .pointer (some ⟨b2, 0, none⟩)), (3, .pointer (some ⟨b3, 0, none⟩)), (5, .int .i64 id), (6, .slice A15 (fitL fa.bs.l id).length c15), (7, .slice A18 (fitL fb.bs.l id).length c18), (8, .int .i64 j)]) (H := fun j => p18 ++ (p15 ++ ((b3, Blk.cells (encFM fb) 37 (0, 0)) :: (b2, Blk.cells (encFM fa) 37 (0, 0)) :: h))) (Inv := fun j => 0 ≤ j ∧ j ≤ (fitL fa.bs.l id).length ∧ ∀ k : Int, 0 ≤ k → k < j → partF (lget (fitL fa.bs.l id) k) = partF (lget (fitL fb.bs.l id) k)) (μ := fun j => ((fitL fa.bs.l id).length - j).toNat) 0 ?_ (.cons (by exact rfl) (.cons (by exact rfl) (.cons (by exact rfl) (.cons (by exact rfl) (.cons (by exact rfl) (.cons (by exact rfl) .nil)))))) ?_ ?_
      · exact ⟨by omega, by omega, fun k h1 h2 => by omega⟩
      · exact (by first | exact SubO.sub | exact List.Sublist.refl _ | exact .cons _ (List.Sublist.refl _) | exact .cons _ (.cons _ (List.Sublist.refl _)) | exact .cons _ (.cons _ (.cons _ (List.Sublist.refl _))))
      rintro j ⟨hj0, hj1, hsame⟩ hih1
      try dsimp only at hih1 ⊢
      refine AK.seq ?_
      refine AK.seq ?_
      refine AK.region ?_
      refine AO.val (RV.move rfl) (.none rfl) rfl ?_
      refine AO.val (RV.move rfl) (.none rfl) rfl ?_
      refine AO.val (RV.lenS rfl) (.none rfl) rfl ?_
      refine AO.val (RV.lss rfl rfl) (.none rfl) rfl ?_
      refine AO.nil ?_
      refine AK.cond rfl ?_ ?_
      · intro hc3
        try simp only [decide_eq_true_eq, decide_eq_false_iff_not, Bool.not_eq_true', Bool.not_eq_false', beq_iff_eq] at hc3
        refine AK.skip ?_
        refine AK.seq ?_
        refine AK.block ?_
        refine AK.seq ?_
        refine AK.draw [] [] mixed ?_
        refine AD.takeP 0 rfl (by kernel_rfl) (RV.move rfl) (.none rfl) rfl ?_
        refine AD.takeP 1 rfl (by kernel_rfl) (RV.move rfl) (.none rfl) rfl ?_
        refine AD.takeP 2 rfl (by kernel_rfl) (RV.indexS rfl rfl (hr15.src (h := p15) fun x hx => hx) (by omega) rfl) (.none rfl) rfl ?_
        refine AD.takeP 3 rfl (by kernel_rfl) (by first | exact RV.fieldAddr rfl | exact RV.fieldAddrA rfl) (.none rfl) rfl ?_
        refine AD.take 4 rfl (by kernel_rfl) (RV.loadSF (enc := encK) (l := (fitL fa.bs.l id)) (fo := 0) rfl (hr15.src (h := p15) fun x hx => hx) (fun _ => rfl) (by omega) rfl rfl (by simp)) (.none rfl) rfl ?_
        refine AD.takeP 5 rfl (by kernel_rfl) (RV.move rfl) (.none rfl) rfl ?_
        refine AD.takeP 6 rfl (by kernel_rfl) (RV.move rfl) (.none rfl) rfl ?_
        refine AD.takeP 7 rfl (by kernel_rfl) (RV.indexS rfl rfl (hr18.src (h := p18) fun x hx => hx) (by omega) rfl) (.none rfl) rfl ?_
        refine AD.takeP 8 rfl (by kernel_rfl) (by first | exact RV.fieldAddr rfl | exact RV.fieldAddrA rfl) (.none rfl) rfl ?_
        refine AD.take 9 rfl (by kernel_rfl) (RV.loadSF (enc := encK) (l := (fitL fb.bs.l id)) (fo := 0) rfl (hr18.src (h := p18) fun x hx => hx) (fun _ => rfl) (by omega) rfl rfl (by simp)) (.none rfl) rfl ?_
        refine AD.takeP 10 rfl (by kernel_rfl) (RV.neq rfl rfl) (.none rfl) rfl ?_
        refine AD.takeP 11 rfl (by kernel_rfl) (RV.move rfl) (.none rfl) rfl ?_
        refine AD.caseG (d := 41) (j := 11) rfl rfl ?_ ?_
        · intro hg4
          try simp only [decide_eq_true_eq, decide_eq_false_iff_not, Bool.not_eq_true', Bool.not_eq_false', beq_iff_eq] at hg4
          refine AD.pass 12 rfl (by kernel_rfl) (.some rfl rfl rfl rfl) rfl ?_
          refine AD.pass 13 rfl (by kernel_rfl) (.some rfl rfl rfl rfl) rfl ?_
          refine AD.pass 14 rfl (by kernel_rfl) (.some rfl rfl rfl rfl) rfl ?_
          refine AD.pass 15 rfl (by kernel_rfl) (.some rfl rfl rfl rfl) rfl ?_
          refine AD.pass 16 rfl (by kernel_rfl) (.some rfl rfl rfl rfl) rfl ?_
          refine AD.pass 17 rfl (by kernel_rfl) (.some rfl rfl rfl rfl) rfl ?_
          refine AD.pass 18 rfl (by kernel_rfl) (.some rfl rfl rfl rfl) rfl ?_
          refine AD.pass 19 rfl (by kernel_rfl) (.some rfl rfl rfl rfl) rfl ?_
          refine AD.pass 20 rfl (by kernel_rfl) (.some rfl rfl rfl rfl) rfl ?_
          refine AD.pass 21 rfl (by kernel_rfl) (.some rfl rfl rfl rfl) rfl ?_
          refine AD.pass 22 rfl (by kernel_rfl) (.some rfl rfl rfl rfl) rfl ?_
          refine AD.takeP 23 rfl (by kernel_rfl) (RV.pickT rfl rfl) (.none rfl) rfl ?_
          refine AD.done (by kernel_rfl) ?_
          refine AK.condT rfl ?_
          refine AK.seq ?_
          refine AK.region ?_
          refine AO.val (RV.assign rfl) (.none rfl) rfl ?_
          refine AO.nil ?_
          -- at L0TFL1Tt
          clear hih0
          clear hih1
          refine AK.ret (h' := h) Try.func10 (.tmp rfl .nil) ?_ (by first | exact SubO.sub | exact .cons _ (.cons _ (List.Sublist.refl _)) | exact ((List.sublist_cons_self _ _).trans (List.sublist_cons_self _ _)).trans ((List.sublist_append_right _ _).trans (List.sublist_append_right _ _)))
          refine ⟨rfl, true, rfl, ?_⟩
          refine ⟨fun _ => ⟨id, hi0, by omega, fun e => ?_⟩, fun _ => rfl⟩
          have h1 := map_lget (show (fitL fa.bs.l id).map partF = (fitL fb.bs.l id).map partF from e) (i := j) ⟨hj0, by omega⟩
          simp only [partF, Prod.mk.injEq] at h1
          omega
        · intro hg4
          try simp only [decide_eq_true_eq, decide_eq_false_iff_not, Bool.not_eq_true', Bool.not_eq_false', beq_iff_eq] at hg4
          refine AD.takeP 12 rfl (by kernel_rfl) (RV.move rfl) (.some rfl rfl rfl rfl) rfl ?_
          refine AD.takeP 13 rfl (by kernel_rfl) (RV.move rfl) (.some rfl rfl rfl rfl) rfl ?_
          refine AD.takeP 14 rfl (by kernel_rfl) (RV.indexS rfl rfl (hr15.src (h := p15) fun x hx => hx) (by omega) rfl) (.some rfl rfl rfl rfl) rfl ?_
          refine AD.takeP 15 rfl (by kernel_rfl) (by first | exact RV.fieldAddr rfl | exact RV.fieldAddrA rfl) (.some rfl rfl rfl rfl) rfl ?_
          refine AD.take 16 rfl (by kernel_rfl) (RV.loadSF (enc := encK) (l := (fitL fa.bs.l id)) (fo := 3) rfl (hr15.src (h := p15) fun x hx => hx) (fun _ => rfl) (by omega) rfl rfl (by simp)) (.some rfl rfl rfl rfl) rfl ?_
          refine AD.takeP 17 rfl (by kernel_rfl) (RV.move rfl) (.some rfl rfl rfl rfl) rfl ?_
          refine AD.takeP 18 rfl (by kernel_rfl) (RV.move rfl) (.some rfl rfl rfl rfl) rfl ?_
          refine AD.takeP 19 rfl (by kernel_rfl) (RV.indexS rfl rfl (hr18.src (h := p18) fun x hx => hx) (by omega) rfl) (.some rfl rfl rfl rfl) rfl ?_
          refine AD.takeP 20 rfl (by kernel_rfl) (by first | exact RV.fieldAddr rfl | exact RV.fieldAddrA rfl) (.some rfl rfl rfl rfl) rfl ?_
          refine AD.take 21 rfl (by kernel_rfl) (RV.loadSF (enc := encK) (l := (fitL fb.bs.l id)) (fo := 3) rfl (hr18.src (h := p18) fun x hx => hx) (fun _ => rfl) (by omega) rfl rfl (by simp)) (.some rfl rfl rfl rfl) rfl ?_
          refine AD.takeP 22 rfl (by kernel_rfl) (RV.neq rfl rfl) (.some rfl rfl rfl rfl) rfl ?_
          refine AD.takeP 23 rfl (by kernel_rfl) (RV.pickF rfl rfl) (.none rfl) rfl ?_
          refine AD.done (by kernel_rfl) ?_
          refine AK.cond rfl ?_ ?_
          · intro hc5
            try simp only [decide_eq_true_eq, decide_eq_false_iff_not, Bool.not_eq_true', Bool.not_eq_false', beq_iff_eq] at hc5
            refine AK.seq ?_
            refine AK.region ?_
            refine AO.val (RV.assign rfl) (.none rfl) rfl ?_
            refine AO.nil ?_
            -- at L0TFL1TfT
            clear hih0
            clear hih1
            refine AK.ret (h' := h) Try.func10 (.tmp rfl .nil) ?_ (by first | exact SubO.sub | exact .cons _ (.cons _ (List.Sublist.refl _)) | exact ((List.sublist_cons_self _ _).trans (List.sublist_cons_self _ _)).trans ((List.sublist_append_right _ _).trans (List.sublist_append_right _ _)))
            refine ⟨rfl, true, rfl, ?_⟩
            refine ⟨fun _ => ⟨id, hi0, by omega, fun e => ?_⟩, fun _ => rfl⟩
            have h1 := map_lget (show (fitL fa.bs.l id).map partF = (fitL fb.bs.l id).map partF from e) (i := j) ⟨hj0, by omega⟩
            simp only [partF, Prod.mk.injEq] at h1
            omega
          · intro hc5
            try simp only [decide_eq_true_eq, decide_eq_false_iff_not, Bool.not_eq_true', Bool.not_eq_false', beq_iff_eq] at hc5
            refine AK.skip ?_
            refine AK.inBlock ?_
            refine AK.region ?_
            refine AO.val (RV.move rfl) (.none rfl) rfl ?_
            refine AO.val (by first | exact RV.addIn rfl rfl (by omega) | exact RV.add rfl rfl) (.none rfl) rfl ?_
            refine AO.val (RV.assign rfl) (.none rfl) rfl ?_
            refine AO.nil ?_
            -- round ends at L0TFL1TfF
            refine AK.weak (.cons (by exact rfl) (.cons (by exact rfl) (.cons (by exact rfl) (.cons (by exact rfl) (.cons (by exact rfl) (.cons (by exact rfl) .nil)))))) (by first | exact SubO.sub | exact List.Sublist.refl _ | exact .cons _ (List.Sublist.refl _) | exact .cons _ (.cons _ (List.Sublist.refl _)) | exact .cons _ (.cons _ (.cons _ (List.Sublist.refl _)))) (hih1 (j + 1) ?_ ?_)
            · try dsimp only
              refine ⟨by omega, by omega, fun k h1 h2 => ?_⟩
              by_cases hk : k = j
              · subst hk; simp only [partF, Prod.mk.injEq]; omega
              · exact hsame k h1 (by omega)
            · try dsimp only
              omega
      · intro hc3
        try simp only [decide_eq_true_eq, decide_eq_false_iff_not, Bool.not_eq_true', Bool.not_eq_false', beq_iff_eq] at hc3
        refine AK.exit rfl ?_
        refine AK.inBlock ?_
        refine AK.region ?_
        refine AO.val (RV.move rfl) (.none rfl) rfl ?_
        refine AO.val (by first | exact RV.addIn rfl rfl (by omega) | exact RV.add rfl rfl) (.none rfl) rfl ?_
        refine AO.val (RV.assign rfl) (.none rfl) rfl ?_
        refine AO.nil ?_
        -- round ends at L0TFL1F
        refine AK.weak (.cons (by exact rfl) (.cons (by exact rfl) (.cons (by exact rfl) .nil))) (by first | exact SubO.sub | exact List.Sublist.refl _ | exact .cons _ (List.Sublist.refl _) | exact .cons _ (.cons _ (List.Sublist.refl _)) | exact .cons _ (.cons _ (.cons _ (List.Sublist.refl _)))) (hih0 (id + 1) ?_ ?_)
        · try dsimp only
          refine ⟨by omega, by omega, fun k h1 h2 => ?_⟩
          by_cases hk : k = id
          · subst hk; exact map_ext_lget (by omega) fun i h3 h4 => hsame i h3 (by omega)
          · exact hall k h1 (by omega)
        · try dsimp only
          omega
  · intro hc1
    try simp only [decide_eq_true_eq, decide_eq_false_iff_not, Bool.not_eq_true', Bool.not_eq_false', beq_iff_eq] at hc1
    refine AK.exit rfl ?_
    refine AK.seq ?_
    refine AK.region ?_
    refine AO.val (RV.assign rfl) (.none rfl) rfl ?_
    refine AO.nil ?_
    -- at L0F
    clear hih0
    refine AK.ret (h' := h) Try.func10 (.tmp rfl .nil) ?_ (by first | exact SubO.sub | exact .cons _ (.cons _ (List.Sublist.refl _)) | exact ((List.sublist_cons_self _ _).trans (List.sublist_cons_self _ _)).trans ((List.sublist_append_right _ _).trans (List.sublist_append_right _ _)))
    refine ⟨rfl, false, rfl, ?_⟩
    constructor
    · intro h0; cases h0
    · rintro ⟨k, h1, h2, h3⟩; exact absurd (hall k h1 (by omega)) h3

theorem rtable_spec (B : World) (h : Own) (lo hi m : Int) (f : FM) (fi : FIn B h f) (fo : FarmOk f) (vip : Int) : Tri Try.prog B 17 [.agg #[.int .u64 lo, .int .u64 hi], .int .i64 m, .agg (encFM f).toArray, .int .i64 vip] h fun v h' => NewS 3 1 (fillS lo hi m (tabV f.vs.l f.bs.l vip)).length ((fillS lo hi m (tabV f.vs.l f.bs.l vip)).map (fun x => Value.int .i64 x)) h v h' := by
  have hlv := fo.lv
  have hlb := fo.lb
  have hfl := fit_len f.bs.l vip
  refine Tri.enter (n := 19) Try.func17 rfl rfl rfl ?_
  simp only [argsE, Nat.reduceAdd]
  try dsimp only [argsE]
  refine AK.seq ?_
  refine AK.region ?_
  refine AO.eff (EF.box rfl rfl) (.none rfl) rfl ?_
  rintro _ _ ⟨b4, hf4, rfl, rfl⟩
  refine AO.eff (EF.box rfl rfl) (.none rfl) rfl ?_
  rintro _ _ ⟨b6, hf6, rfl, rfl⟩
  refine AO.val (RV.assign rfl) (.none rfl) rfl ?_
  refine AO.nil ?_
  refine AK.seq ?_
  refine AK.seq ?_
  refine AK.region ?_
  refine AO.val (by first | exact RV.loadAggO rfl rfl (by first | simp | assumption) | exact RV.loadAggP rfl rfl rfl (by first | simp | assumption)) (.none rfl) rfl ?_
  refine AO.val (RV.move rfl) (.none rfl) rfl ?_
  refine AO.eff (EF.callF rfl (vipat_spec B _ f (fi.mono fun x hx => by simp [hx]) (by omega) vip)) (.none rfl) rfl ?_
  rintro _ _ ⟨rfl, kv, rfl, hkv⟩
  refine AO.val (RV.lss rfl rfl) (.none rfl) rfl ?_
  refine AO.nil ?_
  refine AK.cond rfl ?_ ?_
  · intro hc1
    try simp only [decide_eq_true_eq, decide_eq_false_iff_not, Bool.not_eq_true', Bool.not_eq_false', beq_iff_eq] at hc1
    refine AK.seq ?_
    refine AK.region ?_
    refine AO.val (RV.assign rfl) (.none rfl) rfl ?_
    refine AO.nil ?_
    -- at T
    refine AK.ret (h' := h) Try.func17 (.tmp rfl .nil) ?_ (by first | exact SubO.sub | exact List.Sublist.append_left ((List.Sublist.cons _ (.cons _ (List.Sublist.refl _))).trans (List.sublist_append_right _ _)) _)
    have hni : vip ∉ f.vs.l.map (·.1) := by
      rcases hkv with h1 | h1
      · exact ids_not h1.2 (Int.le_refl _)
      · omega
    have ht : tabV f.vs.l f.bs.l vip = [] := by unfold tabV; rw [if_neg hni]
    rw [ht, fill_nil]
    exact ⟨none, 0, [], rfl, .nil, Nat.le_refl _, rfl⟩
  · intro hc1
    try simp only [decide_eq_true_eq, decide_eq_false_iff_not, Bool.not_eq_true', Bool.not_eq_false', beq_iff_eq] at hc1
    refine AK.skip ?_
    refine AK.seq ?_
    refine AK.draw [] [5] mixed ?_
    refine AD.take 0 rfl (by kernel_rfl) (by first | exact RV.loadAggO rfl rfl (by first | simp | assumption) | exact RV.loadAggP rfl rfl rfl (by first | simp | assumption)) (.none rfl) rfl ?_
    refine AD.takeP 1 rfl (by kernel_rfl) (RV.move rfl) (.none rfl) rfl ?_
    refine AD.take 2 rfl (by kernel_rfl) (by first | exact RV.loadAggO rfl rfl (by first | simp | assumption) | exact RV.loadAggP rfl rfl rfl (by first | simp | assumption)) (.none rfl) rfl ?_
    refine AD.takeP 3 rfl (by kernel_rfl) (RV.move rfl) (.none rfl) rfl ?_
    refine AD.one 4 (by kernel_rfl) (AE.eff rfl (EF.callF rfl (rfit_spec B _ vip f.bs.l (fi.sb.mono fun x hx => by simp [hx]) (by omega))) (.none rfl) rfl ?_)
    rintro _ _ ⟨A17, c17, p17, rfl, hr17, hc17, rfl⟩
    refine ⟨(by first | exact .inr fun x hx hM => hx | exact .inr fun x hx hM => List.mem_cons_of_mem _ hx | exact .inr fun x hx hM => List.mem_append_right _ hx), ?_⟩
    refine AD.one 5 (by kernel_rfl) (AE.eff rfl (EF.callF rfl (rfill_spec B _ lo hi m (fitL f.bs.l vip) (hr17.src fun x hx => by simp [hx]) (fun b0 hb0 => FarmOk.bk fo b0 (List.mem_filter.1 hb0).1) hc17 (by omega))) (.none rfl) rfl ?_)
    rintro _ _ ⟨A18, c18, p18, rfl, hr18, hc18, rfl⟩
    refine ⟨.inl (by kernel_rfl), ?_⟩
    refine AD.takeP 6 rfl (by kernel_rfl) (RV.assign rfl) (.none rfl) rfl ?_
    refine AD.done (by kernel_rfl) ?_
    -- at F
    refine AK.ret (h' := p18 ++ h) Try.func17 (.tmp rfl .nil) ?_ (by first | exact SubO.sub | exact List.Sublist.append_left ((List.Sublist.cons _ (.cons _ (List.Sublist.refl _))).trans (List.sublist_append_right _ _)) _)
    have hmi : vip ∈ f.vs.l.map (·.1) := by
      rcases hkv with h1 | h1
      · omega
      · exact List.mem_map.2 ⟨lget f.vs.l kv, lget_memV ⟨h1.1, h1.2.1⟩, h1.2.2⟩
    have ht : tabV f.vs.l f.bs.l vip = (fitL f.bs.l vip).map prK := by unfold tabV; rw [if_pos hmi]; rfl
    rw [ht]
    exact ⟨A18, c18, p18, rfl, hr18, hc18, rfl⟩

theorem rpick_spec (B : World) (h : Own) (lo hi m : Int) (f : FM) (fi : FIn B h f) (fo : FarmOk f) (vip : Int) (x : Flow) (hf : FOk x) : Tri Try.prog B 14 [.agg #[.int .u64 lo, .int .u64 hi], .int .i64 m, .agg (encFM f).toArray, .int .i64 vip, .agg (encF x).toArray] h fun v h' => h = h' ∧ v = .tuple #[.int .i64 (if (fillS lo hi m (tabV f.vs.l f.bs.l vip)).length = 0 then 0 else lget (fillS lo hi m (tabV f.vs.l f.bs.l vip)) ((sumS lo hi (FB x)) % (fillS lo hi m (tabV f.vs.l f.bs.l vip)).length)), .bool (decide ((fillS lo hi m (tabV f.vs.l f.bs.l vip)).length ≠ 0))] := by
  have hsu := sumS_U lo hi (FB x)
  simp only [U] at hsu
  have hfl := fillS_len lo hi m (tabV f.vs.l f.bs.l vip)
  refine Tri.enter (n := 33) Try.func14 rfl rfl rfl ?_
  simp only [argsE, Nat.reduceAdd]
  try dsimp only [argsE]
  refine AK.seq ?_
  refine AK.region ?_
  refine AO.eff (EF.box rfl rfl) (.none rfl) rfl ?_
  rintro _ _ ⟨b5, hf5, rfl, rfl⟩
  refine AO.eff (EF.box rfl rfl) (.none rfl) rfl ?_
  rintro _ _ ⟨b7, hf7, rfl, rfl⟩
  refine AO.eff (EF.box rfl rfl) (.none rfl) rfl ?_
  rintro _ _ ⟨b9, hf9, rfl, rfl⟩
  refine AO.val (RV.assign rfl) (.none rfl) rfl ?_
  refine AO.val (RV.assign rfl) (.none rfl) rfl ?_
  refine AO.nil ?_
  refine AK.seq ?_
  refine AK.region ?_
  refine AO.val (by first | exact RV.loadAggO rfl rfl (by first | simp | assumption) | exact RV.loadAggP rfl rfl rfl (by first | simp | assumption)) (.none rfl) rfl ?_
  refine AO.val (RV.move rfl) (.none rfl) rfl ?_
  refine AO.val (by first | exact RV.loadAggO rfl rfl (by first | simp | assumption) | exact RV.loadAggP rfl rfl rfl (by first | simp | assumption)) (.none rfl) rfl ?_
  refine AO.val (RV.move rfl) (.none rfl) rfl ?_
  refine AO.eff (EF.callF rfl (rtable_spec B _ lo hi m f (fi.mono fun x hx => by simp [hx]) fo vip)) (.none rfl) rfl ?_
  rintro _ _ ⟨A17, c17, p17, rfl, hr17, hc17, rfl⟩
  refine AO.val (RV.assign rfl) (.none rfl) rfl ?_
  refine AO.nil ?_
  refine AK.seq ?_
  refine AK.seq ?_
  refine AK.region ?_
  refine AO.val (RV.move rfl) (.none rfl) rfl ?_
  refine AO.val (RV.lenS rfl) (.none rfl) rfl ?_
  refine AO.val (RV.eql rfl rfl) (.none rfl) rfl ?_
  refine AO.nil ?_
  refine AK.cond rfl ?_ ?_
  · intro hc1
    try simp only [decide_eq_true_eq, decide_eq_false_iff_not, Bool.not_eq_true', Bool.not_eq_false', beq_iff_eq] at hc1
    refine AK.seq ?_
    refine AK.region ?_
    refine AO.val (RV.assign rfl) (.none rfl) rfl ?_
    refine AO.val (RV.assign rfl) (.none rfl) rfl ?_
    refine AO.nil ?_
    -- at T
    refine AK.ret (h' := h) Try.func14 (.tmp rfl (.tmp rfl .nil)) ?_ (by first | exact SubO.sub | exact ((List.sublist_cons_self _ _).trans ((List.sublist_cons_self _ _).trans (List.sublist_cons_self _ _))).trans (List.sublist_append_right _ _) | exact (((List.sublist_cons_self _ _).trans ((List.sublist_cons_self _ _).trans (List.sublist_cons_self _ _))).trans (List.sublist_append_right _ _)).trans (List.sublist_append_right _ _))
    refine ⟨rfl, ?_⟩
    rw [if_pos (by omega), decide_eq_false (by omega)]; rfl
  · intro hc1
    try simp only [decide_eq_true_eq, decide_eq_false_iff_not, Bool.not_eq_true', Bool.not_eq_false', beq_iff_eq] at hc1
    have hr0 := Int.emod_nonneg (sumS lo hi (FB x)) (show ((fillS lo hi m (tabV f.vs.l f.bs.l vip)).length : Int) ≠ 0 by omega)
    have hr1 := Int.emod_lt_of_pos (sumS lo hi (FB x)) (show 0 < ((fillS lo hi m (tabV f.vs.l f.bs.l vip)).length : Int) by omega)
    refine AK.skip ?_
    refine AK.seq ?_
    refine AK.draw [] [] mixed ?_
    refine AD.takeP 0 rfl (by kernel_rfl) (RV.move rfl) (.none rfl) rfl ?_
    refine AD.take 1 rfl (by kernel_rfl) (by first | exact RV.loadAggO rfl rfl (by first | simp | assumption) | exact RV.loadAggP rfl rfl rfl (by first | simp | assumption)) (.none rfl) rfl ?_
    refine AD.take 2 rfl (by kernel_rfl) (by first | exact RV.loadAggO rfl rfl (by first | simp | assumption) | exact RV.loadAggP rfl rfl rfl (by first | simp | assumption)) (.none rfl) rfl ?_
    refine AD.takeP 5 rfl (by kernel_rfl) (RV.move rfl) (.none rfl) rfl ?_
    refine AD.takeP 6 rfl (by kernel_rfl) (RV.lenS rfl) (.none rfl) rfl ?_
    refine AD.takeP 7 rfl (by kernel_rfl) (by first | exact RV.convIn rfl (by simp only [kb]; omega) | exact RV.conv rfl) (.none rfl) rfl ?_
    refine AD.one 3 (by kernel_rfl) (AE.eff rfl (EF.callF rfl (rfbytes_spec B _ x hf)) (.none rfl) rfl ?_)
    rintro _ _ ⟨A24, c24, p24, rfl, hr24, hc24, rfl⟩
    refine ⟨(by first | exact .inr fun x hx hM => hx | exact .inr fun x hx hM => List.mem_cons_of_mem _ hx | exact .inr fun x hx hM => List.mem_append_right _ hx), ?_⟩
    refine AD.one 4 (by kernel_rfl) (AE.eff rfl (EF.callF rfl (rsum_spec (cap := c24) B _ lo hi (FB x) (hr24.src fun x hx => by simp [hx]) (FB_bytes hf) hc24 (by rw [FB_len]; omega))) (.none rfl) rfl ?_)
    rintro _ _ ⟨rfl, rfl⟩
    refine ⟨(by first | exact .inr fun x hx hM => hx | exact .inr fun x hx hM => List.mem_cons_of_mem _ hx | exact .inr fun x hx hM => List.mem_append_right _ hx), ?_⟩
    refine AD.takeP 8 rfl (by kernel_rfl) (RV.remIn rfl rfl (by omega)) (.none rfl) rfl ?_
    refine AD.takeP 9 rfl (by kernel_rfl) (by first | exact RV.convIn rfl (by simp only [kb]; omega) | exact RV.conv rfl) (.none rfl) rfl ?_
    refine AD.takeP 10 rfl (by kernel_rfl) (RV.indexS rfl rfl (hr17.src (h := p17) fun x hx => hx) (by omega) rfl) (.none rfl) rfl ?_
    refine AD.take 11 rfl (by kernel_rfl) (RV.loadS (enc := Value.int .i64) (l := (fillS lo hi m (tabV f.vs.l f.bs.l vip))) rfl (hr17.src (h := p17) fun x hx => hx) (by omega) (by simp)) (.none rfl) rfl ?_
    refine AD.takeP 12 rfl (by kernel_rfl) (RV.assign rfl) (.none rfl) rfl ?_
    refine AD.takeP 13 rfl (by kernel_rfl) (RV.assign rfl) (.none rfl) rfl ?_
    refine AD.done (by kernel_rfl) ?_
    -- at F
    refine AK.ret (h' := h) Try.func14 (.tmp rfl (.tmp rfl .nil)) ?_ (by first | exact SubO.sub | exact ((List.sublist_cons_self _ _).trans ((List.sublist_cons_self _ _).trans (List.sublist_cons_self _ _))).trans (List.sublist_append_right _ _) | exact (((List.sublist_cons_self _ _).trans ((List.sublist_cons_self _ _).trans (List.sublist_cons_self _ _))).trans (List.sublist_append_right _ _)).trans (List.sublist_append_right _ _))
    refine ⟨rfl, ?_⟩
    rw [if_neg (by omega), decide_eq_true (by omega)]; rfl

end Go.Proofs.Ytbdlohjmifgcaaa
