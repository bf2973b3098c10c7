/- Walks through the code: what each function that is named here gives back, from any memory that holds its arguments. Written by a program of the claim's author, out of the program's form in Lean. -/
import Derived.Test.YtbdlohjmifgcaaaW7
set_option linter.unusedSimpArgs false
set_option linter.unusedVariables false
namespace Go.Proofs.Ytbdlohjmifgcaaa
open Go.Sep Go.Sep.Sip Go.Sep.Perm Go.Sep.Maglev Go.Sep.Board Go.Sep.Cookie Go.RowKit Go.WideShapes Go.ChangeShapes

set_option maxHeartbeats 4000000 in
theorem fits_law (B : World) (lo hi m : Int) {A : Option Addr} {cap : Nat} (l : List Dd) (hl : Src B [] A l.length 13 (flat encDd l)) (hln : l.length ≤ 9223372036854775807) (x : Flow) (hf : FOk x) : Tri Try.prog B 4 [.agg #[.int .u64 lo, .int .u64 hi], .int .i64 m, .slice A l.length cap, .agg (encF x).toArray] [] fun v h' => v = .bool true := by
  refine Tri.enter (n := 107) Try.func4 rfl rfl rfl ?_
  simp only [argsE, Nat.reduceAdd]
  try dsimp only [argsE]
  refine AK.seq ?_
  refine AK.region ?_
  refine AO.eff (EF.box rfl rfl) (.none rfl) rfl ?_
  rintro _ _ ⟨b4, hf4, rfl, rfl⟩
  refine AO.eff (EF.box rfl rfl) (.none rfl) rfl ?_
  rintro _ _ ⟨b7, hf7, rfl, rfl⟩
  refine AO.val (RV.assign rfl) (.none rfl) rfl ?_
  refine AO.nil ?_
  refine AK.seq ?_
  refine AK.seq ?_
  refine AK.region ?_
  refine AO.val (RV.move rfl) (.none rfl) rfl ?_
  refine AO.eff (EF.callF rfl (rprime_spec B _ m)) (.none rfl) rfl ?_
  rintro _ _ ⟨rfl, rfl⟩
  refine AO.val (RV.not rfl) (.none rfl) rfl ?_
  refine AO.nil ?_
  refine AK.cond rfl ?_ ?_
  · intro hc1
    try simp only [decide_eq_true_eq, decide_eq_false_iff_not, Bool.not_eq_true', Bool.not_eq_false', beq_iff_eq] at hc1
    refine AK.seq ?_
    refine AK.region ?_
    refine AO.eff (EF.callF rfl (lives_spec B _)) (.none rfl) rfl ?_
    rintro _ _ ⟨rfl, rfl⟩
    refine AO.val (RV.assign rfl) (.none rfl) rfl ?_
    refine AO.nil ?_
    -- at T
    refine AK.ret (h' := []) Try.func4 (.tmp rfl .nil) ?_ (List.nil_sublist _)
    rfl
  · intro hc1
    try simp only [decide_eq_true_eq, decide_eq_false_iff_not, Bool.not_eq_true', Bool.not_eq_false', beq_iff_eq] at hc1
    have hpr : prB m = true := by simpa using hc1
    refine AK.skip ?_
    refine AK.seq ?_
    refine AK.region ?_
    refine AO.val (RV.move rfl) (.none rfl) rfl ?_
    refine AO.eff (EF.callF rfl (made_spec B _ l hl.sub hln)) (.none rfl) rfl ?_
    rintro _ _ ⟨f, X, rfl, fi, fo, rfl⟩
    have hlv := fo.lv
    have hlb := fo.lb
    refine AO.eff (EF.alloc) (.none rfl) rfl ?_
    rintro _ _ ⟨b9, hf9, rfl, rfl⟩
    refine AO.effN (EF.storeO rfl rfl rfl rfl rfl rfl) (.none rfl) ?_
    rintro _ _ rfl
    refine AO.nil ?_
    refine AK.seq ?_
    refine AK.region ?_
    refine AO.val (by first | exact RV.loadAggO rfl rfl (by first | simp | assumption) | exact RV.loadAggP rfl rfl rfl (by first | simp | assumption)) (.none rfl) rfl ?_
    refine AO.val (RV.move rfl) (.none rfl) rfl ?_
    refine AO.eff (EF.callF rfl (bnew_spec B _ lo hi m)) (.none rfl) rfl ?_
    rintro _ _ ⟨b, mr, rfl, rfl⟩
    refine AO.val (RV.assign rfl) (.none rfl) rfl ?_
    refine AO.nil ?_
    refine AK.seq ?_
    refine AK.seq ?_
    refine AK.region ?_
    refine AO.val (RV.move rfl) (.none rfl) rfl ?_
    refine AO.val (RV.eqlP rfl rfl) (.none rfl) rfl ?_
    refine AO.nil ?_
    refine AK.condF rfl ?_
    refine AK.skip ?_
    refine AK.seq ?_
    refine AK.region ?_
    refine AO.val (RV.move rfl) (.none rfl) rfl ?_
    refine AO.val (by first | exact RV.loadAggO rfl rfl (by first | simp | assumption) | exact RV.loadAggP rfl rfl rfl (by first | simp | assumption)) (.none rfl) rfl ?_
    refine AO.eff (EF.callF rfl (refresh_spec B _ lo hi m b mr 0 [] 0 .nil ⟨by simp, by simp⟩ (fun _ => []) [] (by intro x hx; cases hx) BM.nil f.vs.l (fi.sv.mono fun x hx => by simp [hx]) (by omega) f.bs.l (fi.sb.mono fun x hx => by simp [hx]) fi.cb (FarmOk.bk fo) (by omega) (by decide))) (.none rfl) rfl ?_
    rintro _ _ ⟨m1, l1, c1, X1, tb, rfl, rfl, htb, hk1, hs1, bm1⟩
    generalize ((0 : Int) + if tb = true then 1 else 0) = ver1
    refine AO.nil ?_
    refine AK.seq ?_
    refine AK.seq ?_
    refine AK.region ?_
    refine AO.val (RV.assign rfl) (.none rfl) rfl ?_
    refine AO.nil ?_
    refine AK.block ?_
    refine AK.loop (α := Int) (E := fun j => [(4, .pointer (some ⟨b4, 0, none⟩)), (7, .pointer (some ⟨b7, 0, none⟩)), (9, .pointer (some ⟨b9, 0, none⟩)), (10, .pointer (some ⟨b, 0, none⟩)), (11, .int .i64 j)]) (H := fun j => (b, Blk.cells [.int .u64 lo, .int .u64 hi, .int .i64 m, .map (some m1), .int .i64 ver1] 61 (0, 0)) :: ((m1, mapB .i64 evT l1 c1) :: (X1 ++ ((b9, Blk.cells (encFM f) 37 (0, 0)) :: (X ++ ((b7, Blk.cells (encF x) 29 (0, 0)) :: (b4, Blk.cells [.int .u64 lo, .int .u64 hi] 24 (0, 0)) :: [])))))) (Inv := fun j => 0 ≤ j ∧ j ≤ f.vs.l.length) (μ := fun j => (f.vs.l.length - j).toNat) 0 ?_ (.cons (by exact rfl) (.cons (by exact rfl) (.cons (by exact rfl) (.cons (by exact rfl) (.cons (by exact rfl) .nil))))) ?_ ?_
    · exact ⟨by omega, by omega⟩
    · exact (by first | exact SubO.sub | exact List.Sublist.refl _ | exact .cons _ (List.Sublist.refl _) | exact .cons _ (.cons _ (List.Sublist.refl _)) | exact .cons _ (.cons _ (.cons _ (List.Sublist.refl _))))
    rintro j ⟨hj0, hj1⟩ hih0
    try dsimp only at hih0 ⊢
    have fi3 : FIn B ((b, Blk.cells [.int .u64 lo, .int .u64 hi, .int .i64 m, .map (some m1), .int .i64 ver1] 61 (0, 0)) :: ((m1, mapB .i64 evT l1 c1) :: (X1 ++ ((b9, Blk.cells (encFM f) 37 (0, 0)) :: (X ++ ((b7, Blk.cells (encF x) 29 (0, 0)) :: (b4, Blk.cells [.int .u64 lo, .int .u64 hi] 24 (0, 0)) :: [])))))) f := fi.mono fun x hx => by simp [hx]
    refine AK.seq ?_
    refine AK.seq ?_
    refine AK.region ?_
    refine AO.val (RV.move rfl) (.none rfl) rfl ?_
    refine AO.val (by first | exact RV.fieldAddr rfl | exact RV.fieldAddrA rfl) (.none rfl) rfl ?_
    refine AO.val (by first | exact RV.loadO rfl rfl (by first | simp | assumption) | exact RV.loadSF rfl (by assumption) (fun _ => rfl) (by omega) rfl rfl (by first | simp | assumption) | exact RV.loadS rfl (by assumption) (by omega) (by first | simp | assumption)) (.none rfl) rfl ?_
    refine AO.val (RV.lenS rfl) (.none rfl) rfl ?_
    refine AO.val (RV.lss rfl rfl) (.none rfl) rfl ?_
    refine AO.nil ?_
    refine AK.cond rfl ?_ ?_
    · intro hc2
      try simp only [decide_eq_true_eq, decide_eq_false_iff_not, Bool.not_eq_true', Bool.not_eq_false', beq_iff_eq] at hc2
      refine AK.skip ?_
      refine AK.seq ?_
      refine AK.block ?_
      refine AK.seq ?_
      refine AK.draw [] [8] mixed ?_
      refine AD.takeP 0 rfl (by kernel_rfl) (RV.move rfl) (.none rfl) rfl ?_
      refine AD.takeP 1 rfl (by kernel_rfl) (by first | exact RV.fieldAddr rfl | exact RV.fieldAddrA rfl) (.none rfl) rfl ?_
      refine AD.take 2 rfl (by kernel_rfl) (by first | exact RV.loadO rfl rfl (by first | simp | assumption) | exact RV.loadSF rfl (by assumption) (fun _ => rfl) (by omega) rfl rfl (by first | simp | assumption) | exact RV.loadS rfl (by assumption) (by omega) (by first | simp | assumption)) (.none rfl) rfl ?_
      refine AD.takeP 3 rfl (by kernel_rfl) (RV.move rfl) (.none rfl) rfl ?_
      refine AD.takeP 4 rfl (by kernel_rfl) (RV.indexS rfl rfl fi3.sv (by omega) rfl) (.none rfl) rfl ?_
      refine AD.takeP 5 rfl (by kernel_rfl) (by first | exact RV.fieldAddr rfl | exact RV.fieldAddrA rfl) (.none rfl) rfl ?_
      refine AD.take 6 rfl (by kernel_rfl) (RV.loadSF (enc := encV) (l := f.vs.l) (fo := 0) rfl fi3.sv (fun _ => rfl) (by omega) rfl rfl (by simp)) (.none rfl) rfl ?_
      refine AD.take 7 rfl (by kernel_rfl) (by first | exact RV.loadAggO rfl rfl (by first | simp | assumption) | exact RV.loadAggP rfl rfl rfl (by first | simp | assumption)) (.none rfl) rfl ?_
      refine AD.one 8 (by kernel_rfl) (AE.eff rfl (EF.callF rfl (bpick_spec B _ lo hi m b m1 ver1 l1 c1 hk1 hs1 _ (X1 ++ []) (fun x hx => by simp only [List.append_nil] at hx; simp [hx]) bm1 (lget f.vs.l j).1 x hf)) (.none rfl) rfl ?_)
      rintro _ _ ⟨rfl, rfl⟩
      rw [tabV_eq fo]
      generalize hpid : (if (fillS lo hi m (fitP f.bs.l (lget f.vs.l j).1)).length = 0 then (0 : Int) else lget (fillS lo hi m (fitP f.bs.l (lget f.vs.l j).1)) ((sumS lo hi (FB x)) % (fillS lo hi m (fitP f.bs.l (lget f.vs.l j).1)).length)) = pid
      generalize hokb : decide ((fillS lo hi m (fitP f.bs.l (lget f.vs.l j).1)).length ≠ 0) = okb
      refine ⟨.inl (by kernel_rfl), ?_⟩
      refine AD.takeP 9 rfl (by kernel_rfl) (RV.move rfl) (.none rfl) rfl ?_
      refine AD.takeP 10 rfl (by kernel_rfl) (RV.extract rfl rfl) (.none rfl) rfl ?_
      refine AD.takeP 11 rfl (by kernel_rfl) (RV.extract rfl rfl) (.none rfl) rfl ?_
      refine AD.takeP 12 rfl (by kernel_rfl) (RV.assign rfl) (.none rfl) rfl ?_
      refine AD.takeP 13 rfl (by kernel_rfl) (RV.assign rfl) (.none rfl) rfl ?_
      refine AD.done (by kernel_rfl) ?_
      refine AK.seq ?_
      refine AK.region ?_
      refine AO.val (RV.assign rfl) (.none rfl) rfl ?_
      refine AO.val (RV.assign rfl) (.none rfl) rfl ?_
      refine AO.nil ?_
      refine AK.seq ?_
      refine AK.seq ?_
      refine AK.region ?_
      refine AO.val (RV.assign rfl) (.none rfl) rfl ?_
      refine AO.nil ?_
      refine AK.block ?_
      refine AK.loop (α := Int × Bool × Bool) (E := fun (i, ft, sm) => [(4, .pointer (some ⟨b4, 0, none⟩)), (7, .pointer (some ⟨b7, 0, none⟩)), (9, .pointer (some ⟨b9, 0, none⟩)), (10, .pointer (some ⟨b, 0, none⟩)), (11, .int .i64 j), (12, .int .i64 pid), (13, .bool okb), (14, .bool ft), (15, .bool sm), (16, .int .i64 i)]) (H := fun (i, ft, sm) => (b, Blk.cells [.int .u64 lo, .int .u64 hi, .int .i64 m, .map (some m1), .int .i64 ver1] 61 (0, 0)) :: ((m1, mapB .i64 evT l1 c1) :: (X1 ++ ((b9, Blk.cells (encFM f) 37 (0, 0)) :: (X ++ ((b7, Blk.cells (encF x) 29 (0, 0)) :: (b4, Blk.cells [.int .u64 lo, .int .u64 hi] 24 (0, 0)) :: [])))))) (Inv := fun (i, ft, sm) => 0 ≤ i ∧ i ≤ f.bs.l.length ∧ sm = (f.bs.l.take i.toNat).any (keepB (lget f.vs.l j).1) ∧ ft = (f.bs.l.take i.toNat).any (fun y => keepB (lget f.vs.l j).1 y && decide (y.1 = pid))) (μ := fun (i, ft, sm) => (f.bs.l.length - i).toNat) (0, false, false) ?_ (.cons (by exact rfl) (.cons (by exact rfl) (.cons (by exact rfl) (.cons (by exact rfl) (.cons (by exact rfl) (.cons (by exact rfl) (.cons (by exact rfl) (.cons (by exact rfl) (.cons (by exact rfl) (.cons (by exact rfl) .nil)))))))))) ?_ ?_
      · exact ⟨by omega, by omega, by simp, by simp⟩
      · exact (by first | exact SubO.sub | exact List.Sublist.refl _ | exact .cons _ (List.Sublist.refl _) | exact .cons _ (.cons _ (List.Sublist.refl _)) | exact .cons _ (.cons _ (.cons _ (List.Sublist.refl _))))
      rintro ⟨i, ft, sm⟩ ⟨hi0, hi1, hsm, hft⟩ hih1
      try dsimp only at hih1 ⊢
      refine AK.seq ?_
      refine AK.seq ?_
      refine AK.region ?_
      refine AO.val (RV.move rfl) (.none rfl) rfl ?_
      refine AO.val (by first | exact RV.fieldAddr rfl | exact RV.fieldAddrA rfl) (.none rfl) rfl ?_
      refine AO.val (by first | exact RV.loadO rfl rfl (by first | simp | assumption) | exact RV.loadSF rfl (by assumption) (fun _ => rfl) (by omega) rfl rfl (by first | simp | assumption) | exact RV.loadS rfl (by assumption) (by omega) (by first | simp | assumption)) (.none rfl) rfl ?_
      refine AO.val (RV.lenS rfl) (.none rfl) rfl ?_
      refine AO.val (RV.lss rfl rfl) (.none rfl) rfl ?_
      refine AO.nil ?_
      refine AK.cond rfl ?_ ?_
      · intro hc3
        try simp only [decide_eq_true_eq, decide_eq_false_iff_not, Bool.not_eq_true', Bool.not_eq_false', beq_iff_eq] at hc3
        refine AK.skip ?_
        refine AK.seq ?_
        refine AK.block ?_
        refine AK.seq ?_
        refine AK.region ?_
        refine AO.val (by first | exact RV.fieldAddr rfl | exact RV.fieldAddrA rfl) (.none rfl) rfl ?_
        refine AO.val (by first | exact RV.loadO rfl rfl (by first | simp | assumption) | exact RV.loadSF rfl (by assumption) (fun _ => rfl) (by omega) rfl rfl (by first | simp | assumption) | exact RV.loadS rfl (by assumption) (by omega) (by first | simp | assumption)) (.none rfl) rfl ?_
        refine AO.val (RV.move rfl) (.none rfl) rfl ?_
        refine AO.val (RV.indexS rfl rfl fi3.sb (by omega) rfl) (.none rfl) rfl ?_
        refine AO.val (RV.loadSA (enc := encK) (l := f.bs.l) rfl fi3.sb (fun _ => rfl) (by omega) (by simp)) (.none rfl) rfl ?_
        refine AO.eff (EF.alloc) (.none rfl) rfl ?_
        rintro _ _ ⟨b17, hf17, rfl, rfl⟩
        refine AO.effN (EF.storeO rfl rfl rfl rfl rfl rfl) (.none rfl) ?_
        rintro _ _ rfl
        refine AO.nil ?_
        refine AK.seq ?_
        refine AK.draw [] [] mixed ?_
        refine AD.takeP 0 rfl (by kernel_rfl) (by first | exact RV.fieldAddr rfl | exact RV.fieldAddrA rfl) (.none rfl) rfl ?_
        refine AD.take 1 rfl (by kernel_rfl) (by first | exact RV.loadO rfl rfl (by first | simp | assumption) | exact RV.loadSF rfl (by assumption) (fun _ => rfl) (by omega) rfl rfl (by first | simp | assumption) | exact RV.loadS rfl (by assumption) (by omega) (by first | simp | assumption)) (.none rfl) rfl ?_
        refine AD.takeP 2 rfl (by kernel_rfl) (by first | exact RV.fieldAddr rfl | exact RV.fieldAddrA rfl) (.none rfl) rfl ?_
        refine AD.take 3 rfl (by kernel_rfl) (by first | exact RV.loadO rfl rfl (by first | simp | assumption) | exact RV.loadSF rfl (by assumption) (fun _ => rfl) (by omega) rfl rfl (by first | simp | assumption) | exact RV.loadS rfl (by assumption) (by omega) (by first | simp | assumption)) (.none rfl) rfl ?_
        refine AD.takeP 4 rfl (by kernel_rfl) (RV.move rfl) (.none rfl) rfl ?_
        refine AD.takeP 5 rfl (by kernel_rfl) (RV.indexS rfl rfl fi3.sv (by omega) rfl) (.none rfl) rfl ?_
        refine AD.takeP 6 rfl (by kernel_rfl) (by first | exact RV.fieldAddr rfl | exact RV.fieldAddrA rfl) (.none rfl) rfl ?_
        refine AD.take 7 rfl (by kernel_rfl) (RV.loadSF (enc := encV) (l := f.vs.l) (fo := 0) rfl fi3.sv (fun _ => rfl) (by omega) rfl rfl (by simp)) (.none rfl) rfl ?_
        refine AD.takeP 8 rfl (by kernel_rfl) (RV.eql rfl rfl) (.none rfl) rfl ?_
        refine AD.takeP 9 rfl (by kernel_rfl) (RV.move rfl) (.none rfl) rfl ?_
        refine AD.caseG (d := 73) (j := 9) rfl rfl ?_ ?_
        · intro hg4
          try simp only [decide_eq_true_eq, decide_eq_false_iff_not, Bool.not_eq_true', Bool.not_eq_false', beq_iff_eq] at hg4
          refine AD.takeP 10 rfl (by kernel_rfl) (by first | exact RV.fieldAddr rfl | exact RV.fieldAddrA rfl) (.some rfl rfl rfl rfl) rfl ?_
          refine AD.take 11 rfl (by kernel_rfl) (by first | exact RV.loadO rfl rfl (by first | simp | assumption) | exact RV.loadSF rfl (by assumption) (fun _ => rfl) (by omega) rfl rfl (by first | simp | assumption) | exact RV.loadS rfl (by assumption) (by omega) (by first | simp | assumption)) (.some rfl rfl rfl rfl) rfl ?_
          refine AD.takeP 12 rfl (by kernel_rfl) (RV.eql rfl rfl) (.some rfl rfl rfl rfl) rfl ?_
          refine AD.takeP 13 rfl (by kernel_rfl) (RV.pickT rfl rfl) (.none rfl) rfl ?_
          refine AD.takeP 14 rfl (by kernel_rfl) (RV.move rfl) (.none rfl) rfl ?_
          refine AD.caseG (d := 78) (j := 14) rfl rfl ?_ ?_
          · intro hg5
            try simp only [decide_eq_true_eq, decide_eq_false_iff_not, Bool.not_eq_true', Bool.not_eq_false', beq_iff_eq] at hg5
            refine AD.takeP 15 rfl (by kernel_rfl) (by first | exact RV.fieldAddr rfl | exact RV.fieldAddrA rfl) (.some rfl rfl rfl rfl) rfl ?_
            refine AD.take 16 rfl (by kernel_rfl) (by first | exact RV.loadO rfl rfl (by first | simp | assumption) | exact RV.loadSF rfl (by assumption) (fun _ => rfl) (by omega) rfl rfl (by first | simp | assumption) | exact RV.loadS rfl (by assumption) (by omega) (by first | simp | assumption)) (.some rfl rfl rfl rfl) rfl ?_
            refine AD.takeP 17 rfl (by kernel_rfl) (RV.pickT rfl rfl) (.none rfl) rfl ?_
            refine AD.takeP 18 rfl (by kernel_rfl) (RV.assign rfl) (.none rfl) rfl ?_
            refine AD.done (by kernel_rfl) ?_
            refine AK.seq ?_
            refine AK.region ?_
            refine AO.val (RV.move rfl) (.none rfl) rfl ?_
            refine AO.val (RV.move rfl) (.none rfl) rfl ?_
            refine AO.caseG rfl rfl rfl ?_ ?_
            · intro hg6
              try simp only [decide_eq_true_eq, decide_eq_false_iff_not, Bool.not_eq_true', Bool.not_eq_false', beq_iff_eq] at hg6
              refine AO.pass (.some rfl rfl rfl rfl) rfl ?_
              refine AO.val (RV.pickT rfl rfl) (.none rfl) rfl ?_
              refine AO.val (RV.assign rfl) (.none rfl) rfl ?_
              refine AO.nil ?_
              refine AK.region ?_
              refine AO.val (RV.move rfl) (.none rfl) rfl ?_
              refine AO.val (RV.move rfl) (.none rfl) rfl ?_
              refine AO.caseG rfl rfl rfl ?_ ?_
              · intro hg7
                try simp only [decide_eq_true_eq, decide_eq_false_iff_not, Bool.not_eq_true', Bool.not_eq_false', beq_iff_eq] at hg7
                refine AO.pass (.some rfl rfl rfl rfl) rfl ?_
                refine AO.pass (.some rfl rfl rfl rfl) rfl ?_
                refine AO.pass (.undef rfl rfl rfl) rfl ?_
                refine AO.pass (.undef rfl rfl rfl) rfl ?_
                refine AO.pass (.undef rfl rfl rfl) rfl ?_
                refine AO.pass (.undef rfl rfl rfl) rfl ?_
                refine AO.pass (.some rfl rfl rfl rfl) rfl ?_
                refine AO.val (RV.pickT rfl rfl) (.none rfl) rfl ?_
                refine AO.val (RV.assign rfl) (.none rfl) rfl ?_
                refine AO.nil ?_
                refine AK.inBlock ?_
                refine AK.region ?_
                refine AO.val (RV.move rfl) (.none rfl) rfl ?_
                refine AO.val (by first | exact RV.addIn rfl rfl (by omega) | exact RV.add rfl rfl) (.none rfl) rfl ?_
                refine AO.val (RV.assign rfl) (.none rfl) rfl ?_
                refine AO.nil ?_
                -- round ends at FL0TL1Ttttt
                refine AK.weak (.cons (by exact rfl) (.cons (by exact rfl) (.cons (by exact rfl) (.cons (by exact rfl) (.cons (by exact rfl) (.cons (by exact rfl) (.cons (by exact rfl) (.cons (by show some (Value.bool _) = some (Value.bool _); clear hsm hft; congr 2; simp [keepB, *]) (.cons (by show some (Value.bool _) = some (Value.bool _); clear hsm hft; congr 2; simp [keepB, *]) (.cons (by exact rfl) .nil)))))))))) (by first | exact SubO.sub | exact List.Sublist.refl _ | exact .cons _ (List.Sublist.refl _) | exact .cons _ (.cons _ (List.Sublist.refl _)) | exact .cons _ (.cons _ (.cons _ (List.Sublist.refl _)))) (hih1 (i + 1, (ft || ((keepB (lget f.vs.l j).1 (lget f.bs.l i)) && decide ((lget f.bs.l i).1 = pid))), (sm || (keepB (lget f.vs.l j).1 (lget f.bs.l i)))) ?_ ?_)
                · try dsimp only
                  refine ⟨by omega, by omega, ?_, ?_⟩
                  · rw [any_step _ _ i hi0 (by omega), ← hsm]
                  · rw [any_step _ _ i hi0 (by omega), ← hft]
                · try dsimp only
                  omega
              · intro hg7
                try simp only [decide_eq_true_eq, decide_eq_false_iff_not, Bool.not_eq_true', Bool.not_eq_false', beq_iff_eq] at hg7
                refine AO.val (RV.move rfl) (.some rfl rfl rfl rfl) rfl ?_
                refine AO.val (RV.move rfl) (.some rfl rfl rfl rfl) rfl ?_
                refine AO.caseG rfl rfl rfl ?_ ?_
                · intro hg8
                  try simp only [decide_eq_true_eq, decide_eq_false_iff_not, Bool.not_eq_true', Bool.not_eq_false', beq_iff_eq] at hg8
                  refine AO.val (by first | exact RV.fieldAddr rfl | exact RV.fieldAddrA rfl) (.some rfl rfl rfl rfl) rfl ?_
                  refine AO.val (by first | exact RV.loadO rfl rfl (by first | simp | assumption) | exact RV.loadSF rfl (by assumption) (fun _ => rfl) (by omega) rfl rfl (by first | simp | assumption) | exact RV.loadS rfl (by assumption) (by omega) (by first | simp | assumption)) (.some rfl rfl rfl rfl) rfl ?_
                  refine AO.val (RV.move rfl) (.some rfl rfl rfl rfl) rfl ?_
                  refine AO.val (RV.eql rfl rfl) (.some rfl rfl rfl rfl) rfl ?_
                  refine AO.val (RV.pickT rfl rfl) (.some rfl rfl rfl rfl) rfl ?_
                  refine AO.val (RV.pickF rfl rfl) (.none rfl) rfl ?_
                  refine AO.val (RV.assign rfl) (.none rfl) rfl ?_
                  refine AO.nil ?_
                  refine AK.inBlock ?_
                  refine AK.region ?_
                  refine AO.val (RV.move rfl) (.none rfl) rfl ?_
                  refine AO.val (by first | exact RV.addIn rfl rfl (by omega) | exact RV.add rfl rfl) (.none rfl) rfl ?_
                  refine AO.val (RV.assign rfl) (.none rfl) rfl ?_
                  refine AO.nil ?_
                  -- round ends at FL0TL1Ttttft
                  refine AK.weak (.cons (by exact rfl) (.cons (by exact rfl) (.cons (by exact rfl) (.cons (by exact rfl) (.cons (by exact rfl) (.cons (by exact rfl) (.cons (by exact rfl) (.cons (by show some (Value.bool _) = some (Value.bool _); clear hsm hft; congr 2; simp [keepB, *]) (.cons (by show some (Value.bool _) = some (Value.bool _); clear hsm hft; congr 2; simp [keepB, *]) (.cons (by exact rfl) .nil)))))))))) (by first | exact SubO.sub | exact List.Sublist.refl _ | exact .cons _ (List.Sublist.refl _) | exact .cons _ (.cons _ (List.Sublist.refl _)) | exact .cons _ (.cons _ (.cons _ (List.Sublist.refl _)))) (hih1 (i + 1, (ft || ((keepB (lget f.vs.l j).1 (lget f.bs.l i)) && decide ((lget f.bs.l i).1 = pid))), (sm || (keepB (lget f.vs.l j).1 (lget f.bs.l i)))) ?_ ?_)
                  · try dsimp only
                    refine ⟨by omega, by omega, ?_, ?_⟩
                    · rw [any_step _ _ i hi0 (by omega), ← hsm]
                    · rw [any_step _ _ i hi0 (by omega), ← hft]
                  · try dsimp only
                    omega
                · intro hg8
                  try simp only [decide_eq_true_eq, decide_eq_false_iff_not, Bool.not_eq_true', Bool.not_eq_false', beq_iff_eq] at hg8
                  refine AO.pass (.some rfl rfl rfl rfl) rfl ?_
                  refine AO.pass (.some rfl rfl rfl rfl) rfl ?_
                  refine AO.pass (.some rfl rfl rfl rfl) rfl ?_
                  refine AO.pass (.some rfl rfl rfl rfl) rfl ?_
                  refine AO.val (RV.pickF rfl rfl) (.some rfl rfl rfl rfl) rfl ?_
                  refine AO.val (RV.pickF rfl rfl) (.none rfl) rfl ?_
                  refine AO.val (RV.assign rfl) (.none rfl) rfl ?_
                  refine AO.nil ?_
                  refine AK.inBlock ?_
                  refine AK.region ?_
                  refine AO.val (RV.move rfl) (.none rfl) rfl ?_
                  refine AO.val (by first | exact RV.addIn rfl rfl (by omega) | exact RV.add rfl rfl) (.none rfl) rfl ?_
                  refine AO.val (RV.assign rfl) (.none rfl) rfl ?_
                  refine AO.nil ?_
                  -- round ends at FL0TL1Ttttff
                  refine AK.weak (.cons (by exact rfl) (.cons (by exact rfl) (.cons (by exact rfl) (.cons (by exact rfl) (.cons (by exact rfl) (.cons (by exact rfl) (.cons (by exact rfl) (.cons (by show some (Value.bool _) = some (Value.bool _); clear hsm hft; congr 2; simp [keepB, *]) (.cons (by show some (Value.bool _) = some (Value.bool _); clear hsm hft; congr 2; simp [keepB, *]) (.cons (by exact rfl) .nil)))))))))) (by first | exact SubO.sub | exact List.Sublist.refl _ | exact .cons _ (List.Sublist.refl _) | exact .cons _ (.cons _ (List.Sublist.refl _)) | exact .cons _ (.cons _ (.cons _ (List.Sublist.refl _)))) (hih1 (i + 1, (ft || ((keepB (lget f.vs.l j).1 (lget f.bs.l i)) && decide ((lget f.bs.l i).1 = pid))), (sm || (keepB (lget f.vs.l j).1 (lget f.bs.l i)))) ?_ ?_)
                  · try dsimp only
                    refine ⟨by omega, by omega, ?_, ?_⟩
                    · rw [any_step _ _ i hi0 (by omega), ← hsm]
                    · rw [any_step _ _ i hi0 (by omega), ← hft]
                  · try dsimp only
                    omega
            · intro hg6
              try simp only [decide_eq_true_eq, decide_eq_false_iff_not, Bool.not_eq_true', Bool.not_eq_false', beq_iff_eq] at hg6
              refine AO.val (RV.move rfl) (.some rfl rfl rfl rfl) rfl ?_
              refine AO.val (RV.pickF rfl rfl) (.none rfl) rfl ?_
              refine AO.val (RV.assign rfl) (.none rfl) rfl ?_
              refine AO.nil ?_
              refine AK.region ?_
              refine AO.val (RV.move rfl) (.none rfl) rfl ?_
              refine AO.val (RV.move rfl) (.none rfl) rfl ?_
              refine AO.caseG rfl rfl rfl ?_ ?_
              · intro hg9
                try simp only [decide_eq_true_eq, decide_eq_false_iff_not, Bool.not_eq_true', Bool.not_eq_false', beq_iff_eq] at hg9
                refine AO.pass (.some rfl rfl rfl rfl) rfl ?_
                refine AO.pass (.some rfl rfl rfl rfl) rfl ?_
                refine AO.pass (.undef rfl rfl rfl) rfl ?_
                refine AO.pass (.undef rfl rfl rfl) rfl ?_
                refine AO.pass (.undef rfl rfl rfl) rfl ?_
                refine AO.pass (.undef rfl rfl rfl) rfl ?_
                refine AO.pass (.some rfl rfl rfl rfl) rfl ?_
                refine AO.val (RV.pickT rfl rfl) (.none rfl) rfl ?_
                refine AO.val (RV.assign rfl) (.none rfl) rfl ?_
                refine AO.nil ?_
                refine AK.inBlock ?_
                refine AK.region ?_
                refine AO.val (RV.move rfl) (.none rfl) rfl ?_
                refine AO.val (by first | exact RV.addIn rfl rfl (by omega) | exact RV.add rfl rfl) (.none rfl) rfl ?_
                refine AO.val (RV.assign rfl) (.none rfl) rfl ?_
                refine AO.nil ?_
                -- round ends at FL0TL1Tttft
                refine AK.weak (.cons (by exact rfl) (.cons (by exact rfl) (.cons (by exact rfl) (.cons (by exact rfl) (.cons (by exact rfl) (.cons (by exact rfl) (.cons (by exact rfl) (.cons (by show some (Value.bool _) = some (Value.bool _); clear hsm hft; congr 2; simp [keepB, *]) (.cons (by show some (Value.bool _) = some (Value.bool _); clear hsm hft; congr 2; simp [keepB, *]) (.cons (by exact rfl) .nil)))))))))) (by first | exact SubO.sub | exact List.Sublist.refl _ | exact .cons _ (List.Sublist.refl _) | exact .cons _ (.cons _ (List.Sublist.refl _)) | exact .cons _ (.cons _ (.cons _ (List.Sublist.refl _)))) (hih1 (i + 1, (ft || ((keepB (lget f.vs.l j).1 (lget f.bs.l i)) && decide ((lget f.bs.l i).1 = pid))), (sm || (keepB (lget f.vs.l j).1 (lget f.bs.l i)))) ?_ ?_)
                · try dsimp only
                  refine ⟨by omega, by omega, ?_, ?_⟩
                  · rw [any_step _ _ i hi0 (by omega), ← hsm]
                  · rw [any_step _ _ i hi0 (by omega), ← hft]
                · try dsimp only
                  omega
              · intro hg9
                try simp only [decide_eq_true_eq, decide_eq_false_iff_not, Bool.not_eq_true', Bool.not_eq_false', beq_iff_eq] at hg9
                refine AO.val (RV.move rfl) (.some rfl rfl rfl rfl) rfl ?_
                refine AO.val (RV.move rfl) (.some rfl rfl rfl rfl) rfl ?_
                refine AO.caseG rfl rfl rfl ?_ ?_
                · intro hg10
                  try simp only [decide_eq_true_eq, decide_eq_false_iff_not, Bool.not_eq_true', Bool.not_eq_false', beq_iff_eq] at hg10
                  refine AO.val (by first | exact RV.fieldAddr rfl | exact RV.fieldAddrA rfl) (.some rfl rfl rfl rfl) rfl ?_
                  refine AO.val (by first | exact RV.loadO rfl rfl (by first | simp | assumption) | exact RV.loadSF rfl (by assumption) (fun _ => rfl) (by omega) rfl rfl (by first | simp | assumption) | exact RV.loadS rfl (by assumption) (by omega) (by first | simp | assumption)) (.some rfl rfl rfl rfl) rfl ?_
                  refine AO.val (RV.move rfl) (.some rfl rfl rfl rfl) rfl ?_
                  refine AO.val (RV.eql rfl rfl) (.some rfl rfl rfl rfl) rfl ?_
                  refine AO.val (RV.pickT rfl rfl) (.some rfl rfl rfl rfl) rfl ?_
                  refine AO.val (RV.pickF rfl rfl) (.none rfl) rfl ?_
                  refine AO.val (RV.assign rfl) (.none rfl) rfl ?_
                  refine AO.nil ?_
                  refine AK.inBlock ?_
                  refine AK.region ?_
                  refine AO.val (RV.move rfl) (.none rfl) rfl ?_
                  refine AO.val (by first | exact RV.addIn rfl rfl (by omega) | exact RV.add rfl rfl) (.none rfl) rfl ?_
                  refine AO.val (RV.assign rfl) (.none rfl) rfl ?_
                  refine AO.nil ?_
                  -- round ends at FL0TL1Tttfft
                  refine AK.weak (.cons (by exact rfl) (.cons (by exact rfl) (.cons (by exact rfl) (.cons (by exact rfl) (.cons (by exact rfl) (.cons (by exact rfl) (.cons (by exact rfl) (.cons (by show some (Value.bool _) = some (Value.bool _); clear hsm hft; congr 2; simp [keepB, *]) (.cons (by show some (Value.bool _) = some (Value.bool _); clear hsm hft; congr 2; simp [keepB, *]) (.cons (by exact rfl) .nil)))))))))) (by first | exact SubO.sub | exact List.Sublist.refl _ | exact .cons _ (List.Sublist.refl _) | exact .cons _ (.cons _ (List.Sublist.refl _)) | exact .cons _ (.cons _ (.cons _ (List.Sublist.refl _)))) (hih1 (i + 1, (ft || ((keepB (lget f.vs.l j).1 (lget f.bs.l i)) && decide ((lget f.bs.l i).1 = pid))), (sm || (keepB (lget f.vs.l j).1 (lget f.bs.l i)))) ?_ ?_)
                  · try dsimp only
                    refine ⟨by omega, by omega, ?_, ?_⟩
                    · rw [any_step _ _ i hi0 (by omega), ← hsm]
                    · rw [any_step _ _ i hi0 (by omega), ← hft]
                  · try dsimp only
                    omega
                · intro hg10
                  try simp only [decide_eq_true_eq, decide_eq_false_iff_not, Bool.not_eq_true', Bool.not_eq_false', beq_iff_eq] at hg10
                  refine AO.pass (.some rfl rfl rfl rfl) rfl ?_
                  refine AO.pass (.some rfl rfl rfl rfl) rfl ?_
                  refine AO.pass (.some rfl rfl rfl rfl) rfl ?_
                  refine AO.pass (.some rfl rfl rfl rfl) rfl ?_
                  refine AO.val (RV.pickF rfl rfl) (.some rfl rfl rfl rfl) rfl ?_
                  refine AO.val (RV.pickF rfl rfl) (.none rfl) rfl ?_
                  refine AO.val (RV.assign rfl) (.none rfl) rfl ?_
                  refine AO.nil ?_
                  refine AK.inBlock ?_
                  refine AK.region ?_
                  refine AO.val (RV.move rfl) (.none rfl) rfl ?_
                  refine AO.val (by first | exact RV.addIn rfl rfl (by omega) | exact RV.add rfl rfl) (.none rfl) rfl ?_
                  refine AO.val (RV.assign rfl) (.none rfl) rfl ?_
                  refine AO.nil ?_
                  -- round ends at FL0TL1Tttfff
                  refine AK.weak (.cons (by exact rfl) (.cons (by exact rfl) (.cons (by exact rfl) (.cons (by exact rfl) (.cons (by exact rfl) (.cons (by exact rfl) (.cons (by exact rfl) (.cons (by show some (Value.bool _) = some (Value.bool _); clear hsm hft; congr 2; simp [keepB, *]) (.cons (by show some (Value.bool _) = some (Value.bool _); clear hsm hft; congr 2; simp [keepB, *]) (.cons (by exact rfl) .nil)))))))))) (by first | exact SubO.sub | exact List.Sublist.refl _ | exact .cons _ (List.Sublist.refl _) | exact .cons _ (.cons _ (List.Sublist.refl _)) | exact .cons _ (.cons _ (.cons _ (List.Sublist.refl _)))) (hih1 (i + 1, (ft || ((keepB (lget f.vs.l j).1 (lget f.bs.l i)) && decide ((lget f.bs.l i).1 = pid))), (sm || (keepB (lget f.vs.l j).1 (lget f.bs.l i)))) ?_ ?_)
                  · try dsimp only
                    refine ⟨by omega, by omega, ?_, ?_⟩
                    · rw [any_step _ _ i hi0 (by omega), ← hsm]
                    · rw [any_step _ _ i hi0 (by omega), ← hft]
                  · try dsimp only
                    omega
          · intro hg5
            try simp only [decide_eq_true_eq, decide_eq_false_iff_not, Bool.not_eq_true', Bool.not_eq_false', beq_iff_eq] at hg5
            refine AD.pass 15 rfl (by kernel_rfl) (.some rfl rfl rfl rfl) rfl ?_
            refine AD.pass 16 rfl (by kernel_rfl) (.some rfl rfl rfl rfl) rfl ?_
            refine AD.takeP 17 rfl (by kernel_rfl) (RV.pickF rfl rfl) (.none rfl) rfl ?_
            refine AD.takeP 18 rfl (by kernel_rfl) (RV.assign rfl) (.none rfl) rfl ?_
            refine AD.done (by kernel_rfl) ?_
            refine AK.seq ?_
            refine AK.region ?_
            refine AO.val (RV.move rfl) (.none rfl) rfl ?_
            refine AO.val (RV.move rfl) (.none rfl) rfl ?_
            refine AO.caseG rfl rfl rfl ?_ ?_
            · intro hg11
              try simp only [decide_eq_true_eq, decide_eq_false_iff_not, Bool.not_eq_true', Bool.not_eq_false', beq_iff_eq] at hg11
              refine AO.pass (.some rfl rfl rfl rfl) rfl ?_
              refine AO.val (RV.pickT rfl rfl) (.none rfl) rfl ?_
              refine AO.val (RV.assign rfl) (.none rfl) rfl ?_
              refine AO.nil ?_
              refine AK.region ?_
              refine AO.val (RV.move rfl) (.none rfl) rfl ?_
              refine AO.val (RV.move rfl) (.none rfl) rfl ?_
              refine AO.caseG rfl rfl rfl ?_ ?_
              · intro hg12
                try simp only [decide_eq_true_eq, decide_eq_false_iff_not, Bool.not_eq_true', Bool.not_eq_false', beq_iff_eq] at hg12
                refine AO.pass (.some rfl rfl rfl rfl) rfl ?_
                refine AO.pass (.some rfl rfl rfl rfl) rfl ?_
                refine AO.pass (.undef rfl rfl rfl) rfl ?_
                refine AO.pass (.undef rfl rfl rfl) rfl ?_
                refine AO.pass (.undef rfl rfl rfl) rfl ?_
                refine AO.pass (.undef rfl rfl rfl) rfl ?_
                refine AO.pass (.some rfl rfl rfl rfl) rfl ?_
                refine AO.val (RV.pickT rfl rfl) (.none rfl) rfl ?_
                refine AO.val (RV.assign rfl) (.none rfl) rfl ?_
                refine AO.nil ?_
                refine AK.inBlock ?_
                refine AK.region ?_
                refine AO.val (RV.move rfl) (.none rfl) rfl ?_
                refine AO.val (by first | exact RV.addIn rfl rfl (by omega) | exact RV.add rfl rfl) (.none rfl) rfl ?_
                refine AO.val (RV.assign rfl) (.none rfl) rfl ?_
                refine AO.nil ?_
                -- round ends at FL0TL1Ttftt
                refine AK.weak (.cons (by exact rfl) (.cons (by exact rfl) (.cons (by exact rfl) (.cons (by exact rfl) (.cons (by exact rfl) (.cons (by exact rfl) (.cons (by exact rfl) (.cons (by show some (Value.bool _) = some (Value.bool _); clear hsm hft; congr 2; simp [keepB, *]) (.cons (by show some (Value.bool _) = some (Value.bool _); clear hsm hft; congr 2; simp [keepB, *]) (.cons (by exact rfl) .nil)))))))))) (by first | exact SubO.sub | exact List.Sublist.refl _ | exact .cons _ (List.Sublist.refl _) | exact .cons _ (.cons _ (List.Sublist.refl _)) | exact .cons _ (.cons _ (.cons _ (List.Sublist.refl _)))) (hih1 (i + 1, (ft || ((keepB (lget f.vs.l j).1 (lget f.bs.l i)) && decide ((lget f.bs.l i).1 = pid))), (sm || (keepB (lget f.vs.l j).1 (lget f.bs.l i)))) ?_ ?_)
                · try dsimp only
                  refine ⟨by omega, by omega, ?_, ?_⟩
                  · rw [any_step _ _ i hi0 (by omega), ← hsm]
                  · rw [any_step _ _ i hi0 (by omega), ← hft]
                · try dsimp only
                  omega
              · intro hg12
                try simp only [decide_eq_true_eq, decide_eq_false_iff_not, Bool.not_eq_true', Bool.not_eq_false', beq_iff_eq] at hg12
                refine AO.val (RV.move rfl) (.some rfl rfl rfl rfl) rfl ?_
                refine AO.val (RV.move rfl) (.some rfl rfl rfl rfl) rfl ?_
                refine AO.pass (.some rfl rfl rfl rfl) rfl ?_
                refine AO.pass (.some rfl rfl rfl rfl) rfl ?_
                refine AO.pass (.some rfl rfl rfl rfl) rfl ?_
                refine AO.pass (.some rfl rfl rfl rfl) rfl ?_
                refine AO.val (RV.pickF rfl rfl) (.some rfl rfl rfl rfl) rfl ?_
                refine AO.val (RV.pickF rfl rfl) (.none rfl) rfl ?_
                refine AO.val (RV.assign rfl) (.none rfl) rfl ?_
                refine AO.nil ?_
                refine AK.inBlock ?_
                refine AK.region ?_
                refine AO.val (RV.move rfl) (.none rfl) rfl ?_
                refine AO.val (by first | exact RV.addIn rfl rfl (by omega) | exact RV.add rfl rfl) (.none rfl) rfl ?_
                refine AO.val (RV.assign rfl) (.none rfl) rfl ?_
                refine AO.nil ?_
                -- round ends at FL0TL1Ttftf
                refine AK.weak (.cons (by exact rfl) (.cons (by exact rfl) (.cons (by exact rfl) (.cons (by exact rfl) (.cons (by exact rfl) (.cons (by exact rfl) (.cons (by exact rfl) (.cons (by show some (Value.bool _) = some (Value.bool _); clear hsm hft; congr 2; simp [keepB, *]) (.cons (by show some (Value.bool _) = some (Value.bool _); clear hsm hft; congr 2; simp [keepB, *]) (.cons (by exact rfl) .nil)))))))))) (by first | exact SubO.sub | exact List.Sublist.refl _ | exact .cons _ (List.Sublist.refl _) | exact .cons _ (.cons _ (List.Sublist.refl _)) | exact .cons _ (.cons _ (.cons _ (List.Sublist.refl _)))) (hih1 (i + 1, (ft || ((keepB (lget f.vs.l j).1 (lget f.bs.l i)) && decide ((lget f.bs.l i).1 = pid))), (sm || (keepB (lget f.vs.l j).1 (lget f.bs.l i)))) ?_ ?_)
                · try dsimp only
                  refine ⟨by omega, by omega, ?_, ?_⟩
                  · rw [any_step _ _ i hi0 (by omega), ← hsm]
                  · rw [any_step _ _ i hi0 (by omega), ← hft]
                · try dsimp only
                  omega
            · intro hg11
              try simp only [decide_eq_true_eq, decide_eq_false_iff_not, Bool.not_eq_true', Bool.not_eq_false', beq_iff_eq] at hg11
              refine AO.val (RV.move rfl) (.some rfl rfl rfl rfl) rfl ?_
              refine AO.val (RV.pickF rfl rfl) (.none rfl) rfl ?_
              refine AO.val (RV.assign rfl) (.none rfl) rfl ?_
              refine AO.nil ?_
              refine AK.region ?_
              refine AO.val (RV.move rfl) (.none rfl) rfl ?_
              refine AO.val (RV.move rfl) (.none rfl) rfl ?_
              refine AO.caseG rfl rfl rfl ?_ ?_
              · intro hg13
                try simp only [decide_eq_true_eq, decide_eq_false_iff_not, Bool.not_eq_true', Bool.not_eq_false', beq_iff_eq] at hg13
                refine AO.pass (.some rfl rfl rfl rfl) rfl ?_
                refine AO.pass (.some rfl rfl rfl rfl) rfl ?_
                refine AO.pass (.undef rfl rfl rfl) rfl ?_
                refine AO.pass (.undef rfl rfl rfl) rfl ?_
                refine AO.pass (.undef rfl rfl rfl) rfl ?_
                refine AO.pass (.undef rfl rfl rfl) rfl ?_
                refine AO.pass (.some rfl rfl rfl rfl) rfl ?_
                refine AO.val (RV.pickT rfl rfl) (.none rfl) rfl ?_
                refine AO.val (RV.assign rfl) (.none rfl) rfl ?_
                refine AO.nil ?_
                refine AK.inBlock ?_
                refine AK.region ?_
                refine AO.val (RV.move rfl) (.none rfl) rfl ?_
                refine AO.val (by first | exact RV.addIn rfl rfl (by omega) | exact RV.add rfl rfl) (.none rfl) rfl ?_
                refine AO.val (RV.assign rfl) (.none rfl) rfl ?_
                refine AO.nil ?_
                -- round ends at FL0TL1Ttfft
                refine AK.weak (.cons (by exact rfl) (.cons (by exact rfl) (.cons (by exact rfl) (.cons (by exact rfl) (.cons (by exact rfl) (.cons (by exact rfl) (.cons (by exact rfl) (.cons (by show some (Value.bool _) = some (Value.bool _); clear hsm hft; congr 2; simp [keepB, *]) (.cons (by show some (Value.bool _) = some (Value.bool _); clear hsm hft; congr 2; simp [keepB, *]) (.cons (by exact rfl) .nil)))))))))) (by first | exact SubO.sub | exact List.Sublist.refl _ | exact .cons _ (List.Sublist.refl _) | exact .cons _ (.cons _ (List.Sublist.refl _)) | exact .cons _ (.cons _ (.cons _ (List.Sublist.refl _)))) (hih1 (i + 1, (ft || ((keepB (lget f.vs.l j).1 (lget f.bs.l i)) && decide ((lget f.bs.l i).1 = pid))), (sm || (keepB (lget f.vs.l j).1 (lget f.bs.l i)))) ?_ ?_)
                · try dsimp only
                  refine ⟨by omega, by omega, ?_, ?_⟩
                  · rw [any_step _ _ i hi0 (by omega), ← hsm]
                  · rw [any_step _ _ i hi0 (by omega), ← hft]
                · try dsimp only
                  omega
              · intro hg13
                try simp only [decide_eq_true_eq, decide_eq_false_iff_not, Bool.not_eq_true', Bool.not_eq_false', beq_iff_eq] at hg13
                refine AO.val (RV.move rfl) (.some rfl rfl rfl rfl) rfl ?_
                refine AO.val (RV.move rfl) (.some rfl rfl rfl rfl) rfl ?_
                refine AO.pass (.some rfl rfl rfl rfl) rfl ?_
                refine AO.pass (.some rfl rfl rfl rfl) rfl ?_
                refine AO.pass (.some rfl rfl rfl rfl) rfl ?_
                refine AO.pass (.some rfl rfl rfl rfl) rfl ?_
                refine AO.val (RV.pickF rfl rfl) (.some rfl rfl rfl rfl) rfl ?_
                refine AO.val (RV.pickF rfl rfl) (.none rfl) rfl ?_
                refine AO.val (RV.assign rfl) (.none rfl) rfl ?_
                refine AO.nil ?_
                refine AK.inBlock ?_
                refine AK.region ?_
                refine AO.val (RV.move rfl) (.none rfl) rfl ?_
                refine AO.val (by first | exact RV.addIn rfl rfl (by omega) | exact RV.add rfl rfl) (.none rfl) rfl ?_
                refine AO.val (RV.assign rfl) (.none rfl) rfl ?_
                refine AO.nil ?_
                -- round ends at FL0TL1Ttfff
                refine AK.weak (.cons (by exact rfl) (.cons (by exact rfl) (.cons (by exact rfl) (.cons (by exact rfl) (.cons (by exact rfl) (.cons (by exact rfl) (.cons (by exact rfl) (.cons (by show some (Value.bool _) = some (Value.bool _); clear hsm hft; congr 2; simp [keepB, *]) (.cons (by show some (Value.bool _) = some (Value.bool _); clear hsm hft; congr 2; simp [keepB, *]) (.cons (by exact rfl) .nil)))))))))) (by first | exact SubO.sub | exact List.Sublist.refl _ | exact .cons _ (List.Sublist.refl _) | exact .cons _ (.cons _ (List.Sublist.refl _)) | exact .cons _ (.cons _ (.cons _ (List.Sublist.refl _)))) (hih1 (i + 1, (ft || ((keepB (lget f.vs.l j).1 (lget f.bs.l i)) && decide ((lget f.bs.l i).1 = pid))), (sm || (keepB (lget f.vs.l j).1 (lget f.bs.l i)))) ?_ ?_)
                · try dsimp only
                  refine ⟨by omega, by omega, ?_, ?_⟩
                  · rw [any_step _ _ i hi0 (by omega), ← hsm]
                  · rw [any_step _ _ i hi0 (by omega), ← hft]
                · try dsimp only
                  omega
        · intro hg4
          try simp only [decide_eq_true_eq, decide_eq_false_iff_not, Bool.not_eq_true', Bool.not_eq_false', beq_iff_eq] at hg4
          refine AD.pass 10 rfl (by kernel_rfl) (.some rfl rfl rfl rfl) rfl ?_
          refine AD.pass 11 rfl (by kernel_rfl) (.some rfl rfl rfl rfl) rfl ?_
          refine AD.pass 12 rfl (by kernel_rfl) (.some rfl rfl rfl rfl) rfl ?_
          refine AD.takeP 13 rfl (by kernel_rfl) (RV.pickF rfl rfl) (.none rfl) rfl ?_
          refine AD.takeP 14 rfl (by kernel_rfl) (RV.move rfl) (.none rfl) rfl ?_
          refine AD.pass 15 rfl (by kernel_rfl) (.some rfl rfl rfl rfl) rfl ?_
          refine AD.pass 16 rfl (by kernel_rfl) (.some rfl rfl rfl rfl) rfl ?_
          refine AD.takeP 17 rfl (by kernel_rfl) (RV.pickF rfl rfl) (.none rfl) rfl ?_
          refine AD.takeP 18 rfl (by kernel_rfl) (RV.assign rfl) (.none rfl) rfl ?_
          refine AD.done (by kernel_rfl) ?_
          refine AK.seq ?_
          refine AK.region ?_
          refine AO.val (RV.move rfl) (.none rfl) rfl ?_
          refine AO.val (RV.move rfl) (.none rfl) rfl ?_
          refine AO.caseG rfl rfl rfl ?_ ?_
          · intro hg14
            try simp only [decide_eq_true_eq, decide_eq_false_iff_not, Bool.not_eq_true', Bool.not_eq_false', beq_iff_eq] at hg14
            refine AO.pass (.some rfl rfl rfl rfl) rfl ?_
            refine AO.val (RV.pickT rfl rfl) (.none rfl) rfl ?_
            refine AO.val (RV.assign rfl) (.none rfl) rfl ?_
            refine AO.nil ?_
            refine AK.region ?_
            refine AO.val (RV.move rfl) (.none rfl) rfl ?_
            refine AO.val (RV.move rfl) (.none rfl) rfl ?_
            refine AO.caseG rfl rfl rfl ?_ ?_
            · intro hg15
              try simp only [decide_eq_true_eq, decide_eq_false_iff_not, Bool.not_eq_true', Bool.not_eq_false', beq_iff_eq] at hg15
              refine AO.pass (.some rfl rfl rfl rfl) rfl ?_
              refine AO.pass (.some rfl rfl rfl rfl) rfl ?_
              refine AO.pass (.undef rfl rfl rfl) rfl ?_
              refine AO.pass (.undef rfl rfl rfl) rfl ?_
              refine AO.pass (.undef rfl rfl rfl) rfl ?_
              refine AO.pass (.undef rfl rfl rfl) rfl ?_
              refine AO.pass (.some rfl rfl rfl rfl) rfl ?_
              refine AO.val (RV.pickT rfl rfl) (.none rfl) rfl ?_
              refine AO.val (RV.assign rfl) (.none rfl) rfl ?_
              refine AO.nil ?_
              refine AK.inBlock ?_
              refine AK.region ?_
              refine AO.val (RV.move rfl) (.none rfl) rfl ?_
              refine AO.val (by first | exact RV.addIn rfl rfl (by omega) | exact RV.add rfl rfl) (.none rfl) rfl ?_
              refine AO.val (RV.assign rfl) (.none rfl) rfl ?_
              refine AO.nil ?_
              -- round ends at FL0TL1Tftt
              refine AK.weak (.cons (by exact rfl) (.cons (by exact rfl) (.cons (by exact rfl) (.cons (by exact rfl) (.cons (by exact rfl) (.cons (by exact rfl) (.cons (by exact rfl) (.cons (by show some (Value.bool _) = some (Value.bool _); clear hsm hft; congr 2; simp [keepB, *]) (.cons (by show some (Value.bool _) = some (Value.bool _); clear hsm hft; congr 2; simp [keepB, *]) (.cons (by exact rfl) .nil)))))))))) (by first | exact SubO.sub | exact List.Sublist.refl _ | exact .cons _ (List.Sublist.refl _) | exact .cons _ (.cons _ (List.Sublist.refl _)) | exact .cons _ (.cons _ (.cons _ (List.Sublist.refl _)))) (hih1 (i + 1, (ft || ((keepB (lget f.vs.l j).1 (lget f.bs.l i)) && decide ((lget f.bs.l i).1 = pid))), (sm || (keepB (lget f.vs.l j).1 (lget f.bs.l i)))) ?_ ?_)
              · try dsimp only
                refine ⟨by omega, by omega, ?_, ?_⟩
                · rw [any_step _ _ i hi0 (by omega), ← hsm]
                · rw [any_step _ _ i hi0 (by omega), ← hft]
              · try dsimp only
                omega
            · intro hg15
              try simp only [decide_eq_true_eq, decide_eq_false_iff_not, Bool.not_eq_true', Bool.not_eq_false', beq_iff_eq] at hg15
              refine AO.val (RV.move rfl) (.some rfl rfl rfl rfl) rfl ?_
              refine AO.val (RV.move rfl) (.some rfl rfl rfl rfl) rfl ?_
              refine AO.pass (.some rfl rfl rfl rfl) rfl ?_
              refine AO.pass (.some rfl rfl rfl rfl) rfl ?_
              refine AO.pass (.some rfl rfl rfl rfl) rfl ?_
              refine AO.pass (.some rfl rfl rfl rfl) rfl ?_
              refine AO.val (RV.pickF rfl rfl) (.some rfl rfl rfl rfl) rfl ?_
              refine AO.val (RV.pickF rfl rfl) (.none rfl) rfl ?_
              refine AO.val (RV.assign rfl) (.none rfl) rfl ?_
              refine AO.nil ?_
              refine AK.inBlock ?_
              refine AK.region ?_
              refine AO.val (RV.move rfl) (.none rfl) rfl ?_
              refine AO.val (by first | exact RV.addIn rfl rfl (by omega) | exact RV.add rfl rfl) (.none rfl) rfl ?_
              refine AO.val (RV.assign rfl) (.none rfl) rfl ?_
              refine AO.nil ?_
              -- round ends at FL0TL1Tftf
              refine AK.weak (.cons (by exact rfl) (.cons (by exact rfl) (.cons (by exact rfl) (.cons (by exact rfl) (.cons (by exact rfl) (.cons (by exact rfl) (.cons (by exact rfl) (.cons (by show some (Value.bool _) = some (Value.bool _); clear hsm hft; congr 2; simp [keepB, *]) (.cons (by show some (Value.bool _) = some (Value.bool _); clear hsm hft; congr 2; simp [keepB, *]) (.cons (by exact rfl) .nil)))))))))) (by first | exact SubO.sub | exact List.Sublist.refl _ | exact .cons _ (List.Sublist.refl _) | exact .cons _ (.cons _ (List.Sublist.refl _)) | exact .cons _ (.cons _ (.cons _ (List.Sublist.refl _)))) (hih1 (i + 1, (ft || ((keepB (lget f.vs.l j).1 (lget f.bs.l i)) && decide ((lget f.bs.l i).1 = pid))), (sm || (keepB (lget f.vs.l j).1 (lget f.bs.l i)))) ?_ ?_)
              · try dsimp only
                refine ⟨by omega, by omega, ?_, ?_⟩
                · rw [any_step _ _ i hi0 (by omega), ← hsm]
                · rw [any_step _ _ i hi0 (by omega), ← hft]
              · try dsimp only
                omega
          · intro hg14
            try simp only [decide_eq_true_eq, decide_eq_false_iff_not, Bool.not_eq_true', Bool.not_eq_false', beq_iff_eq] at hg14
            refine AO.val (RV.move rfl) (.some rfl rfl rfl rfl) rfl ?_
            refine AO.val (RV.pickF rfl rfl) (.none rfl) rfl ?_
            refine AO.val (RV.assign rfl) (.none rfl) rfl ?_
            refine AO.nil ?_
            refine AK.region ?_
            refine AO.val (RV.move rfl) (.none rfl) rfl ?_
            refine AO.val (RV.move rfl) (.none rfl) rfl ?_
            refine AO.caseG rfl rfl rfl ?_ ?_
            · intro hg16
              try simp only [decide_eq_true_eq, decide_eq_false_iff_not, Bool.not_eq_true', Bool.not_eq_false', beq_iff_eq] at hg16
              refine AO.pass (.some rfl rfl rfl rfl) rfl ?_
              refine AO.pass (.some rfl rfl rfl rfl) rfl ?_
              refine AO.pass (.undef rfl rfl rfl) rfl ?_
              refine AO.pass (.undef rfl rfl rfl) rfl ?_
              refine AO.pass (.undef rfl rfl rfl) rfl ?_
              refine AO.pass (.undef rfl rfl rfl) rfl ?_
              refine AO.pass (.some rfl rfl rfl rfl) rfl ?_
              refine AO.val (RV.pickT rfl rfl) (.none rfl) rfl ?_
              refine AO.val (RV.assign rfl) (.none rfl) rfl ?_
              refine AO.nil ?_
              refine AK.inBlock ?_
              refine AK.region ?_
              refine AO.val (RV.move rfl) (.none rfl) rfl ?_
              refine AO.val (by first | exact RV.addIn rfl rfl (by omega) | exact RV.add rfl rfl) (.none rfl) rfl ?_
              refine AO.val (RV.assign rfl) (.none rfl) rfl ?_
              refine AO.nil ?_
              -- round ends at FL0TL1Tfft
              refine AK.weak (.cons (by exact rfl) (.cons (by exact rfl) (.cons (by exact rfl) (.cons (by exact rfl) (.cons (by exact rfl) (.cons (by exact rfl) (.cons (by exact rfl) (.cons (by show some (Value.bool _) = some (Value.bool _); clear hsm hft; congr 2; simp [keepB, *]) (.cons (by show some (Value.bool _) = some (Value.bool _); clear hsm hft; congr 2; simp [keepB, *]) (.cons (by exact rfl) .nil)))))))))) (by first | exact SubO.sub | exact List.Sublist.refl _ | exact .cons _ (List.Sublist.refl _) | exact .cons _ (.cons _ (List.Sublist.refl _)) | exact .cons _ (.cons _ (.cons _ (List.Sublist.refl _)))) (hih1 (i + 1, (ft || ((keepB (lget f.vs.l j).1 (lget f.bs.l i)) && decide ((lget f.bs.l i).1 = pid))), (sm || (keepB (lget f.vs.l j).1 (lget f.bs.l i)))) ?_ ?_)
              · try dsimp only
                refine ⟨by omega, by omega, ?_, ?_⟩
                · rw [any_step _ _ i hi0 (by omega), ← hsm]
                · rw [any_step _ _ i hi0 (by omega), ← hft]
              · try dsimp only
                omega
            · intro hg16
              try simp only [decide_eq_true_eq, decide_eq_false_iff_not, Bool.not_eq_true', Bool.not_eq_false', beq_iff_eq] at hg16
              refine AO.val (RV.move rfl) (.some rfl rfl rfl rfl) rfl ?_
              refine AO.val (RV.move rfl) (.some rfl rfl rfl rfl) rfl ?_
              refine AO.pass (.some rfl rfl rfl rfl) rfl ?_
              refine AO.pass (.some rfl rfl rfl rfl) rfl ?_
              refine AO.pass (.some rfl rfl rfl rfl) rfl ?_
              refine AO.pass (.some rfl rfl rfl rfl) rfl ?_
              refine AO.val (RV.pickF rfl rfl) (.some rfl rfl rfl rfl) rfl ?_
              refine AO.val (RV.pickF rfl rfl) (.none rfl) rfl ?_
              refine AO.val (RV.assign rfl) (.none rfl) rfl ?_
              refine AO.nil ?_
              refine AK.inBlock ?_
              refine AK.region ?_
              refine AO.val (RV.move rfl) (.none rfl) rfl ?_
              refine AO.val (by first | exact RV.addIn rfl rfl (by omega) | exact RV.add rfl rfl) (.none rfl) rfl ?_
              refine AO.val (RV.assign rfl) (.none rfl) rfl ?_
              refine AO.nil ?_
              -- round ends at FL0TL1Tfff
              refine AK.weak (.cons (by exact rfl) (.cons (by exact rfl) (.cons (by exact rfl) (.cons (by exact rfl) (.cons (by exact rfl) (.cons (by exact rfl) (.cons (by exact rfl) (.cons (by show some (Value.bool _) = some (Value.bool _); clear hsm hft; congr 2; simp [keepB, *]) (.cons (by show some (Value.bool _) = some (Value.bool _); clear hsm hft; congr 2; simp [keepB, *]) (.cons (by exact rfl) .nil)))))))))) (by first | exact SubO.sub | exact List.Sublist.refl _ | exact .cons _ (List.Sublist.refl _) | exact .cons _ (.cons _ (List.Sublist.refl _)) | exact .cons _ (.cons _ (.cons _ (List.Sublist.refl _)))) (hih1 (i + 1, (ft || ((keepB (lget f.vs.l j).1 (lget f.bs.l i)) && decide ((lget f.bs.l i).1 = pid))), (sm || (keepB (lget f.vs.l j).1 (lget f.bs.l i)))) ?_ ?_)
              · try dsimp only
                refine ⟨by omega, by omega, ?_, ?_⟩
                · rw [any_step _ _ i hi0 (by omega), ← hsm]
                · rw [any_step _ _ i hi0 (by omega), ← hft]
              · try dsimp only
                omega
      · intro hc3
        try simp only [decide_eq_true_eq, decide_eq_false_iff_not, Bool.not_eq_true', Bool.not_eq_false', beq_iff_eq] at hc3
        have hti : f.bs.l.take i.toNat = f.bs.l := List.take_of_length_le (by omega)
        rw [hti] at hsm hft
        have hos : okb = sm := by rw [← hokb, hsm, Bool.eq_iff_iff, decide_eq_true_iff]; exact fill_some fo hpr _
        refine AK.exit rfl ?_
        refine AK.seq ?_
        refine AK.region ?_
        refine AO.val (RV.move rfl) (.none rfl) rfl ?_
        refine AO.val (RV.move rfl) (.none rfl) rfl ?_
        refine AO.val ((RV.neqB rfl rfl).to (v' := .bool false) (by rw [hos]; simp)) (.none rfl) rfl ?_
        refine AO.val (RV.move rfl) (.none rfl) rfl ?_
        refine AO.val (RV.move rfl) (.some rfl rfl rfl rfl) rfl ?_
        refine AO.val (RV.move rfl) (.some rfl rfl rfl rfl) rfl ?_
        refine AO.caseG rfl rfl rfl ?_ ?_
        · intro hg17
          try simp only [decide_eq_true_eq, decide_eq_false_iff_not, Bool.not_eq_true', Bool.not_eq_false', beq_iff_eq] at hg17
          have hne : (fillS lo hi m (fitP f.bs.l (lget f.vs.l j).1)).length ≠ 0 := by have h0 := hg17; rw [← hokb] at h0; simpa using h0
          have hft1 : ft = true := by
            rw [hft, ← hpid, if_neg hne]
            exact fill_fits hpr ⟨Int.emod_nonneg _ (by omega), Int.emod_lt_of_pos _ (by omega)⟩
          refine AO.val (RV.move rfl) (.some rfl rfl rfl rfl) rfl ?_
          refine AO.val ((RV.not rfl).to (v' := .bool false) (by rw [hft1]; rfl)) (.some rfl rfl rfl rfl) rfl ?_
          refine AO.val (RV.pickT rfl rfl) (.some rfl rfl rfl rfl) rfl ?_
          refine AO.val (RV.pickF rfl rfl) (.none rfl) rfl ?_
          refine AO.nil ?_
          refine AK.condF rfl ?_
          refine AK.skip ?_
          refine AK.inBlock ?_
          refine AK.region ?_
          refine AO.val (RV.move rfl) (.none rfl) rfl ?_
          refine AO.val (by first | exact RV.addIn rfl rfl (by omega) | exact RV.add rfl rfl) (.none rfl) rfl ?_
          refine AO.val (RV.assign rfl) (.none rfl) rfl ?_
          refine AO.nil ?_
          -- round ends at FL0TL1Ft
          refine AK.weak (.cons (by exact rfl) (.cons (by exact rfl) (.cons (by exact rfl) (.cons (by exact rfl) (.cons (by exact rfl) .nil))))) (by first | exact SubO.sub | exact List.Sublist.refl _ | exact .cons _ (List.Sublist.refl _) | exact .cons _ (.cons _ (List.Sublist.refl _)) | exact .cons _ (.cons _ (.cons _ (List.Sublist.refl _)))) (hih0 (j + 1) ?_ ?_)
          · try dsimp only
            exact ⟨by omega, by omega⟩
          · try dsimp only
            (try simp only); omega
        · intro hg17
          try simp only [decide_eq_true_eq, decide_eq_false_iff_not, Bool.not_eq_true', Bool.not_eq_false', beq_iff_eq] at hg17
          refine AO.pass (.some rfl rfl rfl rfl) rfl ?_
          refine AO.pass (.some rfl rfl rfl rfl) rfl ?_
          refine AO.val (RV.pickF rfl rfl) (.some rfl rfl rfl rfl) rfl ?_
          refine AO.val (RV.pickF rfl rfl) (.none rfl) rfl ?_
          refine AO.nil ?_
          refine AK.condF rfl ?_
          refine AK.skip ?_
          refine AK.inBlock ?_
          refine AK.region ?_
          refine AO.val (RV.move rfl) (.none rfl) rfl ?_
          refine AO.val (by first | exact RV.addIn rfl rfl (by omega) | exact RV.add rfl rfl) (.none rfl) rfl ?_
          refine AO.val (RV.assign rfl) (.none rfl) rfl ?_
          refine AO.nil ?_
          -- round ends at FL0TL1Ff
          refine AK.weak (.cons (by exact rfl) (.cons (by exact rfl) (.cons (by exact rfl) (.cons (by exact rfl) (.cons (by exact rfl) .nil))))) (by first | exact SubO.sub | exact List.Sublist.refl _ | exact .cons _ (List.Sublist.refl _) | exact .cons _ (.cons _ (List.Sublist.refl _)) | exact .cons _ (.cons _ (.cons _ (List.Sublist.refl _)))) (hih0 (j + 1) ?_ ?_)
          · try dsimp only
            exact ⟨by omega, by omega⟩
          · try dsimp only
            (try simp only); omega
    · intro hc2
      try simp only [decide_eq_true_eq, decide_eq_false_iff_not, Bool.not_eq_true', Bool.not_eq_false', beq_iff_eq] at hc2
      refine AK.exit rfl ?_
      refine AK.seq ?_
      refine AK.region ?_
      refine AO.eff (EF.callF rfl (lives_spec B _)) (.none rfl) rfl ?_
      rintro _ _ ⟨rfl, rfl⟩
      refine AO.val (RV.assign rfl) (.none rfl) rfl ?_
      refine AO.nil ?_
      -- at FL0F
      clear hih0
      refine AK.ret (h' := []) Try.func4 (.tmp rfl .nil) ?_ (List.nil_sublist _)
      rfl


set_option maxRecDepth 100000 in
theorem boardFits_lifted (os : Os) (started : os.Started) (H : Type) (enc : TypeId × Value → H) :
    ReturnsInHanded {} Try.checked os 4 .any (Rows.boardFitsSpec.pre6 enc Try.prog Try.f4 Rows.boardFitsRow.domain false) (Rows.boardFitsSpec.post enc Try.prog Try.f4 false true false false) := by
  refine returnsInHanded_of_change (C := Try.checked) own_ started (by kernel_rfl) Try.func4
    (ChangeSpec.witness6 (enc := enc) (C := Try.checked) false ⟨#[], #[(Value.agg #[(Value.int IntKind.u64 0), (Value.int IntKind.u64 0)]), (Value.int IntKind.i64 0), (Value.slice none 0 0), (Value.agg #[(Value.int IntKind.u32 0), (Value.int IntKind.u32 0), (Value.int IntKind.u16 0), (Value.int IntKind.u16 0), (Value.int IntKind.u8 0)])], []⟩ 8 (by kernel_rfl) (by kernel_rfl) (by kernel_rfl) (by kernel_rfl)) ?_
  intro W base args ds gs before hval0 hW hcnd _
  have hval : ∀ (j : Nat) t v, Try.f4.params[j]? = some t → args[j]? = some v → Value.okWide Try.prog W .any base t v := hval0
  have hW' := hW
  obtain ⟨p, q, hA0, hV, rfl, hfz, hnd⟩ := hW
  have hA : DataW.TrodAll enc Try.prog W 0 (fun _ => true) true Try.f4.params.toList args.toList ds p := hA0
  rw [Try.params4] at hA hval
  obtain ⟨args⟩ := args
  simp only at hA
  obtain ⟨v0, vs0, d0, ds0, p0, q0, e0a, e0b, e0c, t0, r0⟩ := trodAll_cons hA
  obtain ⟨v1, vs1, d1, ds1, p1, q1, e1a, e1b, e1c, t1, r1⟩ := trodAll_cons r0
  obtain ⟨v2, vs2, d2, ds2, p2, q2, e2a, e2b, e2c, t2, r2⟩ := trodAll_cons r1
  obtain ⟨v3, vs3, d3, ds3, p3, q3, e3a, e3b, e3c, t3, r3⟩ := trodAll_cons r2
  subst e0a e0b e0c
  subst e1a e1b e1c
  subst e2a e2b e2c
  subst e3a e3b e3c
  obtain ⟨rfl, rfl, rfl⟩ := trodAll_nil r3
  obtain ⟨rfl, rfl⟩ := trodVars_none hV
  have hlt := hW'.lt
  have k0 : Value.okWide Try.prog W .any base 24 v0 := hval 0 _ v0 rfl rfl
  obtain ⟨k, w0, hk⟩ := Dec.argA k0 t0 ((.cons (off := 0) (sz := 1) (by rfl) (by kernel_rfl) (Dec.int (t := 22) (k := .u64)) (.cons (off := 1) (sz := 1) (by rfl) (by kernel_rfl) (Dec.int (t := 22) (k := .u64)) .nil))) (by kernel_rfl)
  have k1 : Value.okWide Try.prog W .any base 3 v1 := hval 1 _ v1 rfl rfl
  obtain ⟨m, w1, m_lo, m_hi⟩ := Dec.argI k1 t1
  have k2 : Value.okWide Try.prog W .any base 25 v2 := hval 2 _ v2 rfl rfl
  obtain ⟨l, w2, hl⟩ := Dec.argS k2 t2 ((Dec.struct (t := 45) (.cons (off := 0) (sz := 1) (by rfl) (by kernel_rfl) (Dec.int (t := 3) (k := .i64)) (.cons (off := 1) (sz := 5) (by rfl) (by kernel_rfl) (Dec.struct (t := 41) (.cons (off := 0) (sz := 1) (by rfl) (by kernel_rfl) (Dec.int (t := 3) (k := .i64)) (.cons (off := 1) (sz := 1) (by rfl) (by kernel_rfl) (Dec.int (t := 26) (k := .u32)) (.cons (off := 2) (sz := 1) (by rfl) (by kernel_rfl) (Dec.int (t := 27) (k := .u16)) (.cons (off := 3) (sz := 1) (by rfl) (by kernel_rfl) (Dec.int (t := 5) (k := .u8)) (.cons (off := 4) (sz := 1) (by rfl) (by kernel_rfl) (Dec.int (t := 3) (k := .i64)) .nil))))) (by kernel_rfl)) (.cons (off := 6) (sz := 6) (by rfl) (by kernel_rfl) (Dec.struct (t := 43) (.cons (off := 0) (sz := 1) (by rfl) (by kernel_rfl) (Dec.int (t := 3) (k := .i64)) (.cons (off := 1) (sz := 1) (by rfl) (by kernel_rfl) (Dec.int (t := 3) (k := .i64)) (.cons (off := 2) (sz := 1) (by rfl) (by kernel_rfl) (Dec.int (t := 26) (k := .u32)) (.cons (off := 3) (sz := 1) (by rfl) (by kernel_rfl) (Dec.int (t := 3) (k := .i64)) (.cons (off := 4) (sz := 1) (by rfl) (by kernel_rfl) (Dec.int (t := 3) (k := .i64)) (.cons (off := 5) (sz := 1) (by rfl) (by kernel_rfl) (Dec.bool (t := 4)) .nil)))))) (by kernel_rfl)) (.cons (off := 12) (sz := 1) (by rfl) (by kernel_rfl) (Dec.int (t := 3) (k := .i64)) .nil)))) (by kernel_rfl))) (by decide)
  have k3 : Value.okWide Try.prog W .any base 29 v3 := hval 3 _ v3 rfl rfl
  obtain ⟨x, w3, hx⟩ := Dec.argA k3 t3 ((.cons (off := 0) (sz := 1) (by rfl) (by kernel_rfl) (Dec.int (t := 26) (k := .u32)) (.cons (off := 1) (sz := 1) (by rfl) (by kernel_rfl) (Dec.int (t := 26) (k := .u32)) (.cons (off := 2) (sz := 1) (by rfl) (by kernel_rfl) (Dec.int (t := 27) (k := .u16)) (.cons (off := 3) (sz := 1) (by rfl) (by kernel_rfl) (Dec.int (t := 27) (k := .u16)) (.cons (off := 4) (sz := 1) (by rfl) (by kernel_rfl) (Dec.int (t := 5) (k := .u8)) .nil)))))) (by kernel_rfl)
  have htri : Tri Try.prog W 4 [v0, v1, v2, v3] [] (fun v _ => v = .bool true) := by
    subst w0 w1 w2 w3
    exact fits_law W k.1 k.2.1 m l.l hl.1 (by have := hl.2.1; have := hl.2.2.1; omega) x ⟨hx.1, hx.2.1, hx.2.2.1, hx.2.2.2.1, hx.2.2.2.2.1⟩
  clear w0 w1 w2 w3
  refine (htri.run W (Models.start W)).mono fun e W' ⟨v, h2, he, m2, hv⟩ => ?_
  subst he; subst hv
  have hb := m2.below
  refine ⟨_, rfl, post_of_below (pa := (p0 ++ (p1 ++ (p2 ++ (p3 ++ ([])))))) (pv := []) hW' (fun _ _ _ => trodAll_mk1 (shut_bool (Try.underlying4) true)) (fun sp hsp => ?_) (fun _ _ => rfl) rfl hb (ok_one (t := 4) (by kernel_rfl) rfl ?_)⟩
  · refine TAcons (WideElems.Trod_stays laidOut_ (by kernel_rfl) (of_decide_eq_true (by kernel_rfl)) t0 (fun x hx => hb.same (hlt x (by simp [hx]))) (fun x hx => hsp x (by simp [hx]))) ?_
    refine TAcons (WideElems.Trod_stays laidOut_ (by kernel_rfl) (of_decide_eq_true (by kernel_rfl)) t1 (fun x hx => hb.same (hlt x (by simp [hx]))) (fun x hx => hsp x (by simp [hx]))) ?_
    refine TAcons (WideElems.Trod_stays laidOut_ (by kernel_rfl) (of_decide_eq_true (by kernel_rfl)) t2 (fun x hx => hb.same (hlt x (by simp [hx]))) (fun x hx => hsp x (by simp [hx]))) ?_
    refine TAcons (WideElems.Trod_stays laidOut_ (by kernel_rfl) (of_decide_eq_true (by kernel_rfl)) t3 (fun x hx => hb.same (hlt x (by simp [hx]))) (fun x hx => hsp x (by simp [hx]))) ?_
    rfl
  · exact okBool Try.underlying4

theorem boardFits_holds : Rows.BoardFitsSaid :=
  OpenClaim.holds_of_wide 4 Try.f4 rfl rfl rfl rfl rfl rfl rfl ⟨rfl, rfl, rfl, rfl, rfl⟩ rfl rfl rfl rfl rfl (by kernel_rfl) Try.func4 (by kernel_rfl)
    (of_decide_eq_true (by kernel_rfl)) (by unfold Func.isWrapper; first | (rw [if_pos (by decide +kernel)]; kernel_rfl) | (rw [if_neg (by decide +kernel)]; exact ⟨rfl, rfl⟩))
    (fun os started H enc _ => boardFits_lifted os started H enc)

end Go.Proofs.Ytbdlohjmifgcaaa
