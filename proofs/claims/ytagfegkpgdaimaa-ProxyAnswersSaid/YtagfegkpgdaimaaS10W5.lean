/- Walks through the code: what each function that is named here gives back, from any memory that holds its arguments. Written by a program of the claim's author, out of the program's form in Lean. -/
import Derived.Test.YtagfegkpgdaimaaS10W4
set_option linter.unusedSimpArgs false
set_option linter.unusedVariables false
namespace Go.Proofs.Ytagfegkpgdaimaa
open Go.Sep Go.Sep.Sip Go.Sep.Topt

theorem rmss_spec (B : World) (h : Own) {A : Option Addr} {cap : Nat} (l : List Int) (hl : Src B h A l.length 1 (l.map (fun x => Value.int .u8 x))) (hb : Bytes l) (hcap : l.length ≤ cap) (hln : l.length ≤ 100000) : Tri Try.prog B 36 [.slice A l.length cap] h fun v h' => h = h' ∧ v = .tuple #[.int .u16 (mssS l).1, .bool (mssS l).2] := by
  refine Tri.enter (n := 55) Try.func36 rfl rfl rfl ?_
  simp only [argsE, Nat.reduceAdd]
  try dsimp only [argsE]
  refine AK.seq ?_
  refine AK.region ?_
  refine AO.val (RV.assign rfl) (.none rfl) rfl ?_
  refine AO.val (RV.assign rfl) (.none rfl) rfl ?_
  refine AO.nil ?_
  refine AK.seq ?_
  refine AK.region ?_
  refine AO.val (RV.move rfl) (.none rfl) rfl ?_
  refine AO.eff (EF.callF rfl (rof_spec B _ l (hl.mono fun x hx => by simp [hx]) hb hcap hln)) (.none rfl) rfl ?_
  rintro _ _ ⟨Ao, c, p, q, xs, rfl, hn, hpr, rfl⟩
  have hs := hn.row.src (B := B) (h := p) (fun x hx => hx)
  have hok := (ofS_ok l.length l (Nat.le_refl _) hb).2
  have hxl : xs.length = (ofS l).1.length := by rw [← hpr, List.length_map]
  refine AO.val (RV.move rfl) (.none rfl) rfl ?_
  refine AO.val (RV.extract rfl rfl) (.none rfl) rfl ?_
  refine AO.val (RV.extract rfl rfl) (.none rfl) rfl ?_
  refine AO.val (RV.assign rfl) (.none rfl) rfl ?_
  refine AO.val (RV.assign rfl) (.none rfl) rfl ?_
  refine AO.nil ?_
  refine AK.seq ?_
  refine AK.seq ?_
  refine AK.region ?_
  refine AO.val (RV.assign rfl) (.none rfl) rfl ?_
  refine AO.nil ?_
  refine AK.block ?_
  refine AK.loop (α := Int) (E := fun i => [(4, .slice Ao xs.length c), (5, .int .i64 (ofS l).2), (6, .int .i64 i)]) (H := fun i => p ++ (q ++ h)) (Inv := fun i => 0 ≤ i ∧ i ≤ xs.length ∧ firstS ((ofS l).1.drop i.toNat) = mssS l) (μ := fun i => (xs.length - i).toNat) 0 ?_ (.cons (by exact rfl) (.cons (by exact rfl) (.cons (by exact rfl) .nil))) ?_ ?_
  · exact ⟨by omega, by omega, rfl⟩
  · exact (by first | exact SubO.sub | exact List.Sublist.refl _ | exact .cons _ (List.Sublist.refl _) | exact .cons _ (.cons _ (List.Sublist.refl _)) | exact .cons _ (.cons _ (.cons _ (List.Sublist.refl _))))
  rintro i ⟨hi0, hi1, hfi⟩ hih0
  try dsimp only at hih0 ⊢
  refine AK.seq ?_
  refine AK.seq ?_
  refine AK.region ?_
  refine AO.val (RV.move rfl) (.none rfl) rfl ?_
  refine AO.val (RV.move rfl) (.none rfl) rfl ?_
  refine AO.val (RV.lenS rfl) (.none rfl) rfl ?_
  refine AO.val (RV.lss rfl rfl) (.none rfl) rfl ?_
  refine AO.val (RV.move rfl) (.none rfl) rfl ?_
  refine AO.caseG rfl rfl rfl ?_ ?_
  · intro hg1
    try simp only [decide_eq_true_eq, decide_eq_false_iff_not, Bool.not_eq_true', Bool.not_eq_false', beq_iff_eq] at hg1
    refine AO.val (RV.move rfl) (.some rfl rfl rfl rfl) rfl ?_
    refine AO.val (RV.eql rfl rfl) (.some rfl rfl rfl rfl) rfl ?_
    refine AO.val (RV.pickT rfl rfl) (.none rfl) rfl ?_
    refine AO.nil ?_
    refine AK.cond rfl ?_ ?_
    · intro hc2
      try simp only [decide_eq_true_eq, decide_eq_false_iff_not, Bool.not_eq_true', Bool.not_eq_false', beq_iff_eq] at hc2
      have hm := lget_mem (l := xs) (i := i) (by omega)
      have hxo := hn.dat _ hm
      have hdl : ((ofS l).1.drop i.toNat) = prO (lget xs i) :: (ofS l).1.drop (i + 1).toNat := by rw [← hpr]; exact prO_lget (by omega)
      rw [hdl] at hfi
      refine AK.skip ?_
      refine AK.seq ?_
      refine AK.block ?_
      refine AK.seq ?_
      refine AK.region ?_
      refine AO.val (RV.move rfl) (.none rfl) rfl ?_
      refine AO.val (RV.move rfl) (.none rfl) rfl ?_
      refine AO.val (by first | exact RV.indexS rfl rfl (by assumption) (by omega) rfl | exact RV.indexAddr rfl rfl (by omega)) (.none rfl) rfl ?_
      refine AO.val (by first | exact RV.fieldAddr rfl | exact RV.fieldAddrA rfl) (.none rfl) rfl ?_
      refine AO.val (RV.loadSF (enc := encOpt) (fo := 0) rfl hs (fun _ => rfl) (by omega) rfl rfl (by simp)) (.none rfl) rfl ?_
      refine AO.val (RV.eql rfl rfl) (.none rfl) rfl ?_
      refine AO.val (RV.move rfl) (.none rfl) rfl ?_
      refine AO.caseG rfl rfl rfl ?_ ?_
      · intro hg3
        try simp only [decide_eq_true_eq, decide_eq_false_iff_not, Bool.not_eq_true', Bool.not_eq_false', beq_iff_eq] at hg3
        refine AO.val (RV.move rfl) (.some rfl rfl rfl rfl) rfl ?_
        refine AO.val (RV.move rfl) (.some rfl rfl rfl rfl) rfl ?_
        refine AO.val (by first | exact RV.indexS rfl rfl (by assumption) (by omega) rfl | exact RV.indexAddr rfl rfl (by omega)) (.some rfl rfl rfl rfl) rfl ?_
        refine AO.val (by first | exact RV.fieldAddr rfl | exact RV.fieldAddrA rfl) (.some rfl rfl rfl rfl) rfl ?_
        refine AO.val (RV.loadSF (enc := encOpt) (fo := 1) rfl hs (fun _ => rfl) (by omega) rfl rfl (by simp)) (.some rfl rfl rfl rfl) rfl ?_
        refine AO.val (RV.lenS rfl) (.some rfl rfl rfl rfl) rfl ?_
        refine AO.val (RV.eql rfl rfl) (.some rfl rfl rfl rfl) rfl ?_
        refine AO.val (RV.pickT rfl rfl) (.none rfl) rfl ?_
        refine AO.nil ?_
        refine AK.cond rfl ?_ ?_
        · intro hc4
          try simp only [decide_eq_true_eq, decide_eq_false_iff_not, Bool.not_eq_true', Bool.not_eq_false', beq_iff_eq] at hc4
          have hdn : (lget xs i).2.1.l.length = 2 := by omega
          have hms : mssS l = (lget (lget xs i).2.1.l 0 * 256 + lget (lget xs i).2.1.l 1, true) := by rw [← hfi, firstS, if_pos ⟨by assumption, hdn⟩]; rfl
          have hb0 := lget_bytes hxo.byt 0 (by omega) (by omega)
          have hb1 := lget_bytes hxo.byt 1 (by omega) (by omega)
          have hso := hxo.src
          refine AK.seq ?_
          refine AK.draw [] [] mixed ?_
          refine AD.takeP 0 rfl (by kernel_rfl) (RV.move rfl) (.none rfl) rfl ?_
          refine AD.takeP 1 rfl (by kernel_rfl) (RV.move rfl) (.none rfl) rfl ?_
          refine AD.takeP 2 rfl (by kernel_rfl) (by first | exact RV.indexS rfl rfl (by assumption) (by omega) rfl | exact RV.indexAddr rfl rfl (by omega)) (.none rfl) rfl ?_
          refine AD.takeP 3 rfl (by kernel_rfl) (by first | exact RV.fieldAddr rfl | exact RV.fieldAddrA rfl) (.none rfl) rfl ?_
          refine AD.take 4 rfl (by kernel_rfl) (RV.loadSF (enc := encOpt) (fo := 1) rfl hs (fun _ => rfl) (by omega) rfl rfl (by simp)) (.none rfl) rfl ?_
          refine AD.takeP 5 rfl (by kernel_rfl) (by first | exact RV.indexS rfl rfl (by assumption) (by omega) rfl | exact RV.indexAddr rfl rfl (by omega)) (.none rfl) rfl ?_
          refine AD.take 6 rfl (by kernel_rfl) (RV.loadS (enc := Value.int .u8) (l := (lget xs i).2.1.l) (i := 0) rfl hso (by omega) (by simp)) (.none rfl) rfl ?_
          refine AD.takeP 7 rfl (by kernel_rfl) (RV.convIn rfl (by simp only [kb]; omega)) (.none rfl) rfl ?_
          refine AD.takeP 8 rfl (by kernel_rfl) (RV.mulK rfl rfl (by simp only [kb]; omega)) (.none rfl) rfl ?_
          refine AD.takeP 9 rfl (by kernel_rfl) (RV.move rfl) (.none rfl) rfl ?_
          refine AD.takeP 10 rfl (by kernel_rfl) (RV.move rfl) (.none rfl) rfl ?_
          refine AD.takeP 11 rfl (by kernel_rfl) (by first | exact RV.indexS rfl rfl (by assumption) (by omega) rfl | exact RV.indexAddr rfl rfl (by omega)) (.none rfl) rfl ?_
          refine AD.takeP 12 rfl (by kernel_rfl) (by first | exact RV.fieldAddr rfl | exact RV.fieldAddrA rfl) (.none rfl) rfl ?_
          refine AD.take 13 rfl (by kernel_rfl) (RV.loadSF (enc := encOpt) (fo := 1) rfl hs (fun _ => rfl) (by omega) rfl rfl (by simp)) (.none rfl) rfl ?_
          refine AD.takeP 14 rfl (by kernel_rfl) (by first | exact RV.indexS rfl rfl (by assumption) (by omega) rfl | exact RV.indexAddr rfl rfl (by omega)) (.none rfl) rfl ?_
          refine AD.take 15 rfl (by kernel_rfl) (RV.loadS (enc := Value.int .u8) (l := (lget xs i).2.1.l) (i := 1) rfl hso (by omega) (by simp)) (.none rfl) rfl ?_
          refine AD.takeP 16 rfl (by kernel_rfl) (RV.convIn rfl (by simp only [kb]; omega)) (.none rfl) rfl ?_
          refine AD.takeP 17 rfl (by kernel_rfl) (RV.addK rfl rfl (by simp only [kb]; omega)) (.none rfl) rfl ?_
          refine AD.takeP 18 rfl (by kernel_rfl) (RV.assign rfl) (.none rfl) rfl ?_
          refine AD.takeP 19 rfl (by kernel_rfl) (RV.assign rfl) (.none rfl) rfl ?_
          refine AD.done (by kernel_rfl) ?_
          -- at L0tTtT
          clear hih0
          refine AK.ret (h' := h) Try.func36 (.tmp rfl (.tmp rfl .nil)) ?_ (by exact SubO.sub)
          rw [hms]
          exact ⟨rfl, rfl⟩
        · intro hc4
          try simp only [decide_eq_true_eq, decide_eq_false_iff_not, Bool.not_eq_true', Bool.not_eq_false', beq_iff_eq] at hc4
          refine AK.skip ?_
          refine AK.inBlock ?_
          refine AK.region ?_
          refine AO.val (RV.move rfl) (.none rfl) rfl ?_
          refine AO.val (by first | exact RV.addIn rfl rfl (by omega) | exact RV.add rfl rfl) (.none rfl) rfl ?_
          refine AO.val (RV.assign rfl) (.none rfl) rfl ?_
          refine AO.nil ?_
          -- round ends at L0tTtF
          refine AK.weak (.cons (by exact rfl) (.cons (by exact rfl) (.cons (by exact rfl) .nil))) (by first | exact SubO.sub | exact List.Sublist.refl _ | exact .cons _ (List.Sublist.refl _) | exact .cons _ (.cons _ (List.Sublist.refl _)) | exact .cons _ (.cons _ (.cons _ (List.Sublist.refl _)))) (hih0 (i + 1) ?_ ?_)
          · try dsimp only
            refine ⟨by omega, by omega, ?_⟩
            rw [← hfi, firstS, if_neg (by intro hh; first | exact absurd hh.1 (by assumption) | (have h2 := hh.2; simp only [prO] at h2; omega))]
          · try dsimp only
            omega
      · intro hg3
        try simp only [decide_eq_true_eq, decide_eq_false_iff_not, Bool.not_eq_true', Bool.not_eq_false', beq_iff_eq] at hg3
        refine AO.pass (.some rfl rfl rfl rfl) rfl ?_
        refine AO.pass (.some rfl rfl rfl rfl) rfl ?_
        refine AO.pass (.some rfl rfl rfl rfl) rfl ?_
        refine AO.pass (.some rfl rfl rfl rfl) rfl ?_
        refine AO.pass (.some rfl rfl rfl rfl) rfl ?_
        refine AO.pass (.some rfl rfl rfl rfl) rfl ?_
        refine AO.pass (.some rfl rfl rfl rfl) rfl ?_
        refine AO.val (RV.pickF rfl rfl) (.none rfl) rfl ?_
        refine AO.nil ?_
        refine AK.condF rfl ?_
        refine AK.skip ?_
        refine AK.inBlock ?_
        refine AK.region ?_
        refine AO.val (RV.move rfl) (.none rfl) rfl ?_
        refine AO.val (by first | exact RV.addIn rfl rfl (by omega) | exact RV.add rfl rfl) (.none rfl) rfl ?_
        refine AO.val (RV.assign rfl) (.none rfl) rfl ?_
        refine AO.nil ?_
        -- round ends at L0tTf
        refine AK.weak (.cons (by exact rfl) (.cons (by exact rfl) (.cons (by exact rfl) .nil))) (by first | exact SubO.sub | exact List.Sublist.refl _ | exact .cons _ (List.Sublist.refl _) | exact .cons _ (.cons _ (List.Sublist.refl _)) | exact .cons _ (.cons _ (.cons _ (List.Sublist.refl _)))) (hih0 (i + 1) ?_ ?_)
        · try dsimp only
          refine ⟨by omega, by omega, ?_⟩
          rw [← hfi, firstS, if_neg (by intro hh; first | exact absurd hh.1 (by assumption) | (have h2 := hh.2; simp only [prO] at h2; omega))]
        · try dsimp only
          omega
    · intro hc2
      try simp only [decide_eq_true_eq, decide_eq_false_iff_not, Bool.not_eq_true', Bool.not_eq_false', beq_iff_eq] at hc2
      refine AK.exit rfl ?_
      refine AK.seq ?_
      refine AK.region ?_
      refine AO.val (RV.assign rfl) (.none rfl) rfl ?_
      refine AO.val (RV.assign rfl) (.none rfl) rfl ?_
      refine AO.nil ?_
      -- at L0tF
      clear hih0
      refine AK.ret (h' := h) Try.func36 (.tmp rfl (.tmp rfl .nil)) ?_ (by exact SubO.sub)
      have hdn : ((ofS l).1.drop i.toNat) = [] := by
        by_cases he : (ofS l).2 = 0
        · exact List.drop_eq_nil_of_le (by omega)
        · rw [ofS_err l he]; simp
      rw [hdn] at hfi
      rw [← hfi]
      exact ⟨rfl, rfl⟩
  · intro hg1
    try simp only [decide_eq_true_eq, decide_eq_false_iff_not, Bool.not_eq_true', Bool.not_eq_false', beq_iff_eq] at hg1
    refine AO.pass (.some rfl rfl rfl rfl) rfl ?_
    refine AO.pass (.some rfl rfl rfl rfl) rfl ?_
    refine AO.val (RV.pickF rfl rfl) (.none rfl) rfl ?_
    refine AO.nil ?_
    refine AK.condF rfl ?_
    refine AK.exit rfl ?_
    refine AK.seq ?_
    refine AK.region ?_
    refine AO.val (RV.assign rfl) (.none rfl) rfl ?_
    refine AO.val (RV.assign rfl) (.none rfl) rfl ?_
    refine AO.nil ?_
    -- at L0f
    clear hih0
    refine AK.ret (h' := h) Try.func36 (.tmp rfl (.tmp rfl .nil)) ?_ (by exact SubO.sub)
    have hdn : ((ofS l).1.drop i.toNat) = [] := by
      by_cases he : (ofS l).2 = 0
      · exact List.drop_eq_nil_of_le (by omega)
      · rw [ofS_err l he]; simp
    rw [hdn] at hfi
    rw [← hfi]
    exact ⟨rfl, rfl⟩

end Go.Proofs.Ytagfegkpgdaimaa
