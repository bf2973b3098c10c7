/- Walks through the code: what each function that is named here gives back, from any memory that holds its arguments. Written by a program of the claim's author, out of the program's form in Lean. -/
import Derived.Test.YtagfegkpgdaimaaS10W2
set_option linter.unusedSimpArgs false
set_option linter.unusedVariables false
namespace Go.Proofs.Ytagfegkpgdaimaa
open Go.Sep Go.Sep.Sip Go.Sep.Topt

theorem mss_spec (B : World) (h : Own) {A : Option Addr} {cap : Nat} (l : List Int) (hl : Src B h A l.length 1 (l.map (fun x => Value.int .u8 x))) (hb : Bytes l) (hcap : l.length ≤ cap) (hln : l.length ≤ 100000) : Tri Try.prog B 30 [.slice A l.length cap] h fun v h' => h = h' ∧ v = .tuple #[.int .u16 (mssS l).1, .bool (mssS l).2] := by
  refine Tri.enter (n := 34) Try.func30 rfl rfl rfl ?_
  simp only [argsE, Nat.reduceAdd]
  try dsimp only [argsE]
  refine AK.seq ?_
  refine AK.region ?_
  refine AO.val (RV.assign rfl) (.none rfl) rfl ?_
  refine AO.val (RV.assign rfl) (.none rfl) rfl ?_
  refine AO.nil ?_
  refine AK.seq ?_
  refine AK.region ?_
  refine AO.val (RV.move rfl) (.none rfl) rfl ?_
  refine AO.eff (EF.callF rfl (of_spec B _ l (hl.mono fun x hx => by simp [hx]) hb hcap hln)) (.none rfl) rfl ?_
  rintro _ _ ⟨Ao, c, p, q, xs, rfl, hn, hpr, rfl⟩
  have hs := hn.row.src (B := B) (h := p) (fun x hx => hx)
  have hok := (ofS_ok l.length l (Nat.le_refl _) hb).2
  have hxl : xs.length = (ofS l).1.length := by rw [← hpr, List.length_map]
  refine AO.val (RV.move rfl) (.none rfl) rfl ?_
  refine AO.val (RV.extract rfl rfl) (.none rfl) rfl ?_
  refine AO.val (RV.extract rfl rfl) (.none rfl) rfl ?_
  refine AO.val (RV.assign rfl) (.none rfl) rfl ?_
  refine AO.val (RV.assign rfl) (.none rfl) rfl ?_
  refine AO.nil ?_
  refine AK.seq ?_
  refine AK.seq ?_
  refine AK.region ?_
  refine AO.val (RV.move rfl) (.none rfl) rfl ?_
  refine AO.val (RV.lenS rfl) (.none rfl) rfl ?_
  refine AO.val (RV.move rfl) (.none rfl) rfl ?_
  refine AO.nil ?_
  refine AK.block ?_
  refine AK.loop (α := Int) (E := fun i => [(13, .slice Ao xs.length c), (14, .int .i64 xs.length), (15, .int .i64 i)]) (H := fun i => p ++ (q ++ h)) (Inv := fun i => 0 ≤ i ∧ i ≤ xs.length ∧ firstS ((ofS l).1.drop i.toNat) = mssS l) (μ := fun i => (xs.length - i).toNat) 0 ?_ (.cons (by exact rfl) (.cons (by exact rfl) (.cons (by exact rfl) .nil))) ?_ ?_
  · exact ⟨by omega, by omega, rfl⟩
  · exact (by first | exact SubO.sub | exact List.Sublist.refl _ | exact .cons _ (List.Sublist.refl _) | exact .cons _ (.cons _ (List.Sublist.refl _)) | exact .cons _ (.cons _ (.cons _ (List.Sublist.refl _))))
  rintro i ⟨hi0, hi1, hfi⟩ hih0
  try dsimp only at hih0 ⊢
  refine AK.seq ?_
  refine AK.region ?_
  refine AO.val (RV.lss rfl rfl) (.none rfl) rfl ?_
  refine AO.nil ?_
  refine AK.seq ?_
  refine AK.cond rfl ?_ ?_
  · intro hc1
    try simp only [decide_eq_true_eq, decide_eq_false_iff_not, Bool.not_eq_true', Bool.not_eq_false', beq_iff_eq] at hc1
    have hm := lget_mem (l := xs) (i := i) (by omega)
    have hxo := hn.dat _ hm
    have hdl : ((ofS l).1.drop i.toNat) = prO (lget xs i) :: (ofS l).1.drop (i + 1).toNat := by rw [← hpr]; exact prO_lget (by omega)
    rw [hdl] at hfi
    refine AK.skip ?_
    refine AK.seq ?_
    refine AK.block ?_
    refine AK.seq ?_
    refine AK.region ?_
    refine AO.val (by first | exact RV.indexS rfl rfl (by assumption) (by omega) rfl | exact RV.indexAddr rfl rfl (by omega)) (.none rfl) rfl ?_
    refine AO.val (RV.loadSA (enc := encOpt) rfl hs (fun _ => rfl) (by omega) (by simp)) (.none rfl) rfl ?_
    refine AO.eff (EF.alloc) (.none rfl) rfl ?_
    rintro _ _ ⟨b7, hf7, rfl, rfl⟩
    refine AO.effN (EF.storeO rfl rfl rfl rfl rfl rfl) (.none rfl) ?_
    rintro _ _ rfl
    refine AO.nil ?_
    refine AK.seq ?_
    refine AK.region ?_
    refine AO.val (RV.fieldAddr rfl) (.none rfl) rfl ?_
    refine AO.val (by first | exact RV.loadO rfl rfl (by first | simp | assumption) | exact RV.loadS rfl (by assumption) (by omega) (by first | simp | assumption)) (.none rfl) rfl ?_
    refine AO.val (RV.eql rfl rfl) (.none rfl) rfl ?_
    refine AO.val (RV.move rfl) (.none rfl) rfl ?_
    refine AO.caseG rfl rfl rfl ?_ ?_
    · intro hg2
      try simp only [decide_eq_true_eq, decide_eq_false_iff_not, Bool.not_eq_true', Bool.not_eq_false', beq_iff_eq] at hg2
      refine AO.val (RV.fieldAddr rfl) (.some rfl rfl rfl rfl) rfl ?_
      refine AO.val (by first | exact RV.loadO rfl rfl (by first | simp | assumption) | exact RV.loadS rfl (by assumption) (by omega) (by first | simp | assumption)) (.some rfl rfl rfl rfl) rfl ?_
      refine AO.val (RV.lenS rfl) (.some rfl rfl rfl rfl) rfl ?_
      refine AO.val (RV.eql rfl rfl) (.some rfl rfl rfl rfl) rfl ?_
      refine AO.val (RV.pickT rfl rfl) (.none rfl) rfl ?_
      refine AO.nil ?_
      refine AK.cond rfl ?_ ?_
      · intro hc3
        try simp only [decide_eq_true_eq, decide_eq_false_iff_not, Bool.not_eq_true', Bool.not_eq_false', beq_iff_eq] at hc3
        have hdn : (lget xs i).2.1.l.length = 2 := by omega
        have hth : thereB (lget xs i).2.1.l 0 2 = true := by simp [thereB, hdn]
        have hms : mssS l = (lget (lget xs i).2.1.l 0 * 256 + lget (lget xs i).2.1.l 1, true) := by rw [← hfi, firstS, if_pos ⟨by assumption, hdn⟩]; rfl
        refine AK.seq ?_
        refine AK.region ?_
        refine AO.val (RV.fieldAddr rfl) (.none rfl) rfl ?_
        refine AO.val (by first | exact RV.loadO rfl rfl (by first | simp | assumption) | exact RV.loadS rfl (by assumption) (by omega) (by first | simp | assumption)) (.none rfl) rfl ?_
        refine AO.eff (EF.callF rfl (get16_spec (cap := (lget xs i).2.1.cap) B _ (lget xs i).2.1.l hxo.src.sub hxo.cap (by omega) hxo.byt 0 (by decide))) (.none rfl) rfl ?_
        rintro _ _ ⟨rfl, rfl⟩
        rw [hth, Go.Sep.Tag.beV_cut2 _ _ (by omega) (by omega)]
        simp only [if_true]
        refine AO.val (RV.extract rfl rfl) (.none rfl) rfl ?_
        refine AO.val (RV.extract rfl rfl) (.none rfl) rfl ?_
        refine AO.val (RV.assign rfl) (.none rfl) rfl ?_
        refine AO.val (RV.assign rfl) (.none rfl) rfl ?_
        refine AO.nil ?_
        -- at L0TtT
        clear hih0
        refine AK.ret (h' := h) Try.func30 (.tmp rfl (.tmp rfl .nil)) ?_ (by exact SubO.sub)
        rw [hms]
        exact ⟨rfl, rfl⟩
      · intro hc3
        try simp only [decide_eq_true_eq, decide_eq_false_iff_not, Bool.not_eq_true', Bool.not_eq_false', beq_iff_eq] at hc3
        refine AK.skip ?_
        refine AK.inBlock ?_
        refine AK.region ?_
        refine AO.val (by first | exact RV.addIn rfl rfl (by omega) | exact RV.add rfl rfl) (.none rfl) rfl ?_
        refine AO.val (RV.move rfl) (.none rfl) rfl ?_
        refine AO.nil ?_
        -- round ends at L0TtF
        refine AK.weak (.cons (by exact rfl) (.cons (by exact rfl) (.cons (by exact rfl) .nil))) (by first | exact SubO.sub | exact List.Sublist.refl _ | exact .cons _ (List.Sublist.refl _) | exact .cons _ (.cons _ (List.Sublist.refl _)) | exact .cons _ (.cons _ (.cons _ (List.Sublist.refl _)))) (hih0 (i + 1) ?_ ?_)
        · try dsimp only
          refine ⟨by omega, by omega, ?_⟩
          rw [← hfi, firstS, if_neg (by intro hh; first | exact absurd hh.1 (by assumption) | (have h2 := hh.2; simp only [prO] at h2; omega))]
        · try dsimp only
          omega
    · intro hg2
      try simp only [decide_eq_true_eq, decide_eq_false_iff_not, Bool.not_eq_true', Bool.not_eq_false', beq_iff_eq] at hg2
      refine AO.pass (.some rfl rfl rfl rfl) rfl ?_
      refine AO.pass (.some rfl rfl rfl rfl) rfl ?_
      refine AO.pass (.some rfl rfl rfl rfl) rfl ?_
      refine AO.pass (.some rfl rfl rfl rfl) rfl ?_
      refine AO.val (RV.pickF rfl rfl) (.none rfl) rfl ?_
      refine AO.nil ?_
      refine AK.condF rfl ?_
      refine AK.skip ?_
      refine AK.inBlock ?_
      refine AK.region ?_
      refine AO.val (by first | exact RV.addIn rfl rfl (by omega) | exact RV.add rfl rfl) (.none rfl) rfl ?_
      refine AO.val (RV.move rfl) (.none rfl) rfl ?_
      refine AO.nil ?_
      -- round ends at L0Tf
      refine AK.weak (.cons (by exact rfl) (.cons (by exact rfl) (.cons (by exact rfl) .nil))) (by first | exact SubO.sub | exact List.Sublist.refl _ | exact .cons _ (List.Sublist.refl _) | exact .cons _ (.cons _ (List.Sublist.refl _)) | exact .cons _ (.cons _ (.cons _ (List.Sublist.refl _)))) (hih0 (i + 1) ?_ ?_)
      · try dsimp only
        refine ⟨by omega, by omega, ?_⟩
        rw [← hfi, firstS, if_neg (by intro hh; first | exact absurd hh.1 (by assumption) | (have h2 := hh.2; simp only [prO] at h2; omega))]
      · try dsimp only
        omega
  · intro hc1
    try simp only [decide_eq_true_eq, decide_eq_false_iff_not, Bool.not_eq_true', Bool.not_eq_false', beq_iff_eq] at hc1
    refine AK.exit rfl ?_
    refine AK.seq ?_
    refine AK.region ?_
    refine AO.val (RV.assign rfl) (.none rfl) rfl ?_
    refine AO.val (RV.assign rfl) (.none rfl) rfl ?_
    refine AO.nil ?_
    -- at L0F
    clear hih0
    refine AK.ret (h' := h) Try.func30 (.tmp rfl (.tmp rfl .nil)) ?_ (by exact SubO.sub)
    have hdn : ((ofS l).1.drop i.toNat) = [] := List.drop_eq_nil_of_le (by omega)
    rw [hdn] at hfi
    rw [← hfi]
    exact ⟨rfl, rfl⟩

theorem pmss_spec (B : World) (h : Own) (n : Int) (hn : 0 ≤ n ∧ n ≤ 65535) : Tri Try.prog B 34 [.int .u16 n] h fun v h' => NewS 5 1 4 ((pmB n).map (fun x => Value.int .u8 x)) h v h' := by
  refine Tri.enter (n := 15) Try.func34 rfl rfl rfl ?_
  simp only [argsE, Nat.reduceAdd]
  try dsimp only [argsE]
  refine AK.seq ?_
  refine AK.region ?_
  refine AO.val (RV.assign rfl) (.none rfl) rfl ?_
  refine AO.nil ?_
  refine AK.seq ?_
  refine AK.region ?_
  refine AO.val (RV.move rfl) (.none rfl) rfl ?_
  refine AO.eff (EF.buildSeq [.int .u16 n] rfl rfl rfl rfl) (.none rfl) rfl ?_
  rintro _ _ ⟨b7, hf7, rfl, rfl⟩
  refine AO.eff (EF.callF rfl ((put16_spec (A := none) (cap := 0) (A2 := some ⟨b7, 0, none⟩) (cap2 := 1) B _ [] [n] ⟨rfl, by simp⟩ (by simp) (Src.of_new (el := 28) (cs := [.int .u16 n]) (by simp) 1 1 (Nat.le_refl _)) (by simp)).mono fun v h2 r => r.to (n' := 2) (ys := (beR 2 n).map (fun x => Value.int .u8 x)) (by simp) (by simp))) (.none rfl) rfl ?_
  rintro _ _ ⟨A8, c8, p8, rfl, hr8, hc8, rfl⟩
  refine AO.val (RV.build rfl (.cons rfl rfl rfl rfl (.cons rfl rfl rfl rfl .nil))) (.none rfl) rfl ?_
  refine AO.eff (EF.buildSlice rfl rfl rfl (.cons rfl rfl rfl rfl .nil)) (.none rfl) rfl ?_
  rintro _ _ ⟨b10, hf10, rfl, rfl⟩
  refine AO.eff (EF.callF rfl (oput_spec (A := some ⟨b10, 0, none⟩) (cap := 1) B _ [((2, ⟨A8, c8, beR 2 n⟩, ()) : Opt)] (Src.of_new (el := 78) (cs := [.int .u8 2, .slice A8 2 c8]) List.mem_cons_self 1 2 (Nat.le_refl _)) (by intro x hx; rw [List.mem_singleton.1 hx]; exact ⟨⟨by show (0 : Int) ≤ 2; decide, by show (2 : Int) ≤ 255; decide⟩, (hr8.src (h := p8) (fun x hx => hx)).mono fun x hx => by simp [hx], hc8, beR_bytes 2 n, by simp [beR_len]⟩) (by simp) (by simp))) (.none rfl) rfl ?_
  rintro _ _ ⟨w11, rfl, A11, c11, p11, rfl, hr11, hc11, rfl⟩
  rw [show putS ([((2, ⟨A8, c8, beR 2 n⟩, ()) : Opt)].map prO) = (pmB n, 0) from putS_mss n] at *
  refine AO.val (RV.move rfl) (.none rfl) rfl ?_
  refine AO.val (RV.extract rfl rfl) (.none rfl) rfl ?_
  refine AO.val (RV.extract rfl rfl) (.none rfl) rfl ?_
  refine AO.val (RV.assign rfl) (.none rfl) rfl ?_
  refine AO.val (RV.assign rfl) (.none rfl) rfl ?_
  refine AO.nil ?_
  refine AK.seq ?_
  refine AK.region ?_
  refine AO.val (RV.move rfl) (.none rfl) rfl ?_
  refine AO.val (RV.assign rfl) (.none rfl) rfl ?_
  refine AO.nil ?_
  -- at 
  refine AK.ret (h' := p11 ++ h) Try.func34 (.tmp rfl .nil) ?_ (by exact SubO.sub)
  exact ⟨A11, c11, p11, rfl, hr11, hc11, rfl⟩

end Go.Proofs.Ytagfegkpgdaimaa
