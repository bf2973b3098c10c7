/- Walks through the code: what each function that is named here gives back, from any memory that holds its arguments. Written by a program of the claim's author, out of the program's form in Lean. -/
import Derived.Test.YtagfegkpgdaimaaS10W3
import Derived.Test.YtagfegkpgdaimaaS01R4
set_option linter.unusedSimpArgs false
set_option linter.unusedVariables false
namespace Go.Proofs.Ytagfegkpgdaimaa
open Go.Sep Go.Sep.Sip Go.Sep.Topt

theorem lget_drop (l : List Int) (k j : Int) (hk : 0 ≤ k) (hj : 0 ≤ j) : lget (l.drop k.toNat) j = lget l (k + j) := by
  simp only [lget, List.getD, List.getElem?_drop]
  rw [show k.toNat + j.toNat = (k + j).toNat by omega]

set_option maxHeartbeats 800000 in
theorem rof_spec (B : World) (h : Own) {A : Option Addr} {cap : Nat} (l : List Int) (hl : Src B h A l.length 1 (l.map (fun x => Value.int .u8 x))) (hb : Bytes l) (hcap : l.length ≤ cap) (hln : l.length ≤ 100000) : Tri Try.prog B 47 [.slice A l.length cap] h fun v h' => ∃ A c p q xs, v = .tuple #[.slice A xs.length c, .int .i64 (ofS l).2] ∧ NewO 78 B h A c p q xs ∧ xs.map prO = (ofS l).1 ∧ h' = p ++ (q ++ h) := by
  refine Tri.enter (n := 68) Try.func47 rfl rfl rfl ?_
  simp only [argsE, Nat.reduceAdd]
  try dsimp only [argsE]
  refine AK.seq ?_
  refine AK.region ?_
  refine AO.val (RV.assign rfl) (.none rfl) rfl ?_
  refine AO.val (RV.assign rfl) (.none rfl) rfl ?_
  refine AO.nil ?_
  refine AK.seq ?_
  refine AK.region ?_
  refine AO.val (RV.assign rfl) (.none rfl) rfl ?_
  refine AO.nil ?_
  refine AK.seq ?_
  refine AK.region ?_
  refine AO.val (RV.assign rfl) (.none rfl) rfl ?_
  refine AO.nil ?_
  refine AK.seq ?_
  refine AK.block ?_
  refine AK.loop (α := Int × Option Addr × Nat × Own × Own × List Opt) (E := fun (at_, Ao, c, p, q, xs) => [(0, .slice A l.length cap), (4, .slice Ao xs.length c), (5, .int .i64 at_)]) (H := fun (at_, Ao, c, p, q, xs) => p ++ (q ++ h)) (Inv := fun (at_, Ao, c, p, q, xs) => 0 ≤ at_ ∧ at_ ≤ l.length ∧ xs.length ≤ at_.toNat ∧ NewO 78 B h Ao c p q xs ∧ appR (xs.map prO) (ofS (l.drop at_.toNat)) = ofS l) (μ := fun (at_, Ao, c, p, q, xs) => (l.length - at_).toNat) (0, none, 0, [], [], []) ?_ (.cons (by exact rfl) (.cons (by exact rfl) (.cons (by exact rfl) .nil))) ?_ ?_
  · exact ⟨by omega, by omega, by simp, .nil, appR_nil _ (ofS_err l)⟩
  · exact (by first | exact SubO.sub | exact List.Sublist.refl _ | exact .cons _ (List.Sublist.refl _) | exact .cons _ (.cons _ (List.Sublist.refl _)) | exact .cons _ (.cons _ (.cons _ (List.Sublist.refl _))))
  rintro ⟨at_, Ao, c, p, q, xs⟩ ⟨hi0, hi1, hxa, hn, hap⟩ hih0
  try dsimp only at hih0 ⊢
  refine AK.seq ?_
  refine AK.seq ?_
  refine AK.region ?_
  refine AO.val (RV.move rfl) (.none rfl) rfl ?_
  refine AO.val (RV.move rfl) (.none rfl) rfl ?_
  refine AO.val (RV.lenS rfl) (.none rfl) rfl ?_
  refine AO.val (RV.lss rfl rfl) (.none rfl) rfl ?_
  refine AO.val (RV.move rfl) (.none rfl) rfl ?_
  refine AO.caseG rfl rfl rfl ?_ ?_
  · intro hg1
    try simp only [decide_eq_true_eq, decide_eq_false_iff_not, Bool.not_eq_true', Bool.not_eq_false', beq_iff_eq] at hg1
    refine AO.val (RV.move rfl) (.some rfl rfl rfl rfl) rfl ?_
    refine AO.val (RV.move rfl) (.some rfl rfl rfl rfl) rfl ?_
    refine AO.val (by first | exact RV.indexS rfl rfl (by assumption) (by omega) rfl | exact RV.indexAddr rfl rfl (by omega)) (.some rfl rfl rfl rfl) rfl ?_
    refine AO.val (RV.loadS (enc := Value.int .u8) (l := l) (i := at_) rfl (by assumption) (by omega) (by simp)) (.some rfl rfl rfl rfl) rfl ?_
    refine AO.val (RV.neq rfl rfl) (.some rfl rfl rfl rfl) rfl ?_
    refine AO.val (RV.pickT rfl rfl) (.none rfl) rfl ?_
    refine AO.nil ?_
    refine AK.cond rfl ?_ ?_
    · intro hc2
      try simp only [decide_eq_true_eq, decide_eq_false_iff_not, Bool.not_eq_true', Bool.not_eq_false', beq_iff_eq] at hc2
      have hdl : (l.drop at_.toNat).length = l.length - at_.toNat := List.length_drop
      have hg0 : lget (l.drop at_.toNat) 0 = lget l at_ := by rw [lget_drop l at_ 0 hi0 (by omega)]; simp
      have hof := ofS_go (b := (l.drop at_.toNat)) ⟨by omega, by rw [hg0]; assumption⟩
      have hob := oneS_bytes (bytes_drop hb at_.toNat) (by omega)
      have hlx := lget_bytes hb at_ hi0 (by omega)
      refine AK.skip ?_
      refine AK.block ?_
      refine AK.seq ?_
      refine AK.seq ?_
      refine AK.region ?_
      refine AO.val (RV.move rfl) (.none rfl) rfl ?_
      refine AO.val (RV.move rfl) (.none rfl) rfl ?_
      refine AO.val (by first | exact RV.indexS rfl rfl (by assumption) (by omega) rfl | exact RV.indexAddr rfl rfl (by omega)) (.none rfl) rfl ?_
      refine AO.val (RV.loadS (enc := Value.int .u8) (l := l) (i := at_) rfl (by assumption) (by omega) (by simp)) (.none rfl) rfl ?_
      refine AO.val (RV.eql rfl rfl) (.none rfl) rfl ?_
      refine AO.nil ?_
      refine AK.cond rfl ?_ ?_
      · intro hc3
        try simp only [decide_eq_true_eq, decide_eq_false_iff_not, Bool.not_eq_true', Bool.not_eq_false', beq_iff_eq] at hc3
        have hon : oneS (l.drop at_.toNat) = ((1, []), l.drop (at_ + 1).toNat, 0) := by unfold oneS; rw [if_pos (by rw [hg0]; assumption), List.drop_drop, show at_.toNat + 1 = (at_ + 1).toNat by omega]
        rw [hon] at hof hob
        rw [hof, if_pos rfl] at hap
        refine AK.seq ?_
        refine AK.region ?_
        refine AO.val (RV.move rfl) (.none rfl) rfl ?_
        refine AO.val (RV.build rfl (.cons rfl rfl rfl rfl .nil)) (.none rfl) rfl ?_
        refine AO.eff (EF.buildSlice rfl rfl rfl (.cons rfl rfl rfl rfl .nil)) (.none rfl) rfl ?_
        rintro _ _ ⟨b27, hf27, rfl, rfl⟩
        refine AO.eff (EF.appendS (n' := (xs ++ [((1, ⟨none, 0, []⟩, ()) : Opt)]).length) (ys := flat encOpt (xs ++ [((1, ⟨none, 0, []⟩, ()) : Opt)])) rfl rfl hn.row (Src.of_new (el := 78) (cs := [.int .u8 1, .slice none 0 0]) List.mem_cons_self 1 2 (Nat.le_refl _)) (by simp) (flat_snoc encOpt xs _) rfl (by decide) rfl (by omega) (by omega)) (.none rfl) rfl ?_
        rintro _ _ ⟨A29, c29, p29, rfl, hr29, hc29, rfl⟩
        refine AO.val (RV.assign rfl) (.none rfl) rfl ?_
        refine AO.nil ?_
        refine AK.seq ?_
        refine AK.region ?_
        refine AO.val (RV.move rfl) (.none rfl) rfl ?_
        refine AO.val (by first | exact RV.addIn rfl rfl (by omega) | exact RV.add rfl rfl) (.none rfl) rfl ?_
        refine AO.val (RV.assign rfl) (.none rfl) rfl ?_
        refine AO.nil ?_
        refine AK.exit rfl ?_
        -- round ends at L0tTT
        refine AK.weak (.cons (by exact rfl) (.cons (by exact rfl) (.cons (by exact rfl) .nil))) (by exact List.Sublist.append_left (.cons _ (List.Sublist.refl _)) _) (hih0 (at_ + 1, A29, c29, p29, q, (xs ++ [((1, ⟨none, 0, []⟩, ()) : Opt)])) ?_ ?_)
        · try dsimp only
          refine ⟨by omega, by omega, by simp; omega, ?_, ?_⟩
          · exact hn.snoc (d := []) hr29 hc29 ⟨⟨by show (0 : Int) ≤ 1; decide, by show (1 : Int) ≤ 255; decide⟩, ⟨rfl, by simp⟩, Nat.le_refl _, by intro x hx; simp at hx, by simp⟩
          · rw [List.map_append, List.map_singleton, appR_snoc]; exact hap
        · try dsimp only
          omega
      · intro hc3
        try simp only [decide_eq_true_eq, decide_eq_false_iff_not, Bool.not_eq_true', Bool.not_eq_false', beq_iff_eq] at hc3
        refine AK.skip ?_
        refine AK.seq ?_
        refine AK.seq ?_
        refine AK.region ?_
        refine AO.val (RV.move rfl) (.none rfl) rfl ?_
        refine AO.val (by first | exact RV.addIn rfl rfl (by omega) | exact RV.add rfl rfl) (.none rfl) rfl ?_
        refine AO.val (RV.move rfl) (.none rfl) rfl ?_
        refine AO.val (RV.lenS rfl) (.none rfl) rfl ?_
        refine AO.val (RV.geq rfl rfl) (.none rfl) rfl ?_
        refine AO.nil ?_
        refine AK.cond rfl ?_ ?_
        · intro hc4
          try simp only [decide_eq_true_eq, decide_eq_false_iff_not, Bool.not_eq_true', Bool.not_eq_false', beq_iff_eq] at hc4
          refine AK.seq ?_
          refine AK.region ?_
          refine AO.val (RV.assign rfl) (.none rfl) rfl ?_
          refine AO.val (RV.assign rfl) (.none rfl) rfl ?_
          refine AO.nil ?_
          -- at L0tTFT
          clear hih0
          refine AK.ret (h' := h) Try.func47 (.tmp rfl (.tmp rfl .nil)) ?_ (by exact SubO.sub)
          have hon : oneS (l.drop at_.toNat) = ((0, []), [], 4) := by unfold oneS; rw [if_neg (by rw [hg0]; assumption), if_pos (by omega)]
          rw [hof, hon, if_neg (by decide)] at hap
          refine ⟨none, 0, [], [], [], ?_, .nil, ?_, rfl⟩
          · rw [← hap]; simp [appR, oneOr]
          · rw [← hap]; simp [appR]
        · intro hc4
          try simp only [decide_eq_true_eq, decide_eq_false_iff_not, Bool.not_eq_true', Bool.not_eq_false', beq_iff_eq] at hc4
          have hg1 : lget (l.drop at_.toNat) 1 = lget l (at_ + 1) := lget_drop l at_ 1 hi0 (by omega)
          have hlx1 := lget_bytes hb (at_ + 1) (by omega) (by omega)
          refine AK.skip ?_
          refine AK.seq ?_
          refine AK.region ?_
          refine AO.val (RV.move rfl) (.none rfl) rfl ?_
          refine AO.val (RV.move rfl) (.none rfl) rfl ?_
          refine AO.val (by first | exact RV.addIn rfl rfl (by omega) | exact RV.add rfl rfl) (.none rfl) rfl ?_
          refine AO.val (by first | exact RV.indexS rfl rfl (by assumption) (by omega) rfl | exact RV.indexAddr rfl rfl (by omega)) (.none rfl) rfl ?_
          refine AO.val (RV.loadS (enc := Value.int .u8) (l := l) (i := at_ + 1) rfl (by assumption) (by omega) (by simp)) (.none rfl) rfl ?_
          refine AO.val (RV.convIn rfl (by simp only [kb]; omega)) (.none rfl) rfl ?_
          refine AO.val (RV.assign rfl) (.none rfl) rfl ?_
          refine AO.nil ?_
          refine AK.seq ?_
          refine AK.seq ?_
          refine AK.region ?_
          refine AO.val (RV.move rfl) (.none rfl) rfl ?_
          refine AO.val (RV.lss rfl rfl) (.none rfl) rfl ?_
          refine AO.nil ?_
          refine AK.cond rfl ?_ ?_
          · intro hc5
            try simp only [decide_eq_true_eq, decide_eq_false_iff_not, Bool.not_eq_true', Bool.not_eq_false', beq_iff_eq] at hc5
            refine AK.seq ?_
            refine AK.region ?_
            refine AO.val (RV.assign rfl) (.none rfl) rfl ?_
            refine AO.val (RV.assign rfl) (.none rfl) rfl ?_
            refine AO.nil ?_
            -- at L0tTFFT
            clear hih0
            refine AK.ret (h' := h) Try.func47 (.tmp rfl (.tmp rfl .nil)) ?_ (by exact SubO.sub)
            have hon : oneS (l.drop at_.toNat) = ((0, []), [], 3) := by unfold oneS; rw [if_neg (by rw [hg0]; assumption), if_neg (by omega), if_pos (by rw [hg1]; assumption)]
            rw [hof, hon, if_neg (by decide)] at hap
            refine ⟨none, 0, [], [], [], ?_, .nil, ?_, rfl⟩
            · rw [← hap]; simp [appR, oneOr]
            · rw [← hap]; simp [appR]
          · intro hc5
            try simp only [decide_eq_true_eq, decide_eq_false_iff_not, Bool.not_eq_true', Bool.not_eq_false', beq_iff_eq] at hc5
            refine AK.skip ?_
            refine AK.seq ?_
            refine AK.region ?_
            refine AO.val (RV.move rfl) (.none rfl) rfl ?_
            refine AO.val (RV.move rfl) (.none rfl) rfl ?_
            refine AO.val (by first | exact RV.addIn rfl rfl (by omega) | exact RV.add rfl rfl) (.none rfl) rfl ?_
            refine AO.val (RV.move rfl) (.none rfl) rfl ?_
            refine AO.val (by first | exact RV.subIn rfl rfl (by omega) | exact RV.sub rfl rfl) (.none rfl) rfl ?_
            refine AO.eff (EF.callF rfl (rcut_spec B _ l (hl.mono fun x hx => by simp [hx]) (by omega) (at_ + 2) (lget l (at_ + 1) - 2))) (.none rfl) rfl ?_
            rintro _ _ ⟨w50, rfl, A50, c50, p50, rfl, hr50, hc50, rfl⟩
            refine AO.val (RV.move rfl) (.none rfl) rfl ?_
            refine AO.val (RV.extract rfl rfl) (.none rfl) rfl ?_
            refine AO.val (RV.extract rfl rfl) (.none rfl) rfl ?_
            refine AO.val (RV.assign rfl) (.none rfl) rfl ?_
            refine AO.val (RV.assign rfl) (.none rfl) rfl ?_
            refine AO.nil ?_
            refine AK.seq ?_
            refine AK.seq ?_
            refine AK.region ?_
            refine AO.val (RV.move rfl) (.none rfl) rfl ?_
            refine AO.val (RV.not rfl) (.none rfl) rfl ?_
            refine AO.nil ?_
            refine AK.cond rfl ?_ ?_
            · intro hc6
              try simp only [decide_eq_true_eq, decide_eq_false_iff_not, Bool.not_eq_true', Bool.not_eq_false', beq_iff_eq] at hc6
              refine AK.seq ?_
              refine AK.region ?_
              refine AO.val (RV.assign rfl) (.none rfl) rfl ?_
              refine AO.val (RV.assign rfl) (.none rfl) rfl ?_
              refine AO.nil ?_
              -- at L0tTFFFT
              clear hih0
              refine AK.ret (h' := h) Try.func47 (.tmp rfl (.tmp rfl .nil)) ?_ (by exact SubO.sub)
              have hon : oneS (l.drop at_.toNat) = ((0, []), [], 4) := by
                unfold oneS; rw [if_neg (by rw [hg0]; assumption), if_neg (by omega), if_neg (by rw [hg1]; assumption), if_pos]
                simp [thereB] at *; omega
              rw [hof, hon, if_neg (by decide)] at hap
              refine ⟨none, 0, [], [], [], ?_, .nil, ?_, rfl⟩
              · rw [← hap]; simp [appR, oneOr]
              · rw [← hap]; simp [appR]
            · intro hc6
              try simp only [decide_eq_true_eq, decide_eq_false_iff_not, Bool.not_eq_true', Bool.not_eq_false', beq_iff_eq] at hc6
              have hth : thereB l (at_ + 2) (lget l (at_ + 1) - 2) = true := by simpa using hc6
              rw [hth] at hr50 hc50
              simp only [if_true] at hr50 hc50
              have hth2 : at_ + lget l (at_ + 1) ≤ l.length := by simp [thereB] at hth; omega
              have hpl := part_len hth
              have hon : oneS (l.drop at_.toNat) = ((lget l at_, cutL l (at_ + 2) (lget l (at_ + 1) - 2)), l.drop (at_ + lget l (at_ + 1)).toNat, 0) := by
                unfold oneS
                rw [if_neg (by rw [hg0]; assumption), if_neg (by omega), if_neg (by rw [hg1]; assumption), if_neg (by rw [hg1]; omega), hg0, hg1]
                congr 1
                · congr 1
                  simp only [cutL, List.drop_drop]
                  congr 2; omega
                · congr 1
                  rw [List.drop_drop]; congr 1; omega
              rw [hof, hon, if_pos rfl] at hap
              rw [hth]
              simp only [if_true]
              refine AK.skip ?_
              refine AK.seq ?_
              refine AK.region ?_
              refine AO.val (RV.move rfl) (.none rfl) rfl ?_
              refine AO.val (RV.move rfl) (.none rfl) rfl ?_
              refine AO.val (RV.move rfl) (.none rfl) rfl ?_
              refine AO.val (by first | exact RV.indexS rfl rfl (by assumption) (by omega) rfl | exact RV.indexAddr rfl rfl (by omega)) (.none rfl) rfl ?_
              refine AO.val (RV.loadS (enc := Value.int .u8) (l := l) (i := at_) rfl (by assumption) (by omega) (by simp)) (.none rfl) rfl ?_
              refine AO.val (RV.move rfl) (.none rfl) rfl ?_
              refine AO.val (RV.build rfl (.cons rfl rfl rfl rfl (.cons rfl rfl rfl rfl .nil))) (.none rfl) rfl ?_
              refine AO.eff (EF.buildSlice rfl rfl rfl (.cons rfl rfl rfl rfl .nil)) (.none rfl) rfl ?_
              rintro _ _ ⟨b62, hf62, rfl, rfl⟩
              refine AO.eff (EF.appendS (n' := (xs ++ [((lget l at_, ⟨A50, c50, cutL l (at_ + 2) (lget l (at_ + 1) - 2)⟩, ()) : Opt)]).length) (ys := flat encOpt (xs ++ [((lget l at_, ⟨A50, c50, cutL l (at_ + 2) (lget l (at_ + 1) - 2)⟩, ()) : Opt)])) rfl rfl hn.row (Src.of_new (el := 78) (cs := [.int .u8 (lget l at_), .slice A50 (cutL l (at_ + 2) (lget l (at_ + 1) - 2)).length c50]) List.mem_cons_self 1 2 (Nat.le_refl _)) (by simp) (flat_snoc encOpt xs _) rfl (by decide) rfl (by omega) (by omega)) (.none rfl) rfl ?_
              rintro _ _ ⟨A29, c29, p29, rfl, hr29, hc29, rfl⟩
              refine AO.val (RV.assign rfl) (.none rfl) rfl ?_
              refine AO.nil ?_
              refine AK.region ?_
              refine AO.val (RV.move rfl) (.none rfl) rfl ?_
              refine AO.val (RV.move rfl) (.none rfl) rfl ?_
              refine AO.val (by first | exact RV.addIn rfl rfl (by omega) | exact RV.add rfl rfl) (.none rfl) rfl ?_
              refine AO.val (RV.assign rfl) (.none rfl) rfl ?_
              refine AO.nil ?_
              refine AK.inBlock ?_
              -- round ends at L0tTFFFF
              rw [← List.append_assoc p50 q h]
              refine AK.weak (.cons (by exact rfl) (.cons (by exact rfl) (.cons (by exact rfl) .nil))) (by exact List.Sublist.append_left (.cons _ (List.Sublist.refl _)) _) (hih0 (at_ + lget l (at_ + 1), A29, c29, p29, p50 ++ q, (xs ++ [((lget l at_, ⟨A50, c50, cutL l (at_ + 2) (lget l (at_ + 1) - 2)⟩, ()) : Opt)])) ?_ ?_)
              · try dsimp only
                refine ⟨by omega, by omega, by simp; omega, ?_, ?_⟩
                · exact hn.snoc hr29 hc29 ⟨hlx, hr50.src fun x hx => List.mem_append_left _ hx, hc50, part_bytes hb _ _, by show (cutL l (at_ + 2) (lget l (at_ + 1) - 2)).length ≤ 100000; omega⟩
                · rw [List.map_append, List.map_singleton, appR_snoc]; exact hap
              · try dsimp only
                omega
    · intro hc2
      try simp only [decide_eq_true_eq, decide_eq_false_iff_not, Bool.not_eq_true', Bool.not_eq_false', beq_iff_eq] at hc2
      refine AK.exit rfl ?_
      refine AK.seq ?_
      refine AK.region ?_
      refine AO.val (RV.move rfl) (.none rfl) rfl ?_
      refine AO.val (RV.assign rfl) (.none rfl) rfl ?_
      refine AO.val (RV.assign rfl) (.none rfl) rfl ?_
      refine AO.nil ?_
      -- at L0tF
      clear hih0
      refine AK.ret (h' := p ++ (q ++ h)) Try.func47 (.tmp rfl (.tmp rfl .nil)) ?_ (by exact SubO.sub)
      have hdl : (l.drop at_.toNat).length = l.length - at_.toNat := List.length_drop
      have hof := ofS_end (b := (l.drop at_.toNat)) (by first | omega | (intro hh; rw [lget_drop l at_ 0 hi0 (by omega), Int.add_zero] at hh; exact hh.2 (Classical.not_not.1 (by assumption))))
      rw [hof] at hap
      refine ⟨Ao, c, p, q, xs, ?_, hn, ?_, rfl⟩
      · rw [← hap]; simp [appR, oneOr]
      · rw [← hap]; simp [appR]
  · intro hg1
    try simp only [decide_eq_true_eq, decide_eq_false_iff_not, Bool.not_eq_true', Bool.not_eq_false', beq_iff_eq] at hg1
    refine AO.pass (.some rfl rfl rfl rfl) rfl ?_
    refine AO.pass (.some rfl rfl rfl rfl) rfl ?_
    refine AO.pass (.some rfl rfl rfl rfl) rfl ?_
    refine AO.pass (.some rfl rfl rfl rfl) rfl ?_
    refine AO.pass (.some rfl rfl rfl rfl) rfl ?_
    refine AO.val (RV.pickF rfl rfl) (.none rfl) rfl ?_
    refine AO.nil ?_
    refine AK.condF rfl ?_
    refine AK.exit rfl ?_
    refine AK.seq ?_
    refine AK.region ?_
    refine AO.val (RV.move rfl) (.none rfl) rfl ?_
    refine AO.val (RV.assign rfl) (.none rfl) rfl ?_
    refine AO.val (RV.assign rfl) (.none rfl) rfl ?_
    refine AO.nil ?_
    -- at L0f
    clear hih0
    refine AK.ret (h' := p ++ (q ++ h)) Try.func47 (.tmp rfl (.tmp rfl .nil)) ?_ (by exact SubO.sub)
    have hdl : (l.drop at_.toNat).length = l.length - at_.toNat := List.length_drop
    have hof := ofS_end (b := (l.drop at_.toNat)) (by first | omega | (intro hh; rw [lget_drop l at_ 0 hi0 (by omega), Int.add_zero] at hh; exact hh.2 (Classical.not_not.1 (by assumption))))
    rw [hof] at hap
    refine ⟨Ao, c, p, q, xs, ?_, hn, ?_, rfl⟩
    · rw [← hap]; simp [appR, oneOr]
    · rw [← hap]; simp [appR]

end Go.Proofs.Ytagfegkpgdaimaa
