/- Walks through the code: what each function that is named here gives back, from any memory that holds its arguments. Written by a program of the claim's author, out of the program's form in Lean. -/
import Derived.Test.YtagfegkpgdaimaaS01R3
set_option linter.unusedSimpArgs false
set_option linter.unusedVariables false
namespace Go.Proofs.Ytagfegkpgdaimaa
open Go.Sep Go.Sep.Sip

theorem rcut_spec (B : World) (h : Own) {A : Option Addr} {cap : Nat} (l : List Int) (hl : Src B h A l.length 1 (l.map (fun x => Value.int .u8 x))) (hln : l.length ≤ 1000000) (k n : Int) : Tri Try.prog B 61 [.slice A l.length cap, .int .i64 k, .int .i64 n] h fun v h' => ∃ w, v = .tuple #[w, .bool (thereB l k n)] ∧ NewS 5 1 (if thereB l k n = true then cutL l k n else []).length ((if thereB l k n = true then cutL l k n else []).map (fun x => Value.int .u8 x)) h w h' := by
  refine Tri.enter (n := 46) Try.func61 rfl rfl rfl ?_
  simp only [argsE, Nat.reduceAdd]
  try dsimp only [argsE]
  refine AK.seq ?_
  refine AK.region ?_
  refine AO.val (RV.assign rfl) (.none rfl) rfl ?_
  refine AO.val (RV.assign rfl) (.none rfl) rfl ?_
  refine AO.nil ?_
  refine AK.seq ?_
  refine AK.seq ?_
  refine AK.region ?_
  refine AO.val (RV.move rfl) (.none rfl) rfl ?_
  refine AO.val (RV.lss rfl rfl) (.none rfl) rfl ?_
  refine AO.val (RV.move rfl) (.none rfl) rfl ?_
  refine AO.caseG rfl rfl rfl ?_ ?_
  · intro hg1
    try simp only [decide_eq_true_eq, decide_eq_false_iff_not, Bool.not_eq_true', Bool.not_eq_false', beq_iff_eq] at hg1
    refine AO.pass (.some rfl rfl rfl rfl) rfl ?_
    refine AO.pass (.some rfl rfl rfl rfl) rfl ?_
    refine AO.val (RV.pickT rfl rfl) (.none rfl) rfl ?_
    refine AO.val (RV.move rfl) (.none rfl) rfl ?_
    refine AO.pass (.some rfl rfl rfl rfl) rfl ?_
    refine AO.pass (.some rfl rfl rfl rfl) rfl ?_
    refine AO.pass (.some rfl rfl rfl rfl) rfl ?_
    refine AO.pass (.some rfl rfl rfl rfl) rfl ?_
    refine AO.val (RV.pickT rfl rfl) (.none rfl) rfl ?_
    refine AO.val (RV.move rfl) (.none rfl) rfl ?_
    refine AO.pass (.some rfl rfl rfl rfl) rfl ?_
    refine AO.pass (.some rfl rfl rfl rfl) rfl ?_
    refine AO.pass (.some rfl rfl rfl rfl) rfl ?_
    refine AO.pass (.some rfl rfl rfl rfl) rfl ?_
    refine AO.pass (.some rfl rfl rfl rfl) rfl ?_
    refine AO.pass (.some rfl rfl rfl rfl) rfl ?_
    refine AO.val (RV.pickT rfl rfl) (.none rfl) rfl ?_
    refine AO.nil ?_
    refine AK.condT rfl ?_
    refine AK.seq ?_
    refine AK.region ?_
    refine AO.val (RV.assign rfl) (.none rfl) rfl ?_
    refine AO.val (RV.assign rfl) (.none rfl) rfl ?_
    refine AO.nil ?_
    -- at t
    refine AK.ret (h' := h) Try.func61 (.tmp rfl (.tmp rfl .nil)) ?_ (by exact SubO.sub)
    have ht : thereB l k n = false := by simp [thereB]; omega
    rw [ht]
    exact ⟨_, rfl, none, 0, [], rfl, .nil, Nat.le_refl _, rfl⟩
  · intro hg1
    try simp only [decide_eq_true_eq, decide_eq_false_iff_not, Bool.not_eq_true', Bool.not_eq_false', beq_iff_eq] at hg1
    refine AO.val (RV.move rfl) (.some rfl rfl rfl rfl) rfl ?_
    refine AO.val (RV.lss rfl rfl) (.some rfl rfl rfl rfl) rfl ?_
    refine AO.val (RV.pickF rfl rfl) (.none rfl) rfl ?_
    refine AO.val (RV.move rfl) (.none rfl) rfl ?_
    refine AO.caseG rfl rfl rfl ?_ ?_
    · intro hg2
      try simp only [decide_eq_true_eq, decide_eq_false_iff_not, Bool.not_eq_true', Bool.not_eq_false', beq_iff_eq] at hg2
      refine AO.pass (.some rfl rfl rfl rfl) rfl ?_
      refine AO.pass (.some rfl rfl rfl rfl) rfl ?_
      refine AO.pass (.some rfl rfl rfl rfl) rfl ?_
      refine AO.pass (.some rfl rfl rfl rfl) rfl ?_
      refine AO.val (RV.pickT rfl rfl) (.none rfl) rfl ?_
      refine AO.val (RV.move rfl) (.none rfl) rfl ?_
      refine AO.pass (.some rfl rfl rfl rfl) rfl ?_
      refine AO.pass (.some rfl rfl rfl rfl) rfl ?_
      refine AO.pass (.some rfl rfl rfl rfl) rfl ?_
      refine AO.pass (.some rfl rfl rfl rfl) rfl ?_
      refine AO.pass (.some rfl rfl rfl rfl) rfl ?_
      refine AO.pass (.some rfl rfl rfl rfl) rfl ?_
      refine AO.val (RV.pickT rfl rfl) (.none rfl) rfl ?_
      refine AO.nil ?_
      refine AK.condT rfl ?_
      refine AK.seq ?_
      refine AK.region ?_
      refine AO.val (RV.assign rfl) (.none rfl) rfl ?_
      refine AO.val (RV.assign rfl) (.none rfl) rfl ?_
      refine AO.nil ?_
      -- at ft
      refine AK.ret (h' := h) Try.func61 (.tmp rfl (.tmp rfl .nil)) ?_ (by exact SubO.sub)
      have ht : thereB l k n = false := by simp [thereB]; omega
      rw [ht]
      exact ⟨_, rfl, none, 0, [], rfl, .nil, Nat.le_refl _, rfl⟩
    · intro hg2
      try simp only [decide_eq_true_eq, decide_eq_false_iff_not, Bool.not_eq_true', Bool.not_eq_false', beq_iff_eq] at hg2
      refine AO.val (RV.move rfl) (.some rfl rfl rfl rfl) rfl ?_
      refine AO.val (RV.move rfl) (.some rfl rfl rfl rfl) rfl ?_
      refine AO.val (RV.lenS rfl) (.some rfl rfl rfl rfl) rfl ?_
      refine AO.val (RV.gtr rfl rfl) (.some rfl rfl rfl rfl) rfl ?_
      refine AO.val (RV.pickF rfl rfl) (.none rfl) rfl ?_
      refine AO.val (RV.move rfl) (.none rfl) rfl ?_
      refine AO.caseG rfl rfl rfl ?_ ?_
      · intro hg3
        try simp only [decide_eq_true_eq, decide_eq_false_iff_not, Bool.not_eq_true', Bool.not_eq_false', beq_iff_eq] at hg3
        refine AO.pass (.some rfl rfl rfl rfl) rfl ?_
        refine AO.pass (.some rfl rfl rfl rfl) rfl ?_
        refine AO.pass (.some rfl rfl rfl rfl) rfl ?_
        refine AO.pass (.some rfl rfl rfl rfl) rfl ?_
        refine AO.pass (.some rfl rfl rfl rfl) rfl ?_
        refine AO.pass (.some rfl rfl rfl rfl) rfl ?_
        refine AO.val (RV.pickT rfl rfl) (.none rfl) rfl ?_
        refine AO.nil ?_
        refine AK.condT rfl ?_
        refine AK.seq ?_
        refine AK.region ?_
        refine AO.val (RV.assign rfl) (.none rfl) rfl ?_
        refine AO.val (RV.assign rfl) (.none rfl) rfl ?_
        refine AO.nil ?_
        -- at fft
        refine AK.ret (h' := h) Try.func61 (.tmp rfl (.tmp rfl .nil)) ?_ (by exact SubO.sub)
        have ht : thereB l k n = false := by simp [thereB]; omega
        rw [ht]
        exact ⟨_, rfl, none, 0, [], rfl, .nil, Nat.le_refl _, rfl⟩
      · intro hg3
        try simp only [decide_eq_true_eq, decide_eq_false_iff_not, Bool.not_eq_true', Bool.not_eq_false', beq_iff_eq] at hg3
        refine AO.val (RV.move rfl) (.some rfl rfl rfl rfl) rfl ?_
        refine AO.val (RV.move rfl) (.some rfl rfl rfl rfl) rfl ?_
        refine AO.val (RV.lenS rfl) (.some rfl rfl rfl rfl) rfl ?_
        refine AO.val (RV.move rfl) (.some rfl rfl rfl rfl) rfl ?_
        refine AO.val (by first | exact RV.subIn rfl rfl (by omega) | exact RV.sub rfl rfl) (.some rfl rfl rfl rfl) rfl ?_
        refine AO.val (RV.gtr rfl rfl) (.some rfl rfl rfl rfl) rfl ?_
        refine AO.val (RV.pickF rfl rfl) (.none rfl) rfl ?_
        refine AO.nil ?_
        refine AK.cond rfl ?_ ?_
        · intro hc4
          try simp only [decide_eq_true_eq, decide_eq_false_iff_not, Bool.not_eq_true', Bool.not_eq_false', beq_iff_eq] at hc4
          refine AK.seq ?_
          refine AK.region ?_
          refine AO.val (RV.assign rfl) (.none rfl) rfl ?_
          refine AO.val (RV.assign rfl) (.none rfl) rfl ?_
          refine AO.nil ?_
          -- at fffT
          refine AK.ret (h' := h) Try.func61 (.tmp rfl (.tmp rfl .nil)) ?_ (by exact SubO.sub)
          have ht : thereB l k n = false := by simp [thereB]; omega
          rw [ht]
          exact ⟨_, rfl, none, 0, [], rfl, .nil, Nat.le_refl _, rfl⟩
        · intro hc4
          try simp only [decide_eq_true_eq, decide_eq_false_iff_not, Bool.not_eq_true', Bool.not_eq_false', beq_iff_eq] at hc4
          have ht : thereB l k n = true := by simp [thereB]; omega
          have hpl := part_len ht
          refine AK.skip ?_
          refine AK.seq ?_
          refine AK.region ?_
          refine AO.eff (EF.buildSeq [] rfl rfl rfl rfl) (.none rfl) rfl ?_
          rintro _ _ ⟨b30, hf30, rfl, rfl⟩
          refine AO.val (RV.assign rfl) (.none rfl) rfl ?_
          refine AO.nil ?_
          refine AK.seq ?_
          refine AK.seq ?_
          refine AK.region ?_
          refine AO.val (RV.assign rfl) (.none rfl) rfl ?_
          refine AO.nil ?_
          refine AK.block ?_
          refine AK.loop (α := Int × Option Addr × Nat × Own) (E := fun (i, A', c', p) => [(0, .slice A l.length cap), (1, .int .i64 k), (2, .int .i64 n), (8, .slice A' ((cutL l k n).take i.toNat).length c'), (9, .int .i64 i)]) (H := fun (i, A', c', p) => p ++ h) (Inv := fun (i, A', c', p) => 0 ≤ i ∧ i ≤ n ∧ Row 5 1 (.slice A' ((cutL l k n).take i.toNat).length c') ((cutL l k n).take i.toNat).length (((cutL l k n).take i.toNat).map (fun x => Value.int .u8 x)) p ∧ ((cutL l k n).take i.toNat).length ≤ c') (μ := fun (i, A', c', p) => (n - i).toNat) (0, some ⟨b30, 0, none⟩, 0, [(b30, Blk.cells [] 5 (0, 0))]) ?_ (.cons (by exact rfl) (.cons (by exact rfl) (.cons (by exact rfl) (.cons (by exact rfl) (.cons (by exact rfl) .nil))))) ?_ ?_
          · exact ⟨by omega, by omega, Row.new rfl, Nat.le_refl _⟩
          · exact (by first | exact SubO.sub | exact List.Sublist.refl _ | exact .cons _ (List.Sublist.refl _) | exact .cons _ (.cons _ (List.Sublist.refl _)) | exact .cons _ (.cons _ (.cons _ (List.Sublist.refl _))))
          rintro ⟨i, A', c', p⟩ ⟨hi0, hi1, hr, hc⟩ hih0
          try dsimp only at hih0 ⊢
          refine AK.seq ?_
          refine AK.seq ?_
          refine AK.region ?_
          refine AO.val (RV.move rfl) (.none rfl) rfl ?_
          refine AO.val (RV.move rfl) (.none rfl) rfl ?_
          refine AO.val (RV.lss rfl rfl) (.none rfl) rfl ?_
          refine AO.nil ?_
          refine AK.cond rfl ?_ ?_
          · intro hc5
            try simp only [decide_eq_true_eq, decide_eq_false_iff_not, Bool.not_eq_true', Bool.not_eq_false', beq_iff_eq] at hc5
            have hsn : (cutL l k n).take (i + 1).toNat = ((cutL l k n).take i.toNat) ++ [lget l (k + i)] := by
              rw [take_snoc _ i hi0 (by omega)]
              congr 2
              have h1 : i.toNat < n.toNat := by omega
              simp [cutL, lget, List.getD, h1, List.getElem?_take, List.getElem?_drop, show k.toNat + i.toNat = (k + i).toNat by omega]
            refine AK.skip ?_
            refine AK.seq ?_
            refine AK.block ?_
            refine AK.region ?_
            refine AO.val (RV.move rfl) (.none rfl) rfl ?_
            refine AO.val (RV.move rfl) (.none rfl) rfl ?_
            refine AO.val (RV.move rfl) (.none rfl) rfl ?_
            refine AO.val (RV.move rfl) (.none rfl) rfl ?_
            refine AO.val (by first | exact RV.addIn rfl rfl (by omega) | exact RV.add rfl rfl) (.none rfl) rfl ?_
            refine AO.val (by first | exact RV.indexS rfl rfl (by assumption) (by omega) rfl | exact RV.indexAddr rfl rfl (by omega)) (.none rfl) rfl ?_
            refine AO.val (RV.loadS (enc := Value.int .u8) (l := l) (i := k + i) rfl hl (by omega) (by simp)) (.none rfl) rfl ?_
            refine AO.eff (EF.buildSeq [.int .u8 (lget l (k + i))] rfl rfl rfl rfl) (.none rfl) rfl ?_
            rintro _ _ ⟨b43, hf43, rfl, rfl⟩
            refine AO.eff (EF.appendS (n' := ((cutL l k n).take (i + 1).toNat).length) (ys := ((cutL l k n).take (i + 1).toNat).map (fun x => Value.int .u8 x)) rfl rfl hr (Src.of_new (el := 5) (cs := [.int .u8 (lget l (k + i))]) List.mem_cons_self 1 1 (Nat.le_refl _)) (by rw [hsn]; simp) (by rw [hsn]; simp) rfl (by decide) rfl (by rw [List.length_take]; omega) (by rw [List.length_take]; omega)) (.none rfl) rfl ?_
            rintro _ _ ⟨A1, c1, p1, rfl, hr1, hc1q, rfl⟩
            refine AO.val (RV.assign rfl) (.none rfl) rfl ?_
            refine AO.nil ?_
            refine AK.inBlock ?_
            refine AK.region ?_
            refine AO.val (RV.move rfl) (.none rfl) rfl ?_
            refine AO.val (by first | exact RV.addIn rfl rfl (by omega) | exact RV.add rfl rfl) (.none rfl) rfl ?_
            refine AO.val (RV.assign rfl) (.none rfl) rfl ?_
            refine AO.nil ?_
            -- round ends at fffFL0T
            refine AK.weak (.cons (by exact rfl) (.cons (by exact rfl) (.cons (by exact rfl) (.cons (by exact rfl) (.cons (by exact rfl) .nil))))) (by try dsimp only; exact List.Sublist.append_left (.cons _ (List.Sublist.refl _)) _) (hih0 (i + 1, A1, c1, p1) ?_ ?_)
            · try dsimp only
              exact ⟨by omega, by omega, hr1, hc1q⟩
            · try dsimp only
              omega
          · intro hc5
            try simp only [decide_eq_true_eq, decide_eq_false_iff_not, Bool.not_eq_true', Bool.not_eq_false', beq_iff_eq] at hc5
            refine AK.exit rfl ?_
            refine AK.seq ?_
            refine AK.region ?_
            refine AO.val (RV.move rfl) (.none rfl) rfl ?_
            refine AO.val (RV.assign rfl) (.none rfl) rfl ?_
            refine AO.val (RV.assign rfl) (.none rfl) rfl ?_
            refine AO.nil ?_
            -- at fffFL0F
            clear hih0
            have hfi : ((cutL l k n).take i.toNat) = cutL l k n := List.take_of_length_le (by omega)
            rw [hfi] at hr hc ⊢
            refine AK.ret (h' := p ++ h) Try.func61 (.tmp rfl (.tmp rfl .nil)) ?_ (by exact SubO.sub)
            rw [ht]
            exact ⟨_, rfl, A', c', p, rfl, hr, hc, rfl⟩

end Go.Proofs.Ytagfegkpgdaimaa
