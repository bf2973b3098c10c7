/- Walks through the code: what each function that is named here gives back, from any memory that holds its arguments. Written by a program of the claim's author, out of the program's form in Lean. -/
import Derived.Test.YtagfegkpgdaimaaS10W1
set_option linter.unusedSimpArgs false
set_option linter.unusedVariables false
namespace Go.Proofs.Ytagfegkpgdaimaa
open Go.Sep Go.Sep.Sip Go.Sep.Topt

theorem may_spec (B : World) (h : Own) (x : Opt) : Tri Try.prog B 58 [.agg (encOpt x).toArray] h fun v h' => h = h' ∧ v = .bool (mayO (prO x)) := by
  refine Tri.enter (n := 23) Try.func58 rfl rfl rfl ?_
  simp only [argsE, Nat.reduceAdd]
  try dsimp only [argsE]
  refine AK.seq ?_
  refine AK.region ?_
  refine AO.eff (EF.box rfl rfl) (.none rfl) rfl ?_
  rintro _ _ ⟨b1, hf1, rfl, rfl⟩
  refine AO.val (RV.assign rfl) (.none rfl) rfl ?_
  refine AO.nil ?_
  refine AK.seq ?_
  refine AK.region ?_
  refine AO.val (RV.fieldAddr rfl) (.none rfl) rfl ?_
  refine AO.val (by first | exact RV.loadO rfl rfl (by first | simp | assumption) | exact RV.loadS rfl (by assumption) (by omega) (by first | simp | assumption)) (.none rfl) rfl ?_
  refine AO.val (RV.neq rfl rfl) (.none rfl) rfl ?_
  refine AO.val (RV.move rfl) (.none rfl) rfl ?_
  refine AO.caseG rfl rfl rfl ?_ ?_
  · intro hg1
    try simp only [decide_eq_true_eq, decide_eq_false_iff_not, Bool.not_eq_true', Bool.not_eq_false', beq_iff_eq] at hg1
    refine AO.val (RV.fieldAddr rfl) (.some rfl rfl rfl rfl) rfl ?_
    refine AO.val (by first | exact RV.loadO rfl rfl (by first | simp | assumption) | exact RV.loadS rfl (by assumption) (by omega) (by first | simp | assumption)) (.some rfl rfl rfl rfl) rfl ?_
    refine AO.val (RV.neq rfl rfl) (.some rfl rfl rfl rfl) rfl ?_
    refine AO.val (RV.move rfl) (.some rfl rfl rfl rfl) rfl ?_
    refine AO.caseG rfl rfl rfl ?_ ?_
    · intro hg2
      try simp only [decide_eq_true_eq, decide_eq_false_iff_not, Bool.not_eq_true', Bool.not_eq_false', beq_iff_eq] at hg2
      refine AO.pass (.some rfl rfl rfl rfl) rfl ?_
      refine AO.pass (.some rfl rfl rfl rfl) rfl ?_
      refine AO.pass (.some rfl rfl rfl rfl) rfl ?_
      refine AO.pass (.some rfl rfl rfl rfl) rfl ?_
      refine AO.val (RV.pickT rfl rfl) (.some rfl rfl rfl rfl) rfl ?_
      refine AO.val (RV.pickT rfl rfl) (.none rfl) rfl ?_
      refine AO.val (RV.move rfl) (.none rfl) rfl ?_
      refine AO.val (RV.fieldAddr rfl) (.some rfl rfl rfl rfl) rfl ?_
      refine AO.val (by first | exact RV.loadO rfl rfl (by first | simp | assumption) | exact RV.loadS rfl (by assumption) (by omega) (by first | simp | assumption)) (.some rfl rfl rfl rfl) rfl ?_
      refine AO.val (RV.lenS rfl) (.some rfl rfl rfl rfl) rfl ?_
      refine AO.val (RV.leq rfl rfl) (.some rfl rfl rfl rfl) rfl ?_
      refine AO.val (RV.pickT rfl rfl) (.none rfl) rfl ?_
      refine AO.val (RV.assign rfl) (.none rfl) rfl ?_
      refine AO.nil ?_
      -- at tt
      refine AK.ret (h' := h) Try.func58 (.tmp rfl .nil) ?_ (by first | exact SubO.sub | exact List.Sublist.refl _ | exact .cons _ (List.Sublist.refl _) | exact .cons _ (.cons _ (List.Sublist.refl _)) | exact .cons _ (.cons _ (.cons _ (List.Sublist.refl _))))
      refine ⟨rfl, ?_⟩
      simp only [mayO, prO, oneOr, Value.bool.injEq]
      first | (simp_all; done) | (simp_all; omega)
    · intro hg2
      try simp only [decide_eq_true_eq, decide_eq_false_iff_not, Bool.not_eq_true', Bool.not_eq_false', beq_iff_eq] at hg2
      refine AO.val (RV.fieldAddr rfl) (.some rfl rfl rfl rfl) rfl ?_
      refine AO.val (by first | exact RV.loadO rfl rfl (by first | simp | assumption) | exact RV.loadS rfl (by assumption) (by omega) (by first | simp | assumption)) (.some rfl rfl rfl rfl) rfl ?_
      refine AO.val (RV.lenS rfl) (.some rfl rfl rfl rfl) rfl ?_
      refine AO.val (RV.eql rfl rfl) (.some rfl rfl rfl rfl) rfl ?_
      refine AO.val (RV.pickF rfl rfl) (.some rfl rfl rfl rfl) rfl ?_
      refine AO.val (RV.pickT rfl rfl) (.none rfl) rfl ?_
      refine AO.val (RV.move rfl) (.none rfl) rfl ?_
      refine AO.caseG rfl rfl rfl ?_ ?_
      · intro hg3
        try simp only [decide_eq_true_eq, decide_eq_false_iff_not, Bool.not_eq_true', Bool.not_eq_false', beq_iff_eq] at hg3
        refine AO.val (RV.fieldAddr rfl) (.some rfl rfl rfl rfl) rfl ?_
        refine AO.val (by first | exact RV.loadO rfl rfl (by first | simp | assumption) | exact RV.loadS rfl (by assumption) (by omega) (by first | simp | assumption)) (.some rfl rfl rfl rfl) rfl ?_
        refine AO.val (RV.lenS rfl) (.some rfl rfl rfl rfl) rfl ?_
        refine AO.val (RV.leq rfl rfl) (.some rfl rfl rfl rfl) rfl ?_
        refine AO.val (RV.pickT rfl rfl) (.none rfl) rfl ?_
        refine AO.val (RV.assign rfl) (.none rfl) rfl ?_
        refine AO.nil ?_
        -- at tft
        refine AK.ret (h' := h) Try.func58 (.tmp rfl .nil) ?_ (by first | exact SubO.sub | exact List.Sublist.refl _ | exact .cons _ (List.Sublist.refl _) | exact .cons _ (.cons _ (List.Sublist.refl _)) | exact .cons _ (.cons _ (.cons _ (List.Sublist.refl _))))
        refine ⟨rfl, ?_⟩
        simp only [mayO, prO, oneOr, Value.bool.injEq]
        first | (simp_all; done) | (simp_all; omega)
      · intro hg3
        try simp only [decide_eq_true_eq, decide_eq_false_iff_not, Bool.not_eq_true', Bool.not_eq_false', beq_iff_eq] at hg3
        refine AO.pass (.some rfl rfl rfl rfl) rfl ?_
        refine AO.pass (.some rfl rfl rfl rfl) rfl ?_
        refine AO.pass (.some rfl rfl rfl rfl) rfl ?_
        refine AO.pass (.some rfl rfl rfl rfl) rfl ?_
        refine AO.val (RV.pickF rfl rfl) (.none rfl) rfl ?_
        refine AO.val (RV.assign rfl) (.none rfl) rfl ?_
        refine AO.nil ?_
        -- at tff
        refine AK.ret (h' := h) Try.func58 (.tmp rfl .nil) ?_ (by first | exact SubO.sub | exact List.Sublist.refl _ | exact .cons _ (List.Sublist.refl _) | exact .cons _ (.cons _ (List.Sublist.refl _)) | exact .cons _ (.cons _ (.cons _ (List.Sublist.refl _))))
        refine ⟨rfl, ?_⟩
        simp only [mayO, prO, oneOr, Value.bool.injEq]
        first | (simp_all; done) | (simp_all; omega)
  · intro hg1
    try simp only [decide_eq_true_eq, decide_eq_false_iff_not, Bool.not_eq_true', Bool.not_eq_false', beq_iff_eq] at hg1
    refine AO.pass (.some rfl rfl rfl rfl) rfl ?_
    refine AO.pass (.some rfl rfl rfl rfl) rfl ?_
    refine AO.pass (.some rfl rfl rfl rfl) rfl ?_
    refine AO.pass (.some rfl rfl rfl rfl) rfl ?_
    refine AO.pass (.undef rfl rfl rfl) rfl ?_
    refine AO.pass (.undef rfl rfl rfl) rfl ?_
    refine AO.pass (.undef rfl rfl rfl) rfl ?_
    refine AO.pass (.undef rfl rfl rfl) rfl ?_
    refine AO.pass (.some rfl rfl rfl rfl) rfl ?_
    refine AO.val (RV.pickF rfl rfl) (.none rfl) rfl ?_
    refine AO.val (RV.move rfl) (.none rfl) rfl ?_
    refine AO.pass (.some rfl rfl rfl rfl) rfl ?_
    refine AO.pass (.some rfl rfl rfl rfl) rfl ?_
    refine AO.pass (.some rfl rfl rfl rfl) rfl ?_
    refine AO.pass (.some rfl rfl rfl rfl) rfl ?_
    refine AO.val (RV.pickF rfl rfl) (.none rfl) rfl ?_
    refine AO.val (RV.assign rfl) (.none rfl) rfl ?_
    refine AO.nil ?_
    -- at f
    refine AK.ret (h' := h) Try.func58 (.tmp rfl .nil) ?_ (by first | exact SubO.sub | exact List.Sublist.refl _ | exact .cons _ (List.Sublist.refl _) | exact .cons _ (.cons _ (List.Sublist.refl _)) | exact .cons _ (.cons _ (.cons _ (List.Sublist.refl _))))
    refine ⟨rfl, ?_⟩
    simp only [mayO, prO, oneOr, Value.bool.injEq]
    first | (simp_all; done) | (simp_all; omega)

set_option maxHeartbeats 800000 in
theorem oput_spec (B : World) (h : Own) {A : Option Addr} {cap : Nat} (xs : List Opt) (hl : Src B h A xs.length 2 (flat encOpt xs)) (hd : ∀ x ∈ xs, OpIn B h x) (hcap : xs.length ≤ cap) (hln : xs.length ≤ 100000) : Tri Try.prog B 45 [.slice A xs.length cap] h fun v h' => ∃ w, v = .tuple #[w, .int .i64 (putS (xs.map prO)).2] ∧ NewS 5 1 (putS (xs.map prO)).1.length ((putS (xs.map prO)).1.map (fun x => Value.int .u8 x)) h w h' := by
  refine Tri.enter (n := 47) Try.func45 rfl rfl rfl ?_
  simp only [argsE, Nat.reduceAdd]
  try dsimp only [argsE]
  refine AK.seq ?_
  refine AK.region ?_
  refine AO.val (RV.assign rfl) (.none rfl) rfl ?_
  refine AO.val (RV.assign rfl) (.none rfl) rfl ?_
  refine AO.nil ?_
  refine AK.seq ?_
  refine AK.region ?_
  refine AO.val (RV.assign rfl) (.none rfl) rfl ?_
  refine AO.nil ?_
  refine AK.seq ?_
  refine AK.seq ?_
  refine AK.region ?_
  refine AO.val (RV.move rfl) (.none rfl) rfl ?_
  refine AO.val (RV.lenS rfl) (.none rfl) rfl ?_
  refine AO.val (RV.move rfl) (.none rfl) rfl ?_
  refine AO.nil ?_
  refine AK.block ?_
  refine AK.loop (α := Int × List Int × Option Addr × Nat × Own) (E := fun (i, out, A', c', p) => [(7, .slice A xs.length cap), (8, .int .i64 xs.length), (9, .int .i64 i), (4, .slice A' out.length c')]) (H := fun (i, out, A', c', p) => p ++ h) (Inv := fun (i, out, A', c', p) => 0 ≤ i ∧ i ≤ xs.length ∧ Row 5 1 (.slice A' out.length c') out.length (out.map (fun x => Value.int .u8 x)) p ∧ out.length ≤ c' ∧ out.length ≤ 40 ∧ putF out ((xs.map prO).drop i.toNat) = putS (xs.map prO)) (μ := fun (i, out, A', c', p) => (xs.length - i).toNat) (0, [], none, 0, []) ?_ (.cons (by exact rfl) (.cons (by exact rfl) (.cons (by exact rfl) (.cons (by exact rfl) .nil)))) ?_ ?_
  · exact ⟨by omega, by omega, .nil, Nat.le_refl _, by simp, rfl⟩
  · exact (by first | exact SubO.sub | exact List.Sublist.refl _ | exact .cons _ (List.Sublist.refl _) | exact .cons _ (.cons _ (List.Sublist.refl _)) | exact .cons _ (.cons _ (.cons _ (List.Sublist.refl _))))
  rintro ⟨i, out, A', c', p⟩ ⟨hi0, hi1, hr, hcq, ho, hpf⟩ hih0
  try dsimp only at hih0 ⊢
  refine AK.seq ?_
  refine AK.region ?_
  refine AO.val (RV.lss rfl rfl) (.none rfl) rfl ?_
  refine AO.nil ?_
  refine AK.seq ?_
  refine AK.cond rfl ?_ ?_
  · intro hc1
    try simp only [decide_eq_true_eq, decide_eq_false_iff_not, Bool.not_eq_true', Bool.not_eq_false', beq_iff_eq] at hc1
    have hm := lget_mem (l := xs) (i := i) (by omega)
    have hxo := hd _ hm
    rw [prO_lget (by omega), putF] at hpf
    refine AK.skip ?_
    refine AK.seq ?_
    refine AK.block ?_
    refine AK.seq ?_
    refine AK.region ?_
    refine AO.val (by first | exact RV.indexS rfl rfl (by assumption) (by omega) rfl | exact RV.indexAddr rfl rfl (by omega)) (.none rfl) rfl ?_
    refine AO.val (RV.loadSA (enc := encOpt) rfl hl (fun _ => rfl) (by omega) (by simp)) (.none rfl) rfl ?_
    refine AO.eff (EF.alloc) (.none rfl) rfl ?_
    rintro _ _ ⟨b6, hf6, rfl, rfl⟩
    refine AO.effN (EF.storeO rfl rfl rfl rfl rfl rfl) (.none rfl) ?_
    rintro _ _ rfl
    refine AO.nil ?_
    refine AK.seq ?_
    refine AK.seq ?_
    refine AK.region ?_
    refine AO.val (by first | exact RV.loadAggO rfl rfl (by first | simp | assumption) | exact RV.loadAggP rfl rfl rfl (by first | simp | assumption)) (.none rfl) rfl ?_
    refine AO.eff (EF.callF rfl (may_spec B _ _)) (.none rfl) rfl ?_
    rintro _ _ ⟨rfl, rfl⟩
    refine AO.val (RV.not rfl) (.none rfl) rfl ?_
    refine AO.nil ?_
    refine AK.cond rfl ?_ ?_
    · intro hc2
      try simp only [decide_eq_true_eq, decide_eq_false_iff_not, Bool.not_eq_true', Bool.not_eq_false', beq_iff_eq] at hc2
      have hmn : mayO (prO (lget xs i)) = false := by simpa using hc2
      refine AK.seq ?_
      refine AK.region ?_
      refine AO.val (RV.assign rfl) (.none rfl) rfl ?_
      refine AO.val (RV.assign rfl) (.none rfl) rfl ?_
      refine AO.nil ?_
      -- at L0TT
      clear hih0
      refine AK.ret (h' := h) Try.func45 (.tmp rfl (.tmp rfl .nil)) ?_ (by exact SubO.sub)
      have hps : putS (xs.map prO) = ([], 2) := by rw [← hpf, if_neg (by rw [hmn]; decide)]
      rw [hps]
      exact ⟨_, rfl, none, 0, [], rfl, .nil, Nat.le_refl _, rfl⟩
    · intro hc2
      try simp only [decide_eq_true_eq, decide_eq_false_iff_not, Bool.not_eq_true', Bool.not_eq_false', beq_iff_eq] at hc2
      have hmy : mayO (prO (lget xs i)) = true := by simpa using hc2
      rw [if_pos hmy] at hpf
      have hm3 : (prO (lget xs i)).1 ≠ 0 ∧ ((prO (lget xs i)).1 = 1 → (prO (lget xs i)).2.length = 0) ∧ (prO (lget xs i)).2.length ≤ 38 := by simpa only [mayO, decide_eq_true_eq] using hmy
      have hdl : (lget xs i).2.1.l.length ≤ 38 := hm3.2.2
      refine AK.skip ?_
      refine AK.seq ?_
      refine AK.seq ?_
      refine AK.region ?_
      refine AO.val (RV.fieldAddr rfl) (.none rfl) rfl ?_
      refine AO.val (by first | exact RV.loadO rfl rfl (by first | simp | assumption) | exact RV.loadS rfl (by assumption) (by omega) (by first | simp | assumption)) (.none rfl) rfl ?_
      refine AO.val (RV.eql rfl rfl) (.none rfl) rfl ?_
      refine AO.nil ?_
      refine AK.cond rfl ?_ ?_
      · intro hc3
        try simp only [decide_eq_true_eq, decide_eq_false_iff_not, Bool.not_eq_true', Bool.not_eq_false', beq_iff_eq] at hc3
        have he : optB (prO (lget xs i)) = [1] := by unfold optB; rw [if_pos (show (prO (lget xs i)).1 = 1 from hc3)]
        refine AK.region ?_
        refine AO.val (RV.move rfl) (.none rfl) rfl ?_
        refine AO.eff (EF.buildSeq [(Value.int IntKind.u8 1)] rfl rfl rfl rfl) (.none rfl) rfl ?_
        rintro _ _ ⟨b20, hf20, rfl, rfl⟩
        refine AO.eff (EF.appendS (n' := (out ++ optB (prO (lget xs i))).length) (ys := (out ++ optB (prO (lget xs i))).map (fun x => Value.int .u8 x)) rfl rfl hr (Src.of_new (el := 5) (cs := [.int .u8 1]) List.mem_cons_self 1 1 (Nat.le_refl _)) (by rw [he]; simp) (by rw [he]; simp) rfl (by decide) rfl (by omega) (by omega)) (.none rfl) rfl ?_
        rintro _ _ ⟨A34, c34, p34, rfl, hr34, hc34, rfl⟩
        refine AO.val (RV.assign rfl) (.none rfl) rfl ?_
        refine AO.nil ?_
        refine AK.seq ?_
        refine AK.region ?_
        refine AO.val (RV.move rfl) (.none rfl) rfl ?_
        refine AO.val (RV.lenS rfl) (.none rfl) rfl ?_
        refine AO.val (RV.gtr rfl rfl) (.none rfl) rfl ?_
        refine AO.nil ?_
        refine AK.cond rfl ?_ ?_
        · intro hc4
          try simp only [decide_eq_true_eq, decide_eq_false_iff_not, Bool.not_eq_true', Bool.not_eq_false', beq_iff_eq] at hc4
          refine AK.seq ?_
          refine AK.region ?_
          refine AO.val (RV.assign rfl) (.none rfl) rfl ?_
          refine AO.val (RV.assign rfl) (.none rfl) rfl ?_
          refine AO.nil ?_
          -- at L0TFTT
          clear hih0
          refine AK.ret (h' := h) Try.func45 (.tmp rfl (.tmp rfl .nil)) ?_ (by exact SubO.sub)
          have hps : putS (xs.map prO) = ([], 2) := by rw [← hpf, if_pos (by omega)]
          rw [hps]
          exact ⟨_, rfl, none, 0, [], rfl, .nil, Nat.le_refl _, rfl⟩
        · intro hc4
          try simp only [decide_eq_true_eq, decide_eq_false_iff_not, Bool.not_eq_true', Bool.not_eq_false', beq_iff_eq] at hc4
          refine AK.skip ?_
          refine AK.inBlock ?_
          refine AK.region ?_
          refine AO.val (by first | exact RV.addIn rfl rfl (by omega) | exact RV.add rfl rfl) (.none rfl) rfl ?_
          refine AO.val (RV.move rfl) (.none rfl) rfl ?_
          refine AO.nil ?_
          -- round ends at L0TFTF
          refine AK.weak (.cons (by exact rfl) (.cons (by exact rfl) (.cons (by exact rfl) (.cons (by exact rfl) .nil)))) (by try dsimp only; first | exact List.Sublist.append_left (.cons _ (.cons _ (.cons _ (List.Sublist.refl _)))) _ | exact List.Sublist.append_left (.cons _ (.cons _ (.cons _ (List.sublist_append_right _ _)))) _ | exact List.Sublist.append_left (.cons _ (.cons _ (List.Sublist.refl _))) _) (hih0 (i + 1, (out ++ optB (prO (lget xs i))), A34, c34, p34) ?_ ?_)
          · try dsimp only
            refine ⟨by omega, by omega, hr34, hc34, by omega, ?_⟩
            rw [← hpf, if_neg (by omega)]
          · try dsimp only
            omega
      · intro hc3
        try simp only [decide_eq_true_eq, decide_eq_false_iff_not, Bool.not_eq_true', Bool.not_eq_false', beq_iff_eq] at hc3
        have he : optB (prO (lget xs i)) = [(lget xs i).1, 2 + ((lget xs i).2.1.l.length : Int)] ++ (lget xs i).2.1.l := by unfold optB; rw [if_neg (show ¬ (prO (lget xs i)).1 = 1 from hc3)]; rfl
        refine AK.region ?_
        refine AO.val (RV.move rfl) (.none rfl) rfl ?_
        refine AO.val (RV.fieldAddr rfl) (.none rfl) rfl ?_
        refine AO.val (by first | exact RV.loadO rfl rfl (by first | simp | assumption) | exact RV.loadS rfl (by assumption) (by omega) (by first | simp | assumption)) (.none rfl) rfl ?_
        refine AO.val (RV.fieldAddr rfl) (.none rfl) rfl ?_
        refine AO.val (by first | exact RV.loadO rfl rfl (by first | simp | assumption) | exact RV.loadS rfl (by assumption) (by omega) (by first | simp | assumption)) (.none rfl) rfl ?_
        refine AO.val (RV.lenS rfl) (.none rfl) rfl ?_
        refine AO.val (by first | exact RV.addIn rfl rfl (by omega) | exact RV.add rfl rfl) (.none rfl) rfl ?_
        refine AO.val ((RV.convIn rfl (by simp only [kb]; omega)).to (v' := .int .u8 (2 + ((lget xs i).2.1.l.length : Int))) rfl) (.none rfl) rfl ?_
        refine AO.eff (EF.buildSeq [.int .u8 (lget xs i).1, .int .u8 (2 + ((lget xs i).2.1.l.length : Int))] rfl rfl rfl rfl) (.none rfl) rfl ?_
        rintro _ _ ⟨b30, hf30, rfl, rfl⟩
        refine AO.val (RV.fieldAddr rfl) (.none rfl) rfl ?_
        refine AO.val (by first | exact RV.loadO rfl rfl (by first | simp | assumption) | exact RV.loadS rfl (by assumption) (by omega) (by first | simp | assumption)) (.none rfl) rfl ?_
        refine AO.eff (EF.buildSeq [.slice A' out.length c', .slice (some ⟨b30, 0, none⟩) 2 2, .slice (lget xs i).2.1.A (lget xs i).2.1.l.length (lget xs i).2.1.cap] rfl rfl rfl rfl) (.none rfl) rfl ?_
        rintro _ _ ⟨b33, hf33, rfl, rfl⟩
        refine AO.eff (EF.callF rfl ((join_spec (A := some ⟨b33, 0, none⟩) (cap := 3) B _ ([⟨A', c', out⟩, ⟨some ⟨b30, 0, none⟩, 2, [(lget xs i).1, 2 + ((lget xs i).2.1.l.length : Int)]⟩, ⟨(lget xs i).2.1.A, (lget xs i).2.1.cap, (lget xs i).2.1.l⟩] : List (InS Int)) (Src.of_new (el := 31) (cs := [.slice A' out.length c', .slice (some ⟨b30, 0, none⟩) 2 2, .slice (lget xs i).2.1.A (lget xs i).2.1.l.length (lget xs i).2.1.cap]) List.mem_cons_self 3 1 (Nat.le_refl _)) (by intro x hx; simp only [List.mem_cons, List.not_mem_nil, or_false] at hx; rcases hx with rfl | rfl | rfl <;> first | exact (hr.src (h := p) (fun x hx => hx)).mono fun x hx => by simp [hx] | exact (Src.of_new (el := 5) (cs := [.int .u8 (lget xs i).1, .int .u8 (2 + ((lget xs i).2.1.l.length : Int))]) (by simp) 2 1 (Nat.le_refl _)) | exact hxo.src.mono fun x hx => by simp [hx]) (by simp; omega) (by simp)).mono fun v h2 r => r.to (n' := (out ++ optB (prO (lget xs i))).length) (ys := (out ++ optB (prO (lget xs i))).map (fun x => Value.int .u8 x)) (by rw [he]; simp) (by rw [he]; simp))) (.none rfl) rfl ?_
        rintro _ _ ⟨A34, c34, p34, rfl, hr34, hc34, rfl⟩
        refine AO.val (RV.assign rfl) (.none rfl) rfl ?_
        refine AO.nil ?_
        refine AK.seq ?_
        refine AK.region ?_
        refine AO.val (RV.move rfl) (.none rfl) rfl ?_
        refine AO.val (RV.lenS rfl) (.none rfl) rfl ?_
        refine AO.val (RV.gtr rfl rfl) (.none rfl) rfl ?_
        refine AO.nil ?_
        refine AK.cond rfl ?_ ?_
        · intro hc5
          try simp only [decide_eq_true_eq, decide_eq_false_iff_not, Bool.not_eq_true', Bool.not_eq_false', beq_iff_eq] at hc5
          refine AK.seq ?_
          refine AK.region ?_
          refine AO.val (RV.assign rfl) (.none rfl) rfl ?_
          refine AO.val (RV.assign rfl) (.none rfl) rfl ?_
          refine AO.nil ?_
          -- at L0TFFT
          clear hih0
          refine AK.ret (h' := h) Try.func45 (.tmp rfl (.tmp rfl .nil)) ?_ (by exact SubO.sub)
          have hps : putS (xs.map prO) = ([], 2) := by rw [← hpf, if_pos (by omega)]
          rw [hps]
          exact ⟨_, rfl, none, 0, [], rfl, .nil, Nat.le_refl _, rfl⟩
        · intro hc5
          try simp only [decide_eq_true_eq, decide_eq_false_iff_not, Bool.not_eq_true', Bool.not_eq_false', beq_iff_eq] at hc5
          refine AK.skip ?_
          refine AK.inBlock ?_
          refine AK.region ?_
          refine AO.val (by first | exact RV.addIn rfl rfl (by omega) | exact RV.add rfl rfl) (.none rfl) rfl ?_
          refine AO.val (RV.move rfl) (.none rfl) rfl ?_
          refine AO.nil ?_
          -- round ends at L0TFFF
          refine AK.weak (.cons (by exact rfl) (.cons (by exact rfl) (.cons (by exact rfl) (.cons (by exact rfl) .nil)))) (by try dsimp only; first | exact List.Sublist.append_left (.cons _ (.cons _ (.cons _ (List.Sublist.refl _)))) _ | exact List.Sublist.append_left (.cons _ (.cons _ (.cons _ (List.sublist_append_right _ _)))) _ | exact List.Sublist.append_left (.cons _ (.cons _ (List.Sublist.refl _))) _) (hih0 (i + 1, (out ++ optB (prO (lget xs i))), A34, c34, p34) ?_ ?_)
          · try dsimp only
            refine ⟨by omega, by omega, hr34, hc34, by omega, ?_⟩
            rw [← hpf, if_neg (by omega)]
          · try dsimp only
            omega
  · intro hc1
    try simp only [decide_eq_true_eq, decide_eq_false_iff_not, Bool.not_eq_true', Bool.not_eq_false', beq_iff_eq] at hc1
    refine AK.exit rfl ?_
    refine AK.seq ?_
    refine AK.block ?_
    have hdr : (xs.map prO).drop i.toNat = [] := List.drop_eq_nil_of_le (by rw [List.length_map]; omega)
    rw [hdr, putF] at hpf
    refine AK.loop (α := List Int × Option Addr × Nat × Own) (E := fun (o2, A2, c2, p2) => [(4, .slice A2 o2.length c2)]) (H := fun (o2, A2, c2, p2) => p2 ++ h) (Inv := fun (o2, A2, c2, p2) => Row 5 1 (.slice A2 o2.length c2) o2.length (o2.map (fun x => Value.int .u8 x)) p2 ∧ o2.length ≤ c2 ∧ o2.length + (4 - o2.length % 4) % 4 ≤ 43 ∧ (padS o2, 0) = putS (xs.map prO)) (μ := fun (o2, A2, c2, p2) => (4 - o2.length % 4) % 4) (out, A', c', p) ?_ (.cons (by exact rfl) .nil) ?_ ?_
    · exact ⟨hr, hcq, by omega, hpf⟩
    · exact (by first | exact SubO.sub | exact List.Sublist.refl _ | exact .cons _ (List.Sublist.refl _) | exact .cons _ (.cons _ (List.Sublist.refl _)) | exact .cons _ (.cons _ (.cons _ (List.Sublist.refl _))))
    rintro ⟨o2, A2, c2, p2⟩ ⟨hr2, hc2q, ho2, hpd⟩ hih1
    try dsimp only at hih1 ⊢
    clear hr hcq
    refine AK.seq ?_
    refine AK.seq ?_
    refine AK.region ?_
    refine AO.val (RV.move rfl) (.none rfl) rfl ?_
    refine AO.val (RV.lenS rfl) (.none rfl) rfl ?_
    refine AO.val (RV.remIn rfl rfl (by omega)) (.none rfl) rfl ?_
    refine AO.val (RV.neq rfl rfl) (.none rfl) rfl ?_
    refine AO.nil ?_
    refine AK.cond rfl ?_ ?_
    · intro hc6
      try simp only [decide_eq_true_eq, decide_eq_false_iff_not, Bool.not_eq_true', Bool.not_eq_false', beq_iff_eq] at hc6
      refine AK.skip ?_
      refine AK.block ?_
      refine AK.region ?_
      refine AO.val (RV.move rfl) (.none rfl) rfl ?_
      refine AO.eff (EF.buildSeq [(Value.int IntKind.u8 1)] rfl rfl rfl rfl) (.none rfl) rfl ?_
      rintro _ _ ⟨b44, hf44, rfl, rfl⟩
      refine AO.eff (EF.appendS (n' := (o2 ++ [1]).length) (ys := (o2 ++ [1]).map (fun x => Value.int .u8 x)) rfl rfl hr2 (Src.of_new (el := 5) (cs := [.int .u8 1]) List.mem_cons_self 1 1 (Nat.le_refl _)) (by simp) (by simp) rfl (by decide) rfl (by omega) (by omega)) (.none rfl) rfl ?_
      rintro _ _ ⟨A45, c45, p45, rfl, hr45, hc45, rfl⟩
      refine AO.val (RV.assign rfl) (.none rfl) rfl ?_
      refine AO.nil ?_
      refine AK.inBlock ?_
      -- round ends at L0FL1T
      have hnz : o2.length % 4 ≠ 0 := by omega
      have hp1 := padS_len o2
      refine AK.weak (.cons (by exact rfl) .nil) (by try dsimp only; exact List.Sublist.append_left (.cons _ (List.Sublist.refl _)) _) (hih1 (o2 ++ [1], A45, c45, p45) ?_ ?_)
      · try dsimp only
        refine ⟨hr45, hc45, ?_, by rw [padS_more hnz]; exact hpd⟩
        simp only [List.length_append, List.length_singleton]; omega
      · try dsimp only
        simp only [List.length_append, List.length_singleton]; omega
    · intro hc6
      try simp only [decide_eq_true_eq, decide_eq_false_iff_not, Bool.not_eq_true', Bool.not_eq_false', beq_iff_eq] at hc6
      refine AK.exit rfl ?_
      refine AK.seq ?_
      refine AK.region ?_
      refine AO.val (RV.move rfl) (.none rfl) rfl ?_
      refine AO.val (RV.assign rfl) (.none rfl) rfl ?_
      refine AO.val (RV.assign rfl) (.none rfl) rfl ?_
      refine AO.nil ?_
      -- at L0FL1F
      clear hih0
      clear hih1
      refine AK.ret (h' := p2 ++ h) Try.func45 (.tmp rfl (.tmp rfl .nil)) ?_ (by exact SubO.sub)
      have hps : putS (xs.map prO) = (o2, 0) := by rw [← hpd]; rw [padS_done (by omega)]
      rw [hps]
      exact ⟨_, rfl, A2, c2, p2, rfl, hr2, hc2q, rfl⟩

end Go.Proofs.Ytagfegkpgdaimaa
