/- Walks through the code: what each function that is named here gives back, from any memory that holds its arguments. Written by a program of the claim's author, out of the program's form in Lean. -/
import Derived.Test.YtdnajbdnlcehgaaW4
set_option linter.unusedSimpArgs false
set_option linter.unusedVariables false
namespace Go.Proofs.Ytdnajbdnlcehgaa
open Go.Sep Go.Sep.Sip Go.Sep.Topt

set_option maxHeartbeats 1600000 in
theorem rput_spec10 (B : World) (h : Own) {A : Option Addr} {cap : Nat} (xs : List Opt) (hl : Src B h A xs.length 2 (flat encOpt xs)) (hd : ∀ x ∈ xs, OpIn B h x) (hcap : xs.length ≤ cap) (hln : xs.length ≤ 100000) : Tri Try.prog B 8 [.slice A xs.length cap] h fun v h' => ∃ w, v = .tuple #[w, .int .i64 (putS (xs.map prO)).2] ∧ NewS 5 1 (putS (xs.map prO)).1.length ((putS (xs.map prO)).1.map (fun x => Value.int .u8 x)) h w h' := by
  refine Tri.enter (n := 69) Try.func8 rfl rfl rfl ?_
  simp only [argsE, Nat.reduceAdd]
  try dsimp only [argsE]
  refine AK.seq ?_
  refine AK.region ?_
  refine AO.val (RV.assign rfl) (.none rfl) rfl ?_
  refine AO.val (RV.assign rfl) (.none rfl) rfl ?_
  refine AO.nil ?_
  refine AK.seq ?_
  refine AK.region ?_
  refine AO.eff (EF.buildSeq [] rfl rfl rfl rfl) (.none rfl) rfl ?_
  rintro _ _ ⟨b7, hf7, rfl, rfl⟩
  refine AO.val (RV.assign rfl) (.none rfl) rfl ?_
  refine AO.nil ?_
  refine AK.seq ?_
  refine AK.seq ?_
  refine AK.region ?_
  refine AO.val (RV.assign rfl) (.none rfl) rfl ?_
  refine AO.nil ?_
  refine AK.block ?_
  refine AK.loop (α := Int × List Int × Option Addr × Nat × Own) (E := fun (i, out, A', c', p) => [(0, .slice A xs.length cap), (5, .int .i64 i), (4, .slice A' out.length c')]) (H := fun (i, out, A', c', p) => p ++ h) (Inv := fun (i, out, A', c', p) => 0 ≤ i ∧ i ≤ xs.length ∧ Row 5 1 (.slice A' out.length c') out.length (out.map (fun x => Value.int .u8 x)) p ∧ out.length ≤ c' ∧ out.length ≤ 40 ∧ putF out ((xs.map prO).drop i.toNat) = putS (xs.map prO)) (μ := fun (i, out, A', c', p) => (xs.length - i).toNat) (0, [], some ⟨b7, 0, none⟩, 0, [(b7, Blk.cells [] 5 (0, 0))]) ?_ (.cons (by exact rfl) (.cons (by exact rfl) (.cons (by exact rfl) .nil))) ?_ ?_
  · exact ⟨by omega, by omega, Row.new rfl, Nat.le_refl _, by simp, rfl⟩
  · exact (by first | exact SubO.sub | exact List.Sublist.refl _ | exact .cons _ (List.Sublist.refl _) | exact .cons _ (.cons _ (List.Sublist.refl _)) | exact .cons _ (.cons _ (.cons _ (List.Sublist.refl _))))
  rintro ⟨i, out, A', c', p⟩ ⟨hi0, hi1, hr, hcq, ho, hpf⟩ hih0
  try dsimp only at hih0 ⊢
  refine AK.seq ?_
  refine AK.seq ?_
  refine AK.region ?_
  refine AO.val (RV.move rfl) (.none rfl) rfl ?_
  refine AO.val (RV.move rfl) (.none rfl) rfl ?_
  refine AO.val (RV.lenS rfl) (.none rfl) rfl ?_
  refine AO.val (RV.lss rfl rfl) (.none rfl) rfl ?_
  refine AO.nil ?_
  refine AK.cond rfl ?_ ?_
  · intro hc1
    try simp only [decide_eq_true_eq, decide_eq_false_iff_not, Bool.not_eq_true', Bool.not_eq_false', beq_iff_eq] at hc1
    have hm := lget_mem (l := xs) (i := i) (by omega)
    have hxo := hd _ hm
    rw [prO_lget (by omega), putF] at hpf
    refine AK.skip ?_
    refine AK.seq ?_
    refine AK.block ?_
    refine AK.seq ?_
    refine AK.region ?_
    refine AO.val (RV.move rfl) (.none rfl) rfl ?_
    refine AO.val (RV.move rfl) (.none rfl) rfl ?_
    refine AO.val (by first | exact RV.indexS rfl rfl (by assumption) (by omega) rfl | exact RV.indexAddr rfl rfl (by omega)) (.none rfl) rfl ?_
    refine AO.val (RV.loadSA (enc := encOpt) rfl hl (fun _ => rfl) (by omega) (by simp)) (.none rfl) rfl ?_
    refine AO.eff (EF.alloc) (.none rfl) rfl ?_
    rintro _ _ ⟨b6, hf6, rfl, rfl⟩
    refine AO.effN (EF.storeO rfl rfl rfl rfl rfl rfl) (.none rfl) ?_
    rintro _ _ rfl
    refine AO.nil ?_
    refine AK.seq ?_
    refine AK.seq ?_
    refine AK.region ?_
    refine AO.val (RV.fieldAddr rfl) (.none rfl) rfl ?_
    refine AO.val (by first | exact RV.loadO rfl rfl (by first | simp | assumption) | exact RV.loadS rfl (by assumption) (by omega) (by first | simp | assumption)) (.none rfl) rfl ?_
    refine AO.val (RV.eql rfl rfl) (.none rfl) rfl ?_
    refine AO.val (RV.move rfl) (.none rfl) rfl ?_
    refine AO.caseG rfl rfl rfl ?_ ?_
    · intro hg2
      try simp only [decide_eq_true_eq, decide_eq_false_iff_not, Bool.not_eq_true', Bool.not_eq_false', beq_iff_eq] at hg2
      refine AO.pass (.some rfl rfl rfl rfl) rfl ?_
      refine AO.pass (.some rfl rfl rfl rfl) rfl ?_
      refine AO.pass (.some rfl rfl rfl rfl) rfl ?_
      refine AO.pass (.some rfl rfl rfl rfl) rfl ?_
      refine AO.pass (.undef rfl rfl rfl) rfl ?_
      refine AO.pass (.undef rfl rfl rfl) rfl ?_
      refine AO.pass (.undef rfl rfl rfl) rfl ?_
      refine AO.pass (.undef rfl rfl rfl) rfl ?_
      refine AO.pass (.some rfl rfl rfl rfl) rfl ?_
      refine AO.val (RV.pickT rfl rfl) (.none rfl) rfl ?_
      refine AO.val (RV.move rfl) (.none rfl) rfl ?_
      refine AO.pass (.some rfl rfl rfl rfl) rfl ?_
      refine AO.pass (.some rfl rfl rfl rfl) rfl ?_
      refine AO.pass (.some rfl rfl rfl rfl) rfl ?_
      refine AO.pass (.some rfl rfl rfl rfl) rfl ?_
      refine AO.val (RV.pickT rfl rfl) (.none rfl) rfl ?_
      refine AO.nil ?_
      refine AK.condT rfl ?_
      refine AK.seq ?_
      refine AK.region ?_
      refine AO.val (RV.assign rfl) (.none rfl) rfl ?_
      refine AO.val (RV.assign rfl) (.none rfl) rfl ?_
      refine AO.nil ?_
      -- at L0Tt
      clear hih0
      refine AK.ret (h' := h) Try.func8 (.tmp rfl (.tmp rfl .nil)) ?_ (by exact SubO.sub)
      have hmn : mayO (prO (lget xs i)) = false := by simp only [mayO, prO]; refine decide_eq_false ?_; rintro ⟨h1, h2, h3⟩; first | omega | (have h4 := h2 (by assumption); omega)
      have hps : putS (xs.map prO) = ([], 2) := by rw [← hpf, if_neg (by rw [hmn]; decide)]
      rw [hps]
      exact ⟨_, rfl, none, 0, [], rfl, .nil, Nat.le_refl _, rfl⟩
    · intro hg2
      try simp only [decide_eq_true_eq, decide_eq_false_iff_not, Bool.not_eq_true', Bool.not_eq_false', beq_iff_eq] at hg2
      refine AO.val (RV.fieldAddr rfl) (.some rfl rfl rfl rfl) rfl ?_
      refine AO.val (by first | exact RV.loadO rfl rfl (by first | simp | assumption) | exact RV.loadS rfl (by assumption) (by omega) (by first | simp | assumption)) (.some rfl rfl rfl rfl) rfl ?_
      refine AO.val (RV.eql rfl rfl) (.some rfl rfl rfl rfl) rfl ?_
      refine AO.val (RV.move rfl) (.some rfl rfl rfl rfl) rfl ?_
      refine AO.caseG rfl rfl rfl ?_ ?_
      · intro hg3
        try simp only [decide_eq_true_eq, decide_eq_false_iff_not, Bool.not_eq_true', Bool.not_eq_false', beq_iff_eq] at hg3
        refine AO.val (RV.fieldAddr rfl) (.some rfl rfl rfl rfl) rfl ?_
        refine AO.val (by first | exact RV.loadO rfl rfl (by first | simp | assumption) | exact RV.loadS rfl (by assumption) (by omega) (by first | simp | assumption)) (.some rfl rfl rfl rfl) rfl ?_
        refine AO.val (RV.lenS rfl) (.some rfl rfl rfl rfl) rfl ?_
        refine AO.val (RV.gtr rfl rfl) (.some rfl rfl rfl rfl) rfl ?_
        refine AO.val (RV.pickT rfl rfl) (.some rfl rfl rfl rfl) rfl ?_
        refine AO.val (RV.pickF rfl rfl) (.none rfl) rfl ?_
        refine AO.val (RV.move rfl) (.none rfl) rfl ?_
        refine AO.caseG rfl rfl rfl ?_ ?_
        · intro hg4
          try simp only [decide_eq_true_eq, decide_eq_false_iff_not, Bool.not_eq_true', Bool.not_eq_false', beq_iff_eq] at hg4
          refine AO.pass (.some rfl rfl rfl rfl) rfl ?_
          refine AO.pass (.some rfl rfl rfl rfl) rfl ?_
          refine AO.pass (.some rfl rfl rfl rfl) rfl ?_
          refine AO.pass (.some rfl rfl rfl rfl) rfl ?_
          refine AO.val (RV.pickT rfl rfl) (.none rfl) rfl ?_
          refine AO.nil ?_
          refine AK.condT rfl ?_
          refine AK.seq ?_
          refine AK.region ?_
          refine AO.val (RV.assign rfl) (.none rfl) rfl ?_
          refine AO.val (RV.assign rfl) (.none rfl) rfl ?_
          refine AO.nil ?_
          -- at L0Tftt
          clear hih0
          refine AK.ret (h' := h) Try.func8 (.tmp rfl (.tmp rfl .nil)) ?_ (by exact SubO.sub)
          have hmn : mayO (prO (lget xs i)) = false := by simp only [mayO, prO]; refine decide_eq_false ?_; rintro ⟨h1, h2, h3⟩; first | omega | (have h4 := h2 (by assumption); omega)
          have hps : putS (xs.map prO) = ([], 2) := by rw [← hpf, if_neg (by rw [hmn]; decide)]
          rw [hps]
          exact ⟨_, rfl, none, 0, [], rfl, .nil, Nat.le_refl _, rfl⟩
        · intro hg4
          try simp only [decide_eq_true_eq, decide_eq_false_iff_not, Bool.not_eq_true', Bool.not_eq_false', beq_iff_eq] at hg4
          refine AO.val (RV.fieldAddr rfl) (.some rfl rfl rfl rfl) rfl ?_
          refine AO.val (by first | exact RV.loadO rfl rfl (by first | simp | assumption) | exact RV.loadS rfl (by assumption) (by omega) (by first | simp | assumption)) (.some rfl rfl rfl rfl) rfl ?_
          refine AO.val (RV.lenS rfl) (.some rfl rfl rfl rfl) rfl ?_
          refine AO.val (RV.gtr rfl rfl) (.some rfl rfl rfl rfl) rfl ?_
          refine AO.val (RV.pickF rfl rfl) (.none rfl) rfl ?_
          refine AO.nil ?_
          refine AK.cond rfl ?_ ?_
          · intro hc5
            try simp only [decide_eq_true_eq, decide_eq_false_iff_not, Bool.not_eq_true', Bool.not_eq_false', beq_iff_eq] at hc5
            refine AK.seq ?_
            refine AK.region ?_
            refine AO.val (RV.assign rfl) (.none rfl) rfl ?_
            refine AO.val (RV.assign rfl) (.none rfl) rfl ?_
            refine AO.nil ?_
            -- at L0TftfT
            clear hih0
            refine AK.ret (h' := h) Try.func8 (.tmp rfl (.tmp rfl .nil)) ?_ (by exact SubO.sub)
            have hmn : mayO (prO (lget xs i)) = false := by simp only [mayO, prO]; refine decide_eq_false ?_; rintro ⟨h1, h2, h3⟩; first | omega | (have h4 := h2 (by assumption); omega)
            have hps : putS (xs.map prO) = ([], 2) := by rw [← hpf, if_neg (by rw [hmn]; decide)]
            rw [hps]
            exact ⟨_, rfl, none, 0, [], rfl, .nil, Nat.le_refl _, rfl⟩
          · intro hc5
            try simp only [decide_eq_true_eq, decide_eq_false_iff_not, Bool.not_eq_true', Bool.not_eq_false', beq_iff_eq] at hc5
            have hmy : mayO (prO (lget xs i)) = true := by simp only [mayO, prO, decide_eq_true_eq]; simp_all <;> omega
            rw [if_pos hmy] at hpf
            have hm3 : (prO (lget xs i)).1 ≠ 0 ∧ ((prO (lget xs i)).1 = 1 → (prO (lget xs i)).2.length = 0) ∧ (prO (lget xs i)).2.length ≤ 38 := by simpa only [mayO, decide_eq_true_eq] using hmy
            have hdl : (lget xs i).2.1.l.length ≤ 38 := hm3.2.2
            refine AK.skip ?_
            refine AK.seq ?_
            refine AK.seq ?_
            refine AK.region ?_
            refine AO.val (RV.fieldAddr rfl) (.none rfl) rfl ?_
            refine AO.val (by first | exact RV.loadO rfl rfl (by first | simp | assumption) | exact RV.loadS rfl (by assumption) (by omega) (by first | simp | assumption)) (.none rfl) rfl ?_
            refine AO.val (RV.eql rfl rfl) (.none rfl) rfl ?_
            refine AO.nil ?_
            refine AK.cond rfl ?_ ?_
            · intro hc6
              try simp only [decide_eq_true_eq, decide_eq_false_iff_not, Bool.not_eq_true', Bool.not_eq_false', beq_iff_eq] at hc6
              have he : optB (prO (lget xs i)) = [1] := by unfold optB; rw [if_pos (show (prO (lget xs i)).1 = 1 by assumption)]
              refine AK.region ?_
              refine AO.val (RV.move rfl) (.none rfl) rfl ?_
              refine AO.eff (EF.buildSeq [(Value.int IntKind.u8 1)] rfl rfl rfl rfl) (.none rfl) rfl ?_
              rintro _ _ ⟨b42, hf42, rfl, rfl⟩
              refine AO.eff (EF.appendS (n' := (out ++ optB (prO (lget xs i))).length) (ys := (out ++ optB (prO (lget xs i))).map (fun x => Value.int .u8 x)) rfl rfl hr (Src.of_new (el := 5) (cs := [.int .u8 1]) List.mem_cons_self 1 1 (Nat.le_refl _)) (by rw [he]; simp) (by rw [he]; simp) rfl (by decide) rfl (by omega) (by omega)) (.none rfl) rfl ?_
              rintro _ _ ⟨A34, c34, p34, rfl, hr34, hc34, rfl⟩
              refine AO.val (RV.assign rfl) (.none rfl) rfl ?_
              refine AO.nil ?_
              refine AK.seq ?_
              refine AK.region ?_
              refine AO.val (RV.move rfl) (.none rfl) rfl ?_
              refine AO.val (RV.lenS rfl) (.none rfl) rfl ?_
              refine AO.val (RV.gtr rfl rfl) (.none rfl) rfl ?_
              refine AO.nil ?_
              refine AK.cond rfl ?_ ?_
              · intro hc7
                try simp only [decide_eq_true_eq, decide_eq_false_iff_not, Bool.not_eq_true', Bool.not_eq_false', beq_iff_eq] at hc7
                refine AK.seq ?_
                refine AK.region ?_
                refine AO.val (RV.assign rfl) (.none rfl) rfl ?_
                refine AO.val (RV.assign rfl) (.none rfl) rfl ?_
                refine AO.nil ?_
                -- at L0TftfFTT
                clear hih0
                refine AK.ret (h' := h) Try.func8 (.tmp rfl (.tmp rfl .nil)) ?_ (by exact SubO.sub)
                have hps : putS (xs.map prO) = ([], 2) := by rw [← hpf, if_pos (by omega)]
                rw [hps]
                exact ⟨_, rfl, none, 0, [], rfl, .nil, Nat.le_refl _, rfl⟩
              · intro hc7
                try simp only [decide_eq_true_eq, decide_eq_false_iff_not, Bool.not_eq_true', Bool.not_eq_false', beq_iff_eq] at hc7
                refine AK.skip ?_
                refine AK.inBlock ?_
                refine AK.region ?_
                refine AO.val (RV.move rfl) (.none rfl) rfl ?_
                refine AO.val (by first | exact RV.addIn rfl rfl (by omega) | exact RV.add rfl rfl) (.none rfl) rfl ?_
                refine AO.val (RV.assign rfl) (.none rfl) rfl ?_
                refine AO.nil ?_
                -- round ends at L0TftfFTF
                refine AK.weak (.cons (by exact rfl) (.cons (by exact rfl) (.cons (by exact rfl) .nil))) (by first | exact SubO.sub | exact List.Sublist.refl _ | exact .cons _ (List.Sublist.refl _) | exact .cons _ (.cons _ (List.Sublist.refl _)) | exact .cons _ (.cons _ (.cons _ (List.Sublist.refl _)))) (hih0 (i + 1, (out ++ optB (prO (lget xs i))), A34, c34, p34) ?_ ?_)
                · try dsimp only
                  refine ⟨by omega, by omega, hr34, hc34, by omega, ?_⟩
                  rw [← hpf, if_neg (by omega)]
                · try dsimp only
                  omega
            · intro hc6
              try simp only [decide_eq_true_eq, decide_eq_false_iff_not, Bool.not_eq_true', Bool.not_eq_false', beq_iff_eq] at hc6
              have he : optB (prO (lget xs i)) = [(lget xs i).1, 2 + ((lget xs i).2.1.l.length : Int)] ++ (lget xs i).2.1.l := by unfold optB; rw [if_neg (show ¬ (prO (lget xs i)).1 = 1 by assumption)]; rfl
              refine AK.seq ?_
              refine AK.region ?_
              refine AO.val (RV.move rfl) (.none rfl) rfl ?_
              refine AO.val (RV.fieldAddr rfl) (.none rfl) rfl ?_
              refine AO.val (by first | exact RV.loadO rfl rfl (by first | simp | assumption) | exact RV.loadS rfl (by assumption) (by omega) (by first | simp | assumption)) (.none rfl) rfl ?_
              refine AO.val (RV.fieldAddr rfl) (.none rfl) rfl ?_
              refine AO.val (by first | exact RV.loadO rfl rfl (by first | simp | assumption) | exact RV.loadS rfl (by assumption) (by omega) (by first | simp | assumption)) (.none rfl) rfl ?_
              refine AO.val (RV.lenS rfl) (.none rfl) rfl ?_
              refine AO.val (by first | exact RV.addIn rfl rfl (by omega) | exact RV.add rfl rfl) (.none rfl) rfl ?_
              refine AO.val ((RV.convIn rfl (by simp only [kb]; omega)).to (v' := .int .u8 (2 + ((lget xs i).2.1.l.length : Int))) (by congr 1; omega)) (.none rfl) rfl ?_
              refine AO.eff (EF.buildSeq [.int .u8 (lget xs i).1, .int .u8 (2 + ((lget xs i).2.1.l.length : Int))] rfl rfl rfl rfl) (.none rfl) rfl ?_
              rintro _ _ ⟨b52, hf52, rfl, rfl⟩
              refine AO.eff (EF.appendS (n' := (out ++ [(lget xs i).1, 2 + ((lget xs i).2.1.l.length : Int)]).length) (ys := (out ++ [(lget xs i).1, 2 + ((lget xs i).2.1.l.length : Int)]).map (fun x => Value.int .u8 x)) rfl rfl hr (Src.of_new (el := 5) (cs := [.int .u8 (lget xs i).1, .int .u8 (2 + ((lget xs i).2.1.l.length : Int))]) List.mem_cons_self 2 1 (Nat.le_refl _)) (by simp) (by simp) rfl (by decide) rfl (by omega) (by omega)) (.none rfl) rfl ?_
              rintro _ _ ⟨A33, c33, p33, rfl, hr33, hc33, rfl⟩
              refine AO.val (RV.assign rfl) (.none rfl) rfl ?_
              refine AO.nil ?_
              refine AK.region ?_
              refine AO.val (RV.move rfl) (.none rfl) rfl ?_
              refine AO.val (RV.fieldAddr rfl) (.none rfl) rfl ?_
              refine AO.val (by first | exact RV.loadO rfl rfl (by first | simp | assumption) | exact RV.loadS rfl (by assumption) (by omega) (by first | simp | assumption)) (.none rfl) rfl ?_
              refine AO.eff (EF.appendS (n' := (out ++ optB (prO (lget xs i))).length) (ys := (out ++ optB (prO (lget xs i))).map (fun x => Value.int .u8 x)) rfl rfl hr33 (hxo.src.mono fun x hx => by simp [hx]) (by rw [he]; simp; omega) (by rw [he]; simp) rfl (by decide) (by simp [Value.oneCell']) (by simp; omega) (by simp; omega)) (.none rfl) rfl ?_
              rintro _ _ ⟨A34, c34, p34, rfl, hr34, hc34, rfl⟩
              refine AO.val (RV.assign rfl) (.none rfl) rfl ?_
              refine AO.nil ?_
              refine AK.seq ?_
              refine AK.region ?_
              refine AO.val (RV.move rfl) (.none rfl) rfl ?_
              refine AO.val (RV.lenS rfl) (.none rfl) rfl ?_
              refine AO.val (RV.gtr rfl rfl) (.none rfl) rfl ?_
              refine AO.nil ?_
              refine AK.cond rfl ?_ ?_
              · intro hc8
                try simp only [decide_eq_true_eq, decide_eq_false_iff_not, Bool.not_eq_true', Bool.not_eq_false', beq_iff_eq] at hc8
                refine AK.seq ?_
                refine AK.region ?_
                refine AO.val (RV.assign rfl) (.none rfl) rfl ?_
                refine AO.val (RV.assign rfl) (.none rfl) rfl ?_
                refine AO.nil ?_
                -- at L0TftfFFT
                clear hih0
                refine AK.ret (h' := h) Try.func8 (.tmp rfl (.tmp rfl .nil)) ?_ (by exact SubO.sub)
                have hps : putS (xs.map prO) = ([], 2) := by rw [← hpf, if_pos (by omega)]
                rw [hps]
                exact ⟨_, rfl, none, 0, [], rfl, .nil, Nat.le_refl _, rfl⟩
              · intro hc8
                try simp only [decide_eq_true_eq, decide_eq_false_iff_not, Bool.not_eq_true', Bool.not_eq_false', beq_iff_eq] at hc8
                refine AK.skip ?_
                refine AK.inBlock ?_
                refine AK.region ?_
                refine AO.val (RV.move rfl) (.none rfl) rfl ?_
                refine AO.val (by first | exact RV.addIn rfl rfl (by omega) | exact RV.add rfl rfl) (.none rfl) rfl ?_
                refine AO.val (RV.assign rfl) (.none rfl) rfl ?_
                refine AO.nil ?_
                -- round ends at L0TftfFFF
                refine AK.weak (.cons (by exact rfl) (.cons (by exact rfl) (.cons (by exact rfl) .nil))) (by first | exact SubO.sub | exact List.Sublist.refl _ | exact .cons _ (List.Sublist.refl _) | exact .cons _ (.cons _ (List.Sublist.refl _)) | exact .cons _ (.cons _ (.cons _ (List.Sublist.refl _)))) (hih0 (i + 1, (out ++ optB (prO (lget xs i))), A34, c34, p34) ?_ ?_)
                · try dsimp only
                  refine ⟨by omega, by omega, hr34, hc34, by omega, ?_⟩
                  rw [← hpf, if_neg (by omega)]
                · try dsimp only
                  omega
      · intro hg3
        try simp only [decide_eq_true_eq, decide_eq_false_iff_not, Bool.not_eq_true', Bool.not_eq_false', beq_iff_eq] at hg3
        refine AO.pass (.some rfl rfl rfl rfl) rfl ?_
        refine AO.pass (.some rfl rfl rfl rfl) rfl ?_
        refine AO.pass (.some rfl rfl rfl rfl) rfl ?_
        refine AO.pass (.some rfl rfl rfl rfl) rfl ?_
        refine AO.val (RV.pickF rfl rfl) (.some rfl rfl rfl rfl) rfl ?_
        refine AO.val (RV.pickF rfl rfl) (.none rfl) rfl ?_
        refine AO.val (RV.move rfl) (.none rfl) rfl ?_
        refine AO.val (RV.fieldAddr rfl) (.some rfl rfl rfl rfl) rfl ?_
        refine AO.val (by first | exact RV.loadO rfl rfl (by first | simp | assumption) | exact RV.loadS rfl (by assumption) (by omega) (by first | simp | assumption)) (.some rfl rfl rfl rfl) rfl ?_
        refine AO.val (RV.lenS rfl) (.some rfl rfl rfl rfl) rfl ?_
        refine AO.val (RV.gtr rfl rfl) (.some rfl rfl rfl rfl) rfl ?_
        refine AO.val (RV.pickF rfl rfl) (.none rfl) rfl ?_
        refine AO.nil ?_
        refine AK.cond rfl ?_ ?_
        · intro hc9
          try simp only [decide_eq_true_eq, decide_eq_false_iff_not, Bool.not_eq_true', Bool.not_eq_false', beq_iff_eq] at hc9
          refine AK.seq ?_
          refine AK.region ?_
          refine AO.val (RV.assign rfl) (.none rfl) rfl ?_
          refine AO.val (RV.assign rfl) (.none rfl) rfl ?_
          refine AO.nil ?_
          -- at L0TffT
          clear hih0
          refine AK.ret (h' := h) Try.func8 (.tmp rfl (.tmp rfl .nil)) ?_ (by exact SubO.sub)
          have hmn : mayO (prO (lget xs i)) = false := by simp only [mayO, prO]; refine decide_eq_false ?_; rintro ⟨h1, h2, h3⟩; first | omega | (have h4 := h2 (by assumption); omega)
          have hps : putS (xs.map prO) = ([], 2) := by rw [← hpf, if_neg (by rw [hmn]; decide)]
          rw [hps]
          exact ⟨_, rfl, none, 0, [], rfl, .nil, Nat.le_refl _, rfl⟩
        · intro hc9
          try simp only [decide_eq_true_eq, decide_eq_false_iff_not, Bool.not_eq_true', Bool.not_eq_false', beq_iff_eq] at hc9
          have hmy : mayO (prO (lget xs i)) = true := by simp only [mayO, prO, decide_eq_true_eq]; simp_all <;> omega
          rw [if_pos hmy] at hpf
          have hm3 : (prO (lget xs i)).1 ≠ 0 ∧ ((prO (lget xs i)).1 = 1 → (prO (lget xs i)).2.length = 0) ∧ (prO (lget xs i)).2.length ≤ 38 := by simpa only [mayO, decide_eq_true_eq] using hmy
          have hdl : (lget xs i).2.1.l.length ≤ 38 := hm3.2.2
          refine AK.skip ?_
          refine AK.seq ?_
          refine AK.seq ?_
          refine AK.region ?_
          refine AO.val (RV.fieldAddr rfl) (.none rfl) rfl ?_
          refine AO.val (by first | exact RV.loadO rfl rfl (by first | simp | assumption) | exact RV.loadS rfl (by assumption) (by omega) (by first | simp | assumption)) (.none rfl) rfl ?_
          refine AO.val (RV.eql rfl rfl) (.none rfl) rfl ?_
          refine AO.nil ?_
          refine AK.cond rfl ?_ ?_
          · intro hc10
            try simp only [decide_eq_true_eq, decide_eq_false_iff_not, Bool.not_eq_true', Bool.not_eq_false', beq_iff_eq] at hc10
            have he : optB (prO (lget xs i)) = [1] := by unfold optB; rw [if_pos (show (prO (lget xs i)).1 = 1 by assumption)]
            refine AK.region ?_
            refine AO.val (RV.move rfl) (.none rfl) rfl ?_
            refine AO.eff (EF.buildSeq [(Value.int IntKind.u8 1)] rfl rfl rfl rfl) (.none rfl) rfl ?_
            rintro _ _ ⟨b42, hf42, rfl, rfl⟩
            refine AO.eff (EF.appendS (n' := (out ++ optB (prO (lget xs i))).length) (ys := (out ++ optB (prO (lget xs i))).map (fun x => Value.int .u8 x)) rfl rfl hr (Src.of_new (el := 5) (cs := [.int .u8 1]) List.mem_cons_self 1 1 (Nat.le_refl _)) (by rw [he]; simp) (by rw [he]; simp) rfl (by decide) rfl (by omega) (by omega)) (.none rfl) rfl ?_
            rintro _ _ ⟨A34, c34, p34, rfl, hr34, hc34, rfl⟩
            refine AO.val (RV.assign rfl) (.none rfl) rfl ?_
            refine AO.nil ?_
            refine AK.seq ?_
            refine AK.region ?_
            refine AO.val (RV.move rfl) (.none rfl) rfl ?_
            refine AO.val (RV.lenS rfl) (.none rfl) rfl ?_
            refine AO.val (RV.gtr rfl rfl) (.none rfl) rfl ?_
            refine AO.nil ?_
            refine AK.cond rfl ?_ ?_
            · intro hc11
              try simp only [decide_eq_true_eq, decide_eq_false_iff_not, Bool.not_eq_true', Bool.not_eq_false', beq_iff_eq] at hc11
              refine AK.seq ?_
              refine AK.region ?_
              refine AO.val (RV.assign rfl) (.none rfl) rfl ?_
              refine AO.val (RV.assign rfl) (.none rfl) rfl ?_
              refine AO.nil ?_
              -- at L0TffFTT
              clear hih0
              refine AK.ret (h' := h) Try.func8 (.tmp rfl (.tmp rfl .nil)) ?_ (by exact SubO.sub)
              have hps : putS (xs.map prO) = ([], 2) := by rw [← hpf, if_pos (by omega)]
              rw [hps]
              exact ⟨_, rfl, none, 0, [], rfl, .nil, Nat.le_refl _, rfl⟩
            · intro hc11
              try simp only [decide_eq_true_eq, decide_eq_false_iff_not, Bool.not_eq_true', Bool.not_eq_false', beq_iff_eq] at hc11
              refine AK.skip ?_
              refine AK.inBlock ?_
              refine AK.region ?_
              refine AO.val (RV.move rfl) (.none rfl) rfl ?_
              refine AO.val (by first | exact RV.addIn rfl rfl (by omega) | exact RV.add rfl rfl) (.none rfl) rfl ?_
              refine AO.val (RV.assign rfl) (.none rfl) rfl ?_
              refine AO.nil ?_
              -- round ends at L0TffFTF
              refine AK.weak (.cons (by exact rfl) (.cons (by exact rfl) (.cons (by exact rfl) .nil))) (by first | exact SubO.sub | exact List.Sublist.refl _ | exact .cons _ (List.Sublist.refl _) | exact .cons _ (.cons _ (List.Sublist.refl _)) | exact .cons _ (.cons _ (.cons _ (List.Sublist.refl _)))) (hih0 (i + 1, (out ++ optB (prO (lget xs i))), A34, c34, p34) ?_ ?_)
              · try dsimp only
                refine ⟨by omega, by omega, hr34, hc34, by omega, ?_⟩
                rw [← hpf, if_neg (by omega)]
              · try dsimp only
                omega
          · intro hc10
            try simp only [decide_eq_true_eq, decide_eq_false_iff_not, Bool.not_eq_true', Bool.not_eq_false', beq_iff_eq] at hc10
            have he : optB (prO (lget xs i)) = [(lget xs i).1, 2 + ((lget xs i).2.1.l.length : Int)] ++ (lget xs i).2.1.l := by unfold optB; rw [if_neg (show ¬ (prO (lget xs i)).1 = 1 by assumption)]; rfl
            refine AK.seq ?_
            refine AK.region ?_
            refine AO.val (RV.move rfl) (.none rfl) rfl ?_
            refine AO.val (RV.fieldAddr rfl) (.none rfl) rfl ?_
            refine AO.val (by first | exact RV.loadO rfl rfl (by first | simp | assumption) | exact RV.loadS rfl (by assumption) (by omega) (by first | simp | assumption)) (.none rfl) rfl ?_
            refine AO.val (RV.fieldAddr rfl) (.none rfl) rfl ?_
            refine AO.val (by first | exact RV.loadO rfl rfl (by first | simp | assumption) | exact RV.loadS rfl (by assumption) (by omega) (by first | simp | assumption)) (.none rfl) rfl ?_
            refine AO.val (RV.lenS rfl) (.none rfl) rfl ?_
            refine AO.val (by first | exact RV.addIn rfl rfl (by omega) | exact RV.add rfl rfl) (.none rfl) rfl ?_
            refine AO.val ((RV.convIn rfl (by simp only [kb]; omega)).to (v' := .int .u8 (2 + ((lget xs i).2.1.l.length : Int))) (by congr 1; omega)) (.none rfl) rfl ?_
            refine AO.eff (EF.buildSeq [.int .u8 (lget xs i).1, .int .u8 (2 + ((lget xs i).2.1.l.length : Int))] rfl rfl rfl rfl) (.none rfl) rfl ?_
            rintro _ _ ⟨b52, hf52, rfl, rfl⟩
            refine AO.eff (EF.appendS (n' := (out ++ [(lget xs i).1, 2 + ((lget xs i).2.1.l.length : Int)]).length) (ys := (out ++ [(lget xs i).1, 2 + ((lget xs i).2.1.l.length : Int)]).map (fun x => Value.int .u8 x)) rfl rfl hr (Src.of_new (el := 5) (cs := [.int .u8 (lget xs i).1, .int .u8 (2 + ((lget xs i).2.1.l.length : Int))]) List.mem_cons_self 2 1 (Nat.le_refl _)) (by simp) (by simp) rfl (by decide) rfl (by omega) (by omega)) (.none rfl) rfl ?_
            rintro _ _ ⟨A33, c33, p33, rfl, hr33, hc33, rfl⟩
            refine AO.val (RV.assign rfl) (.none rfl) rfl ?_
            refine AO.nil ?_
            refine AK.region ?_
            refine AO.val (RV.move rfl) (.none rfl) rfl ?_
            refine AO.val (RV.fieldAddr rfl) (.none rfl) rfl ?_
            refine AO.val (by first | exact RV.loadO rfl rfl (by first | simp | assumption) | exact RV.loadS rfl (by assumption) (by omega) (by first | simp | assumption)) (.none rfl) rfl ?_
            refine AO.eff (EF.appendS (n' := (out ++ optB (prO (lget xs i))).length) (ys := (out ++ optB (prO (lget xs i))).map (fun x => Value.int .u8 x)) rfl rfl hr33 (hxo.src.mono fun x hx => by simp [hx]) (by rw [he]; simp; omega) (by rw [he]; simp) rfl (by decide) (by simp [Value.oneCell']) (by simp; omega) (by simp; omega)) (.none rfl) rfl ?_
            rintro _ _ ⟨A34, c34, p34, rfl, hr34, hc34, rfl⟩
            refine AO.val (RV.assign rfl) (.none rfl) rfl ?_
            refine AO.nil ?_
            refine AK.seq ?_
            refine AK.region ?_
            refine AO.val (RV.move rfl) (.none rfl) rfl ?_
            refine AO.val (RV.lenS rfl) (.none rfl) rfl ?_
            refine AO.val (RV.gtr rfl rfl) (.none rfl) rfl ?_
            refine AO.nil ?_
            refine AK.cond rfl ?_ ?_
            · intro hc12
              try simp only [decide_eq_true_eq, decide_eq_false_iff_not, Bool.not_eq_true', Bool.not_eq_false', beq_iff_eq] at hc12
              refine AK.seq ?_
              refine AK.region ?_
              refine AO.val (RV.assign rfl) (.none rfl) rfl ?_
              refine AO.val (RV.assign rfl) (.none rfl) rfl ?_
              refine AO.nil ?_
              -- at L0TffFFT
              clear hih0
              refine AK.ret (h' := h) Try.func8 (.tmp rfl (.tmp rfl .nil)) ?_ (by exact SubO.sub)
              have hps : putS (xs.map prO) = ([], 2) := by rw [← hpf, if_pos (by omega)]
              rw [hps]
              exact ⟨_, rfl, none, 0, [], rfl, .nil, Nat.le_refl _, rfl⟩
            · intro hc12
              try simp only [decide_eq_true_eq, decide_eq_false_iff_not, Bool.not_eq_true', Bool.not_eq_false', beq_iff_eq] at hc12
              refine AK.skip ?_
              refine AK.inBlock ?_
              refine AK.region ?_
              refine AO.val (RV.move rfl) (.none rfl) rfl ?_
              refine AO.val (by first | exact RV.addIn rfl rfl (by omega) | exact RV.add rfl rfl) (.none rfl) rfl ?_
              refine AO.val (RV.assign rfl) (.none rfl) rfl ?_
              refine AO.nil ?_
              -- round ends at L0TffFFF
              refine AK.weak (.cons (by exact rfl) (.cons (by exact rfl) (.cons (by exact rfl) .nil))) (by first | exact SubO.sub | exact List.Sublist.refl _ | exact .cons _ (List.Sublist.refl _) | exact .cons _ (.cons _ (List.Sublist.refl _)) | exact .cons _ (.cons _ (.cons _ (List.Sublist.refl _)))) (hih0 (i + 1, (out ++ optB (prO (lget xs i))), A34, c34, p34) ?_ ?_)
              · try dsimp only
                refine ⟨by omega, by omega, hr34, hc34, by omega, ?_⟩
                rw [← hpf, if_neg (by omega)]
              · try dsimp only
                omega
  · intro hc1
    try simp only [decide_eq_true_eq, decide_eq_false_iff_not, Bool.not_eq_true', Bool.not_eq_false', beq_iff_eq] at hc1
    refine AK.exit rfl ?_
    refine AK.seq ?_
    refine AK.block ?_
    have hdr : (xs.map prO).drop i.toNat = [] := List.drop_eq_nil_of_le (by rw [List.length_map]; omega)
    rw [hdr, putF] at hpf
    refine AK.loop (α := List Int × Option Addr × Nat × Own) (E := fun (o2, A2, c2, p2) => [(4, .slice A2 o2.length c2)]) (H := fun (o2, A2, c2, p2) => p2 ++ h) (Inv := fun (o2, A2, c2, p2) => Row 5 1 (.slice A2 o2.length c2) o2.length (o2.map (fun x => Value.int .u8 x)) p2 ∧ o2.length ≤ c2 ∧ o2.length + (4 - o2.length % 4) % 4 ≤ 43 ∧ (padS o2, 0) = putS (xs.map prO)) (μ := fun (o2, A2, c2, p2) => (4 - o2.length % 4) % 4) (out, A', c', p) ?_ (.cons (by exact rfl) .nil) ?_ ?_
    · exact ⟨hr, hcq, by omega, hpf⟩
    · exact (by first | exact SubO.sub | exact List.Sublist.refl _ | exact .cons _ (List.Sublist.refl _) | exact .cons _ (.cons _ (List.Sublist.refl _)) | exact .cons _ (.cons _ (.cons _ (List.Sublist.refl _))))
    rintro ⟨o2, A2, c2, p2⟩ ⟨hr2, hc2q, ho2, hpd⟩ hih1
    try dsimp only at hih1 ⊢
    clear hr hcq
    refine AK.seq ?_
    refine AK.seq ?_
    refine AK.region ?_
    refine AO.val (RV.move rfl) (.none rfl) rfl ?_
    refine AO.val (RV.lenS rfl) (.none rfl) rfl ?_
    refine AO.val (RV.remIn rfl rfl (by omega)) (.none rfl) rfl ?_
    refine AO.val (RV.gtr rfl rfl) (.none rfl) rfl ?_
    refine AO.nil ?_
    refine AK.cond rfl ?_ ?_
    · intro hc13
      try simp only [decide_eq_true_eq, decide_eq_false_iff_not, Bool.not_eq_true', Bool.not_eq_false', beq_iff_eq] at hc13
      refine AK.skip ?_
      refine AK.block ?_
      refine AK.region ?_
      refine AO.val (RV.move rfl) (.none rfl) rfl ?_
      refine AO.eff (EF.buildSeq [(Value.int IntKind.u8 1)] rfl rfl rfl rfl) (.none rfl) rfl ?_
      rintro _ _ ⟨b66, hf66, rfl, rfl⟩
      refine AO.eff (EF.appendS (n' := (o2 ++ [1]).length) (ys := (o2 ++ [1]).map (fun x => Value.int .u8 x)) rfl rfl hr2 (Src.of_new (el := 5) (cs := [.int .u8 1]) List.mem_cons_self 1 1 (Nat.le_refl _)) (by simp) (by simp) rfl (by decide) rfl (by omega) (by omega)) (.none rfl) rfl ?_
      rintro _ _ ⟨A45, c45, p45, rfl, hr45, hc45, rfl⟩
      refine AO.val (RV.assign rfl) (.none rfl) rfl ?_
      refine AO.nil ?_
      refine AK.inBlock ?_
      -- round ends at L0FL1T
      have hnz : o2.length % 4 ≠ 0 := by omega
      have hp1 := padS_len o2
      refine AK.weak (.cons (by exact rfl) .nil) (by first | exact SubO.sub | exact List.Sublist.refl _ | exact .cons _ (List.Sublist.refl _) | exact .cons _ (.cons _ (List.Sublist.refl _)) | exact .cons _ (.cons _ (.cons _ (List.Sublist.refl _)))) (hih1 (o2 ++ [1], A45, c45, p45) ?_ ?_)
      · try dsimp only
        refine ⟨hr45, hc45, ?_, by rw [padS_more hnz]; exact hpd⟩
        simp only [List.length_append, List.length_singleton]; omega
      · try dsimp only
        simp only [List.length_append, List.length_singleton]; omega
    · intro hc13
      try simp only [decide_eq_true_eq, decide_eq_false_iff_not, Bool.not_eq_true', Bool.not_eq_false', beq_iff_eq] at hc13
      refine AK.exit rfl ?_
      refine AK.seq ?_
      refine AK.region ?_
      refine AO.val (RV.move rfl) (.none rfl) rfl ?_
      refine AO.val (RV.assign rfl) (.none rfl) rfl ?_
      refine AO.val (RV.assign rfl) (.none rfl) rfl ?_
      refine AO.nil ?_
      -- at L0FL1F
      clear hih0
      clear hih1
      refine AK.ret (h' := p2 ++ h) Try.func8 (.tmp rfl (.tmp rfl .nil)) ?_ (by exact SubO.sub)
      have hps : putS (xs.map prO) = (o2, 0) := by rw [← hpd]; rw [padS_done (by omega)]
      rw [hps]
      exact ⟨_, rfl, A2, c2, p2, rfl, hr2, hc2q, rfl⟩

theorem rmss_spec (B : World) (h : Own) {A : Option Addr} {cap : Nat} (l : List Int) (hl : Src B h A l.length 1 (l.map (fun x => Value.int .u8 x))) (hb : Bytes l) (hcap : l.length ≤ cap) (hln : l.length ≤ 100000) : Tri Try.prog B 18 [.slice A l.length cap] h fun v h' => h = h' ∧ v = .tuple #[.int .u16 (mssS l).1, .bool (mssS l).2] := by
  refine Tri.enter (n := 55) Try.func18 rfl rfl rfl ?_
  simp only [argsE, Nat.reduceAdd]
  try dsimp only [argsE]
  refine AK.seq ?_
  refine AK.region ?_
  refine AO.val (RV.assign rfl) (.none rfl) rfl ?_
  refine AO.val (RV.assign rfl) (.none rfl) rfl ?_
  refine AO.nil ?_
  refine AK.seq ?_
  refine AK.region ?_
  refine AO.val (RV.move rfl) (.none rfl) rfl ?_
  refine AO.eff (EF.callF rfl (rof_spec B _ l (hl.mono fun x hx => by simp [hx]) hb hcap hln)) (.none rfl) rfl ?_
  rintro _ _ ⟨Ao, c, p, q, xs, rfl, hn, hpr, rfl⟩
  have hs := hn.row.src (B := B) (h := p) (fun x hx => hx)
  have hok := (ofS_ok l.length l (Nat.le_refl _) hb).2
  have hxl : xs.length = (ofS l).1.length := by rw [← hpr, List.length_map]
  refine AO.val (RV.move rfl) (.none rfl) rfl ?_
  refine AO.val (RV.extract rfl rfl) (.none rfl) rfl ?_
  refine AO.val (RV.extract rfl rfl) (.none rfl) rfl ?_
  refine AO.val (RV.assign rfl) (.none rfl) rfl ?_
  refine AO.val (RV.assign rfl) (.none rfl) rfl ?_
  refine AO.nil ?_
  refine AK.seq ?_
  refine AK.seq ?_
  refine AK.region ?_
  refine AO.val (RV.assign rfl) (.none rfl) rfl ?_
  refine AO.nil ?_
  refine AK.block ?_
  refine AK.loop (α := Int) (E := fun i => [(4, .slice Ao xs.length c), (5, .int .i64 (ofS l).2), (6, .int .i64 i)]) (H := fun i => p ++ (q ++ h)) (Inv := fun i => 0 ≤ i ∧ i ≤ xs.length ∧ firstS ((ofS l).1.drop i.toNat) = mssS l) (μ := fun i => (xs.length - i).toNat) 0 ?_ (.cons (by exact rfl) (.cons (by exact rfl) (.cons (by exact rfl) .nil))) ?_ ?_
  · exact ⟨by omega, by omega, rfl⟩
  · exact (by first | exact SubO.sub | exact List.Sublist.refl _ | exact .cons _ (List.Sublist.refl _) | exact .cons _ (.cons _ (List.Sublist.refl _)) | exact .cons _ (.cons _ (.cons _ (List.Sublist.refl _))))
  rintro i ⟨hi0, hi1, hfi⟩ hih0
  try dsimp only at hih0 ⊢
  refine AK.seq ?_
  refine AK.seq ?_
  refine AK.region ?_
  refine AO.val (RV.move rfl) (.none rfl) rfl ?_
  refine AO.val (RV.move rfl) (.none rfl) rfl ?_
  refine AO.val (RV.lenS rfl) (.none rfl) rfl ?_
  refine AO.val (RV.lss rfl rfl) (.none rfl) rfl ?_
  refine AO.val (RV.move rfl) (.none rfl) rfl ?_
  refine AO.caseG rfl rfl rfl ?_ ?_
  · intro hg1
    try simp only [decide_eq_true_eq, decide_eq_false_iff_not, Bool.not_eq_true', Bool.not_eq_false', beq_iff_eq] at hg1
    refine AO.val (RV.move rfl) (.some rfl rfl rfl rfl) rfl ?_
    refine AO.val (RV.eql rfl rfl) (.some rfl rfl rfl rfl) rfl ?_
    refine AO.val (RV.pickT rfl rfl) (.none rfl) rfl ?_
    refine AO.nil ?_
    refine AK.cond rfl ?_ ?_
    · intro hc2
      try simp only [decide_eq_true_eq, decide_eq_false_iff_not, Bool.not_eq_true', Bool.not_eq_false', beq_iff_eq] at hc2
      have hm := lget_mem (l := xs) (i := i) (by omega)
      have hxo := hn.dat _ hm
      have hdl : ((ofS l).1.drop i.toNat) = prO (lget xs i) :: (ofS l).1.drop (i + 1).toNat := by rw [← hpr]; exact prO_lget (by omega)
      rw [hdl] at hfi
      refine AK.skip ?_
      refine AK.seq ?_
      refine AK.block ?_
      refine AK.seq ?_
      refine AK.region ?_
      refine AO.val (RV.move rfl) (.none rfl) rfl ?_
      refine AO.val (RV.move rfl) (.none rfl) rfl ?_
      refine AO.val (by first | exact RV.indexS rfl rfl (by assumption) (by omega) rfl | exact RV.indexAddr rfl rfl (by omega)) (.none rfl) rfl ?_
      refine AO.val (by first | exact RV.fieldAddr rfl | exact RV.fieldAddrA rfl) (.none rfl) rfl ?_
      refine AO.val (RV.loadSF (enc := encOpt) (fo := 0) rfl hs (fun _ => rfl) (by omega) rfl rfl (by simp)) (.none rfl) rfl ?_
      refine AO.val (RV.eql rfl rfl) (.none rfl) rfl ?_
      refine AO.val (RV.move rfl) (.none rfl) rfl ?_
      refine AO.caseG rfl rfl rfl ?_ ?_
      · intro hg3
        try simp only [decide_eq_true_eq, decide_eq_false_iff_not, Bool.not_eq_true', Bool.not_eq_false', beq_iff_eq] at hg3
        refine AO.val (RV.move rfl) (.some rfl rfl rfl rfl) rfl ?_
        refine AO.val (RV.move rfl) (.some rfl rfl rfl rfl) rfl ?_
        refine AO.val (by first | exact RV.indexS rfl rfl (by assumption) (by omega) rfl | exact RV.indexAddr rfl rfl (by omega)) (.some rfl rfl rfl rfl) rfl ?_
        refine AO.val (by first | exact RV.fieldAddr rfl | exact RV.fieldAddrA rfl) (.some rfl rfl rfl rfl) rfl ?_
        refine AO.val (RV.loadSF (enc := encOpt) (fo := 1) rfl hs (fun _ => rfl) (by omega) rfl rfl (by simp)) (.some rfl rfl rfl rfl) rfl ?_
        refine AO.val (RV.lenS rfl) (.some rfl rfl rfl rfl) rfl ?_
        refine AO.val (RV.eql rfl rfl) (.some rfl rfl rfl rfl) rfl ?_
        refine AO.val (RV.pickT rfl rfl) (.none rfl) rfl ?_
        refine AO.nil ?_
        refine AK.cond rfl ?_ ?_
        · intro hc4
          try simp only [decide_eq_true_eq, decide_eq_false_iff_not, Bool.not_eq_true', Bool.not_eq_false', beq_iff_eq] at hc4
          have hdn : (lget xs i).2.1.l.length = 2 := by omega
          have hms : mssS l = (lget (lget xs i).2.1.l 0 * 256 + lget (lget xs i).2.1.l 1, true) := by rw [← hfi, firstS, if_pos ⟨by assumption, hdn⟩]; rfl
          have hb0 := lget_bytes hxo.byt 0 (by omega) (by omega)
          have hb1 := lget_bytes hxo.byt 1 (by omega) (by omega)
          have hso := hxo.src
          refine AK.seq ?_
          refine AK.draw [] [] mixed ?_
          refine AD.takeP 0 rfl (by kernel_rfl) (RV.move rfl) (.none rfl) rfl ?_
          refine AD.takeP 1 rfl (by kernel_rfl) (RV.move rfl) (.none rfl) rfl ?_
          refine AD.takeP 2 rfl (by kernel_rfl) (by first | exact RV.indexS rfl rfl (by assumption) (by omega) rfl | exact RV.indexAddr rfl rfl (by omega)) (.none rfl) rfl ?_
          refine AD.takeP 3 rfl (by kernel_rfl) (by first | exact RV.fieldAddr rfl | exact RV.fieldAddrA rfl) (.none rfl) rfl ?_
          refine AD.take 4 rfl (by kernel_rfl) (RV.loadSF (enc := encOpt) (fo := 1) rfl hs (fun _ => rfl) (by omega) rfl rfl (by simp)) (.none rfl) rfl ?_
          refine AD.takeP 5 rfl (by kernel_rfl) (by first | exact RV.indexS rfl rfl (by assumption) (by omega) rfl | exact RV.indexAddr rfl rfl (by omega)) (.none rfl) rfl ?_
          refine AD.take 6 rfl (by kernel_rfl) (RV.loadS (enc := Value.int .u8) (l := (lget xs i).2.1.l) (i := 0) rfl hso (by omega) (by simp)) (.none rfl) rfl ?_
          refine AD.takeP 7 rfl (by kernel_rfl) (RV.convIn rfl (by simp only [kb]; omega)) (.none rfl) rfl ?_
          refine AD.takeP 8 rfl (by kernel_rfl) (RV.mulK rfl rfl (by simp only [kb]; omega)) (.none rfl) rfl ?_
          refine AD.takeP 9 rfl (by kernel_rfl) (RV.move rfl) (.none rfl) rfl ?_
          refine AD.takeP 10 rfl (by kernel_rfl) (RV.move rfl) (.none rfl) rfl ?_
          refine AD.takeP 11 rfl (by kernel_rfl) (by first | exact RV.indexS rfl rfl (by assumption) (by omega) rfl | exact RV.indexAddr rfl rfl (by omega)) (.none rfl) rfl ?_
          refine AD.takeP 12 rfl (by kernel_rfl) (by first | exact RV.fieldAddr rfl | exact RV.fieldAddrA rfl) (.none rfl) rfl ?_
          refine AD.take 13 rfl (by kernel_rfl) (RV.loadSF (enc := encOpt) (fo := 1) rfl hs (fun _ => rfl) (by omega) rfl rfl (by simp)) (.none rfl) rfl ?_
          refine AD.takeP 14 rfl (by kernel_rfl) (by first | exact RV.indexS rfl rfl (by assumption) (by omega) rfl | exact RV.indexAddr rfl rfl (by omega)) (.none rfl) rfl ?_
          refine AD.take 15 rfl (by kernel_rfl) (RV.loadS (enc := Value.int .u8) (l := (lget xs i).2.1.l) (i := 1) rfl hso (by omega) (by simp)) (.none rfl) rfl ?_
          refine AD.takeP 16 rfl (by kernel_rfl) (RV.convIn rfl (by simp only [kb]; omega)) (.none rfl) rfl ?_
          refine AD.takeP 17 rfl (by kernel_rfl) (RV.addK rfl rfl (by simp only [kb]; omega)) (.none rfl) rfl ?_
          refine AD.takeP 18 rfl (by kernel_rfl) (RV.assign rfl) (.none rfl) rfl ?_
          refine AD.takeP 19 rfl (by kernel_rfl) (RV.assign rfl) (.none rfl) rfl ?_
          refine AD.done (by kernel_rfl) ?_
          -- at L0tTtT
          clear hih0
          refine AK.ret (h' := h) Try.func18 (.tmp rfl (.tmp rfl .nil)) ?_ (by exact SubO.sub)
          rw [hms]
          exact ⟨rfl, rfl⟩
        · intro hc4
          try simp only [decide_eq_true_eq, decide_eq_false_iff_not, Bool.not_eq_true', Bool.not_eq_false', beq_iff_eq] at hc4
          refine AK.skip ?_
          refine AK.inBlock ?_
          refine AK.region ?_
          refine AO.val (RV.move rfl) (.none rfl) rfl ?_
          refine AO.val (by first | exact RV.addIn rfl rfl (by omega) | exact RV.add rfl rfl) (.none rfl) rfl ?_
          refine AO.val (RV.assign rfl) (.none rfl) rfl ?_
          refine AO.nil ?_
          -- round ends at L0tTtF
          refine AK.weak (.cons (by exact rfl) (.cons (by exact rfl) (.cons (by exact rfl) .nil))) (by first | exact SubO.sub | exact List.Sublist.refl _ | exact .cons _ (List.Sublist.refl _) | exact .cons _ (.cons _ (List.Sublist.refl _)) | exact .cons _ (.cons _ (.cons _ (List.Sublist.refl _)))) (hih0 (i + 1) ?_ ?_)
          · try dsimp only
            refine ⟨by omega, by omega, ?_⟩
            rw [← hfi, firstS, if_neg (by intro hh; first | exact absurd hh.1 (by assumption) | (have h2 := hh.2; simp only [prO] at h2; omega))]
          · try dsimp only
            omega
      · intro hg3
        try simp only [decide_eq_true_eq, decide_eq_false_iff_not, Bool.not_eq_true', Bool.not_eq_false', beq_iff_eq] at hg3
        refine AO.pass (.some rfl rfl rfl rfl) rfl ?_
        refine AO.pass (.some rfl rfl rfl rfl) rfl ?_
        refine AO.pass (.some rfl rfl rfl rfl) rfl ?_
        refine AO.pass (.some rfl rfl rfl rfl) rfl ?_
        refine AO.pass (.some rfl rfl rfl rfl) rfl ?_
        refine AO.pass (.some rfl rfl rfl rfl) rfl ?_
        refine AO.pass (.some rfl rfl rfl rfl) rfl ?_
        refine AO.val (RV.pickF rfl rfl) (.none rfl) rfl ?_
        refine AO.nil ?_
        refine AK.condF rfl ?_
        refine AK.skip ?_
        refine AK.inBlock ?_
        refine AK.region ?_
        refine AO.val (RV.move rfl) (.none rfl) rfl ?_
        refine AO.val (by first | exact RV.addIn rfl rfl (by omega) | exact RV.add rfl rfl) (.none rfl) rfl ?_
        refine AO.val (RV.assign rfl) (.none rfl) rfl ?_
        refine AO.nil ?_
        -- round ends at L0tTf
        refine AK.weak (.cons (by exact rfl) (.cons (by exact rfl) (.cons (by exact rfl) .nil))) (by first | exact SubO.sub | exact List.Sublist.refl _ | exact .cons _ (List.Sublist.refl _) | exact .cons _ (.cons _ (List.Sublist.refl _)) | exact .cons _ (.cons _ (.cons _ (List.Sublist.refl _)))) (hih0 (i + 1) ?_ ?_)
        · try dsimp only
          refine ⟨by omega, by omega, ?_⟩
          rw [← hfi, firstS, if_neg (by intro hh; first | exact absurd hh.1 (by assumption) | (have h2 := hh.2; simp only [prO] at h2; omega))]
        · try dsimp only
          omega
    · intro hc2
      try simp only [decide_eq_true_eq, decide_eq_false_iff_not, Bool.not_eq_true', Bool.not_eq_false', beq_iff_eq] at hc2
      refine AK.exit rfl ?_
      refine AK.seq ?_
      refine AK.region ?_
      refine AO.val (RV.assign rfl) (.none rfl) rfl ?_
      refine AO.val (RV.assign rfl) (.none rfl) rfl ?_
      refine AO.nil ?_
      -- at L0tF
      clear hih0
      refine AK.ret (h' := h) Try.func18 (.tmp rfl (.tmp rfl .nil)) ?_ (by exact SubO.sub)
      have hdn : ((ofS l).1.drop i.toNat) = [] := by
        by_cases he : (ofS l).2 = 0
        · exact List.drop_eq_nil_of_le (by omega)
        · rw [ofS_err l he]; simp
      rw [hdn] at hfi
      rw [← hfi]
      exact ⟨rfl, rfl⟩
  · intro hg1
    try simp only [decide_eq_true_eq, decide_eq_false_iff_not, Bool.not_eq_true', Bool.not_eq_false', beq_iff_eq] at hg1
    refine AO.pass (.some rfl rfl rfl rfl) rfl ?_
    refine AO.pass (.some rfl rfl rfl rfl) rfl ?_
    refine AO.val (RV.pickF rfl rfl) (.none rfl) rfl ?_
    refine AO.nil ?_
    refine AK.condF rfl ?_
    refine AK.exit rfl ?_
    refine AK.seq ?_
    refine AK.region ?_
    refine AO.val (RV.assign rfl) (.none rfl) rfl ?_
    refine AO.val (RV.assign rfl) (.none rfl) rfl ?_
    refine AO.nil ?_
    -- at L0f
    clear hih0
    refine AK.ret (h' := h) Try.func18 (.tmp rfl (.tmp rfl .nil)) ?_ (by exact SubO.sub)
    have hdn : ((ofS l).1.drop i.toNat) = [] := by
      by_cases he : (ofS l).2 = 0
      · exact List.drop_eq_nil_of_le (by omega)
      · rw [ofS_err l he]; simp
    rw [hdn] at hfi
    rw [← hfi]
    exact ⟨rfl, rfl⟩

end Go.Proofs.Ytdnajbdnlcehgaa
