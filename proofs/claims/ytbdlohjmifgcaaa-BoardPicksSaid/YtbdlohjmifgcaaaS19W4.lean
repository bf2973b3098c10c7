/- Walks through the code: what each function that is named here gives back, from any memory that holds its arguments. Written by a program of the claim's author, out of the program's form in Lean. -/
import Derived.Test.YtbdlohjmifgcaaaS19W3
set_option linter.unusedSimpArgs false
set_option linter.unusedVariables false
namespace Go.Proofs.Ytbdlohjmifgcaaa
open Go.Sep Go.Sep.Sip Go.Sep.Perm Go.Sep.Maglev
theorem any_take (f : Bk → Bool) (l : List Bk) (i : Int) (h0 : 0 ≤ i) (h1 : i < l.length) : (l.take (i + 1).toNat).any f = ((l.take i.toNat).any f || f (lget l i)) := by
  obtain ⟨h2, e⟩ := lget_at ⟨h0, h1⟩
  rw [show (i + 1).toNat = i.toNat + 1 by omega, List.take_succ_eq_append_getElem h2, e, List.any_append]; simp

theorem pick_spec (B : World) (h : Own) {A : Option Addr} {cap : Nat} (l : List Int) (hl : Src B h A l.length 1 (l.map (fun x => Value.int .i64 x))) (hln : l.length ≤ 1000000) (n : Int) (hn : 0 ≤ n ∧ n ≤ 18446744073709551615) : Tri Try.prog B 28 [.slice A l.length cap, .int .u64 n] h fun v h' => h = h' ∧ v = .tuple #[.int .i64 (if l.length = 0 then 0 else lget l (n % l.length)), .bool (decide (l.length ≠ 0))] := by
  refine Tri.enter (n := 17) Try.func28 rfl rfl rfl ?_
  simp only [argsE, Nat.reduceAdd]
  try dsimp only [argsE]
  refine AK.seq ?_
  refine AK.region ?_
  refine AO.val (RV.assign rfl) (.none rfl) rfl ?_
  refine AO.val (RV.assign rfl) (.none rfl) rfl ?_
  refine AO.nil ?_
  refine AK.seq ?_
  refine AK.seq ?_
  refine AK.region ?_
  refine AO.val (RV.move rfl) (.none rfl) rfl ?_
  refine AO.val (RV.lenS rfl) (.none rfl) rfl ?_
  refine AO.val (RV.eql rfl rfl) (.none rfl) rfl ?_
  refine AO.nil ?_
  refine AK.cond rfl ?_ ?_
  · intro hc1
    try simp only [decide_eq_true_eq, decide_eq_false_iff_not, Bool.not_eq_true', Bool.not_eq_false', beq_iff_eq] at hc1
    refine AK.seq ?_
    refine AK.region ?_
    refine AO.val (RV.assign rfl) (.none rfl) rfl ?_
    refine AO.val (RV.assign rfl) (.none rfl) rfl ?_
    refine AO.nil ?_
    -- at T
    refine AK.ret (h' := h) Try.func28 (.tmp rfl (.tmp rfl .nil)) ?_ (by first | exact SubO.sub | exact List.Sublist.refl _ | exact .cons _ (List.Sublist.refl _) | exact .cons _ (.cons _ (List.Sublist.refl _)) | exact .cons _ (.cons _ (.cons _ (List.Sublist.refl _))))
    refine ⟨rfl, ?_⟩
    rw [if_pos (by omega), decide_eq_false (by omega)]; rfl
  · intro hc1
    try simp only [decide_eq_true_eq, decide_eq_false_iff_not, Bool.not_eq_true', Bool.not_eq_false', beq_iff_eq] at hc1
    have hr0 := Int.emod_nonneg n (show (l.length : Int) ≠ 0 by omega)
    have hr1 := Int.emod_lt_of_pos n (show 0 < (l.length : Int) by omega)
    refine AK.skip ?_
    refine AK.seq ?_
    refine AK.region ?_
    refine AO.val (RV.move rfl) (.none rfl) rfl ?_
    refine AO.val (RV.move rfl) (.none rfl) rfl ?_
    refine AO.val (RV.move rfl) (.none rfl) rfl ?_
    refine AO.val (RV.lenS rfl) (.none rfl) rfl ?_
    refine AO.val (by first | exact RV.convIn rfl (by simp only [kb]; omega) | exact RV.conv rfl) (.none rfl) rfl ?_
    refine AO.val (RV.remIn rfl rfl (by omega)) (.none rfl) rfl ?_
    refine AO.val (by first | exact RV.indexS rfl rfl (by assumption) (by omega) rfl | exact RV.indexAddr rfl rfl (by omega)) (.none rfl) rfl ?_
    refine AO.val (RV.loadS (enc := Value.int .i64) (l := l) (i := n % l.length) rfl hl (by omega) (by simp)) (.none rfl) rfl ?_
    refine AO.val (RV.assign rfl) (.none rfl) rfl ?_
    refine AO.val (RV.assign rfl) (.none rfl) rfl ?_
    refine AO.nil ?_
    -- at F
    refine AK.ret (h' := h) Try.func28 (.tmp rfl (.tmp rfl .nil)) ?_ (by first | exact SubO.sub | exact List.Sublist.refl _ | exact .cons _ (List.Sublist.refl _) | exact .cons _ (.cons _ (List.Sublist.refl _)) | exact .cons _ (.cons _ (.cons _ (List.Sublist.refl _))))
    refine ⟨rfl, ?_⟩
    rw [if_neg (by omega), decide_eq_true (by omega)]; rfl

set_option maxHeartbeats 800000 in
theorem rparts_spec (B : World) (h : Own) {A : Option Addr} {cap : Nat} (l : List Bk) (hl : Src B h A l.length 6 (flat encK l)) (hid : ∀ b ∈ l, BkOk b) (hcap : l.length ≤ cap) (hln : l.length ≤ 1000) : Tri Try.prog B 55 [.slice A l.length cap] h fun v h' => ∃ A c p bs, v = .slice A bs.length c ∧ Row 43 6 (.slice A bs.length c) bs.length (flat encK bs) p ∧ bs.length ≤ c ∧ bs.map prK = partsS (l.map prK) ∧ (∀ b ∈ bs, b ∈ l) ∧ h' = p ++ h := by
  refine Tri.enter (n := 74) Try.func55 rfl rfl rfl ?_
  simp only [argsE, Nat.reduceAdd]
  try dsimp only [argsE]
  refine AK.seq ?_
  refine AK.region ?_
  refine AO.val (RV.assign rfl) (.none rfl) rfl ?_
  refine AO.nil ?_
  refine AK.seq ?_
  refine AK.region ?_
  refine AO.val (RV.assign rfl) (.none rfl) rfl ?_
  refine AO.nil ?_
  refine AK.seq ?_
  refine AK.seq ?_
  refine AK.region ?_
  refine AO.val (RV.assign rfl) (.none rfl) rfl ?_
  refine AO.nil ?_
  refine AK.block ?_
  refine AK.loop (α := Int × Option Addr × Nat × Own × List Bk) (E := fun (i, Ao, c, p, bs) => [(0, .slice A l.length cap), (3, .slice Ao bs.length c), (4, .int .i64 i)]) (H := fun (i, Ao, c, p, bs) => p ++ h) (Inv := fun (i, Ao, c, p, bs) => 0 ≤ i ∧ i ≤ l.length ∧ bs.length ≤ i.toNat ∧ Row 43 6 (.slice Ao bs.length c) bs.length (flat encK bs) p ∧ bs.length ≤ c ∧ bs.map prK = partsS ((l.take i.toNat).map prK) ∧ ∀ b ∈ bs, b ∈ l) (μ := fun (i, Ao, c, p, bs) => (l.length - i).toNat) (0, none, 0, [], []) ?_ (.cons (by exact rfl) (.cons (by exact rfl) (.cons (by exact rfl) .nil))) ?_ ?_
  · exact ⟨by omega, by omega, by simp, .nil, Nat.le_refl _, rfl, fun b hb => by simp at hb⟩
  · exact (by first | exact SubO.sub | exact List.Sublist.refl _ | exact .cons _ (List.Sublist.refl _) | exact .cons _ (.cons _ (List.Sublist.refl _)) | exact .cons _ (.cons _ (.cons _ (List.Sublist.refl _))))
  rintro ⟨i, Ao, c, p, bs⟩ ⟨hi0, hi1, hbi, hr, hc, hbs, hsub⟩ hih0
  try dsimp only at hih0 ⊢
  refine AK.seq ?_
  refine AK.seq ?_
  refine AK.region ?_
  refine AO.val (RV.move rfl) (.none rfl) rfl ?_
  refine AO.val (RV.move rfl) (.none rfl) rfl ?_
  refine AO.val (RV.lenS rfl) (.none rfl) rfl ?_
  refine AO.val (RV.lss rfl rfl) (.none rfl) rfl ?_
  refine AO.nil ?_
  refine AK.cond rfl ?_ ?_
  · intro hc1
    try simp only [decide_eq_true_eq, decide_eq_false_iff_not, Bool.not_eq_true', Bool.not_eq_false', beq_iff_eq] at hc1
    refine AK.skip ?_
    refine AK.seq ?_
    refine AK.block ?_
    refine AK.seq ?_
    refine AK.region ?_
    refine AO.val (RV.assign rfl) (.none rfl) rfl ?_
    refine AO.nil ?_
    refine AK.seq ?_
    refine AK.seq ?_
    refine AK.region ?_
    refine AO.val (RV.assign rfl) (.none rfl) rfl ?_
    refine AO.nil ?_
    refine AK.block ?_
    refine AK.loop (α := Int × Bool) (E := fun (j, met) => [(0, .slice A l.length cap), (3, .slice Ao bs.length c), (4, .int .i64 i), (5, .bool met), (6, .int .i64 j)]) (H := fun (j, met) => p ++ h) (Inv := fun (j, met) => 0 ≤ j ∧ j ≤ i ∧ met = (l.take (j).toNat).any (fun b => decide (b.1 = (lget l i).1) && validW b.2.2.2.1)) (μ := fun (j, met) => (i - j).toNat) (0, false) ?_ (.cons (by exact rfl) (.cons (by exact rfl) (.cons (by exact rfl) (.cons (by exact rfl) (.cons (by exact rfl) .nil))))) ?_ ?_
    · exact ⟨by omega, by omega, by simp⟩
    · exact (by first | exact SubO.sub | exact List.Sublist.refl _ | exact .cons _ (List.Sublist.refl _) | exact .cons _ (.cons _ (List.Sublist.refl _)) | exact .cons _ (.cons _ (.cons _ (List.Sublist.refl _))))
    rintro ⟨j, met⟩ ⟨hj0, hj1, hmet⟩ hih1
    try dsimp only at hih1 ⊢
    refine AK.seq ?_
    refine AK.seq ?_
    refine AK.region ?_
    refine AO.val (RV.move rfl) (.none rfl) rfl ?_
    refine AO.val (RV.move rfl) (.none rfl) rfl ?_
    refine AO.val (RV.lss rfl rfl) (.none rfl) rfl ?_
    refine AO.nil ?_
    refine AK.cond rfl ?_ ?_
    · intro hc2
      try simp only [decide_eq_true_eq, decide_eq_false_iff_not, Bool.not_eq_true', Bool.not_eq_false', beq_iff_eq] at hc2
      refine AK.skip ?_
      refine AK.seq ?_
      refine AK.block ?_
      refine AK.draw [] [] mixed ?_
      refine AD.takeP 0 rfl (by kernel_rfl) (RV.move rfl) (.none rfl) rfl ?_
      refine AD.takeP 1 rfl (by kernel_rfl) (RV.move rfl) (.none rfl) rfl ?_
      refine AD.caseG (d := 19) (j := 1) rfl rfl ?_ ?_
      · intro hg3
        try simp only [decide_eq_true_eq, decide_eq_false_iff_not, Bool.not_eq_true', Bool.not_eq_false', beq_iff_eq] at hg3
        refine AD.pass 2 rfl (by kernel_rfl) (.some rfl rfl rfl rfl) rfl ?_
        refine AD.pass 3 rfl (by kernel_rfl) (.some rfl rfl rfl rfl) rfl ?_
        refine AD.pass 4 rfl (by kernel_rfl) (.some rfl rfl rfl rfl) rfl ?_
        refine AD.pass 5 rfl (by kernel_rfl) (.some rfl rfl rfl rfl) rfl ?_
        refine AD.pass 6 rfl (by kernel_rfl) (.some rfl rfl rfl rfl) rfl ?_
        refine AD.pass 7 rfl (by kernel_rfl) (.some rfl rfl rfl rfl) rfl ?_
        refine AD.pass 8 rfl (by kernel_rfl) (.some rfl rfl rfl rfl) rfl ?_
        refine AD.pass 9 rfl (by kernel_rfl) (.some rfl rfl rfl rfl) rfl ?_
        refine AD.pass 10 rfl (by kernel_rfl) (.some rfl rfl rfl rfl) rfl ?_
        refine AD.pass 11 rfl (by kernel_rfl) (.some rfl rfl rfl rfl) rfl ?_
        refine AD.pass 12 rfl (by kernel_rfl) (.some rfl rfl rfl rfl) rfl ?_
        refine AD.pass 13 rfl (by kernel_rfl) (.some rfl rfl rfl rfl) rfl ?_
        refine AD.pass 14 rfl (by kernel_rfl) (.undef rfl rfl rfl) rfl ?_
        refine AD.pass 15 rfl (by kernel_rfl) (.undef rfl rfl rfl) rfl ?_
        refine AD.pass 16 rfl (by kernel_rfl) (.undef rfl rfl rfl) rfl ?_
        refine AD.pass 17 rfl (by kernel_rfl) (.undef rfl rfl rfl) rfl ?_
        refine AD.pass 18 rfl (by kernel_rfl) (.undef rfl rfl rfl) rfl ?_
        refine AD.pass 19 rfl (by kernel_rfl) (.undef rfl rfl rfl) rfl ?_
        refine AD.pass 20 rfl (by kernel_rfl) (.some rfl rfl rfl rfl) rfl ?_
        refine AD.pass 21 rfl (by kernel_rfl) (.some rfl rfl rfl rfl) rfl ?_
        refine AD.pass 22 rfl (by kernel_rfl) (.undef rfl rfl rfl) rfl ?_
        refine AD.pass 23 rfl (by kernel_rfl) (.undef rfl rfl rfl) rfl ?_
        refine AD.pass 24 rfl (by kernel_rfl) (.undef rfl rfl rfl) rfl ?_
        refine AD.pass 25 rfl (by kernel_rfl) (.undef rfl rfl rfl) rfl ?_
        refine AD.pass 26 rfl (by kernel_rfl) (.undef rfl rfl rfl) rfl ?_
        refine AD.pass 27 rfl (by kernel_rfl) (.undef rfl rfl rfl) rfl ?_
        refine AD.pass 28 rfl (by kernel_rfl) (.some rfl rfl rfl rfl) rfl ?_
        refine AD.takeP 29 rfl (by kernel_rfl) (RV.pickT rfl rfl) (.none rfl) rfl ?_
        refine AD.takeP 30 rfl (by kernel_rfl) (RV.assign rfl) (.none rfl) rfl ?_
        refine AD.done (by kernel_rfl) ?_
        refine AK.inBlock ?_
        refine AK.region ?_
        refine AO.val (RV.move rfl) (.none rfl) rfl ?_
        refine AO.val (by first | exact RV.addIn rfl rfl (by omega) | exact RV.add rfl rfl) (.none rfl) rfl ?_
        refine AO.val (RV.assign rfl) (.none rfl) rfl ?_
        refine AO.nil ?_
        -- round ends at L0TL1Tt
        refine AK.weak (.cons (by exact rfl) (.cons (by exact rfl) (.cons (by exact rfl) (.cons (by exact rfl) (.cons (by exact rfl) .nil))))) (by first | exact SubO.sub | exact List.Sublist.refl _ | exact .cons _ (List.Sublist.refl _) | exact .cons _ (.cons _ (List.Sublist.refl _)) | exact .cons _ (.cons _ (.cons _ (List.Sublist.refl _)))) (hih1 (j + 1, true) ?_ ?_)
        · try dsimp only
          refine ⟨by omega, by omega, ?_⟩
          rw [any_take _ l j hj0 (by omega), ← hmet]
          rw [hg3]; rfl
        · try dsimp only
          omega
      · intro hg3
        try simp only [decide_eq_true_eq, decide_eq_false_iff_not, Bool.not_eq_true', Bool.not_eq_false', beq_iff_eq] at hg3
        refine AD.takeP 2 rfl (by kernel_rfl) (RV.move rfl) (.some rfl rfl rfl rfl) rfl ?_
        refine AD.takeP 3 rfl (by kernel_rfl) (RV.move rfl) (.some rfl rfl rfl rfl) rfl ?_
        refine AD.takeP 4 rfl (by kernel_rfl) (by first | exact RV.indexS rfl rfl (by assumption) (by omega) rfl | exact RV.indexAddr rfl rfl (by omega)) (.some rfl rfl rfl rfl) rfl ?_
        refine AD.takeP 5 rfl (by kernel_rfl) (by first | exact RV.fieldAddr rfl | exact RV.fieldAddrA rfl) (.some rfl rfl rfl rfl) rfl ?_
        refine AD.take 6 rfl (by kernel_rfl) (RV.loadSF (enc := encK) (l := l) (i := j) (fo := 0) rfl hl (fun _ => rfl) (by omega) rfl rfl (by simp)) (.some rfl rfl rfl rfl) rfl ?_
        refine AD.takeP 7 rfl (by kernel_rfl) (RV.move rfl) (.some rfl rfl rfl rfl) rfl ?_
        refine AD.takeP 8 rfl (by kernel_rfl) (RV.move rfl) (.some rfl rfl rfl rfl) rfl ?_
        refine AD.takeP 9 rfl (by kernel_rfl) (by first | exact RV.indexS rfl rfl (by assumption) (by omega) rfl | exact RV.indexAddr rfl rfl (by omega)) (.some rfl rfl rfl rfl) rfl ?_
        refine AD.takeP 10 rfl (by kernel_rfl) (by first | exact RV.fieldAddr rfl | exact RV.fieldAddrA rfl) (.some rfl rfl rfl rfl) rfl ?_
        refine AD.take 11 rfl (by kernel_rfl) (RV.loadSF (enc := encK) (l := l) (i := i) (fo := 0) rfl hl (fun _ => rfl) (by omega) rfl rfl (by simp)) (.some rfl rfl rfl rfl) rfl ?_
        refine AD.takeP 12 rfl (by kernel_rfl) (RV.eql rfl rfl) (.some rfl rfl rfl rfl) rfl ?_
        refine AD.takeP 13 rfl (by kernel_rfl) (RV.move rfl) (.some rfl rfl rfl rfl) rfl ?_
        refine AD.caseG (d := 31) (j := 13) rfl rfl ?_ ?_
        · intro hg4
          try simp only [decide_eq_true_eq, decide_eq_false_iff_not, Bool.not_eq_true', Bool.not_eq_false', beq_iff_eq] at hg4
          refine AD.takeP 14 rfl (by kernel_rfl) (RV.move rfl) (.some rfl rfl rfl rfl) rfl ?_
          refine AD.takeP 15 rfl (by kernel_rfl) (RV.move rfl) (.some rfl rfl rfl rfl) rfl ?_
          refine AD.takeP 16 rfl (by kernel_rfl) (by first | exact RV.indexS rfl rfl (by assumption) (by omega) rfl | exact RV.indexAddr rfl rfl (by omega)) (.some rfl rfl rfl rfl) rfl ?_
          refine AD.takeP 17 rfl (by kernel_rfl) (by first | exact RV.fieldAddr rfl | exact RV.fieldAddrA rfl) (.some rfl rfl rfl rfl) rfl ?_
          refine AD.take 18 rfl (by kernel_rfl) (RV.loadSF (enc := encK) (l := l) (i := j) (fo := 3) rfl hl (fun _ => rfl) (by omega) rfl rfl (by simp)) (.some rfl rfl rfl rfl) rfl ?_
          refine AD.takeP 19 rfl (by kernel_rfl) (RV.geq rfl rfl) (.some rfl rfl rfl rfl) rfl ?_
          refine AD.takeP 20 rfl (by kernel_rfl) (RV.pickT rfl rfl) (.some rfl rfl rfl rfl) rfl ?_
          refine AD.takeP 21 rfl (by kernel_rfl) (RV.move rfl) (.some rfl rfl rfl rfl) rfl ?_
          refine AD.caseG (d := 39) (j := 21) rfl rfl ?_ ?_
          · intro hg5
            try simp only [decide_eq_true_eq, decide_eq_false_iff_not, Bool.not_eq_true', Bool.not_eq_false', beq_iff_eq] at hg5
            refine AD.takeP 22 rfl (by kernel_rfl) (RV.move rfl) (.some rfl rfl rfl rfl) rfl ?_
            refine AD.takeP 23 rfl (by kernel_rfl) (RV.move rfl) (.some rfl rfl rfl rfl) rfl ?_
            refine AD.takeP 24 rfl (by kernel_rfl) (by first | exact RV.indexS rfl rfl (by assumption) (by omega) rfl | exact RV.indexAddr rfl rfl (by omega)) (.some rfl rfl rfl rfl) rfl ?_
            refine AD.takeP 25 rfl (by kernel_rfl) (by first | exact RV.fieldAddr rfl | exact RV.fieldAddrA rfl) (.some rfl rfl rfl rfl) rfl ?_
            refine AD.take 26 rfl (by kernel_rfl) (RV.loadSF (enc := encK) (l := l) (i := j) (fo := 3) rfl hl (fun _ => rfl) (by omega) rfl rfl (by simp)) (.some rfl rfl rfl rfl) rfl ?_
            refine AD.takeP 27 rfl (by kernel_rfl) (RV.leq rfl rfl) (.some rfl rfl rfl rfl) rfl ?_
            refine AD.takeP 28 rfl (by kernel_rfl) (RV.pickT rfl rfl) (.some rfl rfl rfl rfl) rfl ?_
            refine AD.takeP 29 rfl (by kernel_rfl) (RV.pickF rfl rfl) (.none rfl) rfl ?_
            refine AD.takeP 30 rfl (by kernel_rfl) (RV.assign rfl) (.none rfl) rfl ?_
            refine AD.done (by kernel_rfl) ?_
            refine AK.inBlock ?_
            refine AK.region ?_
            refine AO.val (RV.move rfl) (.none rfl) rfl ?_
            refine AO.val (by first | exact RV.addIn rfl rfl (by omega) | exact RV.add rfl rfl) (.none rfl) rfl ?_
            refine AO.val (RV.assign rfl) (.none rfl) rfl ?_
            refine AO.nil ?_
            -- round ends at L0TL1Tftt
            refine AK.weak (.cons (by exact rfl) (.cons (by exact rfl) (.cons (by exact rfl) (.cons (by exact rfl) (.cons (by exact rfl) .nil))))) (by first | exact SubO.sub | exact List.Sublist.refl _ | exact .cons _ (List.Sublist.refl _) | exact .cons _ (.cons _ (List.Sublist.refl _)) | exact .cons _ (.cons _ (.cons _ (List.Sublist.refl _)))) (hih1 (j + 1, (decide ((lget l j).2.2.2.1 ≤ 8))) ?_ ?_)
            · try dsimp only
              refine ⟨by omega, by omega, ?_⟩
              rw [any_take _ l j hj0 (by omega), ← hmet]
              rw [hg3, Bool.false_or, decide_eq_true hg4, Bool.true_and, validW]
              exact decide_eq_decide.2 ⟨fun h => ⟨hg5, h⟩, fun h => h.2⟩
            · try dsimp only
              omega
          · intro hg5
            try simp only [decide_eq_true_eq, decide_eq_false_iff_not, Bool.not_eq_true', Bool.not_eq_false', beq_iff_eq] at hg5
            refine AD.pass 22 rfl (by kernel_rfl) (.some rfl rfl rfl rfl) rfl ?_
            refine AD.pass 23 rfl (by kernel_rfl) (.some rfl rfl rfl rfl) rfl ?_
            refine AD.pass 24 rfl (by kernel_rfl) (.some rfl rfl rfl rfl) rfl ?_
            refine AD.pass 25 rfl (by kernel_rfl) (.some rfl rfl rfl rfl) rfl ?_
            refine AD.pass 26 rfl (by kernel_rfl) (.some rfl rfl rfl rfl) rfl ?_
            refine AD.pass 27 rfl (by kernel_rfl) (.some rfl rfl rfl rfl) rfl ?_
            refine AD.takeP 28 rfl (by kernel_rfl) (RV.pickF rfl rfl) (.some rfl rfl rfl rfl) rfl ?_
            refine AD.takeP 29 rfl (by kernel_rfl) (RV.pickF rfl rfl) (.none rfl) rfl ?_
            refine AD.takeP 30 rfl (by kernel_rfl) (RV.assign rfl) (.none rfl) rfl ?_
            refine AD.done (by kernel_rfl) ?_
            refine AK.inBlock ?_
            refine AK.region ?_
            refine AO.val (RV.move rfl) (.none rfl) rfl ?_
            refine AO.val (by first | exact RV.addIn rfl rfl (by omega) | exact RV.add rfl rfl) (.none rfl) rfl ?_
            refine AO.val (RV.assign rfl) (.none rfl) rfl ?_
            refine AO.nil ?_
            -- round ends at L0TL1Tftf
            refine AK.weak (.cons (by exact rfl) (.cons (by exact rfl) (.cons (by exact rfl) (.cons (by exact rfl) (.cons (by exact rfl) .nil))))) (by first | exact SubO.sub | exact List.Sublist.refl _ | exact .cons _ (List.Sublist.refl _) | exact .cons _ (.cons _ (List.Sublist.refl _)) | exact .cons _ (.cons _ (.cons _ (List.Sublist.refl _)))) (hih1 (j + 1, false) ?_ ?_)
            · try dsimp only
              refine ⟨by omega, by omega, ?_⟩
              rw [any_take _ l j hj0 (by omega), ← hmet]
              rw [hg3, Bool.false_or, validW, decide_eq_false (p := 1 ≤ _ ∧ _) (fun h => hg5 h.1), Bool.and_false]
            · try dsimp only
              omega
        · intro hg4
          try simp only [decide_eq_true_eq, decide_eq_false_iff_not, Bool.not_eq_true', Bool.not_eq_false', beq_iff_eq] at hg4
          refine AD.pass 14 rfl (by kernel_rfl) (.some rfl rfl rfl rfl) rfl ?_
          refine AD.pass 15 rfl (by kernel_rfl) (.some rfl rfl rfl rfl) rfl ?_
          refine AD.pass 16 rfl (by kernel_rfl) (.some rfl rfl rfl rfl) rfl ?_
          refine AD.pass 17 rfl (by kernel_rfl) (.some rfl rfl rfl rfl) rfl ?_
          refine AD.pass 18 rfl (by kernel_rfl) (.some rfl rfl rfl rfl) rfl ?_
          refine AD.pass 19 rfl (by kernel_rfl) (.some rfl rfl rfl rfl) rfl ?_
          refine AD.takeP 20 rfl (by kernel_rfl) (RV.pickF rfl rfl) (.some rfl rfl rfl rfl) rfl ?_
          refine AD.takeP 21 rfl (by kernel_rfl) (RV.move rfl) (.some rfl rfl rfl rfl) rfl ?_
          refine AD.pass 22 rfl (by kernel_rfl) (.some rfl rfl rfl rfl) rfl ?_
          refine AD.pass 23 rfl (by kernel_rfl) (.some rfl rfl rfl rfl) rfl ?_
          refine AD.pass 24 rfl (by kernel_rfl) (.some rfl rfl rfl rfl) rfl ?_
          refine AD.pass 25 rfl (by kernel_rfl) (.some rfl rfl rfl rfl) rfl ?_
          refine AD.pass 26 rfl (by kernel_rfl) (.some rfl rfl rfl rfl) rfl ?_
          refine AD.pass 27 rfl (by kernel_rfl) (.some rfl rfl rfl rfl) rfl ?_
          refine AD.takeP 28 rfl (by kernel_rfl) (RV.pickF rfl rfl) (.some rfl rfl rfl rfl) rfl ?_
          refine AD.takeP 29 rfl (by kernel_rfl) (RV.pickF rfl rfl) (.none rfl) rfl ?_
          refine AD.takeP 30 rfl (by kernel_rfl) (RV.assign rfl) (.none rfl) rfl ?_
          refine AD.done (by kernel_rfl) ?_
          refine AK.inBlock ?_
          refine AK.region ?_
          refine AO.val (RV.move rfl) (.none rfl) rfl ?_
          refine AO.val (by first | exact RV.addIn rfl rfl (by omega) | exact RV.add rfl rfl) (.none rfl) rfl ?_
          refine AO.val (RV.assign rfl) (.none rfl) rfl ?_
          refine AO.nil ?_
          -- round ends at L0TL1Tff
          refine AK.weak (.cons (by exact rfl) (.cons (by exact rfl) (.cons (by exact rfl) (.cons (by exact rfl) (.cons (by exact rfl) .nil))))) (by first | exact SubO.sub | exact List.Sublist.refl _ | exact .cons _ (List.Sublist.refl _) | exact .cons _ (.cons _ (List.Sublist.refl _)) | exact .cons _ (.cons _ (.cons _ (List.Sublist.refl _)))) (hih1 (j + 1, false) ?_ ?_)
          · try dsimp only
            refine ⟨by omega, by omega, ?_⟩
            rw [any_take _ l j hj0 (by omega), ← hmet]
            rw [hg3, Bool.false_or, decide_eq_false hg4, Bool.false_and]
          · try dsimp only
            omega
    · intro hc2
      try simp only [decide_eq_true_eq, decide_eq_false_iff_not, Bool.not_eq_true', Bool.not_eq_false', beq_iff_eq] at hc2
      have hmb : metP (bs.map prK) (lget l i).1 = met := by rw [hbs, parts_met, List.any_map, hmet, show j = i by omega]; rfl
      refine AK.exit rfl ?_
      refine AK.seq ?_
      refine AK.region ?_
      refine AO.val (RV.move rfl) (.none rfl) rfl ?_
      refine AO.val (RV.not rfl) (.none rfl) rfl ?_
      refine AO.val (RV.move rfl) (.none rfl) rfl ?_
      refine AO.caseG rfl rfl rfl ?_ ?_
      · intro hg6
        try simp only [decide_eq_true_eq, decide_eq_false_iff_not, Bool.not_eq_true', Bool.not_eq_false', beq_iff_eq] at hg6
        have hgA := hg6
        refine AO.val (RV.move rfl) (.some rfl rfl rfl rfl) rfl ?_
        refine AO.val (RV.move rfl) (.some rfl rfl rfl rfl) rfl ?_
        refine AO.val (by first | exact RV.indexS rfl rfl (by assumption) (by omega) rfl | exact RV.indexAddr rfl rfl (by omega)) (.some rfl rfl rfl rfl) rfl ?_
        refine AO.val (by first | exact RV.fieldAddr rfl | exact RV.fieldAddrA rfl) (.some rfl rfl rfl rfl) rfl ?_
        refine AO.val (RV.loadSF (enc := encK) (l := l) (i := i) (fo := 3) rfl hl (fun _ => rfl) (by omega) rfl rfl (by simp)) (.some rfl rfl rfl rfl) rfl ?_
        refine AO.val (RV.geq rfl rfl) (.some rfl rfl rfl rfl) rfl ?_
        refine AO.val (RV.pickT rfl rfl) (.none rfl) rfl ?_
        refine AO.val (RV.move rfl) (.none rfl) rfl ?_
        refine AO.caseG rfl rfl rfl ?_ ?_
        · intro hg7
          try simp only [decide_eq_true_eq, decide_eq_false_iff_not, Bool.not_eq_true', Bool.not_eq_false', beq_iff_eq] at hg7
          refine AO.val (RV.move rfl) (.some rfl rfl rfl rfl) rfl ?_
          refine AO.val (RV.move rfl) (.some rfl rfl rfl rfl) rfl ?_
          refine AO.val (by first | exact RV.indexS rfl rfl (by assumption) (by omega) rfl | exact RV.indexAddr rfl rfl (by omega)) (.some rfl rfl rfl rfl) rfl ?_
          refine AO.val (by first | exact RV.fieldAddr rfl | exact RV.fieldAddrA rfl) (.some rfl rfl rfl rfl) rfl ?_
          refine AO.val (RV.loadSF (enc := encK) (l := l) (i := i) (fo := 3) rfl hl (fun _ => rfl) (by omega) rfl rfl (by simp)) (.some rfl rfl rfl rfl) rfl ?_
          refine AO.val (RV.leq rfl rfl) (.some rfl rfl rfl rfl) rfl ?_
          refine AO.val (RV.pickT rfl rfl) (.none rfl) rfl ?_
          refine AO.nil ?_
          refine AK.cond rfl ?_ ?_
          · intro hc8
            try simp only [decide_eq_true_eq, decide_eq_false_iff_not, Bool.not_eq_true', Bool.not_eq_false', beq_iff_eq] at hc8
            refine AK.region ?_
            refine AO.val (RV.move rfl) (.none rfl) rfl ?_
            refine AO.val (RV.move rfl) (.none rfl) rfl ?_
            refine AO.val (RV.move rfl) (.none rfl) rfl ?_
            refine AO.val (by first | exact RV.indexS rfl rfl (by assumption) (by omega) rfl | exact RV.indexAddr rfl rfl (by omega)) (.none rfl) rfl ?_
            refine AO.val (RV.loadSA (enc := encK) rfl hl (fun _ => rfl) (by omega) (by simp)) (.none rfl) rfl ?_
            refine AO.eff (EF.buildSlice rfl rfl rfl (.cons rfl rfl rfl rfl .nil)) (.none rfl) rfl ?_
            rintro _ _ ⟨b71, hf71, rfl, rfl⟩
            refine AO.eff (EF.appendS (n' := (bs ++ [(lget l i)]).length) (ys := flat encK (bs ++ [(lget l i)])) rfl rfl hr (Src.of_new (el := 43) (cs := encK (lget l i)) List.mem_cons_self 1 6 (Nat.le_refl _)) (by simp) (flat_snoc encK bs _) rfl (by decide) rfl (by omega) (by omega)) (.none rfl) rfl ?_
            rintro _ _ ⟨A72, c72, p72, rfl, hr72, hc72, rfl⟩
            refine AO.val (RV.assign rfl) (.none rfl) rfl ?_
            refine AO.nil ?_
            refine AK.inBlock ?_
            refine AK.region ?_
            refine AO.val (RV.move rfl) (.none rfl) rfl ?_
            refine AO.val (by first | exact RV.addIn rfl rfl (by omega) | exact RV.add rfl rfl) (.none rfl) rfl ?_
            refine AO.val (RV.assign rfl) (.none rfl) rfl ?_
            refine AO.nil ?_
            -- round ends at L0TL1FttT
            refine AK.weak (.cons (by exact rfl) (.cons (by exact rfl) (.cons (by exact rfl) .nil))) (by exact List.Sublist.append_left (.cons _ (List.Sublist.refl _)) _) (hih0 (i + 1, A72, c72, p72, (bs ++ [(lget l i)])) ?_ ?_)
            · try dsimp only
              refine ⟨by omega, by omega, by simp; omega, hr72, hc72, ?_, ?_⟩
              · rw [take_one prK l i hi0 (by omega), parts_snoc, ← hbs, stepP, if_pos ⟨hmb.trans (by simpa using hgA), decide_eq_true ⟨by show 1 ≤ (lget l i).2.2.2.1; omega, by show (lget l i).2.2.2.1 ≤ 8; omega⟩⟩, List.map_append]; rfl
              · intro b hb
                rcases List.mem_append.1 hb with hb | hb
                · exact hsub b hb
                · rw [List.mem_singleton.1 hb]; exact lget_mem ⟨hi0, by omega⟩
            · try dsimp only
              omega
          · intro hc8
            try simp only [decide_eq_true_eq, decide_eq_false_iff_not, Bool.not_eq_true', Bool.not_eq_false', beq_iff_eq] at hc8
            refine AK.skip ?_
            refine AK.inBlock ?_
            refine AK.region ?_
            refine AO.val (RV.move rfl) (.none rfl) rfl ?_
            refine AO.val (by first | exact RV.addIn rfl rfl (by omega) | exact RV.add rfl rfl) (.none rfl) rfl ?_
            refine AO.val (RV.assign rfl) (.none rfl) rfl ?_
            refine AO.nil ?_
            -- round ends at L0TL1FttF
            refine AK.weak (.cons (by exact rfl) (.cons (by exact rfl) (.cons (by exact rfl) .nil))) (by first | exact SubO.sub | exact List.Sublist.refl _ | exact .cons _ (List.Sublist.refl _) | exact .cons _ (.cons _ (List.Sublist.refl _)) | exact .cons _ (.cons _ (.cons _ (List.Sublist.refl _)))) (hih0 (i + 1, Ao, c, p, bs) ?_ ?_)
            · try dsimp only
              refine ⟨by omega, by omega, by omega, hr, hc, ?_, hsub⟩
              rw [take_one prK l i hi0 (by omega), parts_snoc, ← hbs, stepP, if_neg]
              rintro ⟨h1, h2⟩
              have h3 := weight_in h2
              have h4 : met = false := hmb.symm.trans h1
              simp only [prK] at h3
              first | omega | (simp [h4] at hgA)
            · try dsimp only
              omega
        · intro hg7
          try simp only [decide_eq_true_eq, decide_eq_false_iff_not, Bool.not_eq_true', Bool.not_eq_false', beq_iff_eq] at hg7
          refine AO.pass (.some rfl rfl rfl rfl) rfl ?_
          refine AO.pass (.some rfl rfl rfl rfl) rfl ?_
          refine AO.pass (.some rfl rfl rfl rfl) rfl ?_
          refine AO.pass (.some rfl rfl rfl rfl) rfl ?_
          refine AO.pass (.some rfl rfl rfl rfl) rfl ?_
          refine AO.pass (.some rfl rfl rfl rfl) rfl ?_
          refine AO.val (RV.pickF rfl rfl) (.none rfl) rfl ?_
          refine AO.nil ?_
          refine AK.condF rfl ?_
          refine AK.skip ?_
          refine AK.inBlock ?_
          refine AK.region ?_
          refine AO.val (RV.move rfl) (.none rfl) rfl ?_
          refine AO.val (by first | exact RV.addIn rfl rfl (by omega) | exact RV.add rfl rfl) (.none rfl) rfl ?_
          refine AO.val (RV.assign rfl) (.none rfl) rfl ?_
          refine AO.nil ?_
          -- round ends at L0TL1Ftf
          refine AK.weak (.cons (by exact rfl) (.cons (by exact rfl) (.cons (by exact rfl) .nil))) (by first | exact SubO.sub | exact List.Sublist.refl _ | exact .cons _ (List.Sublist.refl _) | exact .cons _ (.cons _ (List.Sublist.refl _)) | exact .cons _ (.cons _ (.cons _ (List.Sublist.refl _)))) (hih0 (i + 1, Ao, c, p, bs) ?_ ?_)
          · try dsimp only
            refine ⟨by omega, by omega, by omega, hr, hc, ?_, hsub⟩
            rw [take_one prK l i hi0 (by omega), parts_snoc, ← hbs, stepP, if_neg]
            rintro ⟨h1, h2⟩
            have h3 := weight_in h2
            have h4 : met = false := hmb.symm.trans h1
            simp only [prK] at h3
            first | omega | (simp [h4] at hgA)
          · try dsimp only
            omega
      · intro hg6
        try simp only [decide_eq_true_eq, decide_eq_false_iff_not, Bool.not_eq_true', Bool.not_eq_false', beq_iff_eq] at hg6
        have hgA := hg6
        refine AO.pass (.some rfl rfl rfl rfl) rfl ?_
        refine AO.pass (.some rfl rfl rfl rfl) rfl ?_
        refine AO.pass (.some rfl rfl rfl rfl) rfl ?_
        refine AO.pass (.some rfl rfl rfl rfl) rfl ?_
        refine AO.pass (.some rfl rfl rfl rfl) rfl ?_
        refine AO.pass (.some rfl rfl rfl rfl) rfl ?_
        refine AO.val (RV.pickF rfl rfl) (.none rfl) rfl ?_
        refine AO.val (RV.move rfl) (.none rfl) rfl ?_
        refine AO.pass (.some rfl rfl rfl rfl) rfl ?_
        refine AO.pass (.some rfl rfl rfl rfl) rfl ?_
        refine AO.pass (.some rfl rfl rfl rfl) rfl ?_
        refine AO.pass (.some rfl rfl rfl rfl) rfl ?_
        refine AO.pass (.some rfl rfl rfl rfl) rfl ?_
        refine AO.pass (.some rfl rfl rfl rfl) rfl ?_
        refine AO.val (RV.pickF rfl rfl) (.none rfl) rfl ?_
        refine AO.nil ?_
        refine AK.condF rfl ?_
        refine AK.skip ?_
        refine AK.inBlock ?_
        refine AK.region ?_
        refine AO.val (RV.move rfl) (.none rfl) rfl ?_
        refine AO.val (by first | exact RV.addIn rfl rfl (by omega) | exact RV.add rfl rfl) (.none rfl) rfl ?_
        refine AO.val (RV.assign rfl) (.none rfl) rfl ?_
        refine AO.nil ?_
        -- round ends at L0TL1Ff
        refine AK.weak (.cons (by exact rfl) (.cons (by exact rfl) (.cons (by exact rfl) .nil))) (by first | exact SubO.sub | exact List.Sublist.refl _ | exact .cons _ (List.Sublist.refl _) | exact .cons _ (.cons _ (List.Sublist.refl _)) | exact .cons _ (.cons _ (.cons _ (List.Sublist.refl _)))) (hih0 (i + 1, Ao, c, p, bs) ?_ ?_)
        · try dsimp only
          refine ⟨by omega, by omega, by omega, hr, hc, ?_, hsub⟩
          rw [take_one prK l i hi0 (by omega), parts_snoc, ← hbs, stepP, if_neg]
          rintro ⟨h1, h2⟩
          have h3 := weight_in h2
          have h4 : met = false := hmb.symm.trans h1
          simp only [prK] at h3
          first | omega | (simp [h4] at hgA)
        · try dsimp only
          omega
  · intro hc1
    try simp only [decide_eq_true_eq, decide_eq_false_iff_not, Bool.not_eq_true', Bool.not_eq_false', beq_iff_eq] at hc1
    refine AK.exit rfl ?_
    refine AK.seq ?_
    refine AK.region ?_
    refine AO.val (RV.move rfl) (.none rfl) rfl ?_
    refine AO.val (RV.assign rfl) (.none rfl) rfl ?_
    refine AO.nil ?_
    -- at L0F
    clear hih0
    refine AK.ret (h' := p ++ h) Try.func55 (.tmp rfl .nil) ?_ (List.Sublist.refl _)
    have hti : l.take i.toNat = l := List.take_of_length_le (by omega)
    rw [hti] at hbs
    exact ⟨Ao, c, p, bs, rfl, hr, hc, hbs, hsub, rfl⟩

end Go.Proofs.Ytbdlohjmifgcaaa
