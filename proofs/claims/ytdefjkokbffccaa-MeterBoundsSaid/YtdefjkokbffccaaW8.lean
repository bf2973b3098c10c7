/- Walks through the code: what each function that is named here gives back, from any memory that holds its arguments. Written by a program of the claim's author, out of the program's form in Lean. -/
import Derived.Test.YtdefjkokbffccaaW7
import Derived.Test.YtdefjkokbffccaaPlainQ59
set_option linter.unusedSimpArgs false
set_option linter.unusedVariables false
namespace Go.Proofs.Ytdefjkokbffccaa
open Go.Sep Go.Sep.Meter Go.RowKit Go.WideShapes Go.ChangeShapes

set_option maxHeartbeats 2000000 in
theorem bounds_law (B : World) (a b src : Int) {A : Option Addr} {cap : Nat} (l : List Tell) (hcap : l.length ≤ cap) (hln : l.length ≤ 9223372036854775807) (hl : Src B [] A l.length 2 (flat encTe l)) : Tri Try.prog B 3 [.int .i64 a, .int .i64 b, .slice A l.length cap, .int .u32 src] [] fun v h' => v = .bool true := by
  refine Tri.enter (n := 112) Try.func3 rfl rfl rfl ?_
  simp only [argsE, Nat.reduceAdd]
  try dsimp only [argsE]
  refine AK.seq ?_
  refine AK.region ?_
  refine AO.val (RV.assign rfl) (.none rfl) rfl ?_
  refine AO.nil ?_
  refine AK.seq ?_
  refine AK.region ?_
  refine AO.val (RV.move rfl) (.none rfl) rfl ?_
  refine AO.val (RV.move rfl) (.none rfl) rfl ?_
  refine AO.eff (EF.callF rfl (rnew_spec B _ 64 a b)) (.none rfl) rfl ?_
  rintro _ _ ⟨q, rfl, rfl⟩
  refine AO.val (RV.assign rfl) (.none rfl) rfl ?_
  refine AO.nil ?_
  refine AK.seq ?_
  refine AK.region ?_
  refine AO.val (RV.move rfl) (.none rfl) rfl ?_
  refine AO.val (RV.move rfl) (.none rfl) rfl ?_
  refine AO.eff (EF.callF rfl (new_spec B _ 64 a b)) (.none rfl) rfl ?_
  rintro _ _ ⟨p, bm, rfl, rfl⟩
  refine AO.val (RV.assign rfl) (.none rfl) rfl ?_
  refine AO.nil ?_
  refine AK.seq ?_
  refine AK.seq ?_
  refine AK.region ?_
  refine AO.val (RV.move rfl) (.none rfl) rfl ?_
  refine AO.val (RV.eqlP rfl rfl) (.none rfl) rfl ?_
  refine AO.nil ?_
  refine AK.condF rfl ?_
  refine AK.skip ?_
  refine AK.seq ?_
  refine AK.region ?_
  refine AO.eff (EF.makeMap (α := Bool) .u32 (Value.bool)) (.none rfl) rfl ?_
  rintro _ _ ⟨b24, hf24, rfl, rfl⟩
  refine AO.val (RV.assign rfl) (.none rfl) rfl ?_
  refine AO.nil ?_
  refine AK.seq ?_
  refine AK.region ?_
  refine AO.val (RV.assign rfl) (.none rfl) rfl ?_
  refine AO.nil ?_
  refine AK.seq ?_
  refine AK.seq ?_
  refine AK.region ?_
  refine AO.val (RV.assign rfl) (.none rfl) rfl ?_
  refine AO.nil ?_
  refine AK.block ?_
  refine AK.perm (h' := [(p, _), (bm, _), (q, _), (b24, _)]) (by exact (List.perm_append_comm (l₁ := [_]) (l₂ := [_, _, _]))) ?_
  refine AK.loop (α := Int × MS × List Int × Option Addr × Nat × Own × List (Ent Bool) × Nat) (E := fun (i, s, t, Q, ct, pb, o, co) => [(2, .slice A l.length cap), (3, .int .u32 src), (9, .pointer (some ⟨q, 0, none⟩)), (10, .pointer (some ⟨p, 0, none⟩)), (11, .map (some b24)), (12, .slice Q t.length ct), (13, .int .i64 i)]) (H := fun (i, s, t, Q, ct, pb, o, co) => pb ++ ((p, Blk.cells [.int .i64 (s).size, .int .i64 (s).rate, .int .i64 (s).burst, .int .i64 (s).now, .map (some bm)] 48 (0, 0)) :: (bm, mapB .u32 evB (s).l (s).c) :: (q, Blk.cells [.int .i64 (newM 64 a b).size, .int .i64 (newM 64 a b).rate, .int .i64 (newM 64 a b).burst, .int .i64 0, .slice none 0 0] 36 (0, 0)) :: (b24, mapB .u32 Value.bool o co) :: [])) (Inv := fun (i, s, t, Q, ct, pb, o, co) => 0 ≤ i ∧ i ≤ l.length ∧ MI s ∧ KeysOk s.l ∧ StampT s.l s.c ∧ (s.size = 64 ∧ s.rate = (newM 64 a b).rate ∧ s.burst = (newM 64 a b).burst) ∧ (s.l.length : Int) ≤ i ∧ BI s t src ∧ MetI s o ∧ Row 3 1 (.slice Q t.length ct) t.length (t.map I64) pb ∧ t.length ≤ ct ∧ (t.length : Int) ≤ i) (μ := fun (i, s, t, Q, ct, pb, o, co) => (l.length - i).toNat) (0, (newM 64 a b), [], none, 0, [], [], 0) ?_ (.cons (by exact rfl) (.cons (by exact rfl) (.cons (by exact rfl) (.cons (by exact rfl) (.cons (by exact rfl) (.cons (by exact rfl) (.cons (by exact rfl) .nil))))))) ?_ ?_
  · exact ⟨by omega, by omega, new_mi 64 a b, .nil, ⟨by simp [newM], by simp [newM]⟩, ⟨by simp only [newM]; omega, rfl, rfl⟩, by simp [newM], bi_new _ _, ⟨fun x => rfl, rfl⟩, .nil, Nat.le_refl 0, by simp⟩
  · exact List.Sublist.refl _
  rintro ⟨i, s, t, Q, ct, pb, o, co⟩ ⟨hi0, hin, mi, hks, hst, ⟨hsz, hrt, hbu⟩, hsl, bi, me, hrw, hct, htl⟩ hih0
  try dsimp only at hih0 ⊢
  refine AK.seq ?_
  refine AK.seq ?_
  refine AK.region ?_
  refine AO.val (RV.move rfl) (.none rfl) rfl ?_
  refine AO.val (RV.move rfl) (.none rfl) rfl ?_
  refine AO.val (RV.lenS rfl) (.none rfl) rfl ?_
  refine AO.val (RV.lss rfl rfl) (.none rfl) rfl ?_
  refine AO.val (RV.move rfl) (.none rfl) rfl ?_
  refine AO.caseG rfl rfl rfl ?_ ?_
  · intro hg1
    try simp only [decide_eq_true_eq, decide_eq_false_iff_not, Bool.not_eq_true', Bool.not_eq_false', beq_iff_eq] at hg1
    refine AO.val (RV.move rfl) (.some rfl rfl rfl rfl) rfl ?_
    refine AO.val (RV.lss rfl rfl) (.some rfl rfl rfl rfl) rfl ?_
    refine AO.val (RV.pickT rfl rfl) (.none rfl) rfl ?_
    refine AO.nil ?_
    refine AK.cond rfl ?_ ?_
    · intro hc2
      try simp only [decide_eq_true_eq, decide_eq_false_iff_not, Bool.not_eq_true', Bool.not_eq_false', beq_iff_eq] at hc2
      refine AK.skip ?_
      refine AK.seq ?_
      refine AK.block ?_
      refine AK.seq ?_
      refine AK.region ?_
      refine AO.val (RV.move rfl) (.none rfl) rfl ?_
      refine AO.val (RV.move rfl) (.none rfl) rfl ?_
      refine AO.val (RV.move rfl) (.none rfl) rfl ?_
      refine AO.val (by first | exact RV.indexS rfl rfl (by assumption) (by omega) rfl | exact RV.indexAddr rfl rfl (by omega)) (.none rfl) rfl ?_
      refine AO.val (by first | exact RV.fieldAddr rfl | exact RV.fieldAddrA rfl) (.none rfl) rfl ?_
      refine AO.val (by first | exact RV.loadO rfl rfl (by simp) | exact RV.loadSF rfl (by assumption) (fun _ => rfl) (by omega) rfl rfl (by simp) | exact RV.loadS rfl (by assumption) (by omega) (by simp)) (.none rfl) rfl ?_
      refine AO.effN (EF.mapUpdate (_) rfl rfl rfl) (.none rfl) ?_
      rintro _ _ rfl
      refine AO.nil ?_
      refine AK.seq ?_
      refine AK.draw [] [11] mixed ?_
      refine AD.takeP 0 rfl (by kernel_rfl) (RV.move rfl) (.none rfl) rfl ?_
      refine AD.takeP 1 rfl (by kernel_rfl) (RV.move rfl) (.none rfl) rfl ?_
      refine AD.takeP 2 rfl (by kernel_rfl) (RV.move rfl) (.none rfl) rfl ?_
      refine AD.takeP 3 rfl (by kernel_rfl) (by first | exact RV.indexS rfl rfl (by assumption) (by omega) rfl | exact RV.indexAddr rfl rfl (by omega)) (.none rfl) rfl ?_
      refine AD.takeP 4 rfl (by kernel_rfl) (by first | exact RV.fieldAddr rfl | exact RV.fieldAddrA rfl) (.none rfl) rfl ?_
      refine AD.takeP 5 rfl (by kernel_rfl) (by first | exact RV.loadO rfl rfl (by simp) | exact RV.loadSF rfl (by assumption) (fun _ => rfl) (by omega) rfl rfl (by simp) | exact RV.loadS rfl (by assumption) (by omega) (by simp)) (.none rfl) rfl ?_
      refine AD.takeP 6 rfl (by kernel_rfl) (RV.move rfl) (.none rfl) rfl ?_
      refine AD.takeP 7 rfl (by kernel_rfl) (RV.move rfl) (.none rfl) rfl ?_
      refine AD.takeP 8 rfl (by kernel_rfl) (by first | exact RV.indexS rfl rfl (by assumption) (by omega) rfl | exact RV.indexAddr rfl rfl (by omega)) (.none rfl) rfl ?_
      refine AD.takeP 9 rfl (by kernel_rfl) (by first | exact RV.fieldAddr rfl | exact RV.fieldAddrA rfl) (.none rfl) rfl ?_
      refine AD.takeP 10 rfl (by kernel_rfl) (by first | exact RV.loadO rfl rfl (by simp) | exact RV.loadSF rfl (by assumption) (fun _ => rfl) (by omega) rfl rfl (by simp) | exact RV.loadS rfl (by assumption) (by omega) (by simp)) (.none rfl) rfl ?_
      refine AD.one 11 (by kernel_rfl) (AE.eff rfl (EF.callF rfl (ask_spec B pb _ p bm s mi hks hst (lget l i).1 (lget l i).2.1)) (.none rfl) rfl ?_)
      rintro _ _ ⟨rfl, l2, hkp, rfl⟩
      have hl2 := kept_all hkp hsz (by omega)
      subst hl2
      have hlx := len_next s (lget l i).1 (lget l i).2.1
      refine ⟨.inl (by kernel_rfl), ?_⟩
      refine AD.takeP 12 rfl (by kernel_rfl) (RV.move rfl) (.none rfl) rfl ?_
      refine AD.caseG (d := 53) (j := 12) rfl rfl ?_ ?_
      · intro hg3
        try simp only [decide_eq_true_eq, decide_eq_false_iff_not, Bool.not_eq_true', Bool.not_eq_false', beq_iff_eq] at hg3
        refine AD.takeP 13 rfl (by kernel_rfl) (RV.move rfl) (.some rfl rfl rfl rfl) rfl ?_
        refine AD.takeP 14 rfl (by kernel_rfl) (RV.move rfl) (.some rfl rfl rfl rfl) rfl ?_
        refine AD.takeP 15 rfl (by kernel_rfl) (by first | exact RV.indexS rfl rfl (by assumption) (by omega) rfl | exact RV.indexAddr rfl rfl (by omega)) (.some rfl rfl rfl rfl) rfl ?_
        refine AD.takeP 16 rfl (by kernel_rfl) (by first | exact RV.fieldAddr rfl | exact RV.fieldAddrA rfl) (.some rfl rfl rfl rfl) rfl ?_
        refine AD.takeP 17 rfl (by kernel_rfl) (by first | exact RV.loadO rfl rfl (by simp) | exact RV.loadSF rfl (by assumption) (fun _ => rfl) (by omega) rfl rfl (by simp) | exact RV.loadS rfl (by assumption) (by omega) (by simp)) (.some rfl rfl rfl rfl) rfl ?_
        refine AD.takeP 18 rfl (by kernel_rfl) (RV.move rfl) (.some rfl rfl rfl rfl) rfl ?_
        refine AD.takeP 19 rfl (by kernel_rfl) (RV.eql rfl rfl) (.some rfl rfl rfl rfl) rfl ?_
        refine AD.takeP 20 rfl (by kernel_rfl) (RV.pickT rfl rfl) (.none rfl) rfl ?_
        refine AD.done (by kernel_rfl) ?_
        refine AK.cond rfl ?_ ?_
        · intro hc4
          try simp only [decide_eq_true_eq, decide_eq_false_iff_not, Bool.not_eq_true', Bool.not_eq_false', beq_iff_eq] at hc4
          refine AK.region ?_
          refine AO.val (RV.move rfl) (.none rfl) rfl ?_
          refine AO.val (RV.move rfl) (.none rfl) rfl ?_
          refine AO.eff (EF.callF rfl (now_spec B pb _ p bm (nextM s (lget l i).1 (lget l i).2.1 s.l s.c) (next_mi mi (lget l i).1 (lget l i).2.1 _ _ (fun _ _ h => h)))) (.none rfl) rfl ?_
          rintro _ _ ⟨rfl, rfl⟩
          refine AO.eff (EF.buildSeq [I64 (tickM s (lget l i).2.1)] rfl rfl rfl rfl) (.none rfl) rfl ?_
          rintro _ _ ⟨b65, hf65, rfl, rfl⟩
          refine AO.eff (EF.appendS (n' := (t ++ [tickM s (lget l i).2.1]).length) (ys := (t ++ [tickM s (lget l i).2.1]).map I64) rfl rfl hrw (Src.of_new (el := 3) (cs := [I64 (tickM s (lget l i).2.1)]) (by simp) 1 1 (Nat.le_refl _)) (by simp) (by simp) rfl (by decide) rfl (by omega) (by omega)) (.none rfl) rfl ?_
          rintro _ _ ⟨Q2, c2, p2, rfl, hr2, hc2q, rfl⟩
          refine AO.val (RV.assign rfl) (.none rfl) rfl ?_
          refine AO.nil ?_
          refine AK.inBlock ?_
          refine AK.region ?_
          refine AO.val (RV.move rfl) (.none rfl) rfl ?_
          refine AO.val (by first | exact RV.addIn rfl rfl (by omega) | exact RV.add rfl rfl) (.none rfl) rfl ?_
          refine AO.val (RV.assign rfl) (.none rfl) rfl ?_
          refine AO.nil ?_
          -- round ends at L0tTtT
          have hkk : (lget l i).1 = src := by assumption
          have hok : 0 < leftM s src (lget l i).2.1 := by rw [← hkk]; assumption
          refine AK.weak (.cons (by exact rfl) (.cons (by exact rfl) (.cons (by exact rfl) (.cons (by exact rfl) (.cons (by exact rfl) (.cons (by exact rfl) (.cons (by exact rfl) .nil))))))) (by exact List.Sublist.append_left (List.sublist_cons_self _ _) _) (hih0 (i + 1, (nextM s (lget l i).1 (lget l i).2.1 s.l s.c), t ++ [tickM s (lget l i).2.1], Q2, c2, p2, updT o co (lget l i).1 true, clkT o co (lget l i).1) ?_ ?_)
          · try dsimp only
            exact ⟨by omega, by omega, next_mi mi (lget l i).1 (lget l i).2.1 _ _ (fun _ _ h => h), hks.upd _ _ _, hst.upd _ _, ⟨hsz, hrt, hbu⟩, by omega, by have := bi_hit mi bi (lget l i).2.1 hok; rw [← hkk] at this ⊢; exact this, me.step _ _ _, hr2, hc2q, by simp; omega⟩
          · try dsimp only
            omega
        · intro hc4
          try simp only [decide_eq_true_eq, decide_eq_false_iff_not, Bool.not_eq_true', Bool.not_eq_false', beq_iff_eq] at hc4
          refine AK.skip ?_
          refine AK.inBlock ?_
          refine AK.region ?_
          refine AO.val (RV.move rfl) (.none rfl) rfl ?_
          refine AO.val (by first | exact RV.addIn rfl rfl (by omega) | exact RV.add rfl rfl) (.none rfl) rfl ?_
          refine AO.val (RV.assign rfl) (.none rfl) rfl ?_
          refine AO.nil ?_
          -- round ends at L0tTtF
          refine AK.weak (.cons (by exact rfl) (.cons (by exact rfl) (.cons (by exact rfl) (.cons (by exact rfl) (.cons (by exact rfl) (.cons (by exact rfl) (.cons (by exact rfl) .nil))))))) (by first | exact SubO.sub | exact List.Sublist.refl _ | exact .cons _ (List.Sublist.refl _) | exact .cons _ (.cons _ (List.Sublist.refl _)) | exact .cons _ (.cons _ (.cons _ (List.Sublist.refl _)))) (hih0 (i + 1, (nextM s (lget l i).1 (lget l i).2.1 s.l s.c), t, Q, ct, pb, updT o co (lget l i).1 true, clkT o co (lget l i).1) ?_ ?_)
          · try dsimp only
            exact ⟨by omega, by omega, next_mi mi (lget l i).1 (lget l i).2.1 _ _ (fun _ _ h => h), hks.upd _ _ _, hst.upd _ _, ⟨hsz, hrt, hbu⟩, by omega, bi_miss mi bi (lget l i).1 (lget l i).2.1 (by rintro ⟨h8, h9⟩; first | omega | contradiction), me.step _ _ _, hrw, hct, by omega⟩
          · try dsimp only
            omega
      · intro hg3
        try simp only [decide_eq_true_eq, decide_eq_false_iff_not, Bool.not_eq_true', Bool.not_eq_false', beq_iff_eq] at hg3
        refine AD.pass 13 rfl (by kernel_rfl) (.some rfl rfl rfl rfl) rfl ?_
        refine AD.pass 14 rfl (by kernel_rfl) (.some rfl rfl rfl rfl) rfl ?_
        refine AD.pass 15 rfl (by kernel_rfl) (.some rfl rfl rfl rfl) rfl ?_
        refine AD.pass 16 rfl (by kernel_rfl) (.some rfl rfl rfl rfl) rfl ?_
        refine AD.pass 17 rfl (by kernel_rfl) (.some rfl rfl rfl rfl) rfl ?_
        refine AD.pass 18 rfl (by kernel_rfl) (.some rfl rfl rfl rfl) rfl ?_
        refine AD.pass 19 rfl (by kernel_rfl) (.some rfl rfl rfl rfl) rfl ?_
        refine AD.takeP 20 rfl (by kernel_rfl) (RV.pickF rfl rfl) (.none rfl) rfl ?_
        refine AD.done (by kernel_rfl) ?_
        refine AK.condF rfl ?_
        refine AK.skip ?_
        refine AK.inBlock ?_
        refine AK.region ?_
        refine AO.val (RV.move rfl) (.none rfl) rfl ?_
        refine AO.val (by first | exact RV.addIn rfl rfl (by omega) | exact RV.add rfl rfl) (.none rfl) rfl ?_
        refine AO.val (RV.assign rfl) (.none rfl) rfl ?_
        refine AO.nil ?_
        -- round ends at L0tTf
        refine AK.weak (.cons (by exact rfl) (.cons (by exact rfl) (.cons (by exact rfl) (.cons (by exact rfl) (.cons (by exact rfl) (.cons (by exact rfl) (.cons (by exact rfl) .nil))))))) (by first | exact SubO.sub | exact List.Sublist.refl _ | exact .cons _ (List.Sublist.refl _) | exact .cons _ (.cons _ (List.Sublist.refl _)) | exact .cons _ (.cons _ (.cons _ (List.Sublist.refl _)))) (hih0 (i + 1, (nextM s (lget l i).1 (lget l i).2.1 s.l s.c), t, Q, ct, pb, updT o co (lget l i).1 true, clkT o co (lget l i).1) ?_ ?_)
        · try dsimp only
          exact ⟨by omega, by omega, next_mi mi (lget l i).1 (lget l i).2.1 _ _ (fun _ _ h => h), hks.upd _ _ _, hst.upd _ _, ⟨hsz, hrt, hbu⟩, by omega, bi_miss mi bi (lget l i).1 (lget l i).2.1 (by rintro ⟨h8, h9⟩; first | omega | contradiction), me.step _ _ _, hrw, hct, by omega⟩
        · try dsimp only
          omega
    · intro hc2
      try simp only [decide_eq_true_eq, decide_eq_false_iff_not, Bool.not_eq_true', Bool.not_eq_false', beq_iff_eq] at hc2
      have hsa : Src B pb Q t.length 1 (t.map I64) := hrw.src (fun x hx => hx)
      have hr9 : 0 ≤ (newM 64 a b).rate ∧ (newM 64 a b).rate ≤ 1000 := by rw [← hrt]; exact mi.rate
      have hb9 : 1 ≤ (newM 64 a b).burst ∧ (newM 64 a b).burst ≤ 1000 := by rw [← hbu]; exact mi.burst
      have hn9 := mi.now
      refine AK.exit rfl ?_
      refine AK.seq ?_
      refine AK.seq ?_
      refine AK.region ?_
      refine AO.val (RV.assign rfl) (.none rfl) rfl ?_
      refine AO.nil ?_
      refine AK.block ?_
      refine AK.loop (α := Int) (E := fun i => [(9, .pointer (some ⟨q, 0, none⟩)), (10, .pointer (some ⟨p, 0, none⟩)), (11, .map (some b24)), (12, .slice Q t.length ct), (14, .int .i64 i)]) (H := fun i => pb ++ ((p, Blk.cells [.int .i64 (s).size, .int .i64 (s).rate, .int .i64 (s).burst, .int .i64 (s).now, .map (some bm)] 48 (0, 0)) :: (bm, mapB .u32 evB (s).l (s).c) :: (q, Blk.cells [.int .i64 (newM 64 a b).size, .int .i64 (newM 64 a b).rate, .int .i64 (newM 64 a b).burst, .int .i64 0, .slice none 0 0] 36 (0, 0)) :: (b24, mapB .u32 Value.bool o co) :: [])) (Inv := fun i => 0 ≤ i ∧ i ≤ t.length) (μ := fun i => (t.length - i).toNat) 0 ?_ (.cons (by exact rfl) (.cons (by exact rfl) (.cons (by exact rfl) (.cons (by exact rfl) (.cons (by exact rfl) .nil))))) ?_ ?_
      · exact ⟨by omega, by omega⟩
      · exact List.Sublist.refl _
      rintro i ⟨hi0, hi1⟩ hih1
      try dsimp only at hih1 ⊢
      refine AK.seq ?_
      refine AK.seq ?_
      refine AK.region ?_
      refine AO.val (RV.move rfl) (.none rfl) rfl ?_
      refine AO.val (RV.move rfl) (.none rfl) rfl ?_
      refine AO.val (RV.lenS rfl) (.none rfl) rfl ?_
      refine AO.val (RV.lss rfl rfl) (.none rfl) rfl ?_
      refine AO.nil ?_
      refine AK.cond rfl ?_ ?_
      · intro hc5
        try simp only [decide_eq_true_eq, decide_eq_false_iff_not, Bool.not_eq_true', Bool.not_eq_false', beq_iff_eq] at hc5
        refine AK.skip ?_
        refine AK.seq ?_
        refine AK.block ?_
        refine AK.seq ?_
        refine AK.region ?_
        refine AO.val (RV.move rfl) (.none rfl) rfl ?_
        refine AO.val (RV.assign rfl) (.none rfl) rfl ?_
        refine AO.nil ?_
        refine AK.block ?_
        refine AK.loop (α := Int) (E := fun k => [(9, .pointer (some ⟨q, 0, none⟩)), (10, .pointer (some ⟨p, 0, none⟩)), (11, .map (some b24)), (12, .slice Q t.length ct), (14, .int .i64 i), (15, .int .i64 k)]) (H := fun k => pb ++ ((p, Blk.cells [.int .i64 (s).size, .int .i64 (s).rate, .int .i64 (s).burst, .int .i64 (s).now, .map (some bm)] 48 (0, 0)) :: (bm, mapB .u32 evB (s).l (s).c) :: (q, Blk.cells [.int .i64 (newM 64 a b).size, .int .i64 (newM 64 a b).rate, .int .i64 (newM 64 a b).burst, .int .i64 0, .slice none 0 0] 36 (0, 0)) :: (b24, mapB .u32 Value.bool o co) :: [])) (Inv := fun k => i ≤ k ∧ k ≤ t.length) (μ := fun k => (t.length - k).toNat) i ?_ (.cons (by exact rfl) (.cons (by exact rfl) (.cons (by exact rfl) (.cons (by exact rfl) (.cons (by exact rfl) (.cons (by exact rfl) .nil)))))) ?_ ?_
        · exact ⟨by omega, by omega⟩
        · exact List.Sublist.refl _
        rintro k ⟨hik, hk1⟩ hih2
        try dsimp only at hih2 ⊢
        refine AK.seq ?_
        refine AK.seq ?_
        refine AK.region ?_
        refine AO.val (RV.move rfl) (.none rfl) rfl ?_
        refine AO.val (RV.move rfl) (.none rfl) rfl ?_
        refine AO.val (RV.lenS rfl) (.none rfl) rfl ?_
        refine AO.val (RV.lss rfl rfl) (.none rfl) rfl ?_
        refine AO.nil ?_
        refine AK.cond rfl ?_ ?_
        · intro hc6
          try simp only [decide_eq_true_eq, decide_eq_false_iff_not, Bool.not_eq_true', Bool.not_eq_false', beq_iff_eq] at hc6
          have hpr := bi.pair i k hi0 hik (by omega)
          rw [hrt, hbu] at hpr
          have ha1 := bi.inn i hi0 (by omega)
          have ha2 := bi.inn k (by omega) (by omega)
          have hmn := bi.mono i k hi0 hik (by omega)
          have hml := mul_in2 (d := lget t k - lget t i) (r := (newM 64 a b).rate) ⟨by omega, by omega⟩ hr9
          refine AK.skip ?_
          refine AK.seq ?_
          refine AK.block ?_
          refine AK.seq ?_
          refine AK.draw [] [] mixed ?_
          refine AD.takeP 0 rfl (by kernel_rfl) (RV.move rfl) (.none rfl) rfl ?_
          refine AD.takeP 1 rfl (by kernel_rfl) (RV.move rfl) (.none rfl) rfl ?_
          refine AD.takeP 2 rfl (by kernel_rfl) (by first | exact RV.subIn rfl rfl (by omega) | exact RV.sub rfl rfl) (.none rfl) rfl ?_
          refine AD.takeP 3 rfl (by kernel_rfl) (by first | exact RV.addIn rfl rfl (by omega) | exact RV.add rfl rfl) (.none rfl) rfl ?_
          refine AD.takeP 4 rfl (by kernel_rfl) (RV.move rfl) (.none rfl) rfl ?_
          refine AD.takeP 5 rfl (by kernel_rfl) (RV.nilCheck rfl) (.none rfl) rfl ?_
          refine AD.takeP 6 rfl (by kernel_rfl) (by first | exact RV.fieldAddr rfl | exact RV.fieldAddrA rfl) (.none rfl) rfl ?_
          refine AD.take 7 rfl (by kernel_rfl) (by first | exact RV.loadO rfl rfl (by simp) | exact RV.loadSF rfl (by assumption) (fun _ => rfl) (by omega) rfl rfl (by simp) | exact RV.loadS rfl (by assumption) (by omega) (by simp)) (.none rfl) rfl ?_
          refine AD.takeP 8 rfl (by kernel_rfl) (RV.move rfl) (.none rfl) rfl ?_
          refine AD.takeP 9 rfl (by kernel_rfl) (RV.move rfl) (.none rfl) rfl ?_
          refine AD.takeP 10 rfl (by kernel_rfl) (by first | exact RV.indexS rfl rfl (by assumption) (by omega) rfl | exact RV.indexAddr rfl rfl (by omega)) (.none rfl) rfl ?_
          refine AD.take 11 rfl (by kernel_rfl) (RV.loadS (enc := I64) (l := t) (i := k) rfl hsa (by omega) (by simp)) (.none rfl) rfl ?_
          refine AD.takeP 12 rfl (by kernel_rfl) (RV.move rfl) (.none rfl) rfl ?_
          refine AD.takeP 13 rfl (by kernel_rfl) (RV.move rfl) (.none rfl) rfl ?_
          refine AD.takeP 14 rfl (by kernel_rfl) (by first | exact RV.indexS rfl rfl (by assumption) (by omega) rfl | exact RV.indexAddr rfl rfl (by omega)) (.none rfl) rfl ?_
          refine AD.take 15 rfl (by kernel_rfl) (RV.loadS (enc := I64) (l := t) (i := i) rfl hsa (by omega) (by simp)) (.none rfl) rfl ?_
          refine AD.takeP 16 rfl (by kernel_rfl) (by first | exact RV.subIn rfl rfl (by omega) | exact RV.sub rfl rfl) (.none rfl) rfl ?_
          refine AD.takeP 17 rfl (by kernel_rfl) (RV.move rfl) (.none rfl) rfl ?_
          refine AD.takeP 18 rfl (by kernel_rfl) (RV.nilCheck rfl) (.none rfl) rfl ?_
          refine AD.takeP 19 rfl (by kernel_rfl) (by first | exact RV.fieldAddr rfl | exact RV.fieldAddrA rfl) (.none rfl) rfl ?_
          refine AD.take 20 rfl (by kernel_rfl) (by first | exact RV.loadO rfl rfl (by simp) | exact RV.loadSF rfl (by assumption) (fun _ => rfl) (by omega) rfl rfl (by simp) | exact RV.loadS rfl (by assumption) (by omega) (by simp)) (.none rfl) rfl ?_
          refine AD.takeP 21 rfl (by kernel_rfl) (by first | exact RV.mulIn rfl rfl (by omega) | exact RV.mul rfl rfl) (.none rfl) rfl ?_
          refine AD.takeP 22 rfl (by kernel_rfl) (by first | exact RV.addIn rfl rfl (by omega) | exact RV.add rfl rfl) (.none rfl) rfl ?_
          refine AD.takeP 23 rfl (by kernel_rfl) ((RV.gtr rfl rfl).to (v' := .bool false) (by simp; exact hpr)) (.none rfl) rfl ?_
          refine AD.done (by kernel_rfl) ?_
          refine AK.condF rfl ?_
          refine AK.skip ?_
          refine AK.inBlock ?_
          refine AK.region ?_
          refine AO.val (RV.move rfl) (.none rfl) rfl ?_
          refine AO.val (by first | exact RV.addIn rfl rfl (by omega) | exact RV.add rfl rfl) (.none rfl) rfl ?_
          refine AO.val (RV.assign rfl) (.none rfl) rfl ?_
          refine AO.nil ?_
          -- round ends at L0tFL1TL2T
          refine AK.weak (.cons (by exact rfl) (.cons (by exact rfl) (.cons (by exact rfl) (.cons (by exact rfl) (.cons (by exact rfl) (.cons (by exact rfl) .nil)))))) (by first | exact SubO.sub | exact List.Sublist.refl _ | exact .cons _ (List.Sublist.refl _) | exact .cons _ (.cons _ (List.Sublist.refl _)) | exact .cons _ (.cons _ (.cons _ (List.Sublist.refl _)))) (hih2 (k + 1) ?_ ?_)
          · try dsimp only
            exact ⟨by omega, by omega⟩
          · try dsimp only
            omega
        · intro hc6
          try simp only [decide_eq_true_eq, decide_eq_false_iff_not, Bool.not_eq_true', Bool.not_eq_false', beq_iff_eq] at hc6
          refine AK.exit rfl ?_
          refine AK.inBlock ?_
          refine AK.region ?_
          refine AO.val (RV.move rfl) (.none rfl) rfl ?_
          refine AO.val (by first | exact RV.addIn rfl rfl (by omega) | exact RV.add rfl rfl) (.none rfl) rfl ?_
          refine AO.val (RV.assign rfl) (.none rfl) rfl ?_
          refine AO.nil ?_
          -- round ends at L0tFL1TL2F
          refine AK.weak (.cons (by exact rfl) (.cons (by exact rfl) (.cons (by exact rfl) (.cons (by exact rfl) (.cons (by exact rfl) .nil))))) (by first | exact SubO.sub | exact List.Sublist.refl _ | exact .cons _ (List.Sublist.refl _) | exact .cons _ (.cons _ (List.Sublist.refl _)) | exact .cons _ (.cons _ (.cons _ (List.Sublist.refl _)))) (hih1 (i + 1) ?_ ?_)
          · try dsimp only
            exact ⟨by omega, by omega⟩
          · try dsimp only
            omega
      · intro hc5
        try simp only [decide_eq_true_eq, decide_eq_false_iff_not, Bool.not_eq_true', Bool.not_eq_false', beq_iff_eq] at hc5
        refine AK.exit rfl ?_
        refine AK.seq ?_
        refine AK.region ?_
        refine AO.val (RV.move rfl) (.none rfl) rfl ?_
        refine AO.eff (EF.callF rfl (len_spec B pb _ p bm s mi)) (.none rfl) rfl ?_
        rintro _ _ ⟨rfl, rfl⟩
        refine AO.val (RV.move rfl) (.none rfl) rfl ?_
        refine AO.val (RV.lenM rfl (by simp)) (.none rfl) rfl ?_
        refine AO.val ((RV.eql rfl rfl).to (v' := .bool true) (by have := me.ln; simp; omega)) (.none rfl) rfl ?_
        refine AO.val (RV.move rfl) (.none rfl) rfl ?_
        refine AO.eff (EF.callF rfl (lives_spec B _)) (.some rfl rfl rfl rfl) rfl ?_
        rintro _ _ rfl
        refine AO.val (RV.pickT rfl rfl) (.none rfl) rfl ?_
        refine AO.val (RV.assign rfl) (.none rfl) rfl ?_
        refine AO.nil ?_
        -- at L0tFL1F
        clear hih0
        clear hih1
        refine AK.ret (h' := []) Try.func3 (.tmp rfl .nil) ?_ (List.nil_sublist _)
        rfl
  · intro hg1
    try simp only [decide_eq_true_eq, decide_eq_false_iff_not, Bool.not_eq_true', Bool.not_eq_false', beq_iff_eq] at hg1
    have hsa : Src B pb Q t.length 1 (t.map I64) := hrw.src (fun x hx => hx)
    have hr9 : 0 ≤ (newM 64 a b).rate ∧ (newM 64 a b).rate ≤ 1000 := by rw [← hrt]; exact mi.rate
    have hb9 : 1 ≤ (newM 64 a b).burst ∧ (newM 64 a b).burst ≤ 1000 := by rw [← hbu]; exact mi.burst
    have hn9 := mi.now
    refine AO.pass (.some rfl rfl rfl rfl) rfl ?_
    refine AO.pass (.some rfl rfl rfl rfl) rfl ?_
    refine AO.val (RV.pickF rfl rfl) (.none rfl) rfl ?_
    refine AO.nil ?_
    refine AK.condF rfl ?_
    refine AK.exit rfl ?_
    refine AK.seq ?_
    refine AK.seq ?_
    refine AK.region ?_
    refine AO.val (RV.assign rfl) (.none rfl) rfl ?_
    refine AO.nil ?_
    refine AK.block ?_
    refine AK.loop (α := Int) (E := fun i => [(9, .pointer (some ⟨q, 0, none⟩)), (10, .pointer (some ⟨p, 0, none⟩)), (11, .map (some b24)), (12, .slice Q t.length ct), (14, .int .i64 i)]) (H := fun i => pb ++ ((p, Blk.cells [.int .i64 (s).size, .int .i64 (s).rate, .int .i64 (s).burst, .int .i64 (s).now, .map (some bm)] 48 (0, 0)) :: (bm, mapB .u32 evB (s).l (s).c) :: (q, Blk.cells [.int .i64 (newM 64 a b).size, .int .i64 (newM 64 a b).rate, .int .i64 (newM 64 a b).burst, .int .i64 0, .slice none 0 0] 36 (0, 0)) :: (b24, mapB .u32 Value.bool o co) :: [])) (Inv := fun i => 0 ≤ i ∧ i ≤ t.length) (μ := fun i => (t.length - i).toNat) 0 ?_ (.cons (by exact rfl) (.cons (by exact rfl) (.cons (by exact rfl) (.cons (by exact rfl) (.cons (by exact rfl) .nil))))) ?_ ?_
    · exact ⟨by omega, by omega⟩
    · exact List.Sublist.refl _
    rintro i ⟨hi0, hi1⟩ hih1
    try dsimp only at hih1 ⊢
    refine AK.seq ?_
    refine AK.seq ?_
    refine AK.region ?_
    refine AO.val (RV.move rfl) (.none rfl) rfl ?_
    refine AO.val (RV.move rfl) (.none rfl) rfl ?_
    refine AO.val (RV.lenS rfl) (.none rfl) rfl ?_
    refine AO.val (RV.lss rfl rfl) (.none rfl) rfl ?_
    refine AO.nil ?_
    refine AK.cond rfl ?_ ?_
    · intro hc7
      try simp only [decide_eq_true_eq, decide_eq_false_iff_not, Bool.not_eq_true', Bool.not_eq_false', beq_iff_eq] at hc7
      refine AK.skip ?_
      refine AK.seq ?_
      refine AK.block ?_
      refine AK.seq ?_
      refine AK.region ?_
      refine AO.val (RV.move rfl) (.none rfl) rfl ?_
      refine AO.val (RV.assign rfl) (.none rfl) rfl ?_
      refine AO.nil ?_
      refine AK.block ?_
      refine AK.loop (α := Int) (E := fun k => [(9, .pointer (some ⟨q, 0, none⟩)), (10, .pointer (some ⟨p, 0, none⟩)), (11, .map (some b24)), (12, .slice Q t.length ct), (14, .int .i64 i), (15, .int .i64 k)]) (H := fun k => pb ++ ((p, Blk.cells [.int .i64 (s).size, .int .i64 (s).rate, .int .i64 (s).burst, .int .i64 (s).now, .map (some bm)] 48 (0, 0)) :: (bm, mapB .u32 evB (s).l (s).c) :: (q, Blk.cells [.int .i64 (newM 64 a b).size, .int .i64 (newM 64 a b).rate, .int .i64 (newM 64 a b).burst, .int .i64 0, .slice none 0 0] 36 (0, 0)) :: (b24, mapB .u32 Value.bool o co) :: [])) (Inv := fun k => i ≤ k ∧ k ≤ t.length) (μ := fun k => (t.length - k).toNat) i ?_ (.cons (by exact rfl) (.cons (by exact rfl) (.cons (by exact rfl) (.cons (by exact rfl) (.cons (by exact rfl) (.cons (by exact rfl) .nil)))))) ?_ ?_
      · exact ⟨by omega, by omega⟩
      · exact List.Sublist.refl _
      rintro k ⟨hik, hk1⟩ hih2
      try dsimp only at hih2 ⊢
      refine AK.seq ?_
      refine AK.seq ?_
      refine AK.region ?_
      refine AO.val (RV.move rfl) (.none rfl) rfl ?_
      refine AO.val (RV.move rfl) (.none rfl) rfl ?_
      refine AO.val (RV.lenS rfl) (.none rfl) rfl ?_
      refine AO.val (RV.lss rfl rfl) (.none rfl) rfl ?_
      refine AO.nil ?_
      refine AK.cond rfl ?_ ?_
      · intro hc8
        try simp only [decide_eq_true_eq, decide_eq_false_iff_not, Bool.not_eq_true', Bool.not_eq_false', beq_iff_eq] at hc8
        have hpr := bi.pair i k hi0 hik (by omega)
        rw [hrt, hbu] at hpr
        have ha1 := bi.inn i hi0 (by omega)
        have ha2 := bi.inn k (by omega) (by omega)
        have hmn := bi.mono i k hi0 hik (by omega)
        have hml := mul_in2 (d := lget t k - lget t i) (r := (newM 64 a b).rate) ⟨by omega, by omega⟩ hr9
        refine AK.skip ?_
        refine AK.seq ?_
        refine AK.block ?_
        refine AK.seq ?_
        refine AK.draw [] [] mixed ?_
        refine AD.takeP 0 rfl (by kernel_rfl) (RV.move rfl) (.none rfl) rfl ?_
        refine AD.takeP 1 rfl (by kernel_rfl) (RV.move rfl) (.none rfl) rfl ?_
        refine AD.takeP 2 rfl (by kernel_rfl) (by first | exact RV.subIn rfl rfl (by omega) | exact RV.sub rfl rfl) (.none rfl) rfl ?_
        refine AD.takeP 3 rfl (by kernel_rfl) (by first | exact RV.addIn rfl rfl (by omega) | exact RV.add rfl rfl) (.none rfl) rfl ?_
        refine AD.takeP 4 rfl (by kernel_rfl) (RV.move rfl) (.none rfl) rfl ?_
        refine AD.takeP 5 rfl (by kernel_rfl) (RV.nilCheck rfl) (.none rfl) rfl ?_
        refine AD.takeP 6 rfl (by kernel_rfl) (by first | exact RV.fieldAddr rfl | exact RV.fieldAddrA rfl) (.none rfl) rfl ?_
        refine AD.take 7 rfl (by kernel_rfl) (by first | exact RV.loadO rfl rfl (by simp) | exact RV.loadSF rfl (by assumption) (fun _ => rfl) (by omega) rfl rfl (by simp) | exact RV.loadS rfl (by assumption) (by omega) (by simp)) (.none rfl) rfl ?_
        refine AD.takeP 8 rfl (by kernel_rfl) (RV.move rfl) (.none rfl) rfl ?_
        refine AD.takeP 9 rfl (by kernel_rfl) (RV.move rfl) (.none rfl) rfl ?_
        refine AD.takeP 10 rfl (by kernel_rfl) (by first | exact RV.indexS rfl rfl (by assumption) (by omega) rfl | exact RV.indexAddr rfl rfl (by omega)) (.none rfl) rfl ?_
        refine AD.take 11 rfl (by kernel_rfl) (RV.loadS (enc := I64) (l := t) (i := k) rfl hsa (by omega) (by simp)) (.none rfl) rfl ?_
        refine AD.takeP 12 rfl (by kernel_rfl) (RV.move rfl) (.none rfl) rfl ?_
        refine AD.takeP 13 rfl (by kernel_rfl) (RV.move rfl) (.none rfl) rfl ?_
        refine AD.takeP 14 rfl (by kernel_rfl) (by first | exact RV.indexS rfl rfl (by assumption) (by omega) rfl | exact RV.indexAddr rfl rfl (by omega)) (.none rfl) rfl ?_
        refine AD.take 15 rfl (by kernel_rfl) (RV.loadS (enc := I64) (l := t) (i := i) rfl hsa (by omega) (by simp)) (.none rfl) rfl ?_
        refine AD.takeP 16 rfl (by kernel_rfl) (by first | exact RV.subIn rfl rfl (by omega) | exact RV.sub rfl rfl) (.none rfl) rfl ?_
        refine AD.takeP 17 rfl (by kernel_rfl) (RV.move rfl) (.none rfl) rfl ?_
        refine AD.takeP 18 rfl (by kernel_rfl) (RV.nilCheck rfl) (.none rfl) rfl ?_
        refine AD.takeP 19 rfl (by kernel_rfl) (by first | exact RV.fieldAddr rfl | exact RV.fieldAddrA rfl) (.none rfl) rfl ?_
        refine AD.take 20 rfl (by kernel_rfl) (by first | exact RV.loadO rfl rfl (by simp) | exact RV.loadSF rfl (by assumption) (fun _ => rfl) (by omega) rfl rfl (by simp) | exact RV.loadS rfl (by assumption) (by omega) (by simp)) (.none rfl) rfl ?_
        refine AD.takeP 21 rfl (by kernel_rfl) (by first | exact RV.mulIn rfl rfl (by omega) | exact RV.mul rfl rfl) (.none rfl) rfl ?_
        refine AD.takeP 22 rfl (by kernel_rfl) (by first | exact RV.addIn rfl rfl (by omega) | exact RV.add rfl rfl) (.none rfl) rfl ?_
        refine AD.takeP 23 rfl (by kernel_rfl) ((RV.gtr rfl rfl).to (v' := .bool false) (by simp; exact hpr)) (.none rfl) rfl ?_
        refine AD.done (by kernel_rfl) ?_
        refine AK.condF rfl ?_
        refine AK.skip ?_
        refine AK.inBlock ?_
        refine AK.region ?_
        refine AO.val (RV.move rfl) (.none rfl) rfl ?_
        refine AO.val (by first | exact RV.addIn rfl rfl (by omega) | exact RV.add rfl rfl) (.none rfl) rfl ?_
        refine AO.val (RV.assign rfl) (.none rfl) rfl ?_
        refine AO.nil ?_
        -- round ends at L0fL1TL2T
        refine AK.weak (.cons (by exact rfl) (.cons (by exact rfl) (.cons (by exact rfl) (.cons (by exact rfl) (.cons (by exact rfl) (.cons (by exact rfl) .nil)))))) (by first | exact SubO.sub | exact List.Sublist.refl _ | exact .cons _ (List.Sublist.refl _) | exact .cons _ (.cons _ (List.Sublist.refl _)) | exact .cons _ (.cons _ (.cons _ (List.Sublist.refl _)))) (hih2 (k + 1) ?_ ?_)
        · try dsimp only
          exact ⟨by omega, by omega⟩
        · try dsimp only
          omega
      · intro hc8
        try simp only [decide_eq_true_eq, decide_eq_false_iff_not, Bool.not_eq_true', Bool.not_eq_false', beq_iff_eq] at hc8
        refine AK.exit rfl ?_
        refine AK.inBlock ?_
        refine AK.region ?_
        refine AO.val (RV.move rfl) (.none rfl) rfl ?_
        refine AO.val (by first | exact RV.addIn rfl rfl (by omega) | exact RV.add rfl rfl) (.none rfl) rfl ?_
        refine AO.val (RV.assign rfl) (.none rfl) rfl ?_
        refine AO.nil ?_
        -- round ends at L0fL1TL2F
        refine AK.weak (.cons (by exact rfl) (.cons (by exact rfl) (.cons (by exact rfl) (.cons (by exact rfl) (.cons (by exact rfl) .nil))))) (by first | exact SubO.sub | exact List.Sublist.refl _ | exact .cons _ (List.Sublist.refl _) | exact .cons _ (.cons _ (List.Sublist.refl _)) | exact .cons _ (.cons _ (.cons _ (List.Sublist.refl _)))) (hih1 (i + 1) ?_ ?_)
        · try dsimp only
          exact ⟨by omega, by omega⟩
        · try dsimp only
          omega
    · intro hc7
      try simp only [decide_eq_true_eq, decide_eq_false_iff_not, Bool.not_eq_true', Bool.not_eq_false', beq_iff_eq] at hc7
      refine AK.exit rfl ?_
      refine AK.seq ?_
      refine AK.region ?_
      refine AO.val (RV.move rfl) (.none rfl) rfl ?_
      refine AO.eff (EF.callF rfl (len_spec B pb _ p bm s mi)) (.none rfl) rfl ?_
      rintro _ _ ⟨rfl, rfl⟩
      refine AO.val (RV.move rfl) (.none rfl) rfl ?_
      refine AO.val (RV.lenM rfl (by simp)) (.none rfl) rfl ?_
      refine AO.val ((RV.eql rfl rfl).to (v' := .bool true) (by have := me.ln; simp; omega)) (.none rfl) rfl ?_
      refine AO.val (RV.move rfl) (.none rfl) rfl ?_
      refine AO.eff (EF.callF rfl (lives_spec B _)) (.some rfl rfl rfl rfl) rfl ?_
      rintro _ _ rfl
      refine AO.val (RV.pickT rfl rfl) (.none rfl) rfl ?_
      refine AO.val (RV.assign rfl) (.none rfl) rfl ?_
      refine AO.nil ?_
      -- at L0fL1F
      clear hih0
      clear hih1
      refine AK.ret (h' := []) Try.func3 (.tmp rfl .nil) ?_ (List.nil_sublist _)
      rfl

set_option maxRecDepth 100000 in
theorem meterBounds_lifted (os : Os) (started : os.Started) (H : Type) (enc : TypeId × Value → H) :
    ReturnsInHanded {} Try.checked os 3 .any (Rows.meterBoundsSpec.pre6 enc Try.prog Try.f3 Rows.meterBoundsRow.domain false) (Rows.meterBoundsSpec.post enc Try.prog Try.f3 false true false false) := by
  refine returnsInHanded_of_change (C := Try.checked) own_ started (by kernel_rfl) Try.func3
    (ChangeSpec.witness6 (enc := enc) (C := Try.checked) false ⟨#[], #[(Value.int IntKind.i64 0), (Value.int IntKind.i64 0), (Value.slice none 0 0), (Value.int IntKind.u32 0)], []⟩ 8 (by kernel_rfl) (by kernel_rfl) (by kernel_rfl) (by kernel_rfl)) ?_
  intro W base args ds gs before hval0 hW hcnd _
  have hval : ∀ (j : Nat) t v, Try.f3.params[j]? = some t → args[j]? = some v → Value.okWide Try.prog W .any base t v := hval0
  have hW' := hW
  obtain ⟨p, q, hA0, hV, rfl, hfz, hnd⟩ := hW
  have hA : DataW.TrodAll enc Try.prog W 0 (fun _ => true) true Try.f3.params.toList args.toList ds p := hA0
  rw [Try.params3] at hA hval
  obtain ⟨args⟩ := args
  simp only at hA
  obtain ⟨v0, vs0, d0, ds0, p0, q0, e0a, e0b, e0c, t0, r0⟩ := trodAll_cons hA
  obtain ⟨v1, vs1, d1, ds1, p1, q1, e1a, e1b, e1c, t1, r1⟩ := trodAll_cons r0
  obtain ⟨v2, vs2, d2, ds2, p2, q2, e2a, e2b, e2c, t2, r2⟩ := trodAll_cons r1
  obtain ⟨v3, vs3, d3, ds3, p3, q3, e3a, e3b, e3c, t3, r3⟩ := trodAll_cons r2
  subst e0a e0b e0c
  subst e1a e1b e1c
  subst e2a e2b e2c
  subst e3a e3b e3c
  obtain ⟨rfl, rfl, rfl⟩ := trodAll_nil r3
  obtain ⟨rfl, rfl⟩ := trodVars_none hV
  have hlt := hW'.lt
  have k0 : Value.okWide Try.prog W .any base 3 v0 := hval 0 _ v0 rfl rfl
  obtain ⟨a, w0, a_lo, a_hi⟩ := Dec.argI k0 t0
  have k1 : Value.okWide Try.prog W .any base 3 v1 := hval 1 _ v1 rfl rfl
  obtain ⟨b, w1, b_lo, b_hi⟩ := Dec.argI k1 t1
  have k2 : Value.okWide Try.prog W .any base 22 v2 := hval 2 _ v2 rfl rfl
  obtain ⟨l, w2, hl⟩ := Dec.argS k2 t2 ((Dec.struct (t := 31) (.cons (off := 0) (sz := 1) (by rfl) (by kernel_rfl) (Dec.int (t := 23) (k := .u32)) (.cons (off := 1) (sz := 1) (by rfl) (by kernel_rfl) (Dec.int (t := 3) (k := .i64)) .nil)) (by kernel_rfl))) (by decide)
  have k3 : Value.okWide Try.prog W .any base 23 v3 := hval 3 _ v3 rfl rfl
  obtain ⟨src, w3, src_lo, src_hi⟩ := Dec.argI k3 t3
  have htri : Tri Try.prog W 3 [v0, v1, v2, v3] [] (fun v _ => v = .bool true) := by
    subst w0 w1 w2 w3
    exact bounds_law W a b src l.l hl.2.1 (by have := hl.2.1; have := hl.2.2.1; omega) hl.1
  clear w0 w1 w2 w3
  refine (htri.run W (Models.start W)).mono fun e W' ⟨v, h2, he, m2, hv⟩ => ?_
  subst he; subst hv
  have hb := m2.below
  refine ⟨_, rfl, post_of_below (pa := (p0 ++ (p1 ++ (p2 ++ (p3 ++ ([])))))) (pv := []) hW' (fun _ _ _ => trodAll_mk1 (shut_bool (Try.underlying4) true)) (fun sp hsp => ?_) (fun _ _ => rfl) rfl hb (ok_one (t := 4) (by kernel_rfl) rfl ?_)⟩
  · refine TAcons (WideElems.Trod_stays laidOut_ (by kernel_rfl) (of_decide_eq_true (by kernel_rfl)) t0 (fun x hx => hb.same (hlt x (by simp [hx]))) (fun x hx => hsp x (by simp [hx]))) ?_
    refine TAcons (WideElems.Trod_stays laidOut_ (by kernel_rfl) (of_decide_eq_true (by kernel_rfl)) t1 (fun x hx => hb.same (hlt x (by simp [hx]))) (fun x hx => hsp x (by simp [hx]))) ?_
    refine TAcons (WideElems.Trod_stays laidOut_ (by kernel_rfl) (of_decide_eq_true (by kernel_rfl)) t2 (fun x hx => hb.same (hlt x (by simp [hx]))) (fun x hx => hsp x (by simp [hx]))) ?_
    refine TAcons (WideElems.Trod_stays laidOut_ (by kernel_rfl) (of_decide_eq_true (by kernel_rfl)) t3 (fun x hx => hb.same (hlt x (by simp [hx]))) (fun x hx => hsp x (by simp [hx]))) ?_
    rfl
  · exact okBool Try.underlying4

theorem meterBounds_holds : Rows.MeterBoundsSaid :=
  OpenClaim.holds_of_wide 3 Try.f3 rfl rfl rfl rfl rfl rfl rfl ⟨rfl, rfl, rfl, rfl, rfl⟩ rfl rfl rfl rfl rfl (by kernel_rfl) Try.func3 (by kernel_rfl)
    (of_decide_eq_true (by kernel_rfl)) (by unfold Func.isWrapper; first | (rw [if_pos (by decide +kernel)]; kernel_rfl) | (rw [if_neg (by decide +kernel)]; exact ⟨rfl, rfl⟩))
    (fun os started H enc _ => meterBounds_lifted os started H enc)

end Go.Proofs.Ytdefjkokbffccaa
