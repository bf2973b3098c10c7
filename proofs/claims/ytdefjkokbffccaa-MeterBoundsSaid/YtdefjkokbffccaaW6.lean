/- Walks through the code: what each function that is named here gives back, from any memory that holds its arguments. Written by a program of the claim's author, out of the program's form in Lean. -/
import Derived.Test.YtdefjkokbffccaaW5
set_option linter.unusedSimpArgs false
set_option linter.unusedVariables false
namespace Go.Proofs.Ytdefjkokbffccaa
open Go.Sep Go.Sep.Meter

set_option maxHeartbeats 1000000 in
theorem rask_spec (B : World) (pre h : Own) (q : Nat) (z r b n : Int) {A : Option Addr} {cap : Nat} (L : List Tok) (hsl : Src B h A L.length 3 (flat encOn L)) (hll : L.length ≤ 100) (hz : 1 ≤ z ∧ z ≤ 64) (hr : 0 ≤ r ∧ r ≤ 1000) (hb : 1 ≤ b ∧ b ≤ 1000) (hn : 0 ≤ n ∧ n ≤ 1073741824) (hLb : ∀ j : Int, 0 ≤ j → j < L.length → (0 ≤ (lget L j).2.1 ∧ (lget L j).2.1 ≤ 1000) ∧ 0 ≤ (lget L j).2.2 ∧ (lget L j).2.2 ≤ n) (src now : Int) : Tri Try.prog B 12 [.pointer (some ⟨q, 0, none⟩), .int .u32 src, .int .i64 now] (pre ++ ((q, Blk.cells [.int .i64 z, .int .i64 r, .int .i64 b, .int .i64 n, .slice A L.length cap] 36 (0, 0)) :: h)) fun v h' => v = .bool (decide (0 < (leftQ L r b (max n (min now 1073741824)) (findQ L src)))) ∧ ∃ kk A' c' p', Goes L z (findQ L src) kk ∧ h' = pre ++ (q, Blk.cells [.int .i64 z, .int .i64 r, .int .i64 b, .int .i64 (max n (min now 1073741824)), .slice A' (nextL L kk src (leftQ L r b (max n (min now 1073741824)) (findQ L src)) (max n (min now 1073741824))).length c'] 36 (0, 0)) :: (p' ++ h) ∧ Src B (p' ++ h) A' (nextL L kk src (leftQ L r b (max n (min now 1073741824)) (findQ L src)) (max n (min now 1073741824))).length 3 (flat encOn (nextL L kk src (leftQ L r b (max n (min now 1073741824)) (findQ L src)) (max n (min now 1073741824)))) ∧ (nextL L kk src (leftQ L r b (max n (min now 1073741824)) (findQ L src)) (max n (min now 1073741824))).length ≤ c' := by
  have hki := findQ_in L src
  have hlqb : (leftQ L r b (max n (min now 1073741824)) (findQ L src)) ≤ b := by unfold leftQ; split <;> omega
  refine Tri.enter (n := 218) Try.func12 rfl rfl rfl ?_
  simp only [argsE, Nat.reduceAdd]
  try dsimp only [argsE]
  refine AK.seq ?_
  refine AK.region ?_
  refine AO.val (RV.assign rfl) (.none rfl) rfl ?_
  refine AO.nil ?_
  refine AK.seq ?_
  refine AK.seq ?_
  refine AK.region ?_
  refine AO.val (RV.move rfl) (.none rfl) rfl ?_
  refine AO.val (RV.move rfl) (.none rfl) rfl ?_
  refine AO.val (RV.nilCheck rfl) (.none rfl) rfl ?_
  refine AO.val (by first | exact RV.fieldAddr rfl | exact RV.fieldAddrA rfl) (.none rfl) rfl ?_
  refine AO.val (by first | exact RV.loadO rfl rfl (by simp) | exact RV.loadSF rfl (by assumption) (fun _ => rfl) (by omega) rfl rfl (by simp) | exact RV.loadS rfl (by assumption) (by omega) (by simp)) (.none rfl) rfl ?_
  refine AO.val (RV.gtr rfl rfl) (.none rfl) rfl ?_
  refine AO.nil ?_
  refine AK.cut (α := Unit) (E := fun _ => [(0, .pointer (some ⟨q, 0, none⟩)), (1, .int .u32 src)]) (H := fun _ => pre ++ ((q, Blk.cells [.int .i64 z, .int .i64 r, .int .i64 b, .int .i64 (max n (min now 1073741824)), .slice A L.length cap] 36 (0, 0)) :: h)) (Inv := fun _ => True) ?_ ?_
  · rintro _ _
    try dsimp only
    refine AK.seq ?_
    refine AK.region ?_
    refine AO.val (RV.move rfl) (.none rfl) rfl ?_
    refine AO.val (RV.move rfl) (.none rfl) rfl ?_
    refine AO.eff (EF.callF rfl (find_spec B pre h q z r b (max n (min now 1073741824)) L hsl hll src)) (.none rfl) rfl ?_
    rintro _ _ ⟨rfl, rfl⟩
    refine AO.val (RV.assign rfl) (.none rfl) rfl ?_
    refine AO.nil ?_
    refine AK.seq ?_
    refine AK.draw [] [11] mixed ?_
    refine AD.takeP 0 rfl (by kernel_rfl) (RV.move rfl) (.none rfl) rfl ?_
    refine AD.takeP 1 rfl (by kernel_rfl) (RV.move rfl) (.none rfl) rfl ?_
    refine AD.takeP 2 rfl (by kernel_rfl) (RV.nilCheck rfl) (.none rfl) rfl ?_
    refine AD.takeP 3 rfl (by kernel_rfl) (by first | exact RV.fieldAddr rfl | exact RV.fieldAddrA rfl) (.none rfl) rfl ?_
    refine AD.take 4 rfl (by kernel_rfl) (by first | exact RV.loadO rfl rfl (by simp) | exact RV.loadSF rfl (by assumption) (fun _ => rfl) (by omega) rfl rfl (by simp) | exact RV.loadS rfl (by assumption) (by omega) (by simp)) (.none rfl) rfl ?_
    refine AD.takeP 5 rfl (by kernel_rfl) (RV.move rfl) (.none rfl) rfl ?_
    refine AD.takeP 6 rfl (by kernel_rfl) (RV.nilCheck rfl) (.none rfl) rfl ?_
    refine AD.takeP 7 rfl (by kernel_rfl) (by first | exact RV.fieldAddr rfl | exact RV.fieldAddrA rfl) (.none rfl) rfl ?_
    refine AD.take 8 rfl (by kernel_rfl) (by first | exact RV.loadO rfl rfl (by simp) | exact RV.loadSF rfl (by assumption) (fun _ => rfl) (by omega) rfl rfl (by simp) | exact RV.loadS rfl (by assumption) (by omega) (by simp)) (.none rfl) rfl ?_
    refine AD.takeP 9 rfl (by kernel_rfl) (RV.build rfl (.cons rfl rfl rfl rfl (.cons rfl rfl rfl rfl (.cons rfl rfl rfl rfl .nil)))) (.none rfl) rfl ?_
    refine AD.one 10 (by kernel_rfl) (AE.eff rfl (EF.alloc) (.none rfl) rfl ?_)
    rintro _ _ ⟨b8, hf8, rfl, rfl⟩
    refine ⟨(by first | exact .inr fun x hx hM => hx | exact .inr fun x hx hM => List.mem_cons_of_mem _ hx | exact .inr fun x hx hM => List.mem_append_right _ hx), ?_⟩
    refine AD.one 11 (by kernel_rfl) (AE.effN rfl (EF.storeO rfl rfl rfl rfl rfl rfl) (.none rfl) ?_)
    rintro _ _ rfl
    refine ⟨.inl (by kernel_rfl), ?_⟩
    refine AD.done (by kernel_rfl) ?_
    refine AK.seq ?_
    refine AK.seq ?_
    refine AK.region ?_
    refine AO.val (RV.move rfl) (.none rfl) rfl ?_
    refine AO.val (RV.geq rfl rfl) (.none rfl) rfl ?_
    refine AO.nil ?_
    refine AK.cut (α := Unit) (E := fun _ => [(0, .pointer (some ⟨q, 0, none⟩)), (1, .int .u32 src), (7, .int .i64 (findQ L src)), (8, .pointer (some ⟨b8, 0, none⟩))]) (H := fun _ => (b8, Blk.cells [.int .u32 src, .int .i64 (leftQ L r b (max n (min now 1073741824)) (findQ L src)), .int .i64 (max n (min now 1073741824))] 43 (0, 0)) :: (pre ++ ((q, Blk.cells [.int .i64 z, .int .i64 r, .int .i64 b, .int .i64 (max n (min now 1073741824)), .slice A L.length cap] 36 (0, 0)) :: h))) (Inv := fun _ => True) ?_ ?_
    · rintro _ _
      try dsimp only
      refine AK.seq ?_
      refine AK.seq ?_
      refine AK.draw [] [] mixed ?_
      refine AD.takeP 0 rfl (by kernel_rfl) (RV.move rfl) (.none rfl) rfl ?_
      refine AD.takeP 1 rfl (by kernel_rfl) (RV.lss rfl rfl) (.none rfl) rfl ?_
      refine AD.takeP 2 rfl (by kernel_rfl) (RV.move rfl) (.none rfl) rfl ?_
      refine AD.caseG (d := 103) (j := 2) rfl rfl ?_ ?_
      · intro hg1
        try simp only [decide_eq_true_eq, decide_eq_false_iff_not, Bool.not_eq_true', Bool.not_eq_false', beq_iff_eq] at hg1
        refine AD.takeP 3 rfl (by kernel_rfl) (RV.move rfl) (.some rfl rfl rfl rfl) rfl ?_
        refine AD.takeP 4 rfl (by kernel_rfl) (RV.nilCheck rfl) (.some rfl rfl rfl rfl) rfl ?_
        refine AD.takeP 5 rfl (by kernel_rfl) (by first | exact RV.fieldAddr rfl | exact RV.fieldAddrA rfl) (.some rfl rfl rfl rfl) rfl ?_
        refine AD.take 6 rfl (by kernel_rfl) (by first | exact RV.loadO rfl rfl (by simp) | exact RV.loadSF rfl (by assumption) (fun _ => rfl) (by omega) rfl rfl (by simp) | exact RV.loadS rfl (by assumption) (by omega) (by simp)) (.some rfl rfl rfl rfl) rfl ?_
        refine AD.takeP 7 rfl (by kernel_rfl) (RV.lenS rfl) (.some rfl rfl rfl rfl) rfl ?_
        refine AD.takeP 8 rfl (by kernel_rfl) (RV.move rfl) (.some rfl rfl rfl rfl) rfl ?_
        refine AD.takeP 9 rfl (by kernel_rfl) (RV.nilCheck rfl) (.some rfl rfl rfl rfl) rfl ?_
        refine AD.takeP 10 rfl (by kernel_rfl) (by first | exact RV.fieldAddr rfl | exact RV.fieldAddrA rfl) (.some rfl rfl rfl rfl) rfl ?_
        refine AD.take 11 rfl (by kernel_rfl) (by first | exact RV.loadO rfl rfl (by simp) | exact RV.loadSF rfl (by assumption) (fun _ => rfl) (by omega) rfl rfl (by simp) | exact RV.loadS rfl (by assumption) (by omega) (by simp)) (.some rfl rfl rfl rfl) rfl ?_
        refine AD.takeP 12 rfl (by kernel_rfl) (RV.eql rfl rfl) (.some rfl rfl rfl rfl) rfl ?_
        refine AD.takeP 13 rfl (by kernel_rfl) (RV.pickT rfl rfl) (.none rfl) rfl ?_
        refine AD.done (by kernel_rfl) ?_
        refine AK.cut (α := Int) (E := fun kk => [(0, .pointer (some ⟨q, 0, none⟩)), (1, .int .u32 src), (7, .int .i64 kk), (8, .pointer (some ⟨b8, 0, none⟩))]) (H := fun kk => (b8, Blk.cells [.int .u32 src, .int .i64 (leftQ L r b (max n (min now 1073741824)) (findQ L src)), .int .i64 (max n (min now 1073741824))] 43 (0, 0)) :: (pre ++ ((q, Blk.cells [.int .i64 z, .int .i64 r, .int .i64 b, .int .i64 (max n (min now 1073741824)), .slice A L.length cap] 36 (0, 0)) :: h))) (Inv := fun kk => Goes L z (findQ L src) kk) ?_ ?_
        · rintro kk hgo
          try dsimp only
          refine AK.seq ?_
          refine AK.region ?_
          refine AO.val (by first | exact RV.fieldAddr rfl | exact RV.fieldAddrA rfl) (.none rfl) rfl ?_
          refine AO.val (by first | exact RV.loadO rfl rfl (by simp) | exact RV.loadSF rfl (by assumption) (fun _ => rfl) (by omega) rfl rfl (by simp) | exact RV.loadS rfl (by assumption) (by omega) (by simp)) (.none rfl) rfl ?_
          refine AO.val (RV.gtr rfl rfl) (.none rfl) rfl ?_
          refine AO.val (RV.assign rfl) (.none rfl) rfl ?_
          refine AO.nil ?_
          refine AK.seq ?_
          refine AK.seq ?_
          refine AK.region ?_
          refine AO.val (RV.move rfl) (.none rfl) rfl ?_
          refine AO.nil ?_
          refine AK.cut (α := Unit) (E := fun _ => [(0, .pointer (some ⟨q, 0, none⟩)), (7, .int .i64 kk), (8, .pointer (some ⟨b8, 0, none⟩)), (11, .bool (decide (0 < (leftQ L r b (max n (min now 1073741824)) (findQ L src)))))]) (H := fun _ => (b8, Blk.cells [.int .u32 src, .int .i64 (if 0 < (leftQ L r b (max n (min now 1073741824)) (findQ L src)) then (leftQ L r b (max n (min now 1073741824)) (findQ L src)) - 1 else (leftQ L r b (max n (min now 1073741824)) (findQ L src))), .int .i64 (max n (min now 1073741824))] 43 (0, 0)) :: (pre ++ ((q, Blk.cells [.int .i64 z, .int .i64 r, .int .i64 b, .int .i64 (max n (min now 1073741824)), .slice A L.length cap] 36 (0, 0)) :: h))) (Inv := fun _ => True) ?_ ?_
          · rintro _ _
            try dsimp only
            refine AK.seq ?_
            refine AK.region ?_
            refine AO.val (RV.assign rfl) (.none rfl) rfl ?_
            refine AO.nil ?_
            refine AK.seq ?_
            refine AK.seq ?_
            refine AK.region ?_
            refine AO.val (RV.assign rfl) (.none rfl) rfl ?_
            refine AO.nil ?_
            refine AK.block ?_
            refine AK.loop (α := Nat × Option Addr × Nat × Own) (E := fun (i, A', c', p) => [(0, .pointer (some ⟨q, 0, none⟩)), (7, .int .i64 kk), (8, .pointer (some ⟨b8, 0, none⟩)), (11, .bool (decide (0 < (leftQ L r b (max n (min now 1073741824)) (findQ L src))))), (12, .slice A' (keepTo L kk i).length c'), (13, .int .i64 i)]) (H := fun (i, A', c', p) => p ++ ((b8, Blk.cells [.int .u32 src, .int .i64 (if 0 < (leftQ L r b (max n (min now 1073741824)) (findQ L src)) then (leftQ L r b (max n (min now 1073741824)) (findQ L src)) - 1 else (leftQ L r b (max n (min now 1073741824)) (findQ L src))), .int .i64 (max n (min now 1073741824))] 43 (0, 0)) :: (pre ++ ((q, Blk.cells [.int .i64 z, .int .i64 r, .int .i64 b, .int .i64 (max n (min now 1073741824)), .slice A L.length cap] 36 (0, 0)) :: h)))) (Inv := fun (i, A', c', p) => i ≤ L.length ∧ Row 43 3 (.slice A' (keepTo L kk i).length c') (keepTo L kk i).length (flat encOn (keepTo L kk i)) p ∧ (keepTo L kk i).length ≤ c') (μ := fun (i, A', c', p) => L.length - i) (0, none, 0, []) ?_ (.cons (by exact rfl) (.cons (by exact rfl) (.cons (by exact rfl) (.cons (by exact rfl) (.cons (by exact rfl) (.cons (by exact rfl) .nil)))))) ?_ ?_
            · exact ⟨by omega, .nil, Nat.le_refl _⟩
            · exact List.Sublist.refl _
            rintro ⟨i, A', c', p⟩ ⟨hi0, hrw, hcw⟩ hih2
            try dsimp only at hih2 ⊢
            have hkl := keepTo_len L kk i
            refine AK.seq ?_
            refine AK.seq ?_
            refine AK.region ?_
            refine AO.val (RV.move rfl) (.none rfl) rfl ?_
            refine AO.val (RV.move rfl) (.none rfl) rfl ?_
            refine AO.val (RV.nilCheck rfl) (.none rfl) rfl ?_
            refine AO.val (by first | exact RV.fieldAddr rfl | exact RV.fieldAddrA rfl) (.none rfl) rfl ?_
            refine AO.val (by first | exact RV.loadO rfl rfl (by simp) | exact RV.loadSF rfl (by assumption) (fun _ => rfl) (by omega) rfl rfl (by simp) | exact RV.loadS rfl (by assumption) (by omega) (by simp)) (.none rfl) rfl ?_
            refine AO.val (RV.lenS rfl) (.none rfl) rfl ?_
            refine AO.val (RV.lss rfl rfl) (.none rfl) rfl ?_
            refine AO.nil ?_
            refine AK.cond rfl ?_ ?_
            · intro hc2
              try simp only [decide_eq_true_eq, decide_eq_false_iff_not, Bool.not_eq_true', Bool.not_eq_false', beq_iff_eq] at hc2
              refine AK.skip ?_
              refine AK.seq ?_
              refine AK.block ?_
              refine AK.seq ?_
              refine AK.region ?_
              refine AO.val (RV.move rfl) (.none rfl) rfl ?_
              refine AO.val (RV.move rfl) (.none rfl) rfl ?_
              refine AO.val (RV.neq rfl rfl) (.none rfl) rfl ?_
              refine AO.nil ?_
              refine AK.cond rfl ?_ ?_
              · intro hc3
                try simp only [decide_eq_true_eq, decide_eq_false_iff_not, Bool.not_eq_true', Bool.not_eq_false', beq_iff_eq] at hc3
                refine AK.region ?_
                refine AO.val (RV.move rfl) (.none rfl) rfl ?_
                refine AO.val (RV.move rfl) (.none rfl) rfl ?_
                refine AO.val (RV.nilCheck rfl) (.none rfl) rfl ?_
                refine AO.val (by first | exact RV.fieldAddr rfl | exact RV.fieldAddrA rfl) (.none rfl) rfl ?_
                refine AO.val (by first | exact RV.loadO rfl rfl (by simp) | exact RV.loadSF rfl (by assumption) (fun _ => rfl) (by omega) rfl rfl (by simp) | exact RV.loadS rfl (by assumption) (by omega) (by simp)) (.none rfl) rfl ?_
                refine AO.val (RV.move rfl) (.none rfl) rfl ?_
                refine AO.val (by first | exact RV.indexS rfl rfl (by assumption) (by omega) rfl | exact RV.indexAddr rfl rfl (by omega)) (.none rfl) rfl ?_
                refine AO.val (RV.loadSA rfl hsl (fun _ => rfl) (by omega) (by simp)) (.none rfl) rfl ?_
                refine AO.eff (EF.buildSlice (cs := [.int .u32 (lget L i).1, .int .i64 (lget L i).2.1, .int .i64 (lget L i).2.2]) rfl rfl rfl (.cons rfl rfl rfl rfl .nil)) (.none rfl) rfl ?_
                rintro _ _ ⟨b208, hf208, rfl, rfl⟩
                refine AO.eff (EF.appendS (n' := ((keepTo L kk i) ++ [lget L i]).length) (ys := flat encOn ((keepTo L kk i) ++ [lget L i])) rfl rfl hrw (Src.of_new (el := 43) (cs := [.int .u32 (lget L i).1, .int .i64 (lget L i).2.1, .int .i64 (lget L i).2.2]) (by simp) 1 3 (Nat.le_refl _)) (by simp) (by rw [flat_snoc]; rfl) rfl (by decide) rfl (by omega) (by omega)) (.none rfl) rfl ?_
                rintro _ _ ⟨A1, c1, p1, rfl, hr1, hc1q, rfl⟩
                have hke : keepTo L kk (i + 1) = (keepTo L kk i) ++ [lget L i] := by rw [keepTo, if_neg (by omega)]
                refine AO.val (RV.assign rfl) (.none rfl) rfl ?_
                refine AO.nil ?_
                refine AK.inBlock ?_
                refine AK.region ?_
                refine AO.val (RV.move rfl) (.none rfl) rfl ?_
                refine AO.val (by first | exact RV.addIn rfl rfl (by omega) | exact RV.add rfl rfl) (.none rfl) rfl ?_
                refine AO.val (RV.assign rfl) (.none rfl) rfl ?_
                refine AO.nil ?_
                -- round ends at Jc0Jc1tJc4Jc7L2TT
                refine AK.weak (.cons (by exact rfl) (.cons (by exact rfl) (.cons (by exact rfl) (.cons (by exact rfl) (.cons (by rw [hke]; exact rfl) (.cons (by exact rfl) .nil)))))) (by exact List.Sublist.append_left (List.sublist_cons_self _ _) _) (hih2 (i + 1, A1, c1, p1) ?_ ?_)
                · try dsimp only
                  refine ⟨by omega, ?_, ?_⟩
                  · rw [hke]; exact hr1
                  · rw [hke]; exact hc1q
                · try dsimp only
                  omega
              · intro hc3
                try simp only [decide_eq_true_eq, decide_eq_false_iff_not, Bool.not_eq_true', Bool.not_eq_false', beq_iff_eq] at hc3
                refine AK.skip ?_
                refine AK.inBlock ?_
                refine AK.region ?_
                refine AO.val (RV.move rfl) (.none rfl) rfl ?_
                refine AO.val (by first | exact RV.addIn rfl rfl (by omega) | exact RV.add rfl rfl) (.none rfl) rfl ?_
                refine AO.val (RV.assign rfl) (.none rfl) rfl ?_
                refine AO.nil ?_
                -- round ends at Jc0Jc1tJc4Jc7L2TF
                have hke : keepTo L kk (i + 1) = (keepTo L kk i) := by rw [keepTo, if_pos (by omega)]
                refine AK.weak (.cons (by exact rfl) (.cons (by exact rfl) (.cons (by exact rfl) (.cons (by exact rfl) (.cons (by rw [hke]; exact rfl) (.cons (by exact rfl) .nil)))))) (by first | exact SubO.sub | exact List.Sublist.refl _ | exact .cons _ (List.Sublist.refl _) | exact .cons _ (.cons _ (List.Sublist.refl _)) | exact .cons _ (.cons _ (.cons _ (List.Sublist.refl _)))) (hih2 (i + 1, A', c', p) ?_ ?_)
                · try dsimp only
                  refine ⟨by omega, ?_, ?_⟩
                  · rw [hke]; exact hrw
                  · rw [hke]; exact hcw
                · try dsimp only
                  omega
            · intro hc2
              try simp only [decide_eq_true_eq, decide_eq_false_iff_not, Bool.not_eq_true', Bool.not_eq_false', beq_iff_eq] at hc2
              have hil : i = L.length := by omega
              subst hil
              refine AK.exit rfl ?_
              refine AK.seq ?_
              refine AK.region ?_
              refine AO.val (RV.move rfl) (.none rfl) rfl ?_
              refine AO.val (RV.move rfl) (.none rfl) rfl ?_
              refine AO.val (by first | exact RV.loadAggO rfl rfl (by simp) | exact RV.loadAggP rfl rfl rfl (by simp)) (.none rfl) rfl ?_
              refine AO.eff (EF.buildSlice (cs := [.int .u32 src, .int .i64 (if 0 < (leftQ L r b (max n (min now 1073741824)) (findQ L src)) then (leftQ L r b (max n (min now 1073741824)) (findQ L src)) - 1 else (leftQ L r b (max n (min now 1073741824)) (findQ L src))), .int .i64 (max n (min now 1073741824))]) rfl rfl rfl (.cons rfl rfl rfl rfl .nil)) (.none rfl) rfl ?_
              rintro _ _ ⟨b213, hf213, rfl, rfl⟩
              refine AO.eff (EF.appendS (n' := (nextL L kk src (leftQ L r b (max n (min now 1073741824)) (findQ L src)) (max n (min now 1073741824))).length) (ys := flat encOn (nextL L kk src (leftQ L r b (max n (min now 1073741824)) (findQ L src)) (max n (min now 1073741824)))) rfl rfl hrw (Src.of_new (el := 43) (cs := [.int .u32 src, .int .i64 (if 0 < (leftQ L r b (max n (min now 1073741824)) (findQ L src)) then (leftQ L r b (max n (min now 1073741824)) (findQ L src)) - 1 else (leftQ L r b (max n (min now 1073741824)) (findQ L src))), .int .i64 (max n (min now 1073741824))]) (by simp) 1 3 (Nat.le_refl _)) (by simp [nextL]) (by rw [nextL, flat_snoc]; rfl) rfl (by decide) rfl (by omega) (by omega)) (.none rfl) rfl ?_
              rintro _ _ ⟨A2, c2, p2, rfl, hr2, hc2q, rfl⟩
              refine AO.val (RV.nilCheck rfl) (.none rfl) rfl ?_
              refine AO.val (by first | exact RV.fieldAddr rfl | exact RV.fieldAddrA rfl) (.none rfl) rfl ?_
              refine AO.effN (EF.storeO rfl rfl rfl rfl rfl rfl) (.none rfl) ?_
              rintro _ _ rfl
              refine AO.nil ?_
              refine AK.seq ?_
              refine AK.region ?_
              refine AO.val (RV.move rfl) (.none rfl) rfl ?_
              refine AO.val (RV.assign rfl) (.none rfl) rfl ?_
              refine AO.nil ?_
              -- at Jc0Jc1tJc4Jc7L2F
              clear hih2
              refine AK.perm (h' := _ :: _ :: (pre ++ (q, Blk.cells [.int .i64 z, .int .i64 r, .int .i64 b, .int .i64 (max n (min now 1073741824)), .slice A2 (nextL L kk src (leftQ L r b (max n (min now 1073741824)) (findQ L src)) (max n (min now 1073741824))).length c2] 36 (0, 0)) :: (p2 ++ h))) (by exact perm_in2 _ _ _ _ _ _) ?_
              refine AK.ret (h' := pre ++ (q, Blk.cells [.int .i64 z, .int .i64 r, .int .i64 b, .int .i64 (max n (min now 1073741824)), .slice A2 (nextL L kk src (leftQ L r b (max n (min now 1073741824)) (findQ L src)) (max n (min now 1073741824))).length c2] 36 (0, 0)) :: (p2 ++ h)) Try.func12 (.tmp rfl .nil) ?_ (List.Sublist.cons _ (List.Sublist.cons _ (List.Sublist.refl _)))
              exact ⟨rfl, kk, A2, c2, p2, hgo, rfl, hr2.src (fun x hx => List.mem_append_left _ hx), hc2q⟩
          · intro hjc7
            try dsimp only at hjc7
            refine AK.cond rfl ?_ ?_
            · intro hc4
              try simp only [decide_eq_true_eq, decide_eq_false_iff_not, Bool.not_eq_true', Bool.not_eq_false', beq_iff_eq] at hc4
              refine AK.region ?_
              refine AO.val (by first | exact RV.fieldAddr rfl | exact RV.fieldAddrA rfl) (.none rfl) rfl ?_
              refine AO.val (by first | exact RV.loadO rfl rfl (by simp) | exact RV.loadSF rfl (by assumption) (fun _ => rfl) (by omega) rfl rfl (by simp) | exact RV.loadS rfl (by assumption) (by omega) (by simp)) (.none rfl) rfl ?_
              refine AO.val (by first | exact RV.subIn rfl rfl (by omega) | exact RV.sub rfl rfl) (.none rfl) rfl ?_
              refine AO.val (by first | exact RV.fieldAddr rfl | exact RV.fieldAddrA rfl) (.none rfl) rfl ?_
              refine AO.effN (EF.storeO rfl rfl rfl rfl rfl rfl) (.none rfl) ?_
              rintro _ _ rfl
              refine AO.nil ?_
              -- ways meet at Jc0Jc1tJc4T
              refine AK.weak (.cons (by exact rfl) (.cons (by exact rfl) (.cons (by exact rfl) (.cons (by exact rfl) .nil)))) (by rw [show (if 0 < (leftQ L r b (max n (min now 1073741824)) (findQ L src)) then (leftQ L r b (max n (min now 1073741824)) (findQ L src)) - 1 else (leftQ L r b (max n (min now 1073741824)) (findQ L src))) = (leftQ L r b (max n (min now 1073741824)) (findQ L src)) - 1 from if_pos (by assumption)]; exact List.Sublist.refl _) (hjc7 () ?_)
              · try dsimp only
                all_goals trivial
            · intro hc4
              try simp only [decide_eq_true_eq, decide_eq_false_iff_not, Bool.not_eq_true', Bool.not_eq_false', beq_iff_eq] at hc4
              refine AK.skip ?_
              -- ways meet at Jc0Jc1tJc4F
              refine AK.weak (.cons (by exact rfl) (.cons (by exact rfl) (.cons (by exact rfl) (.cons (by exact rfl) .nil)))) (by rw [show (if 0 < (leftQ L r b (max n (min now 1073741824)) (findQ L src)) then (leftQ L r b (max n (min now 1073741824)) (findQ L src)) - 1 else (leftQ L r b (max n (min now 1073741824)) (findQ L src))) = (leftQ L r b (max n (min now 1073741824)) (findQ L src)) from if_neg (by assumption)]; exact List.Sublist.refl _) (hjc7 () ?_)
              · try dsimp only
                all_goals trivial
        · intro hjc4
          try dsimp only at hjc4
          refine AK.cond rfl ?_ ?_
          · intro hc5
            try simp only [decide_eq_true_eq, decide_eq_false_iff_not, Bool.not_eq_true', Bool.not_eq_false', beq_iff_eq] at hc5
            refine AK.seq ?_
            refine AK.region ?_
            refine AO.val (RV.assign rfl) (.none rfl) rfl ?_
            refine AO.nil ?_
            refine AK.seq ?_
            refine AK.region ?_
            refine AO.val (RV.assign rfl) (.none rfl) rfl ?_
            refine AO.nil ?_
            refine AK.block ?_
            refine AK.loop (α := Int × Int) (E := fun (i, kk) => [(0, .pointer (some ⟨q, 0, none⟩)), (1, .int .u32 src), (7, .int .i64 kk), (8, .pointer (some ⟨b8, 0, none⟩)), (10, .int .i64 i)]) (H := fun (i, kk) => (b8, Blk.cells [.int .u32 src, .int .i64 (leftQ L r b (max n (min now 1073741824)) (findQ L src)), .int .i64 (max n (min now 1073741824))] 43 (0, 0)) :: (pre ++ ((q, Blk.cells [.int .i64 z, .int .i64 r, .int .i64 b, .int .i64 (max n (min now 1073741824)), .slice A L.length cap] 36 (0, 0)) :: h))) (Inv := fun (i, kk) => 1 ≤ i ∧ i ≤ L.length ∧ 0 ≤ kk ∧ kk < L.length ∧ ∀ j : Int, 0 ≤ j → j < i → olderB (lget L j).1 (lget L j).2 (lget L kk).1 (lget L kk).2 = false) (μ := fun (i, kk) => (L.length - i).toNat) (1, 0) ?_ (.cons (by exact rfl) (.cons (by exact rfl) (.cons (by exact rfl) (.cons (by exact rfl) (.cons (by exact rfl) .nil))))) ?_ ?_
            · refine ⟨by omega, by omega, by omega, by omega, fun j h1 h2 => ?_⟩
              rw [show j = 0 by omega]; exact olderB_self _ _
            · exact List.Sublist.refl _
            rintro ⟨i, kk⟩ ⟨hi0, hin, hk0, hk1, hold⟩ hih1
            try dsimp only at hih1 ⊢
            refine AK.seq ?_
            refine AK.seq ?_
            refine AK.region ?_
            refine AO.val (RV.move rfl) (.none rfl) rfl ?_
            refine AO.val (RV.move rfl) (.none rfl) rfl ?_
            refine AO.val (RV.nilCheck rfl) (.none rfl) rfl ?_
            refine AO.val (by first | exact RV.fieldAddr rfl | exact RV.fieldAddrA rfl) (.none rfl) rfl ?_
            refine AO.val (by first | exact RV.loadO rfl rfl (by simp) | exact RV.loadSF rfl (by assumption) (fun _ => rfl) (by omega) rfl rfl (by simp) | exact RV.loadS rfl (by assumption) (by omega) (by simp)) (.none rfl) rfl ?_
            refine AO.val (RV.lenS rfl) (.none rfl) rfl ?_
            refine AO.val (RV.lss rfl rfl) (.none rfl) rfl ?_
            refine AO.nil ?_
            refine AK.cond rfl ?_ ?_
            · intro hc6
              try simp only [decide_eq_true_eq, decide_eq_false_iff_not, Bool.not_eq_true', Bool.not_eq_false', beq_iff_eq] at hc6
              refine AK.skip ?_
              refine AK.seq ?_
              refine AK.block ?_
              refine AK.seq ?_
              refine AK.draw [] [] mixed ?_
              refine AD.takeP 0 rfl (by kernel_rfl) (RV.move rfl) (.none rfl) rfl ?_
              refine AD.takeP 1 rfl (by kernel_rfl) (RV.nilCheck rfl) (.none rfl) rfl ?_
              refine AD.takeP 2 rfl (by kernel_rfl) (by first | exact RV.fieldAddr rfl | exact RV.fieldAddrA rfl) (.none rfl) rfl ?_
              refine AD.take 3 rfl (by kernel_rfl) (by first | exact RV.loadO rfl rfl (by simp) | exact RV.loadSF rfl (by assumption) (fun _ => rfl) (by omega) rfl rfl (by simp) | exact RV.loadS rfl (by assumption) (by omega) (by simp)) (.none rfl) rfl ?_
              refine AD.takeP 4 rfl (by kernel_rfl) (RV.move rfl) (.none rfl) rfl ?_
              refine AD.takeP 5 rfl (by kernel_rfl) (by first | exact RV.indexS rfl rfl (by assumption) (by omega) rfl | exact RV.indexAddr rfl rfl (by omega)) (.none rfl) rfl ?_
              refine AD.takeP 6 rfl (by kernel_rfl) (by first | exact RV.fieldAddr rfl | exact RV.fieldAddrA rfl) (.none rfl) rfl ?_
              refine AD.take 7 rfl (by kernel_rfl) (by first | exact RV.loadO rfl rfl (by simp) | exact RV.loadSF rfl (by assumption) (fun _ => rfl) (by omega) rfl rfl (by simp) | exact RV.loadS rfl (by assumption) (by omega) (by simp)) (.none rfl) rfl ?_
              refine AD.takeP 8 rfl (by kernel_rfl) (RV.move rfl) (.none rfl) rfl ?_
              refine AD.takeP 9 rfl (by kernel_rfl) (RV.nilCheck rfl) (.none rfl) rfl ?_
              refine AD.takeP 10 rfl (by kernel_rfl) (by first | exact RV.fieldAddr rfl | exact RV.fieldAddrA rfl) (.none rfl) rfl ?_
              refine AD.take 11 rfl (by kernel_rfl) (by first | exact RV.loadO rfl rfl (by simp) | exact RV.loadSF rfl (by assumption) (fun _ => rfl) (by omega) rfl rfl (by simp) | exact RV.loadS rfl (by assumption) (by omega) (by simp)) (.none rfl) rfl ?_
              refine AD.takeP 12 rfl (by kernel_rfl) (RV.move rfl) (.none rfl) rfl ?_
              refine AD.takeP 13 rfl (by kernel_rfl) (by first | exact RV.indexS rfl rfl (by assumption) (by omega) rfl | exact RV.indexAddr rfl rfl (by omega)) (.none rfl) rfl ?_
              refine AD.takeP 14 rfl (by kernel_rfl) (by first | exact RV.fieldAddr rfl | exact RV.fieldAddrA rfl) (.none rfl) rfl ?_
              refine AD.take 15 rfl (by kernel_rfl) (by first | exact RV.loadO rfl rfl (by simp) | exact RV.loadSF rfl (by assumption) (fun _ => rfl) (by omega) rfl rfl (by simp) | exact RV.loadS rfl (by assumption) (by omega) (by simp)) (.none rfl) rfl ?_
              refine AD.takeP 16 rfl (by kernel_rfl) (RV.lss rfl rfl) (.none rfl) rfl ?_
              refine AD.takeP 17 rfl (by kernel_rfl) (RV.move rfl) (.none rfl) rfl ?_
              refine AD.caseG (d := 141) (j := 17) rfl rfl ?_ ?_
              · intro hg7
                try simp only [decide_eq_true_eq, decide_eq_false_iff_not, Bool.not_eq_true', Bool.not_eq_false', beq_iff_eq] at hg7
                refine AD.pass 18 rfl (by kernel_rfl) (.some rfl rfl rfl rfl) rfl ?_
                refine AD.pass 19 rfl (by kernel_rfl) (.some rfl rfl rfl rfl) rfl ?_
                refine AD.pass 20 rfl (by kernel_rfl) (.some rfl rfl rfl rfl) rfl ?_
                refine AD.pass 21 rfl (by kernel_rfl) (.some rfl rfl rfl rfl) rfl ?_
                refine AD.pass 22 rfl (by kernel_rfl) (.some rfl rfl rfl rfl) rfl ?_
                refine AD.pass 23 rfl (by kernel_rfl) (.some rfl rfl rfl rfl) rfl ?_
                refine AD.pass 24 rfl (by kernel_rfl) (.some rfl rfl rfl rfl) rfl ?_
                refine AD.pass 25 rfl (by kernel_rfl) (.some rfl rfl rfl rfl) rfl ?_
                refine AD.pass 26 rfl (by kernel_rfl) (.some rfl rfl rfl rfl) rfl ?_
                refine AD.pass 27 rfl (by kernel_rfl) (.some rfl rfl rfl rfl) rfl ?_
                refine AD.pass 28 rfl (by kernel_rfl) (.some rfl rfl rfl rfl) rfl ?_
                refine AD.pass 29 rfl (by kernel_rfl) (.some rfl rfl rfl rfl) rfl ?_
                refine AD.pass 30 rfl (by kernel_rfl) (.some rfl rfl rfl rfl) rfl ?_
                refine AD.pass 31 rfl (by kernel_rfl) (.some rfl rfl rfl rfl) rfl ?_
                refine AD.pass 32 rfl (by kernel_rfl) (.some rfl rfl rfl rfl) rfl ?_
                refine AD.pass 33 rfl (by kernel_rfl) (.some rfl rfl rfl rfl) rfl ?_
                refine AD.pass 34 rfl (by kernel_rfl) (.some rfl rfl rfl rfl) rfl ?_
                refine AD.pass 35 rfl (by kernel_rfl) (.some rfl rfl rfl rfl) rfl ?_
                refine AD.pass 36 rfl (by kernel_rfl) (.undef rfl rfl rfl) rfl ?_
                refine AD.pass 37 rfl (by kernel_rfl) (.undef rfl rfl rfl) rfl ?_
                refine AD.pass 38 rfl (by kernel_rfl) (.undef rfl rfl rfl) rfl ?_
                refine AD.pass 39 rfl (by kernel_rfl) (.undef rfl rfl rfl) rfl ?_
                refine AD.pass 40 rfl (by kernel_rfl) (.undef rfl rfl rfl) rfl ?_
                refine AD.pass 41 rfl (by kernel_rfl) (.undef rfl rfl rfl) rfl ?_
                refine AD.pass 42 rfl (by kernel_rfl) (.undef rfl rfl rfl) rfl ?_
                refine AD.pass 43 rfl (by kernel_rfl) (.undef rfl rfl rfl) rfl ?_
                refine AD.pass 44 rfl (by kernel_rfl) (.undef rfl rfl rfl) rfl ?_
                refine AD.pass 45 rfl (by kernel_rfl) (.undef rfl rfl rfl) rfl ?_
                refine AD.pass 46 rfl (by kernel_rfl) (.undef rfl rfl rfl) rfl ?_
                refine AD.pass 47 rfl (by kernel_rfl) (.undef rfl rfl rfl) rfl ?_
                refine AD.pass 48 rfl (by kernel_rfl) (.undef rfl rfl rfl) rfl ?_
                refine AD.pass 49 rfl (by kernel_rfl) (.undef rfl rfl rfl) rfl ?_
                refine AD.pass 50 rfl (by kernel_rfl) (.undef rfl rfl rfl) rfl ?_
                refine AD.pass 51 rfl (by kernel_rfl) (.undef rfl rfl rfl) rfl ?_
                refine AD.pass 52 rfl (by kernel_rfl) (.undef rfl rfl rfl) rfl ?_
                refine AD.pass 53 rfl (by kernel_rfl) (.some rfl rfl rfl rfl) rfl ?_
                refine AD.takeP 54 rfl (by kernel_rfl) (RV.pickT rfl rfl) (.none rfl) rfl ?_
                refine AD.done (by kernel_rfl) ?_
                refine AK.condT rfl ?_
                refine AK.region ?_
                refine AO.val (RV.move rfl) (.none rfl) rfl ?_
                refine AO.val (RV.assign rfl) (.none rfl) rfl ?_
                refine AO.nil ?_
                refine AK.inBlock ?_
                refine AK.region ?_
                refine AO.val (RV.move rfl) (.none rfl) rfl ?_
                refine AO.val (by first | exact RV.addIn rfl rfl (by omega) | exact RV.add rfl rfl) (.none rfl) rfl ?_
                refine AO.val (RV.assign rfl) (.none rfl) rfl ?_
                refine AO.nil ?_
                -- round ends at Jc0Jc1tTL1Tt
                have hnew : olderB (lget L i).1 (lget L i).2 (lget L kk).1 (lget L kk).2 = true := by simp only [olderB]; split <;> simp <;> omega
                refine AK.weak (.cons (by exact rfl) (.cons (by exact rfl) (.cons (by exact rfl) (.cons (by exact rfl) (.cons (by exact rfl) .nil))))) (by first | exact SubO.sub | exact List.Sublist.refl _ | exact .cons _ (List.Sublist.refl _) | exact .cons _ (.cons _ (List.Sublist.refl _)) | exact .cons _ (.cons _ (.cons _ (List.Sublist.refl _)))) (hih1 (i + 1, i) ?_ ?_)
                · try dsimp only
                  refine ⟨by omega, by omega, by omega, by omega, fun j h1 h2 => ?_⟩
                  by_cases hj : j = i
                  · subst hj; exact olderB_self _ _
                  · exact olderB_trans (hold j h1 (by omega)) hnew
                · try dsimp only
                  omega
              · intro hg7
                try simp only [decide_eq_true_eq, decide_eq_false_iff_not, Bool.not_eq_true', Bool.not_eq_false', beq_iff_eq] at hg7
                refine AD.takeP 18 rfl (by kernel_rfl) (RV.move rfl) (.some rfl rfl rfl rfl) rfl ?_
                refine AD.takeP 19 rfl (by kernel_rfl) (RV.nilCheck rfl) (.some rfl rfl rfl rfl) rfl ?_
                refine AD.takeP 20 rfl (by kernel_rfl) (by first | exact RV.fieldAddr rfl | exact RV.fieldAddrA rfl) (.some rfl rfl rfl rfl) rfl ?_
                refine AD.take 21 rfl (by kernel_rfl) (by first | exact RV.loadO rfl rfl (by simp) | exact RV.loadSF rfl (by assumption) (fun _ => rfl) (by omega) rfl rfl (by simp) | exact RV.loadS rfl (by assumption) (by omega) (by simp)) (.some rfl rfl rfl rfl) rfl ?_
                refine AD.takeP 22 rfl (by kernel_rfl) (RV.move rfl) (.some rfl rfl rfl rfl) rfl ?_
                refine AD.takeP 23 rfl (by kernel_rfl) (by first | exact RV.indexS rfl rfl (by assumption) (by omega) rfl | exact RV.indexAddr rfl rfl (by omega)) (.some rfl rfl rfl rfl) rfl ?_
                refine AD.takeP 24 rfl (by kernel_rfl) (by first | exact RV.fieldAddr rfl | exact RV.fieldAddrA rfl) (.some rfl rfl rfl rfl) rfl ?_
                refine AD.take 25 rfl (by kernel_rfl) (by first | exact RV.loadO rfl rfl (by simp) | exact RV.loadSF rfl (by assumption) (fun _ => rfl) (by omega) rfl rfl (by simp) | exact RV.loadS rfl (by assumption) (by omega) (by simp)) (.some rfl rfl rfl rfl) rfl ?_
                refine AD.takeP 26 rfl (by kernel_rfl) (RV.move rfl) (.some rfl rfl rfl rfl) rfl ?_
                refine AD.takeP 27 rfl (by kernel_rfl) (RV.nilCheck rfl) (.some rfl rfl rfl rfl) rfl ?_
                refine AD.takeP 28 rfl (by kernel_rfl) (by first | exact RV.fieldAddr rfl | exact RV.fieldAddrA rfl) (.some rfl rfl rfl rfl) rfl ?_
                refine AD.take 29 rfl (by kernel_rfl) (by first | exact RV.loadO rfl rfl (by simp) | exact RV.loadSF rfl (by assumption) (fun _ => rfl) (by omega) rfl rfl (by simp) | exact RV.loadS rfl (by assumption) (by omega) (by simp)) (.some rfl rfl rfl rfl) rfl ?_
                refine AD.takeP 30 rfl (by kernel_rfl) (RV.move rfl) (.some rfl rfl rfl rfl) rfl ?_
                refine AD.takeP 31 rfl (by kernel_rfl) (by first | exact RV.indexS rfl rfl (by assumption) (by omega) rfl | exact RV.indexAddr rfl rfl (by omega)) (.some rfl rfl rfl rfl) rfl ?_
                refine AD.takeP 32 rfl (by kernel_rfl) (by first | exact RV.fieldAddr rfl | exact RV.fieldAddrA rfl) (.some rfl rfl rfl rfl) rfl ?_
                refine AD.take 33 rfl (by kernel_rfl) (by first | exact RV.loadO rfl rfl (by simp) | exact RV.loadSF rfl (by assumption) (fun _ => rfl) (by omega) rfl rfl (by simp) | exact RV.loadS rfl (by assumption) (by omega) (by simp)) (.some rfl rfl rfl rfl) rfl ?_
                refine AD.takeP 34 rfl (by kernel_rfl) (RV.eql rfl rfl) (.some rfl rfl rfl rfl) rfl ?_
                refine AD.takeP 35 rfl (by kernel_rfl) (RV.move rfl) (.some rfl rfl rfl rfl) rfl ?_
                refine AD.caseG (d := 159) (j := 35) rfl rfl ?_ ?_
                · intro hg8
                  try simp only [decide_eq_true_eq, decide_eq_false_iff_not, Bool.not_eq_true', Bool.not_eq_false', beq_iff_eq] at hg8
                  refine AD.takeP 36 rfl (by kernel_rfl) (RV.move rfl) (.some rfl rfl rfl rfl) rfl ?_
                  refine AD.takeP 37 rfl (by kernel_rfl) (RV.nilCheck rfl) (.some rfl rfl rfl rfl) rfl ?_
                  refine AD.takeP 38 rfl (by kernel_rfl) (by first | exact RV.fieldAddr rfl | exact RV.fieldAddrA rfl) (.some rfl rfl rfl rfl) rfl ?_
                  refine AD.take 39 rfl (by kernel_rfl) (by first | exact RV.loadO rfl rfl (by simp) | exact RV.loadSF rfl (by assumption) (fun _ => rfl) (by omega) rfl rfl (by simp) | exact RV.loadS rfl (by assumption) (by omega) (by simp)) (.some rfl rfl rfl rfl) rfl ?_
                  refine AD.takeP 40 rfl (by kernel_rfl) (RV.move rfl) (.some rfl rfl rfl rfl) rfl ?_
                  refine AD.takeP 41 rfl (by kernel_rfl) (by first | exact RV.indexS rfl rfl (by assumption) (by omega) rfl | exact RV.indexAddr rfl rfl (by omega)) (.some rfl rfl rfl rfl) rfl ?_
                  refine AD.takeP 42 rfl (by kernel_rfl) (by first | exact RV.fieldAddr rfl | exact RV.fieldAddrA rfl) (.some rfl rfl rfl rfl) rfl ?_
                  refine AD.take 43 rfl (by kernel_rfl) (by first | exact RV.loadO rfl rfl (by simp) | exact RV.loadSF rfl (by assumption) (fun _ => rfl) (by omega) rfl rfl (by simp) | exact RV.loadS rfl (by assumption) (by omega) (by simp)) (.some rfl rfl rfl rfl) rfl ?_
                  refine AD.takeP 44 rfl (by kernel_rfl) (RV.move rfl) (.some rfl rfl rfl rfl) rfl ?_
                  refine AD.takeP 45 rfl (by kernel_rfl) (RV.nilCheck rfl) (.some rfl rfl rfl rfl) rfl ?_
                  refine AD.takeP 46 rfl (by kernel_rfl) (by first | exact RV.fieldAddr rfl | exact RV.fieldAddrA rfl) (.some rfl rfl rfl rfl) rfl ?_
                  refine AD.take 47 rfl (by kernel_rfl) (by first | exact RV.loadO rfl rfl (by simp) | exact RV.loadSF rfl (by assumption) (fun _ => rfl) (by omega) rfl rfl (by simp) | exact RV.loadS rfl (by assumption) (by omega) (by simp)) (.some rfl rfl rfl rfl) rfl ?_
                  refine AD.takeP 48 rfl (by kernel_rfl) (RV.move rfl) (.some rfl rfl rfl rfl) rfl ?_
                  refine AD.takeP 49 rfl (by kernel_rfl) (by first | exact RV.indexS rfl rfl (by assumption) (by omega) rfl | exact RV.indexAddr rfl rfl (by omega)) (.some rfl rfl rfl rfl) rfl ?_
                  refine AD.takeP 50 rfl (by kernel_rfl) (by first | exact RV.fieldAddr rfl | exact RV.fieldAddrA rfl) (.some rfl rfl rfl rfl) rfl ?_
                  refine AD.take 51 rfl (by kernel_rfl) (by first | exact RV.loadO rfl rfl (by simp) | exact RV.loadSF rfl (by assumption) (fun _ => rfl) (by omega) rfl rfl (by simp) | exact RV.loadS rfl (by assumption) (by omega) (by simp)) (.some rfl rfl rfl rfl) rfl ?_
                  refine AD.takeP 52 rfl (by kernel_rfl) (RV.lss rfl rfl) (.some rfl rfl rfl rfl) rfl ?_
                  refine AD.takeP 53 rfl (by kernel_rfl) (RV.pickT rfl rfl) (.some rfl rfl rfl rfl) rfl ?_
                  refine AD.takeP 54 rfl (by kernel_rfl) (RV.pickF rfl rfl) (.none rfl) rfl ?_
                  refine AD.done (by kernel_rfl) ?_
                  refine AK.cond rfl ?_ ?_
                  · intro hc9
                    try simp only [decide_eq_true_eq, decide_eq_false_iff_not, Bool.not_eq_true', Bool.not_eq_false', beq_iff_eq] at hc9
                    refine AK.region ?_
                    refine AO.val (RV.move rfl) (.none rfl) rfl ?_
                    refine AO.val (RV.assign rfl) (.none rfl) rfl ?_
                    refine AO.nil ?_
                    refine AK.inBlock ?_
                    refine AK.region ?_
                    refine AO.val (RV.move rfl) (.none rfl) rfl ?_
                    refine AO.val (by first | exact RV.addIn rfl rfl (by omega) | exact RV.add rfl rfl) (.none rfl) rfl ?_
                    refine AO.val (RV.assign rfl) (.none rfl) rfl ?_
                    refine AO.nil ?_
                    -- round ends at Jc0Jc1tTL1TftT
                    have hnew : olderB (lget L i).1 (lget L i).2 (lget L kk).1 (lget L kk).2 = true := by simp only [olderB]; split <;> simp <;> omega
                    refine AK.weak (.cons (by exact rfl) (.cons (by exact rfl) (.cons (by exact rfl) (.cons (by exact rfl) (.cons (by exact rfl) .nil))))) (by first | exact SubO.sub | exact List.Sublist.refl _ | exact .cons _ (List.Sublist.refl _) | exact .cons _ (.cons _ (List.Sublist.refl _)) | exact .cons _ (.cons _ (.cons _ (List.Sublist.refl _)))) (hih1 (i + 1, i) ?_ ?_)
                    · try dsimp only
                      refine ⟨by omega, by omega, by omega, by omega, fun j h1 h2 => ?_⟩
                      by_cases hj : j = i
                      · subst hj; exact olderB_self _ _
                      · exact olderB_trans (hold j h1 (by omega)) hnew
                    · try dsimp only
                      omega
                  · intro hc9
                    try simp only [decide_eq_true_eq, decide_eq_false_iff_not, Bool.not_eq_true', Bool.not_eq_false', beq_iff_eq] at hc9
                    refine AK.skip ?_
                    refine AK.inBlock ?_
                    refine AK.region ?_
                    refine AO.val (RV.move rfl) (.none rfl) rfl ?_
                    refine AO.val (by first | exact RV.addIn rfl rfl (by omega) | exact RV.add rfl rfl) (.none rfl) rfl ?_
                    refine AO.val (RV.assign rfl) (.none rfl) rfl ?_
                    refine AO.nil ?_
                    -- round ends at Jc0Jc1tTL1TftF
                    have hnew : olderB (lget L i).1 (lget L i).2 (lget L kk).1 (lget L kk).2 = false := by simp only [olderB]; split <;> simp <;> omega
                    refine AK.weak (.cons (by exact rfl) (.cons (by exact rfl) (.cons (by exact rfl) (.cons (by exact rfl) (.cons (by exact rfl) .nil))))) (by first | exact SubO.sub | exact List.Sublist.refl _ | exact .cons _ (List.Sublist.refl _) | exact .cons _ (.cons _ (List.Sublist.refl _)) | exact .cons _ (.cons _ (.cons _ (List.Sublist.refl _)))) (hih1 (i + 1, kk) ?_ ?_)
                    · try dsimp only
                      refine ⟨by omega, by omega, hk0, hk1, fun j h1 h2 => ?_⟩
                      by_cases hj : j = i
                      · subst hj; exact hnew
                      · exact hold j h1 (by omega)
                    · try dsimp only
                      omega
                · intro hg8
                  try simp only [decide_eq_true_eq, decide_eq_false_iff_not, Bool.not_eq_true', Bool.not_eq_false', beq_iff_eq] at hg8
                  refine AD.pass 36 rfl (by kernel_rfl) (.some rfl rfl rfl rfl) rfl ?_
                  refine AD.pass 37 rfl (by kernel_rfl) (.some rfl rfl rfl rfl) rfl ?_
                  refine AD.pass 38 rfl (by kernel_rfl) (.some rfl rfl rfl rfl) rfl ?_
                  refine AD.pass 39 rfl (by kernel_rfl) (.some rfl rfl rfl rfl) rfl ?_
                  refine AD.pass 40 rfl (by kernel_rfl) (.some rfl rfl rfl rfl) rfl ?_
                  refine AD.pass 41 rfl (by kernel_rfl) (.some rfl rfl rfl rfl) rfl ?_
                  refine AD.pass 42 rfl (by kernel_rfl) (.some rfl rfl rfl rfl) rfl ?_
                  refine AD.pass 43 rfl (by kernel_rfl) (.some rfl rfl rfl rfl) rfl ?_
                  refine AD.pass 44 rfl (by kernel_rfl) (.some rfl rfl rfl rfl) rfl ?_
                  refine AD.pass 45 rfl (by kernel_rfl) (.some rfl rfl rfl rfl) rfl ?_
                  refine AD.pass 46 rfl (by kernel_rfl) (.some rfl rfl rfl rfl) rfl ?_
                  refine AD.pass 47 rfl (by kernel_rfl) (.some rfl rfl rfl rfl) rfl ?_
                  refine AD.pass 48 rfl (by kernel_rfl) (.some rfl rfl rfl rfl) rfl ?_
                  refine AD.pass 49 rfl (by kernel_rfl) (.some rfl rfl rfl rfl) rfl ?_
                  refine AD.pass 50 rfl (by kernel_rfl) (.some rfl rfl rfl rfl) rfl ?_
                  refine AD.pass 51 rfl (by kernel_rfl) (.some rfl rfl rfl rfl) rfl ?_
                  refine AD.pass 52 rfl (by kernel_rfl) (.some rfl rfl rfl rfl) rfl ?_
                  refine AD.takeP 53 rfl (by kernel_rfl) (RV.pickF rfl rfl) (.some rfl rfl rfl rfl) rfl ?_
                  refine AD.takeP 54 rfl (by kernel_rfl) (RV.pickF rfl rfl) (.none rfl) rfl ?_
                  refine AD.done (by kernel_rfl) ?_
                  refine AK.condF rfl ?_
                  refine AK.skip ?_
                  refine AK.inBlock ?_
                  refine AK.region ?_
                  refine AO.val (RV.move rfl) (.none rfl) rfl ?_
                  refine AO.val (by first | exact RV.addIn rfl rfl (by omega) | exact RV.add rfl rfl) (.none rfl) rfl ?_
                  refine AO.val (RV.assign rfl) (.none rfl) rfl ?_
                  refine AO.nil ?_
                  -- round ends at Jc0Jc1tTL1Tff
                  have hnew : olderB (lget L i).1 (lget L i).2 (lget L kk).1 (lget L kk).2 = false := by simp only [olderB]; split <;> simp <;> omega
                  refine AK.weak (.cons (by exact rfl) (.cons (by exact rfl) (.cons (by exact rfl) (.cons (by exact rfl) (.cons (by exact rfl) .nil))))) (by first | exact SubO.sub | exact List.Sublist.refl _ | exact .cons _ (List.Sublist.refl _) | exact .cons _ (.cons _ (List.Sublist.refl _)) | exact .cons _ (.cons _ (.cons _ (List.Sublist.refl _)))) (hih1 (i + 1, kk) ?_ ?_)
                  · try dsimp only
                    refine ⟨by omega, by omega, hk0, hk1, fun j h1 h2 => ?_⟩
                    by_cases hj : j = i
                    · subst hj; exact hnew
                    · exact hold j h1 (by omega)
                  · try dsimp only
                    omega
            · intro hc6
              try simp only [decide_eq_true_eq, decide_eq_false_iff_not, Bool.not_eq_true', Bool.not_eq_false', beq_iff_eq] at hc6
              refine AK.exit rfl ?_
              -- ways meet at Jc0Jc1tTL1F
              refine AK.weak (.cons (by exact rfl) (.cons (by exact rfl) (.cons (by exact rfl) (.cons (by exact rfl) .nil)))) (by first | exact SubO.sub | exact List.Sublist.refl _ | exact .cons _ (List.Sublist.refl _) | exact .cons _ (.cons _ (List.Sublist.refl _)) | exact .cons _ (.cons _ (.cons _ (List.Sublist.refl _)))) (hjc4 kk ?_)
              · try dsimp only
                exact .inr (.inr ⟨by omega, by omega, hk0, hk1, fun j h1 h2 => hold j h1 (by omega)⟩)
          · intro hc5
            try simp only [decide_eq_true_eq, decide_eq_false_iff_not, Bool.not_eq_true', Bool.not_eq_false', beq_iff_eq] at hc5
            refine AK.skip ?_
            -- ways meet at Jc0Jc1tF
            refine AK.weak (.cons (by exact rfl) (.cons (by exact rfl) (.cons (by exact rfl) (.cons (by exact rfl) .nil)))) (by first | exact SubO.sub | exact List.Sublist.refl _ | exact .cons _ (List.Sublist.refl _) | exact .cons _ (.cons _ (List.Sublist.refl _)) | exact .cons _ (.cons _ (.cons _ (List.Sublist.refl _)))) (hjc4 (findQ L src) ?_)
            · try dsimp only
              exact .inr (.inl ⟨by omega, by omega, rfl⟩)
      · intro hg1
        try simp only [decide_eq_true_eq, decide_eq_false_iff_not, Bool.not_eq_true', Bool.not_eq_false', beq_iff_eq] at hg1
        refine AD.pass 3 rfl (by kernel_rfl) (.some rfl rfl rfl rfl) rfl ?_
        refine AD.pass 4 rfl (by kernel_rfl) (.some rfl rfl rfl rfl) rfl ?_
        refine AD.pass 5 rfl (by kernel_rfl) (.some rfl rfl rfl rfl) rfl ?_
        refine AD.pass 6 rfl (by kernel_rfl) (.some rfl rfl rfl rfl) rfl ?_
        refine AD.pass 7 rfl (by kernel_rfl) (.some rfl rfl rfl rfl) rfl ?_
        refine AD.pass 8 rfl (by kernel_rfl) (.some rfl rfl rfl rfl) rfl ?_
        refine AD.pass 9 rfl (by kernel_rfl) (.some rfl rfl rfl rfl) rfl ?_
        refine AD.pass 10 rfl (by kernel_rfl) (.some rfl rfl rfl rfl) rfl ?_
        refine AD.pass 11 rfl (by kernel_rfl) (.some rfl rfl rfl rfl) rfl ?_
        refine AD.pass 12 rfl (by kernel_rfl) (.some rfl rfl rfl rfl) rfl ?_
        refine AD.takeP 13 rfl (by kernel_rfl) (RV.pickF rfl rfl) (.none rfl) rfl ?_
        refine AD.done (by kernel_rfl) ?_
        refine AK.cut (α := Int) (E := fun kk => [(0, .pointer (some ⟨q, 0, none⟩)), (1, .int .u32 src), (7, .int .i64 kk), (8, .pointer (some ⟨b8, 0, none⟩))]) (H := fun kk => (b8, Blk.cells [.int .u32 src, .int .i64 (leftQ L r b (max n (min now 1073741824)) (findQ L src)), .int .i64 (max n (min now 1073741824))] 43 (0, 0)) :: (pre ++ ((q, Blk.cells [.int .i64 z, .int .i64 r, .int .i64 b, .int .i64 (max n (min now 1073741824)), .slice A L.length cap] 36 (0, 0)) :: h))) (Inv := fun kk => Goes L z (findQ L src) kk) ?_ ?_
        · rintro kk hgo
          try dsimp only
          refine AK.seq ?_
          refine AK.region ?_
          refine AO.val (by first | exact RV.fieldAddr rfl | exact RV.fieldAddrA rfl) (.none rfl) rfl ?_
          refine AO.val (by first | exact RV.loadO rfl rfl (by simp) | exact RV.loadSF rfl (by assumption) (fun _ => rfl) (by omega) rfl rfl (by simp) | exact RV.loadS rfl (by assumption) (by omega) (by simp)) (.none rfl) rfl ?_
          refine AO.val (RV.gtr rfl rfl) (.none rfl) rfl ?_
          refine AO.val (RV.assign rfl) (.none rfl) rfl ?_
          refine AO.nil ?_
          refine AK.seq ?_
          refine AK.seq ?_
          refine AK.region ?_
          refine AO.val (RV.move rfl) (.none rfl) rfl ?_
          refine AO.nil ?_
          refine AK.cut (α := Unit) (E := fun _ => [(0, .pointer (some ⟨q, 0, none⟩)), (7, .int .i64 kk), (8, .pointer (some ⟨b8, 0, none⟩)), (11, .bool (decide (0 < (leftQ L r b (max n (min now 1073741824)) (findQ L src)))))]) (H := fun _ => (b8, Blk.cells [.int .u32 src, .int .i64 (if 0 < (leftQ L r b (max n (min now 1073741824)) (findQ L src)) then (leftQ L r b (max n (min now 1073741824)) (findQ L src)) - 1 else (leftQ L r b (max n (min now 1073741824)) (findQ L src))), .int .i64 (max n (min now 1073741824))] 43 (0, 0)) :: (pre ++ ((q, Blk.cells [.int .i64 z, .int .i64 r, .int .i64 b, .int .i64 (max n (min now 1073741824)), .slice A L.length cap] 36 (0, 0)) :: h))) (Inv := fun _ => True) ?_ ?_
          · rintro _ _
            try dsimp only
            refine AK.seq ?_
            refine AK.region ?_
            refine AO.val (RV.assign rfl) (.none rfl) rfl ?_
            refine AO.nil ?_
            refine AK.seq ?_
            refine AK.seq ?_
            refine AK.region ?_
            refine AO.val (RV.assign rfl) (.none rfl) rfl ?_
            refine AO.nil ?_
            refine AK.block ?_
            refine AK.loop (α := Nat × Option Addr × Nat × Own) (E := fun (i, A', c', p) => [(0, .pointer (some ⟨q, 0, none⟩)), (7, .int .i64 kk), (8, .pointer (some ⟨b8, 0, none⟩)), (11, .bool (decide (0 < (leftQ L r b (max n (min now 1073741824)) (findQ L src))))), (12, .slice A' (keepTo L kk i).length c'), (13, .int .i64 i)]) (H := fun (i, A', c', p) => p ++ ((b8, Blk.cells [.int .u32 src, .int .i64 (if 0 < (leftQ L r b (max n (min now 1073741824)) (findQ L src)) then (leftQ L r b (max n (min now 1073741824)) (findQ L src)) - 1 else (leftQ L r b (max n (min now 1073741824)) (findQ L src))), .int .i64 (max n (min now 1073741824))] 43 (0, 0)) :: (pre ++ ((q, Blk.cells [.int .i64 z, .int .i64 r, .int .i64 b, .int .i64 (max n (min now 1073741824)), .slice A L.length cap] 36 (0, 0)) :: h)))) (Inv := fun (i, A', c', p) => i ≤ L.length ∧ Row 43 3 (.slice A' (keepTo L kk i).length c') (keepTo L kk i).length (flat encOn (keepTo L kk i)) p ∧ (keepTo L kk i).length ≤ c') (μ := fun (i, A', c', p) => L.length - i) (0, none, 0, []) ?_ (.cons (by exact rfl) (.cons (by exact rfl) (.cons (by exact rfl) (.cons (by exact rfl) (.cons (by exact rfl) (.cons (by exact rfl) .nil)))))) ?_ ?_
            · exact ⟨by omega, .nil, Nat.le_refl _⟩
            · exact List.Sublist.refl _
            rintro ⟨i, A', c', p⟩ ⟨hi0, hrw, hcw⟩ hih2
            try dsimp only at hih2 ⊢
            have hkl := keepTo_len L kk i
            refine AK.seq ?_
            refine AK.seq ?_
            refine AK.region ?_
            refine AO.val (RV.move rfl) (.none rfl) rfl ?_
            refine AO.val (RV.move rfl) (.none rfl) rfl ?_
            refine AO.val (RV.nilCheck rfl) (.none rfl) rfl ?_
            refine AO.val (by first | exact RV.fieldAddr rfl | exact RV.fieldAddrA rfl) (.none rfl) rfl ?_
            refine AO.val (by first | exact RV.loadO rfl rfl (by simp) | exact RV.loadSF rfl (by assumption) (fun _ => rfl) (by omega) rfl rfl (by simp) | exact RV.loadS rfl (by assumption) (by omega) (by simp)) (.none rfl) rfl ?_
            refine AO.val (RV.lenS rfl) (.none rfl) rfl ?_
            refine AO.val (RV.lss rfl rfl) (.none rfl) rfl ?_
            refine AO.nil ?_
            refine AK.cond rfl ?_ ?_
            · intro hc10
              try simp only [decide_eq_true_eq, decide_eq_false_iff_not, Bool.not_eq_true', Bool.not_eq_false', beq_iff_eq] at hc10
              refine AK.skip ?_
              refine AK.seq ?_
              refine AK.block ?_
              refine AK.seq ?_
              refine AK.region ?_
              refine AO.val (RV.move rfl) (.none rfl) rfl ?_
              refine AO.val (RV.move rfl) (.none rfl) rfl ?_
              refine AO.val (RV.neq rfl rfl) (.none rfl) rfl ?_
              refine AO.nil ?_
              refine AK.cond rfl ?_ ?_
              · intro hc11
                try simp only [decide_eq_true_eq, decide_eq_false_iff_not, Bool.not_eq_true', Bool.not_eq_false', beq_iff_eq] at hc11
                refine AK.region ?_
                refine AO.val (RV.move rfl) (.none rfl) rfl ?_
                refine AO.val (RV.move rfl) (.none rfl) rfl ?_
                refine AO.val (RV.nilCheck rfl) (.none rfl) rfl ?_
                refine AO.val (by first | exact RV.fieldAddr rfl | exact RV.fieldAddrA rfl) (.none rfl) rfl ?_
                refine AO.val (by first | exact RV.loadO rfl rfl (by simp) | exact RV.loadSF rfl (by assumption) (fun _ => rfl) (by omega) rfl rfl (by simp) | exact RV.loadS rfl (by assumption) (by omega) (by simp)) (.none rfl) rfl ?_
                refine AO.val (RV.move rfl) (.none rfl) rfl ?_
                refine AO.val (by first | exact RV.indexS rfl rfl (by assumption) (by omega) rfl | exact RV.indexAddr rfl rfl (by omega)) (.none rfl) rfl ?_
                refine AO.val (RV.loadSA rfl hsl (fun _ => rfl) (by omega) (by simp)) (.none rfl) rfl ?_
                refine AO.eff (EF.buildSlice (cs := [.int .u32 (lget L i).1, .int .i64 (lget L i).2.1, .int .i64 (lget L i).2.2]) rfl rfl rfl (.cons rfl rfl rfl rfl .nil)) (.none rfl) rfl ?_
                rintro _ _ ⟨b208, hf208, rfl, rfl⟩
                refine AO.eff (EF.appendS (n' := ((keepTo L kk i) ++ [lget L i]).length) (ys := flat encOn ((keepTo L kk i) ++ [lget L i])) rfl rfl hrw (Src.of_new (el := 43) (cs := [.int .u32 (lget L i).1, .int .i64 (lget L i).2.1, .int .i64 (lget L i).2.2]) (by simp) 1 3 (Nat.le_refl _)) (by simp) (by rw [flat_snoc]; rfl) rfl (by decide) rfl (by omega) (by omega)) (.none rfl) rfl ?_
                rintro _ _ ⟨A1, c1, p1, rfl, hr1, hc1q, rfl⟩
                have hke : keepTo L kk (i + 1) = (keepTo L kk i) ++ [lget L i] := by rw [keepTo, if_neg (by omega)]
                refine AO.val (RV.assign rfl) (.none rfl) rfl ?_
                refine AO.nil ?_
                refine AK.inBlock ?_
                refine AK.region ?_
                refine AO.val (RV.move rfl) (.none rfl) rfl ?_
                refine AO.val (by first | exact RV.addIn rfl rfl (by omega) | exact RV.add rfl rfl) (.none rfl) rfl ?_
                refine AO.val (RV.assign rfl) (.none rfl) rfl ?_
                refine AO.nil ?_
                -- round ends at Jc0Jc1fJc4Jc7L2TT
                refine AK.weak (.cons (by exact rfl) (.cons (by exact rfl) (.cons (by exact rfl) (.cons (by exact rfl) (.cons (by rw [hke]; exact rfl) (.cons (by exact rfl) .nil)))))) (by exact List.Sublist.append_left (List.sublist_cons_self _ _) _) (hih2 (i + 1, A1, c1, p1) ?_ ?_)
                · try dsimp only
                  refine ⟨by omega, ?_, ?_⟩
                  · rw [hke]; exact hr1
                  · rw [hke]; exact hc1q
                · try dsimp only
                  omega
              · intro hc11
                try simp only [decide_eq_true_eq, decide_eq_false_iff_not, Bool.not_eq_true', Bool.not_eq_false', beq_iff_eq] at hc11
                refine AK.skip ?_
                refine AK.inBlock ?_
                refine AK.region ?_
                refine AO.val (RV.move rfl) (.none rfl) rfl ?_
                refine AO.val (by first | exact RV.addIn rfl rfl (by omega) | exact RV.add rfl rfl) (.none rfl) rfl ?_
                refine AO.val (RV.assign rfl) (.none rfl) rfl ?_
                refine AO.nil ?_
                -- round ends at Jc0Jc1fJc4Jc7L2TF
                have hke : keepTo L kk (i + 1) = (keepTo L kk i) := by rw [keepTo, if_pos (by omega)]
                refine AK.weak (.cons (by exact rfl) (.cons (by exact rfl) (.cons (by exact rfl) (.cons (by exact rfl) (.cons (by rw [hke]; exact rfl) (.cons (by exact rfl) .nil)))))) (by first | exact SubO.sub | exact List.Sublist.refl _ | exact .cons _ (List.Sublist.refl _) | exact .cons _ (.cons _ (List.Sublist.refl _)) | exact .cons _ (.cons _ (.cons _ (List.Sublist.refl _)))) (hih2 (i + 1, A', c', p) ?_ ?_)
                · try dsimp only
                  refine ⟨by omega, ?_, ?_⟩
                  · rw [hke]; exact hrw
                  · rw [hke]; exact hcw
                · try dsimp only
                  omega
            · intro hc10
              try simp only [decide_eq_true_eq, decide_eq_false_iff_not, Bool.not_eq_true', Bool.not_eq_false', beq_iff_eq] at hc10
              have hil : i = L.length := by omega
              subst hil
              refine AK.exit rfl ?_
              refine AK.seq ?_
              refine AK.region ?_
              refine AO.val (RV.move rfl) (.none rfl) rfl ?_
              refine AO.val (RV.move rfl) (.none rfl) rfl ?_
              refine AO.val (by first | exact RV.loadAggO rfl rfl (by simp) | exact RV.loadAggP rfl rfl rfl (by simp)) (.none rfl) rfl ?_
              refine AO.eff (EF.buildSlice (cs := [.int .u32 src, .int .i64 (if 0 < (leftQ L r b (max n (min now 1073741824)) (findQ L src)) then (leftQ L r b (max n (min now 1073741824)) (findQ L src)) - 1 else (leftQ L r b (max n (min now 1073741824)) (findQ L src))), .int .i64 (max n (min now 1073741824))]) rfl rfl rfl (.cons rfl rfl rfl rfl .nil)) (.none rfl) rfl ?_
              rintro _ _ ⟨b213, hf213, rfl, rfl⟩
              refine AO.eff (EF.appendS (n' := (nextL L kk src (leftQ L r b (max n (min now 1073741824)) (findQ L src)) (max n (min now 1073741824))).length) (ys := flat encOn (nextL L kk src (leftQ L r b (max n (min now 1073741824)) (findQ L src)) (max n (min now 1073741824)))) rfl rfl hrw (Src.of_new (el := 43) (cs := [.int .u32 src, .int .i64 (if 0 < (leftQ L r b (max n (min now 1073741824)) (findQ L src)) then (leftQ L r b (max n (min now 1073741824)) (findQ L src)) - 1 else (leftQ L r b (max n (min now 1073741824)) (findQ L src))), .int .i64 (max n (min now 1073741824))]) (by simp) 1 3 (Nat.le_refl _)) (by simp [nextL]) (by rw [nextL, flat_snoc]; rfl) rfl (by decide) rfl (by omega) (by omega)) (.none rfl) rfl ?_
              rintro _ _ ⟨A2, c2, p2, rfl, hr2, hc2q, rfl⟩
              refine AO.val (RV.nilCheck rfl) (.none rfl) rfl ?_
              refine AO.val (by first | exact RV.fieldAddr rfl | exact RV.fieldAddrA rfl) (.none rfl) rfl ?_
              refine AO.effN (EF.storeO rfl rfl rfl rfl rfl rfl) (.none rfl) ?_
              rintro _ _ rfl
              refine AO.nil ?_
              refine AK.seq ?_
              refine AK.region ?_
              refine AO.val (RV.move rfl) (.none rfl) rfl ?_
              refine AO.val (RV.assign rfl) (.none rfl) rfl ?_
              refine AO.nil ?_
              -- at Jc0Jc1fJc4Jc7L2F
              clear hih2
              refine AK.perm (h' := _ :: _ :: (pre ++ (q, Blk.cells [.int .i64 z, .int .i64 r, .int .i64 b, .int .i64 (max n (min now 1073741824)), .slice A2 (nextL L kk src (leftQ L r b (max n (min now 1073741824)) (findQ L src)) (max n (min now 1073741824))).length c2] 36 (0, 0)) :: (p2 ++ h))) (by exact perm_in2 _ _ _ _ _ _) ?_
              refine AK.ret (h' := pre ++ (q, Blk.cells [.int .i64 z, .int .i64 r, .int .i64 b, .int .i64 (max n (min now 1073741824)), .slice A2 (nextL L kk src (leftQ L r b (max n (min now 1073741824)) (findQ L src)) (max n (min now 1073741824))).length c2] 36 (0, 0)) :: (p2 ++ h)) Try.func12 (.tmp rfl .nil) ?_ (List.Sublist.cons _ (List.Sublist.cons _ (List.Sublist.refl _)))
              exact ⟨rfl, kk, A2, c2, p2, hgo, rfl, hr2.src (fun x hx => List.mem_append_left _ hx), hc2q⟩
          · intro hjc7
            try dsimp only at hjc7
            refine AK.cond rfl ?_ ?_
            · intro hc12
              try simp only [decide_eq_true_eq, decide_eq_false_iff_not, Bool.not_eq_true', Bool.not_eq_false', beq_iff_eq] at hc12
              refine AK.region ?_
              refine AO.val (by first | exact RV.fieldAddr rfl | exact RV.fieldAddrA rfl) (.none rfl) rfl ?_
              refine AO.val (by first | exact RV.loadO rfl rfl (by simp) | exact RV.loadSF rfl (by assumption) (fun _ => rfl) (by omega) rfl rfl (by simp) | exact RV.loadS rfl (by assumption) (by omega) (by simp)) (.none rfl) rfl ?_
              refine AO.val (by first | exact RV.subIn rfl rfl (by omega) | exact RV.sub rfl rfl) (.none rfl) rfl ?_
              refine AO.val (by first | exact RV.fieldAddr rfl | exact RV.fieldAddrA rfl) (.none rfl) rfl ?_
              refine AO.effN (EF.storeO rfl rfl rfl rfl rfl rfl) (.none rfl) ?_
              rintro _ _ rfl
              refine AO.nil ?_
              -- ways meet at Jc0Jc1fJc4T
              refine AK.weak (.cons (by exact rfl) (.cons (by exact rfl) (.cons (by exact rfl) (.cons (by exact rfl) .nil)))) (by rw [show (if 0 < (leftQ L r b (max n (min now 1073741824)) (findQ L src)) then (leftQ L r b (max n (min now 1073741824)) (findQ L src)) - 1 else (leftQ L r b (max n (min now 1073741824)) (findQ L src))) = (leftQ L r b (max n (min now 1073741824)) (findQ L src)) - 1 from if_pos (by assumption)]; exact List.Sublist.refl _) (hjc7 () ?_)
              · try dsimp only
                all_goals trivial
            · intro hc12
              try simp only [decide_eq_true_eq, decide_eq_false_iff_not, Bool.not_eq_true', Bool.not_eq_false', beq_iff_eq] at hc12
              refine AK.skip ?_
              -- ways meet at Jc0Jc1fJc4F
              refine AK.weak (.cons (by exact rfl) (.cons (by exact rfl) (.cons (by exact rfl) (.cons (by exact rfl) .nil)))) (by rw [show (if 0 < (leftQ L r b (max n (min now 1073741824)) (findQ L src)) then (leftQ L r b (max n (min now 1073741824)) (findQ L src)) - 1 else (leftQ L r b (max n (min now 1073741824)) (findQ L src))) = (leftQ L r b (max n (min now 1073741824)) (findQ L src)) from if_neg (by assumption)]; exact List.Sublist.refl _) (hjc7 () ?_)
              · try dsimp only
                all_goals trivial
        · intro hjc4
          try dsimp only at hjc4
          refine AK.condF rfl ?_
          refine AK.skip ?_
          -- ways meet at Jc0Jc1f
          refine AK.weak (.cons (by exact rfl) (.cons (by exact rfl) (.cons (by exact rfl) (.cons (by exact rfl) .nil)))) (by first | exact SubO.sub | exact List.Sublist.refl _ | exact .cons _ (List.Sublist.refl _) | exact .cons _ (.cons _ (List.Sublist.refl _)) | exact .cons _ (.cons _ (.cons _ (List.Sublist.refl _)))) (hjc4 (findQ L src) ?_)
          · try dsimp only
            exact .inl ⟨by omega, rfl⟩
    · intro hjc1
      try dsimp only at hjc1
      refine AK.cond rfl ?_ ?_
      · intro hc13
        try simp only [decide_eq_true_eq, decide_eq_false_iff_not, Bool.not_eq_true', Bool.not_eq_false', beq_iff_eq] at hc13
        have hlb := hLb (findQ L src) (by omega) (by omega)
        refine AK.seq ?_
        refine AK.region ?_
        refine AO.val (RV.move rfl) (.none rfl) rfl ?_
        refine AO.val (RV.nilCheck rfl) (.none rfl) rfl ?_
        refine AO.val (by first | exact RV.fieldAddr rfl | exact RV.fieldAddrA rfl) (.none rfl) rfl ?_
        refine AO.val (by first | exact RV.loadO rfl rfl (by simp) | exact RV.loadSF rfl (by assumption) (fun _ => rfl) (by omega) rfl rfl (by simp) | exact RV.loadS rfl (by assumption) (by omega) (by simp)) (.none rfl) rfl ?_
        refine AO.val (RV.move rfl) (.none rfl) rfl ?_
        refine AO.val (by first | exact RV.indexS rfl rfl (by assumption) (by omega) rfl | exact RV.indexAddr rfl rfl (by omega)) (.none rfl) rfl ?_
        refine AO.val (by first | exact RV.fieldAddr rfl | exact RV.fieldAddrA rfl) (.none rfl) rfl ?_
        refine AO.val (by first | exact RV.loadO rfl rfl (by simp) | exact RV.loadSF rfl (by assumption) (fun _ => rfl) (by omega) rfl rfl (by simp) | exact RV.loadS rfl (by assumption) (by omega) (by simp)) (.none rfl) rfl ?_
        refine AO.val (by first | exact RV.fieldAddr rfl | exact RV.fieldAddrA rfl) (.none rfl) rfl ?_
        refine AO.effN (EF.storeO rfl rfl rfl rfl rfl rfl) (.none rfl) ?_
        rintro _ _ rfl
        refine AO.nil ?_
        refine AK.seq ?_
        refine AK.seq ?_
        refine AK.region ?_
        refine AO.val (RV.move rfl) (.none rfl) rfl ?_
        refine AO.val (RV.nilCheck rfl) (.none rfl) rfl ?_
        refine AO.val (by first | exact RV.fieldAddr rfl | exact RV.fieldAddrA rfl) (.none rfl) rfl ?_
        refine AO.val (by first | exact RV.loadO rfl rfl (by simp) | exact RV.loadSF rfl (by assumption) (fun _ => rfl) (by omega) rfl rfl (by simp) | exact RV.loadS rfl (by assumption) (by omega) (by simp)) (.none rfl) rfl ?_
        refine AO.val (RV.move rfl) (.none rfl) rfl ?_
        refine AO.val (by first | exact RV.indexS rfl rfl (by assumption) (by omega) rfl | exact RV.indexAddr rfl rfl (by omega)) (.none rfl) rfl ?_
        refine AO.val (by first | exact RV.fieldAddr rfl | exact RV.fieldAddrA rfl) (.none rfl) rfl ?_
        refine AO.val (by first | exact RV.loadO rfl rfl (by simp) | exact RV.loadSF rfl (by assumption) (fun _ => rfl) (by omega) rfl rfl (by simp) | exact RV.loadS rfl (by assumption) (by omega) (by simp)) (.none rfl) rfl ?_
        refine AO.val (RV.assign rfl) (.none rfl) rfl ?_
        refine AO.nil ?_
        refine AK.block ?_
        refine AK.loop (α := Int × Int) (E := fun (j, a) => [(0, .pointer (some ⟨q, 0, none⟩)), (1, .int .u32 src), (7, .int .i64 (findQ L src)), (8, .pointer (some ⟨b8, 0, none⟩)), (9, .int .i64 ((lget L (findQ L src)).2.2 + j))]) (H := fun (j, a) => (b8, Blk.cells [.int .u32 src, .int .i64 a, .int .i64 (max n (min now 1073741824))] 43 (0, 0)) :: (pre ++ ((q, Blk.cells [.int .i64 z, .int .i64 r, .int .i64 b, .int .i64 (max n (min now 1073741824)), .slice A L.length cap] 36 (0, 0)) :: h))) (Inv := fun (j, a) => 0 ≤ j ∧ a = (lget L (findQ L src)).2.1 + j * r ∧ (j ≤ (max n (min now 1073741824)) - (lget L (findQ L src)).2.2 ∨ j = 0) ∧ (j = 0 ∨ (a - r < b ∧ 1 ≤ r)) ∧ 0 ≤ a ∧ a ≤ 3000) (μ := fun (j, a) => ((max n (min now 1073741824)) - ((lget L (findQ L src)).2.2 + j)).toNat) (0, (lget L (findQ L src)).2.1) ?_ (.cons (by exact rfl) (.cons (by exact rfl) (.cons (by exact rfl) (.cons (by exact rfl) (.cons (by rw [Int.add_zero]; exact rfl) .nil))))) ?_ ?_
        · exact ⟨by omega, by rw [Int.zero_mul]; omega, .inr rfl, .inl rfl, by omega, by omega⟩
        · exact List.Sublist.refl _
        rintro ⟨j, a⟩ ⟨hj0, hja, hj1, hj2, ha0, ha1⟩ hih0
        try dsimp only at hih0 ⊢
        refine AK.seq ?_
        refine AK.seq ?_
        refine AK.draw [] [] mixed ?_
        refine AD.takeP 0 rfl (by kernel_rfl) (RV.move rfl) (.none rfl) rfl ?_
        refine AD.takeP 1 rfl (by kernel_rfl) (RV.move rfl) (.none rfl) rfl ?_
        refine AD.takeP 2 rfl (by kernel_rfl) (RV.nilCheck rfl) (.none rfl) rfl ?_
        refine AD.takeP 3 rfl (by kernel_rfl) (by first | exact RV.fieldAddr rfl | exact RV.fieldAddrA rfl) (.none rfl) rfl ?_
        refine AD.take 4 rfl (by kernel_rfl) (by first | exact RV.loadO rfl rfl (by simp) | exact RV.loadSF rfl (by assumption) (fun _ => rfl) (by omega) rfl rfl (by simp) | exact RV.loadS rfl (by assumption) (by omega) (by simp)) (.none rfl) rfl ?_
        refine AD.takeP 5 rfl (by kernel_rfl) (RV.lss rfl rfl) (.none rfl) rfl ?_
        refine AD.takeP 6 rfl (by kernel_rfl) (RV.move rfl) (.none rfl) rfl ?_
        refine AD.caseG (d := 63) (j := 6) rfl rfl ?_ ?_
        · intro hg14
          try simp only [decide_eq_true_eq, decide_eq_false_iff_not, Bool.not_eq_true', Bool.not_eq_false', beq_iff_eq] at hg14
          refine AD.takeP 7 rfl (by kernel_rfl) (by first | exact RV.fieldAddr rfl | exact RV.fieldAddrA rfl) (.some rfl rfl rfl rfl) rfl ?_
          refine AD.take 8 rfl (by kernel_rfl) (by first | exact RV.loadO rfl rfl (by simp) | exact RV.loadSF rfl (by assumption) (fun _ => rfl) (by omega) rfl rfl (by simp) | exact RV.loadS rfl (by assumption) (by omega) (by simp)) (.some rfl rfl rfl rfl) rfl ?_
          refine AD.takeP 9 rfl (by kernel_rfl) (RV.move rfl) (.some rfl rfl rfl rfl) rfl ?_
          refine AD.takeP 10 rfl (by kernel_rfl) (RV.nilCheck rfl) (.some rfl rfl rfl rfl) rfl ?_
          refine AD.takeP 11 rfl (by kernel_rfl) (by first | exact RV.fieldAddr rfl | exact RV.fieldAddrA rfl) (.some rfl rfl rfl rfl) rfl ?_
          refine AD.take 12 rfl (by kernel_rfl) (by first | exact RV.loadO rfl rfl (by simp) | exact RV.loadSF rfl (by assumption) (fun _ => rfl) (by omega) rfl rfl (by simp) | exact RV.loadS rfl (by assumption) (by omega) (by simp)) (.some rfl rfl rfl rfl) rfl ?_
          refine AD.takeP 13 rfl (by kernel_rfl) (RV.lss rfl rfl) (.some rfl rfl rfl rfl) rfl ?_
          refine AD.takeP 14 rfl (by kernel_rfl) (RV.pickT rfl rfl) (.none rfl) rfl ?_
          refine AD.takeP 15 rfl (by kernel_rfl) (RV.move rfl) (.none rfl) rfl ?_
          refine AD.caseG (d := 72) (j := 15) rfl rfl ?_ ?_
          · intro hg15
            try simp only [decide_eq_true_eq, decide_eq_false_iff_not, Bool.not_eq_true', Bool.not_eq_false', beq_iff_eq] at hg15
            refine AD.takeP 16 rfl (by kernel_rfl) (RV.move rfl) (.some rfl rfl rfl rfl) rfl ?_
            refine AD.takeP 17 rfl (by kernel_rfl) (RV.nilCheck rfl) (.some rfl rfl rfl rfl) rfl ?_
            refine AD.takeP 18 rfl (by kernel_rfl) (by first | exact RV.fieldAddr rfl | exact RV.fieldAddrA rfl) (.some rfl rfl rfl rfl) rfl ?_
            refine AD.take 19 rfl (by kernel_rfl) (by first | exact RV.loadO rfl rfl (by simp) | exact RV.loadSF rfl (by assumption) (fun _ => rfl) (by omega) rfl rfl (by simp) | exact RV.loadS rfl (by assumption) (by omega) (by simp)) (.some rfl rfl rfl rfl) rfl ?_
            refine AD.takeP 20 rfl (by kernel_rfl) (RV.gtr rfl rfl) (.some rfl rfl rfl rfl) rfl ?_
            refine AD.takeP 21 rfl (by kernel_rfl) (RV.pickT rfl rfl) (.none rfl) rfl ?_
            refine AD.done (by kernel_rfl) ?_
            refine AK.cond rfl ?_ ?_
            · intro hc16
              try simp only [decide_eq_true_eq, decide_eq_false_iff_not, Bool.not_eq_true', Bool.not_eq_false', beq_iff_eq] at hc16
              refine AK.skip ?_
              refine AK.seq ?_
              refine AK.block ?_
              refine AK.draw [] [8] mixed ?_
              refine AD.takeP 0 rfl (by kernel_rfl) (by first | exact RV.fieldAddr rfl | exact RV.fieldAddrA rfl) (.none rfl) rfl ?_
              refine AD.take 1 rfl (by kernel_rfl) (by first | exact RV.loadO rfl rfl (by simp) | exact RV.loadSF rfl (by assumption) (fun _ => rfl) (by omega) rfl rfl (by simp) | exact RV.loadS rfl (by assumption) (by omega) (by simp)) (.none rfl) rfl ?_
              refine AD.takeP 2 rfl (by kernel_rfl) (RV.move rfl) (.none rfl) rfl ?_
              refine AD.takeP 3 rfl (by kernel_rfl) (RV.nilCheck rfl) (.none rfl) rfl ?_
              refine AD.takeP 4 rfl (by kernel_rfl) (by first | exact RV.fieldAddr rfl | exact RV.fieldAddrA rfl) (.none rfl) rfl ?_
              refine AD.take 5 rfl (by kernel_rfl) (by first | exact RV.loadO rfl rfl (by simp) | exact RV.loadSF rfl (by assumption) (fun _ => rfl) (by omega) rfl rfl (by simp) | exact RV.loadS rfl (by assumption) (by omega) (by simp)) (.none rfl) rfl ?_
              refine AD.takeP 6 rfl (by kernel_rfl) (by first | exact RV.addIn rfl rfl (by omega) | exact RV.add rfl rfl) (.none rfl) rfl ?_
              refine AD.takeP 7 rfl (by kernel_rfl) (by first | exact RV.fieldAddr rfl | exact RV.fieldAddrA rfl) (.none rfl) rfl ?_
              refine AD.one 8 (by kernel_rfl) (AE.effN rfl (EF.storeO rfl rfl rfl rfl rfl rfl) (.none rfl) ?_)
              rintro _ _ rfl
              refine ⟨.inl (by kernel_rfl), ?_⟩
              refine AD.done (by kernel_rfl) ?_
              refine AK.inBlock ?_
              refine AK.region ?_
              refine AO.val (RV.move rfl) (.none rfl) rfl ?_
              refine AO.val (by first | exact RV.addIn rfl rfl (by omega) | exact RV.add rfl rfl) (.none rfl) rfl ?_
              refine AO.val (RV.assign rfl) (.none rfl) rfl ?_
              refine AO.nil ?_
              -- round ends at Jc0TL0ttT
              refine AK.weak (.cons (by exact rfl) (.cons (by exact rfl) (.cons (by exact rfl) (.cons (by exact rfl) (.cons (by rw [← Int.add_assoc]; exact rfl) .nil))))) (by exact List.Sublist.refl _) (hih0 (j + 1, a + r) ?_ ?_)
              · try dsimp only
                exact ⟨by omega, by rw [Int.add_mul, Int.one_mul]; omega, by omega, .inr ⟨by omega, by omega⟩, by omega, by omega⟩
              · try dsimp only
                omega
            · intro hc16
              try simp only [decide_eq_true_eq, decide_eq_false_iff_not, Bool.not_eq_true', Bool.not_eq_false', beq_iff_eq] at hc16
              refine AK.exit rfl ?_
              refine AK.seq ?_
              refine AK.draw [] [] mixed ?_
              refine AD.takeP 0 rfl (by kernel_rfl) (by first | exact RV.fieldAddr rfl | exact RV.fieldAddrA rfl) (.none rfl) rfl ?_
              refine AD.take 1 rfl (by kernel_rfl) (by first | exact RV.loadO rfl rfl (by simp) | exact RV.loadSF rfl (by assumption) (fun _ => rfl) (by omega) rfl rfl (by simp) | exact RV.loadS rfl (by assumption) (by omega) (by simp)) (.none rfl) rfl ?_
              refine AD.takeP 2 rfl (by kernel_rfl) (RV.move rfl) (.none rfl) rfl ?_
              refine AD.takeP 3 rfl (by kernel_rfl) (RV.nilCheck rfl) (.none rfl) rfl ?_
              refine AD.takeP 4 rfl (by kernel_rfl) (by first | exact RV.fieldAddr rfl | exact RV.fieldAddrA rfl) (.none rfl) rfl ?_
              refine AD.take 5 rfl (by kernel_rfl) (by first | exact RV.loadO rfl rfl (by simp) | exact RV.loadSF rfl (by assumption) (fun _ => rfl) (by omega) rfl rfl (by simp) | exact RV.loadS rfl (by assumption) (by omega) (by simp)) (.none rfl) rfl ?_
              refine AD.takeP 6 rfl (by kernel_rfl) (RV.gtr rfl rfl) (.none rfl) rfl ?_
              refine AD.done (by kernel_rfl) ?_
              refine AK.cond rfl ?_ ?_
              · intro hc17
                try simp only [decide_eq_true_eq, decide_eq_false_iff_not, Bool.not_eq_true', Bool.not_eq_false', beq_iff_eq] at hc17
                refine AK.region ?_
                refine AO.val (RV.move rfl) (.none rfl) rfl ?_
                refine AO.val (RV.nilCheck rfl) (.none rfl) rfl ?_
                refine AO.val (by first | exact RV.fieldAddr rfl | exact RV.fieldAddrA rfl) (.none rfl) rfl ?_
                refine AO.val (by first | exact RV.loadO rfl rfl (by simp) | exact RV.loadSF rfl (by assumption) (fun _ => rfl) (by omega) rfl rfl (by simp) | exact RV.loadS rfl (by assumption) (by omega) (by simp)) (.none rfl) rfl ?_
                refine AO.val (by first | exact RV.fieldAddr rfl | exact RV.fieldAddrA rfl) (.none rfl) rfl ?_
                refine AO.effN (EF.storeO rfl rfl rfl rfl rfl rfl) (.none rfl) ?_
                rintro _ _ rfl
                refine AO.nil ?_
                -- ways meet at Jc0TL0ttFT
                have hfl := fill_loop (a := (lget L (findQ L src)).2.1) (d := (max n (min now 1073741824)) - (lget L (findQ L src)).2.2) (r := r) (b := b) (j := j) hr hb (by omega) hj0 (by omega) (by omega) (hj2.imp id fun h9 => ⟨by rw [Int.sub_mul]; omega, h9.2⟩) (by omega)
                have hlq : (leftQ L r b (max n (min now 1073741824)) (findQ L src)) = min a b := by unfold leftQ; rw [if_pos (by omega), ← hfl, hja]
                refine AK.weak (.cons (by exact rfl) (.cons (by exact rfl) (.cons (by exact rfl) (.cons (by exact rfl) .nil)))) (by rw [show (leftQ L r b (max n (min now 1073741824)) (findQ L src)) = b by rw [hlq]; omega]; exact List.Sublist.refl _) (hjc1 () ?_)
                · try dsimp only
                  all_goals trivial
              · intro hc17
                try simp only [decide_eq_true_eq, decide_eq_false_iff_not, Bool.not_eq_true', Bool.not_eq_false', beq_iff_eq] at hc17
                refine AK.skip ?_
                -- ways meet at Jc0TL0ttFF
                have hfl := fill_loop (a := (lget L (findQ L src)).2.1) (d := (max n (min now 1073741824)) - (lget L (findQ L src)).2.2) (r := r) (b := b) (j := j) hr hb (by omega) hj0 (by omega) (by omega) (hj2.imp id fun h9 => ⟨by rw [Int.sub_mul]; omega, h9.2⟩) (by omega)
                have hlq : (leftQ L r b (max n (min now 1073741824)) (findQ L src)) = min a b := by unfold leftQ; rw [if_pos (by omega), ← hfl, hja]
                refine AK.weak (.cons (by exact rfl) (.cons (by exact rfl) (.cons (by exact rfl) (.cons (by exact rfl) .nil)))) (by rw [show (leftQ L r b (max n (min now 1073741824)) (findQ L src)) = a by rw [hlq]; omega]; exact List.Sublist.refl _) (hjc1 () ?_)
                · try dsimp only
                  all_goals trivial
          · intro hg15
            try simp only [decide_eq_true_eq, decide_eq_false_iff_not, Bool.not_eq_true', Bool.not_eq_false', beq_iff_eq] at hg15
            refine AD.pass 16 rfl (by kernel_rfl) (.some rfl rfl rfl rfl) rfl ?_
            refine AD.pass 17 rfl (by kernel_rfl) (.some rfl rfl rfl rfl) rfl ?_
            refine AD.pass 18 rfl (by kernel_rfl) (.some rfl rfl rfl rfl) rfl ?_
            refine AD.pass 19 rfl (by kernel_rfl) (.some rfl rfl rfl rfl) rfl ?_
            refine AD.pass 20 rfl (by kernel_rfl) (.some rfl rfl rfl rfl) rfl ?_
            refine AD.takeP 21 rfl (by kernel_rfl) (RV.pickF rfl rfl) (.none rfl) rfl ?_
            refine AD.done (by kernel_rfl) ?_
            refine AK.condF rfl ?_
            refine AK.exit rfl ?_
            refine AK.seq ?_
            refine AK.draw [] [] mixed ?_
            refine AD.takeP 0 rfl (by kernel_rfl) (by first | exact RV.fieldAddr rfl | exact RV.fieldAddrA rfl) (.none rfl) rfl ?_
            refine AD.take 1 rfl (by kernel_rfl) (by first | exact RV.loadO rfl rfl (by simp) | exact RV.loadSF rfl (by assumption) (fun _ => rfl) (by omega) rfl rfl (by simp) | exact RV.loadS rfl (by assumption) (by omega) (by simp)) (.none rfl) rfl ?_
            refine AD.takeP 2 rfl (by kernel_rfl) (RV.move rfl) (.none rfl) rfl ?_
            refine AD.takeP 3 rfl (by kernel_rfl) (RV.nilCheck rfl) (.none rfl) rfl ?_
            refine AD.takeP 4 rfl (by kernel_rfl) (by first | exact RV.fieldAddr rfl | exact RV.fieldAddrA rfl) (.none rfl) rfl ?_
            refine AD.take 5 rfl (by kernel_rfl) (by first | exact RV.loadO rfl rfl (by simp) | exact RV.loadSF rfl (by assumption) (fun _ => rfl) (by omega) rfl rfl (by simp) | exact RV.loadS rfl (by assumption) (by omega) (by simp)) (.none rfl) rfl ?_
            refine AD.takeP 6 rfl (by kernel_rfl) (RV.gtr rfl rfl) (.none rfl) rfl ?_
            refine AD.done (by kernel_rfl) ?_
            refine AK.cond rfl ?_ ?_
            · intro hc18
              try simp only [decide_eq_true_eq, decide_eq_false_iff_not, Bool.not_eq_true', Bool.not_eq_false', beq_iff_eq] at hc18
              refine AK.region ?_
              refine AO.val (RV.move rfl) (.none rfl) rfl ?_
              refine AO.val (RV.nilCheck rfl) (.none rfl) rfl ?_
              refine AO.val (by first | exact RV.fieldAddr rfl | exact RV.fieldAddrA rfl) (.none rfl) rfl ?_
              refine AO.val (by first | exact RV.loadO rfl rfl (by simp) | exact RV.loadSF rfl (by assumption) (fun _ => rfl) (by omega) rfl rfl (by simp) | exact RV.loadS rfl (by assumption) (by omega) (by simp)) (.none rfl) rfl ?_
              refine AO.val (by first | exact RV.fieldAddr rfl | exact RV.fieldAddrA rfl) (.none rfl) rfl ?_
              refine AO.effN (EF.storeO rfl rfl rfl rfl rfl rfl) (.none rfl) ?_
              rintro _ _ rfl
              refine AO.nil ?_
              -- ways meet at Jc0TL0tfT
              have hfl := fill_loop (a := (lget L (findQ L src)).2.1) (d := (max n (min now 1073741824)) - (lget L (findQ L src)).2.2) (r := r) (b := b) (j := j) hr hb (by omega) hj0 (by omega) (by omega) (hj2.imp id fun h9 => ⟨by rw [Int.sub_mul]; omega, h9.2⟩) (by omega)
              have hlq : (leftQ L r b (max n (min now 1073741824)) (findQ L src)) = min a b := by unfold leftQ; rw [if_pos (by omega), ← hfl, hja]
              refine AK.weak (.cons (by exact rfl) (.cons (by exact rfl) (.cons (by exact rfl) (.cons (by exact rfl) .nil)))) (by rw [show (leftQ L r b (max n (min now 1073741824)) (findQ L src)) = b by rw [hlq]; omega]; exact List.Sublist.refl _) (hjc1 () ?_)
              · try dsimp only
                all_goals trivial
            · intro hc18
              try simp only [decide_eq_true_eq, decide_eq_false_iff_not, Bool.not_eq_true', Bool.not_eq_false', beq_iff_eq] at hc18
              refine AK.skip ?_
              -- ways meet at Jc0TL0tfF
              have hfl := fill_loop (a := (lget L (findQ L src)).2.1) (d := (max n (min now 1073741824)) - (lget L (findQ L src)).2.2) (r := r) (b := b) (j := j) hr hb (by omega) hj0 (by omega) (by omega) (hj2.imp id fun h9 => ⟨by rw [Int.sub_mul]; omega, h9.2⟩) (by omega)
              have hlq : (leftQ L r b (max n (min now 1073741824)) (findQ L src)) = min a b := by unfold leftQ; rw [if_pos (by omega), ← hfl, hja]
              refine AK.weak (.cons (by exact rfl) (.cons (by exact rfl) (.cons (by exact rfl) (.cons (by exact rfl) .nil)))) (by rw [show (leftQ L r b (max n (min now 1073741824)) (findQ L src)) = a by rw [hlq]; omega]; exact List.Sublist.refl _) (hjc1 () ?_)
              · try dsimp only
                all_goals trivial
        · intro hg14
          try simp only [decide_eq_true_eq, decide_eq_false_iff_not, Bool.not_eq_true', Bool.not_eq_false', beq_iff_eq] at hg14
          refine AD.pass 7 rfl (by kernel_rfl) (.some rfl rfl rfl rfl) rfl ?_
          refine AD.pass 8 rfl (by kernel_rfl) (.some rfl rfl rfl rfl) rfl ?_
          refine AD.pass 9 rfl (by kernel_rfl) (.some rfl rfl rfl rfl) rfl ?_
          refine AD.pass 10 rfl (by kernel_rfl) (.some rfl rfl rfl rfl) rfl ?_
          refine AD.pass 11 rfl (by kernel_rfl) (.some rfl rfl rfl rfl) rfl ?_
          refine AD.pass 12 rfl (by kernel_rfl) (.some rfl rfl rfl rfl) rfl ?_
          refine AD.pass 13 rfl (by kernel_rfl) (.some rfl rfl rfl rfl) rfl ?_
          refine AD.takeP 14 rfl (by kernel_rfl) (RV.pickF rfl rfl) (.none rfl) rfl ?_
          refine AD.takeP 15 rfl (by kernel_rfl) (RV.move rfl) (.none rfl) rfl ?_
          refine AD.pass 16 rfl (by kernel_rfl) (.some rfl rfl rfl rfl) rfl ?_
          refine AD.pass 17 rfl (by kernel_rfl) (.some rfl rfl rfl rfl) rfl ?_
          refine AD.pass 18 rfl (by kernel_rfl) (.some rfl rfl rfl rfl) rfl ?_
          refine AD.pass 19 rfl (by kernel_rfl) (.some rfl rfl rfl rfl) rfl ?_
          refine AD.pass 20 rfl (by kernel_rfl) (.some rfl rfl rfl rfl) rfl ?_
          refine AD.takeP 21 rfl (by kernel_rfl) (RV.pickF rfl rfl) (.none rfl) rfl ?_
          refine AD.done (by kernel_rfl) ?_
          refine AK.condF rfl ?_
          refine AK.exit rfl ?_
          refine AK.seq ?_
          refine AK.draw [] [] mixed ?_
          refine AD.takeP 0 rfl (by kernel_rfl) (by first | exact RV.fieldAddr rfl | exact RV.fieldAddrA rfl) (.none rfl) rfl ?_
          refine AD.take 1 rfl (by kernel_rfl) (by first | exact RV.loadO rfl rfl (by simp) | exact RV.loadSF rfl (by assumption) (fun _ => rfl) (by omega) rfl rfl (by simp) | exact RV.loadS rfl (by assumption) (by omega) (by simp)) (.none rfl) rfl ?_
          refine AD.takeP 2 rfl (by kernel_rfl) (RV.move rfl) (.none rfl) rfl ?_
          refine AD.takeP 3 rfl (by kernel_rfl) (RV.nilCheck rfl) (.none rfl) rfl ?_
          refine AD.takeP 4 rfl (by kernel_rfl) (by first | exact RV.fieldAddr rfl | exact RV.fieldAddrA rfl) (.none rfl) rfl ?_
          refine AD.take 5 rfl (by kernel_rfl) (by first | exact RV.loadO rfl rfl (by simp) | exact RV.loadSF rfl (by assumption) (fun _ => rfl) (by omega) rfl rfl (by simp) | exact RV.loadS rfl (by assumption) (by omega) (by simp)) (.none rfl) rfl ?_
          refine AD.takeP 6 rfl (by kernel_rfl) (RV.gtr rfl rfl) (.none rfl) rfl ?_
          refine AD.done (by kernel_rfl) ?_
          refine AK.cond rfl ?_ ?_
          · intro hc19
            try simp only [decide_eq_true_eq, decide_eq_false_iff_not, Bool.not_eq_true', Bool.not_eq_false', beq_iff_eq] at hc19
            refine AK.region ?_
            refine AO.val (RV.move rfl) (.none rfl) rfl ?_
            refine AO.val (RV.nilCheck rfl) (.none rfl) rfl ?_
            refine AO.val (by first | exact RV.fieldAddr rfl | exact RV.fieldAddrA rfl) (.none rfl) rfl ?_
            refine AO.val (by first | exact RV.loadO rfl rfl (by simp) | exact RV.loadSF rfl (by assumption) (fun _ => rfl) (by omega) rfl rfl (by simp) | exact RV.loadS rfl (by assumption) (by omega) (by simp)) (.none rfl) rfl ?_
            refine AO.val (by first | exact RV.fieldAddr rfl | exact RV.fieldAddrA rfl) (.none rfl) rfl ?_
            refine AO.effN (EF.storeO rfl rfl rfl rfl rfl rfl) (.none rfl) ?_
            rintro _ _ rfl
            refine AO.nil ?_
            -- ways meet at Jc0TL0fT
            have hfl := fill_loop (a := (lget L (findQ L src)).2.1) (d := (max n (min now 1073741824)) - (lget L (findQ L src)).2.2) (r := r) (b := b) (j := j) hr hb (by omega) hj0 (by omega) (by omega) (hj2.imp id fun h9 => ⟨by rw [Int.sub_mul]; omega, h9.2⟩) (by omega)
            have hlq : (leftQ L r b (max n (min now 1073741824)) (findQ L src)) = min a b := by unfold leftQ; rw [if_pos (by omega), ← hfl, hja]
            refine AK.weak (.cons (by exact rfl) (.cons (by exact rfl) (.cons (by exact rfl) (.cons (by exact rfl) .nil)))) (by rw [show (leftQ L r b (max n (min now 1073741824)) (findQ L src)) = b by rw [hlq]; omega]; exact List.Sublist.refl _) (hjc1 () ?_)
            · try dsimp only
              all_goals trivial
          · intro hc19
            try simp only [decide_eq_true_eq, decide_eq_false_iff_not, Bool.not_eq_true', Bool.not_eq_false', beq_iff_eq] at hc19
            refine AK.skip ?_
            -- ways meet at Jc0TL0fF
            have hfl := fill_loop (a := (lget L (findQ L src)).2.1) (d := (max n (min now 1073741824)) - (lget L (findQ L src)).2.2) (r := r) (b := b) (j := j) hr hb (by omega) hj0 (by omega) (by omega) (hj2.imp id fun h9 => ⟨by rw [Int.sub_mul]; omega, h9.2⟩) (by omega)
            have hlq : (leftQ L r b (max n (min now 1073741824)) (findQ L src)) = min a b := by unfold leftQ; rw [if_pos (by omega), ← hfl, hja]
            refine AK.weak (.cons (by exact rfl) (.cons (by exact rfl) (.cons (by exact rfl) (.cons (by exact rfl) .nil)))) (by rw [show (leftQ L r b (max n (min now 1073741824)) (findQ L src)) = a by rw [hlq]; omega]; exact List.Sublist.refl _) (hjc1 () ?_)
            · try dsimp only
              all_goals trivial
      · intro hc13
        try simp only [decide_eq_true_eq, decide_eq_false_iff_not, Bool.not_eq_true', Bool.not_eq_false', beq_iff_eq] at hc13
        refine AK.skip ?_
        -- ways meet at Jc0F
        refine AK.weak (.cons (by exact rfl) (.cons (by exact rfl) (.cons (by exact rfl) (.cons (by exact rfl) .nil)))) (by rw [show (leftQ L r b (max n (min now 1073741824)) (findQ L src)) = b by unfold leftQ; rw [if_neg (by omega)]]; exact List.Sublist.refl _) (hjc1 () ?_)
        · try dsimp only
          all_goals trivial
  · intro hjc0
    try dsimp only at hjc0
    refine AK.cond rfl ?_ ?_
    · intro hc20
      try simp only [decide_eq_true_eq, decide_eq_false_iff_not, Bool.not_eq_true', Bool.not_eq_false', beq_iff_eq] at hc20
      refine AK.region ?_
      refine AO.val (RV.move rfl) (.none rfl) rfl ?_
      refine AO.val (RV.move rfl) (.none rfl) rfl ?_
      refine AO.eff (EF.callF rfl (in_spec B _ _ _ _ (by decide))) (.none rfl) rfl ?_
      rintro _ _ ⟨rfl, rfl⟩
      refine AO.val (RV.nilCheck rfl) (.none rfl) rfl ?_
      refine AO.val (by first | exact RV.fieldAddr rfl | exact RV.fieldAddrA rfl) (.none rfl) rfl ?_
      refine AO.effN (EF.storeO rfl rfl rfl rfl rfl rfl) (.none rfl) ?_
      rintro _ _ rfl
      refine AO.nil ?_
      -- ways meet at T
      refine AK.weak (.cons (by exact rfl) (.cons (by exact rfl) .nil)) (by rw [show (max n (min now 1073741824)) = min (max now 0) 1073741824 by omega]; exact List.Sublist.refl _) (hjc0 () ?_)
      · try dsimp only
        all_goals trivial
    · intro hc20
      try simp only [decide_eq_true_eq, decide_eq_false_iff_not, Bool.not_eq_true', Bool.not_eq_false', beq_iff_eq] at hc20
      refine AK.skip ?_
      -- ways meet at F
      refine AK.weak (.cons (by exact rfl) (.cons (by exact rfl) .nil)) (by rw [show (max n (min now 1073741824)) = n by omega]; exact List.Sublist.refl _) (hjc0 () ?_)
      · try dsimp only
        all_goals trivial

end Go.Proofs.Ytdefjkokbffccaa
