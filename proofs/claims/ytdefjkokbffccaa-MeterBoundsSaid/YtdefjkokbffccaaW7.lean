/- Walks through the code: what each function that is named here gives back, from any memory that holds its arguments. Written by a program of the claim's author, out of the program's form in Lean. -/
import Derived.Test.YtdefjkokbffccaaW6
import Derived.Test.YtdefjkokbffccaaPlainQ49
set_option linter.unusedSimpArgs false
set_option linter.unusedVariables false
namespace Go.Proofs.Ytdefjkokbffccaa
open Go.Sep Go.Sep.Meter Go.RowKit Go.WideShapes Go.ChangeShapes

set_option maxHeartbeats 2000000 in
theorem does_law (B : World) (a b c look : Int) {A : Option Addr} {cap : Nat} (l : List Tell) (hcap : l.length ≤ cap) (hln : l.length ≤ 9223372036854775807) (hl : Src B [] A l.length 2 (flat encTe l)) (hlr : ∀ x ∈ l, 0 ≤ x.1 ∧ x.1 ≤ 4294967295) : Tri Try.prog B 4 [.int .i64 a, .int .i64 b, .int .i64 c, .slice A l.length cap, .int .u32 look] [] fun v h' => v = .bool true := by
  refine Tri.enter (n := 118) Try.func4 rfl rfl rfl ?_
  simp only [argsE, Nat.reduceAdd]
  try dsimp only [argsE]
  refine AK.seq ?_
  refine AK.region ?_
  refine AO.val (RV.assign rfl) (.none rfl) rfl ?_
  refine AO.nil ?_
  refine AK.seq ?_
  refine AK.region ?_
  refine AO.val (RV.move rfl) (.none rfl) rfl ?_
  refine AO.val (RV.move rfl) (.none rfl) rfl ?_
  refine AO.val (RV.move rfl) (.none rfl) rfl ?_
  refine AO.eff (EF.callF rfl (new_spec B _ a b c)) (.none rfl) rfl ?_
  rintro _ _ ⟨p, bm, rfl, rfl⟩
  refine AO.val (RV.move rfl) (.none rfl) rfl ?_
  refine AO.val (RV.move rfl) (.none rfl) rfl ?_
  refine AO.val (RV.move rfl) (.none rfl) rfl ?_
  refine AO.eff (EF.callF rfl (rnew_spec B _ a b c)) (.none rfl) rfl ?_
  rintro _ _ ⟨q, rfl, rfl⟩
  refine AO.val (RV.assign rfl) (.none rfl) rfl ?_
  refine AO.val (RV.assign rfl) (.none rfl) rfl ?_
  refine AO.nil ?_
  refine AK.seq ?_
  refine AK.seq ?_
  refine AK.region ?_
  refine AO.val (RV.move rfl) (.none rfl) rfl ?_
  refine AO.val (RV.eqlP rfl rfl) (.none rfl) rfl ?_
  refine AO.nil ?_
  refine AK.condF rfl ?_
  refine AK.skip ?_
  refine AK.seq ?_
  refine AK.seq ?_
  refine AK.region ?_
  refine AO.val (RV.assign rfl) (.none rfl) rfl ?_
  refine AO.nil ?_
  refine AK.block ?_
  refine AK.perm (h' := [(p, _), (bm, _), (q, _)]) (by exact (List.perm_append_comm (l₁ := [_]) (l₂ := [_, _]))) ?_
  refine AK.loop (α := Int × MS × List Tok × Option Addr × Nat × Own) (E := fun (i, s, L, Q, cq, D) => [(3, .slice A l.length cap), (4, .int .u32 look), (11, .pointer (some ⟨p, 0, none⟩)), (12, .pointer (some ⟨q, 0, none⟩)), (13, .int .i64 i)]) (H := fun (i, s, L, Q, cq, D) => (p, Blk.cells [.int .i64 (s).size, .int .i64 (s).rate, .int .i64 (s).burst, .int .i64 (s).now, .map (some bm)] 48 (0, 0)) :: (bm, mapB .u32 evB (s).l (s).c) :: (q, Blk.cells [.int .i64 (s).size, .int .i64 (s).rate, .int .i64 (s).burst, .int .i64 (s).now, .slice Q L.length cq] 36 (0, 0)) :: D) (Inv := fun (i, s, L, Q, cq, D) => 0 ≤ i ∧ i ≤ l.length ∧ RelM s L ∧ Src B D Q L.length 3 (flat encOn L) ∧ L.length ≤ cq ∧ L.length ≤ 64) (μ := fun (i, s, L, Q, cq, D) => (l.length - i).toNat) (0, newM a b c, [], none, 0, []) ?_ (.cons (by exact rfl) (.cons (by exact rfl) (.cons (by exact rfl) (.cons (by exact rfl) (.cons (by exact rfl) .nil))))) ?_ ?_
  · exact ⟨by omega, by omega, rel_new a b c, ⟨rfl, by simp [flat]⟩, Nat.le_refl 0, by simp⟩
  · exact List.Sublist.refl _
  rintro ⟨i, s, L, Q, cq, D⟩ ⟨hi0, hin, rm, hsq, hcq, hlq⟩ hih0
  try dsimp only at hih0 ⊢
  refine AK.seq ?_
  refine AK.seq ?_
  refine AK.region ?_
  refine AO.val (RV.move rfl) (.none rfl) rfl ?_
  refine AO.val (RV.move rfl) (.none rfl) rfl ?_
  refine AO.val (RV.lenS rfl) (.none rfl) rfl ?_
  refine AO.val (RV.lss rfl rfl) (.none rfl) rfl ?_
  refine AO.val (RV.move rfl) (.none rfl) rfl ?_
  refine AO.caseG rfl rfl rfl ?_ ?_
  · intro hg1
    try simp only [decide_eq_true_eq, decide_eq_false_iff_not, Bool.not_eq_true', Bool.not_eq_false', beq_iff_eq] at hg1
    refine AO.val (RV.move rfl) (.some rfl rfl rfl rfl) rfl ?_
    refine AO.val (RV.lss rfl rfl) (.some rfl rfl rfl rfl) rfl ?_
    refine AO.val (RV.pickT rfl rfl) (.none rfl) rfl ?_
    refine AO.nil ?_
    refine AK.cond rfl ?_ ?_
    · intro hc2
      try simp only [decide_eq_true_eq, decide_eq_false_iff_not, Bool.not_eq_true', Bool.not_eq_false', beq_iff_eq] at hc2
      have mi := rm.mi
      have hsz := mi.size
      have hrt := mi.rate
      have hbu := mi.burst
      have hnw := mi.now
      have hki : 0 ≤ (lget l i).1 ∧ (lget l i).1 ≤ 4294967295 := hlr _ (lget_in ⟨by omega, by omega⟩)
      refine AK.skip ?_
      refine AK.seq ?_
      refine AK.block ?_
      refine AK.seq ?_
      refine AK.seq ?_
      refine AK.draw [] [11, 23] mixed ?_
      refine AD.takeP 0 rfl (by kernel_rfl) (RV.move rfl) (.none rfl) rfl ?_
      refine AD.takeP 1 rfl (by kernel_rfl) (RV.move rfl) (.none rfl) rfl ?_
      refine AD.takeP 2 rfl (by kernel_rfl) (RV.move rfl) (.none rfl) rfl ?_
      refine AD.takeP 3 rfl (by kernel_rfl) (by first | exact RV.indexS rfl rfl (by assumption) (by omega) rfl | exact RV.indexAddr rfl rfl (by omega)) (.none rfl) rfl ?_
      refine AD.takeP 4 rfl (by kernel_rfl) (by first | exact RV.fieldAddr rfl | exact RV.fieldAddrA rfl) (.none rfl) rfl ?_
      refine AD.takeP 5 rfl (by kernel_rfl) (by first | exact RV.loadO rfl rfl (by simp) | exact RV.loadSF rfl (by assumption) (fun _ => rfl) (by omega) rfl rfl (by simp) | exact RV.loadS rfl (by assumption) (by omega) (by simp)) (.none rfl) rfl ?_
      refine AD.takeP 6 rfl (by kernel_rfl) (RV.move rfl) (.none rfl) rfl ?_
      refine AD.takeP 7 rfl (by kernel_rfl) (RV.move rfl) (.none rfl) rfl ?_
      refine AD.takeP 8 rfl (by kernel_rfl) (by first | exact RV.indexS rfl rfl (by assumption) (by omega) rfl | exact RV.indexAddr rfl rfl (by omega)) (.none rfl) rfl ?_
      refine AD.takeP 9 rfl (by kernel_rfl) (by first | exact RV.fieldAddr rfl | exact RV.fieldAddrA rfl) (.none rfl) rfl ?_
      refine AD.takeP 10 rfl (by kernel_rfl) (by first | exact RV.loadO rfl rfl (by simp) | exact RV.loadSF rfl (by assumption) (fun _ => rfl) (by omega) rfl rfl (by simp) | exact RV.loadS rfl (by assumption) (by omega) (by simp)) (.none rfl) rfl ?_
      refine AD.takeP 12 rfl (by kernel_rfl) (RV.move rfl) (.none rfl) rfl ?_
      refine AD.takeP 13 rfl (by kernel_rfl) (RV.move rfl) (.none rfl) rfl ?_
      refine AD.takeP 14 rfl (by kernel_rfl) (RV.move rfl) (.none rfl) rfl ?_
      refine AD.takeP 15 rfl (by kernel_rfl) (by first | exact RV.indexS rfl rfl (by assumption) (by omega) rfl | exact RV.indexAddr rfl rfl (by omega)) (.none rfl) rfl ?_
      refine AD.takeP 16 rfl (by kernel_rfl) (by first | exact RV.fieldAddr rfl | exact RV.fieldAddrA rfl) (.none rfl) rfl ?_
      refine AD.takeP 17 rfl (by kernel_rfl) (by first | exact RV.loadO rfl rfl (by simp) | exact RV.loadSF rfl (by assumption) (fun _ => rfl) (by omega) rfl rfl (by simp) | exact RV.loadS rfl (by assumption) (by omega) (by simp)) (.none rfl) rfl ?_
      refine AD.takeP 18 rfl (by kernel_rfl) (RV.move rfl) (.none rfl) rfl ?_
      refine AD.takeP 19 rfl (by kernel_rfl) (RV.move rfl) (.none rfl) rfl ?_
      refine AD.takeP 20 rfl (by kernel_rfl) (by first | exact RV.indexS rfl rfl (by assumption) (by omega) rfl | exact RV.indexAddr rfl rfl (by omega)) (.none rfl) rfl ?_
      refine AD.takeP 21 rfl (by kernel_rfl) (by first | exact RV.fieldAddr rfl | exact RV.fieldAddrA rfl) (.none rfl) rfl ?_
      refine AD.takeP 22 rfl (by kernel_rfl) (by first | exact RV.loadO rfl rfl (by simp) | exact RV.loadSF rfl (by assumption) (fun _ => rfl) (by omega) rfl rfl (by simp) | exact RV.loadS rfl (by assumption) (by omega) (by simp)) (.none rfl) rfl ?_
      refine AD.one 11 (by kernel_rfl) (AE.eff rfl (EF.callF rfl (ask_spec B [] _ p bm s mi rm.ks rm.st (lget l i).1 (lget l i).2.1)) (.none rfl) rfl ?_)
      rintro _ _ ⟨rfl, l2, hkp, rfl⟩
      simp only [List.nil_append, List.cons_append]
      refine ⟨.inl (by kernel_rfl), ?_⟩
      refine AD.one 23 (by kernel_rfl) (AE.eff rfl (EF.callF rfl (rask_spec B [(p, _), (bm, _)] D q s.size s.rate s.burst s.now L hsq (by omega) hsz hrt hbu hnw rm.bounds (lget l i).1 (lget l i).2.1)) (.none rfl) rfl ?_)
      rintro _ _ ⟨rfl, kk, Q2, cq2, p2, hgo, rfl, hs2, hc2⟩
      simp only [List.nil_append, List.cons_append]
      have rm2 : RelM (nextM s (lget l i).1 (lget l i).2.1 l2 s.c) (nextL L kk (lget l i).1 (leftQ L s.rate s.burst (max s.now (min (lget l i).2.1 1073741824)) (findQ L (lget l i).1)) (max s.now (min (lget l i).2.1 1073741824))) := by have := rel_next rm (lget l i).1 (lget l i).2.1 hkp hgo; rw [rm.left] at this; exact this
      have mi2 := rm2.mi
      have hl2 : (nextL L kk (lget l i).1 (leftQ L s.rate s.burst (max s.now (min (lget l i).2.1 1073741824)) (findQ L (lget l i).1)) (max s.now (min (lget l i).2.1 1073741824))).length ≤ 64 := by have h8 := rm2.len; have h9 := rm2.le; have := rm2.mi.size; omega
      refine ⟨.inl (by kernel_rfl), ?_⟩
      refine AD.takeP 24 rfl (by kernel_rfl) ((RV.neqB rfl rfl).to (v' := .bool false) (by rw [show leftM s (lget l i).1 (lget l i).2.1 = leftQ L s.rate s.burst (max s.now (min (lget l i).2.1 1073741824)) (findQ L (lget l i).1) from rm.left _ _]; simp)) (.none rfl) rfl ?_
      refine AD.done (by kernel_rfl) ?_
      refine AK.condF rfl ?_
      refine AK.skip ?_
      refine AK.seq ?_
      refine AK.region ?_
      refine AO.val (RV.move rfl) (.none rfl) rfl ?_
      refine AO.val (RV.move rfl) (.none rfl) rfl ?_
      refine AO.eff (EF.callF rfl (left_spec B [] _ p bm (nextM s (lget l i).1 (lget l i).2.1 l2 s.c) mi2 look)) (.none rfl) rfl ?_
      rintro _ _ ⟨rfl, rfl⟩
      simp only [List.nil_append, List.cons_append]
      refine AO.val (RV.move rfl) (.none rfl) rfl ?_
      refine AO.val (RV.extract rfl rfl) (.none rfl) rfl ?_
      refine AO.val (RV.extract rfl rfl) (.none rfl) rfl ?_
      refine AO.val (RV.assign rfl) (.none rfl) rfl ?_
      refine AO.val (RV.assign rfl) (.none rfl) rfl ?_
      refine AO.nil ?_
      refine AK.seq ?_
      refine AK.region ?_
      refine AO.val (RV.move rfl) (.none rfl) rfl ?_
      refine AO.val (RV.move rfl) (.none rfl) rfl ?_
      refine AO.eff (EF.callF rfl (find_spec B [(p, _), (bm, _)] _ q s.size s.rate s.burst (max s.now (min (lget l i).2.1 1073741824)) (nextL L kk (lget l i).1 (leftQ L s.rate s.burst (max s.now (min (lget l i).2.1 1073741824)) (findQ L (lget l i).1)) (max s.now (min (lget l i).2.1 1073741824))) hs2 (by omega) look)) (.none rfl) rfl ?_
      rintro _ _ ⟨rfl, rfl⟩
      simp only [List.nil_append, List.cons_append]
      have hfq := findQ_in (nextL L kk (lget l i).1 (leftQ L s.rate s.burst (max s.now (min (lget l i).2.1 1073741824)) (findQ L (lget l i).1)) (max s.now (min (lget l i).2.1 1073741824))) look
      have hrf := rel_find rm2 (k := look)
      refine AO.val (RV.assign rfl) (.none rfl) rfl ?_
      refine AO.nil ?_
      refine AK.seq ?_
      refine AK.draw [] [] mixed ?_
      refine AD.takeP 0 rfl (by kernel_rfl) (RV.move rfl) (.none rfl) rfl ?_
      refine AD.takeP 1 rfl (by kernel_rfl) (RV.move rfl) (.none rfl) rfl ?_
      refine AD.takeP 2 rfl (by kernel_rfl) (RV.geq rfl rfl) (.none rfl) rfl ?_
      refine AD.takeP 3 rfl (by kernel_rfl) ((RV.neqB rfl rfl).to (v' := .bool false) (by rw [rel_find rm2]; simp)) (.none rfl) rfl ?_
      refine AD.takeP 4 rfl (by kernel_rfl) (RV.move rfl) (.none rfl) rfl ?_
      refine AD.takeP 5 rfl (by kernel_rfl) (RV.move rfl) (.some rfl rfl rfl rfl) rfl ?_
      refine AD.takeP 6 rfl (by kernel_rfl) (RV.move rfl) (.some rfl rfl rfl rfl) rfl ?_
      refine AD.caseG (d := 77) (j := 6) rfl rfl ?_ ?_
      · intro hg3
        try simp only [decide_eq_true_eq, decide_eq_false_iff_not, Bool.not_eq_true', Bool.not_eq_false', beq_iff_eq] at hg3
        have h0q := hrf.symm.trans hg3
        simp only [decide_eq_true_eq] at h0q
        refine AD.takeP 7 rfl (by kernel_rfl) (RV.move rfl) (.some rfl rfl rfl rfl) rfl ?_
        refine AD.takeP 8 rfl (by kernel_rfl) (RV.move rfl) (.some rfl rfl rfl rfl) rfl ?_
        refine AD.takeP 9 rfl (by kernel_rfl) (RV.nilCheck rfl) (.some rfl rfl rfl rfl) rfl ?_
        refine AD.takeP 10 rfl (by kernel_rfl) (by first | exact RV.fieldAddr rfl | exact RV.fieldAddrA rfl) (.some rfl rfl rfl rfl) rfl ?_
        refine AD.take 11 rfl (by kernel_rfl) (by first | exact RV.loadO rfl rfl (by simp) | exact RV.loadSF rfl (by assumption) (fun _ => rfl) (by omega) rfl rfl (by simp) | exact RV.loadS rfl (by assumption) (by omega) (by simp)) (.some rfl rfl rfl rfl) rfl ?_
        refine AD.takeP 12 rfl (by kernel_rfl) (RV.move rfl) (.some rfl rfl rfl rfl) rfl ?_
        refine AD.takeP 13 rfl (by kernel_rfl) (by first | exact RV.indexS rfl rfl (by assumption) (by omega) rfl | exact RV.indexAddr rfl rfl (by omega)) (.some rfl rfl rfl rfl) rfl ?_
        refine AD.takeP 14 rfl (by kernel_rfl) (by first | exact RV.fieldAddr rfl | exact RV.fieldAddrA rfl) (.some rfl rfl rfl rfl) rfl ?_
        refine AD.take 15 rfl (by kernel_rfl) (by first | exact RV.loadO rfl rfl (by simp) | exact RV.loadSF rfl (by assumption) (fun _ => rfl) (by omega) rfl rfl (by simp) | exact RV.loadS rfl (by assumption) (by omega) (by simp)) (.some rfl rfl rfl rfl) rfl ?_
        refine AD.takeP 16 rfl (by kernel_rfl) ((RV.neq rfl rfl).to (v' := .bool false) (by have := rel_at rm2 look (by assumption); simp [this])) (.some rfl rfl rfl rfl) rfl ?_
        refine AD.takeP 17 rfl (by kernel_rfl) (RV.pickT rfl rfl) (.some rfl rfl rfl rfl) rfl ?_
        refine AD.takeP 18 rfl (by kernel_rfl) (RV.pickF rfl rfl) (.none rfl) rfl ?_
        refine AD.takeP 19 rfl (by kernel_rfl) (RV.move rfl) (.none rfl) rfl ?_
        refine AD.takeP 20 rfl (by kernel_rfl) (RV.move rfl) (.some rfl rfl rfl rfl) rfl ?_
        refine AD.takeP 21 rfl (by kernel_rfl) (RV.not rfl) (.some rfl rfl rfl rfl) rfl ?_
        refine AD.takeP 22 rfl (by kernel_rfl) (RV.move rfl) (.some rfl rfl rfl rfl) rfl ?_
        refine AD.caseG (d := 93) (j := 22) rfl rfl ?_ ?_
        · intro hg4
          try simp only [decide_eq_true_eq, decide_eq_false_iff_not, Bool.not_eq_true', Bool.not_eq_false', beq_iff_eq] at hg4
          refine AD.takeP 23 rfl (by kernel_rfl) (RV.move rfl) (.some rfl rfl rfl rfl) rfl ?_
          refine AD.takeP 24 rfl (by kernel_rfl) ((RV.neq rfl rfl).to (v' := .bool false) (by rw [rel_off rm2 look (by simp_all)]; simp)) (.some rfl rfl rfl rfl) rfl ?_
          refine AD.takeP 25 rfl (by kernel_rfl) (RV.pickT rfl rfl) (.some rfl rfl rfl rfl) rfl ?_
          refine AD.takeP 26 rfl (by kernel_rfl) (RV.pickF rfl rfl) (.none rfl) rfl ?_
          refine AD.takeP 27 rfl (by kernel_rfl) (RV.move rfl) (.none rfl) rfl ?_
          refine AD.takeP 28 rfl (by kernel_rfl) (RV.move rfl) (.some rfl rfl rfl rfl) rfl ?_
          refine AD.takeP 30 rfl (by kernel_rfl) (RV.move rfl) (.some rfl rfl rfl rfl) rfl ?_
          refine AD.takeP 31 rfl (by kernel_rfl) (RV.nilCheck rfl) (.some rfl rfl rfl rfl) rfl ?_
          refine AD.takeP 32 rfl (by kernel_rfl) (by first | exact RV.fieldAddr rfl | exact RV.fieldAddrA rfl) (.some rfl rfl rfl rfl) rfl ?_
          refine AD.take 33 rfl (by kernel_rfl) (by first | exact RV.loadO rfl rfl (by simp) | exact RV.loadSF rfl (by assumption) (fun _ => rfl) (by omega) rfl rfl (by simp) | exact RV.loadS rfl (by assumption) (by omega) (by simp)) (.some rfl rfl rfl rfl) rfl ?_
          refine AD.takeP 34 rfl (by kernel_rfl) (RV.lenS rfl) (.some rfl rfl rfl rfl) rfl ?_
          refine AD.one 29 (by kernel_rfl) (AE.eff rfl (EF.callF rfl (len_spec B [] _ p bm (nextM s (lget l i).1 (lget l i).2.1 l2 s.c) mi2)) (.some rfl rfl rfl rfl) rfl ?_)
          rintro _ _ ⟨rfl, rfl⟩
          simp only [List.nil_append, List.cons_append]
          refine ⟨(by first | exact .inr fun x hx hM => hx | exact .inr fun x hx hM => List.mem_cons_of_mem _ hx | exact .inr fun x hx hM => List.mem_append_right _ hx), ?_⟩
          refine AD.takeP 35 rfl (by kernel_rfl) ((RV.neq rfl rfl).to (v' := .bool false) (by have := rm2.len; simp; omega)) (.some rfl rfl rfl rfl) rfl ?_
          refine AD.takeP 36 rfl (by kernel_rfl) (RV.pickF rfl rfl) (.none rfl) rfl ?_
          refine AD.takeP 37 rfl (by kernel_rfl) (RV.move rfl) (.none rfl) rfl ?_
          refine AD.takeP 38 rfl (by kernel_rfl) (RV.move rfl) (.some rfl rfl rfl rfl) rfl ?_
          refine AD.takeP 40 rfl (by kernel_rfl) (RV.move rfl) (.some rfl rfl rfl rfl) rfl ?_
          refine AD.takeP 41 rfl (by kernel_rfl) (RV.nilCheck rfl) (.some rfl rfl rfl rfl) rfl ?_
          refine AD.takeP 42 rfl (by kernel_rfl) (by first | exact RV.fieldAddr rfl | exact RV.fieldAddrA rfl) (.some rfl rfl rfl rfl) rfl ?_
          refine AD.take 43 rfl (by kernel_rfl) (by first | exact RV.loadO rfl rfl (by simp) | exact RV.loadSF rfl (by assumption) (fun _ => rfl) (by omega) rfl rfl (by simp) | exact RV.loadS rfl (by assumption) (by omega) (by simp)) (.some rfl rfl rfl rfl) rfl ?_
          refine AD.one 39 (by kernel_rfl) (AE.eff rfl (EF.callF rfl (now_spec B [] _ p bm (nextM s (lget l i).1 (lget l i).2.1 l2 s.c) mi2)) (.some rfl rfl rfl rfl) rfl ?_)
          rintro _ _ ⟨rfl, rfl⟩
          simp only [List.nil_append, List.cons_append]
          refine ⟨(by first | exact .inr fun x hx hM => hx | exact .inr fun x hx hM => List.mem_cons_of_mem _ hx | exact .inr fun x hx hM => List.mem_append_right _ hx), ?_⟩
          refine AD.takeP 44 rfl (by kernel_rfl) ((RV.neq rfl rfl).to (v' := .bool false) (by simp [nextM, tickM])) (.some rfl rfl rfl rfl) rfl ?_
          refine AD.takeP 45 rfl (by kernel_rfl) (RV.pickF rfl rfl) (.none rfl) rfl ?_
          refine AD.done (by kernel_rfl) ?_
          refine AK.condF rfl ?_
          refine AK.skip ?_
          refine AK.inBlock ?_
          refine AK.region ?_
          refine AO.val (RV.move rfl) (.none rfl) rfl ?_
          refine AO.val (by first | exact RV.addIn rfl rfl (by omega) | exact RV.add rfl rfl) (.none rfl) rfl ?_
          refine AO.val (RV.assign rfl) (.none rfl) rfl ?_
          refine AO.nil ?_
          -- round ends at L0tTtt
          refine AK.weak (.cons (by exact rfl) (.cons (by exact rfl) (.cons (by exact rfl) (.cons (by exact rfl) (.cons (by exact rfl) .nil))))) (by exact List.Sublist.refl _) (hih0 (i + 1, (nextM s (lget l i).1 (lget l i).2.1 l2 s.c), (nextL L kk (lget l i).1 (leftQ L s.rate s.burst (max s.now (min (lget l i).2.1 1073741824)) (findQ L (lget l i).1)) (max s.now (min (lget l i).2.1 1073741824))), Q2, cq2, p2 ++ D) ?_ ?_)
          · try dsimp only
            exact ⟨by omega, by omega, rm2, hs2, hc2, hl2⟩
          · try dsimp only
            omega
        · intro hg4
          try simp only [decide_eq_true_eq, decide_eq_false_iff_not, Bool.not_eq_true', Bool.not_eq_false', beq_iff_eq] at hg4
          refine AD.pass 23 rfl (by kernel_rfl) (.some rfl rfl rfl rfl) rfl ?_
          refine AD.pass 24 rfl (by kernel_rfl) (.some rfl rfl rfl rfl) rfl ?_
          refine AD.takeP 25 rfl (by kernel_rfl) (RV.pickF rfl rfl) (.some rfl rfl rfl rfl) rfl ?_
          refine AD.takeP 26 rfl (by kernel_rfl) (RV.pickF rfl rfl) (.none rfl) rfl ?_
          refine AD.takeP 27 rfl (by kernel_rfl) (RV.move rfl) (.none rfl) rfl ?_
          refine AD.takeP 28 rfl (by kernel_rfl) (RV.move rfl) (.some rfl rfl rfl rfl) rfl ?_
          refine AD.takeP 30 rfl (by kernel_rfl) (RV.move rfl) (.some rfl rfl rfl rfl) rfl ?_
          refine AD.takeP 31 rfl (by kernel_rfl) (RV.nilCheck rfl) (.some rfl rfl rfl rfl) rfl ?_
          refine AD.takeP 32 rfl (by kernel_rfl) (by first | exact RV.fieldAddr rfl | exact RV.fieldAddrA rfl) (.some rfl rfl rfl rfl) rfl ?_
          refine AD.take 33 rfl (by kernel_rfl) (by first | exact RV.loadO rfl rfl (by simp) | exact RV.loadSF rfl (by assumption) (fun _ => rfl) (by omega) rfl rfl (by simp) | exact RV.loadS rfl (by assumption) (by omega) (by simp)) (.some rfl rfl rfl rfl) rfl ?_
          refine AD.takeP 34 rfl (by kernel_rfl) (RV.lenS rfl) (.some rfl rfl rfl rfl) rfl ?_
          refine AD.one 29 (by kernel_rfl) (AE.eff rfl (EF.callF rfl (len_spec B [] _ p bm (nextM s (lget l i).1 (lget l i).2.1 l2 s.c) mi2)) (.some rfl rfl rfl rfl) rfl ?_)
          rintro _ _ ⟨rfl, rfl⟩
          simp only [List.nil_append, List.cons_append]
          refine ⟨(by first | exact .inr fun x hx hM => hx | exact .inr fun x hx hM => List.mem_cons_of_mem _ hx | exact .inr fun x hx hM => List.mem_append_right _ hx), ?_⟩
          refine AD.takeP 35 rfl (by kernel_rfl) ((RV.neq rfl rfl).to (v' := .bool false) (by have := rm2.len; simp; omega)) (.some rfl rfl rfl rfl) rfl ?_
          refine AD.takeP 36 rfl (by kernel_rfl) (RV.pickF rfl rfl) (.none rfl) rfl ?_
          refine AD.takeP 37 rfl (by kernel_rfl) (RV.move rfl) (.none rfl) rfl ?_
          refine AD.takeP 38 rfl (by kernel_rfl) (RV.move rfl) (.some rfl rfl rfl rfl) rfl ?_
          refine AD.takeP 40 rfl (by kernel_rfl) (RV.move rfl) (.some rfl rfl rfl rfl) rfl ?_
          refine AD.takeP 41 rfl (by kernel_rfl) (RV.nilCheck rfl) (.some rfl rfl rfl rfl) rfl ?_
          refine AD.takeP 42 rfl (by kernel_rfl) (by first | exact RV.fieldAddr rfl | exact RV.fieldAddrA rfl) (.some rfl rfl rfl rfl) rfl ?_
          refine AD.take 43 rfl (by kernel_rfl) (by first | exact RV.loadO rfl rfl (by simp) | exact RV.loadSF rfl (by assumption) (fun _ => rfl) (by omega) rfl rfl (by simp) | exact RV.loadS rfl (by assumption) (by omega) (by simp)) (.some rfl rfl rfl rfl) rfl ?_
          refine AD.one 39 (by kernel_rfl) (AE.eff rfl (EF.callF rfl (now_spec B [] _ p bm (nextM s (lget l i).1 (lget l i).2.1 l2 s.c) mi2)) (.some rfl rfl rfl rfl) rfl ?_)
          rintro _ _ ⟨rfl, rfl⟩
          simp only [List.nil_append, List.cons_append]
          refine ⟨(by first | exact .inr fun x hx hM => hx | exact .inr fun x hx hM => List.mem_cons_of_mem _ hx | exact .inr fun x hx hM => List.mem_append_right _ hx), ?_⟩
          refine AD.takeP 44 rfl (by kernel_rfl) ((RV.neq rfl rfl).to (v' := .bool false) (by simp [nextM, tickM])) (.some rfl rfl rfl rfl) rfl ?_
          refine AD.takeP 45 rfl (by kernel_rfl) (RV.pickF rfl rfl) (.none rfl) rfl ?_
          refine AD.done (by kernel_rfl) ?_
          refine AK.condF rfl ?_
          refine AK.skip ?_
          refine AK.inBlock ?_
          refine AK.region ?_
          refine AO.val (RV.move rfl) (.none rfl) rfl ?_
          refine AO.val (by first | exact RV.addIn rfl rfl (by omega) | exact RV.add rfl rfl) (.none rfl) rfl ?_
          refine AO.val (RV.assign rfl) (.none rfl) rfl ?_
          refine AO.nil ?_
          -- round ends at L0tTtf
          refine AK.weak (.cons (by exact rfl) (.cons (by exact rfl) (.cons (by exact rfl) (.cons (by exact rfl) (.cons (by exact rfl) .nil))))) (by exact List.Sublist.refl _) (hih0 (i + 1, (nextM s (lget l i).1 (lget l i).2.1 l2 s.c), (nextL L kk (lget l i).1 (leftQ L s.rate s.burst (max s.now (min (lget l i).2.1 1073741824)) (findQ L (lget l i).1)) (max s.now (min (lget l i).2.1 1073741824))), Q2, cq2, p2 ++ D) ?_ ?_)
          · try dsimp only
            exact ⟨by omega, by omega, rm2, hs2, hc2, hl2⟩
          · try dsimp only
            omega
      · intro hg3
        try simp only [decide_eq_true_eq, decide_eq_false_iff_not, Bool.not_eq_true', Bool.not_eq_false', beq_iff_eq] at hg3
        refine AD.pass 7 rfl (by kernel_rfl) (.some rfl rfl rfl rfl) rfl ?_
        refine AD.pass 8 rfl (by kernel_rfl) (.some rfl rfl rfl rfl) rfl ?_
        refine AD.pass 9 rfl (by kernel_rfl) (.some rfl rfl rfl rfl) rfl ?_
        refine AD.pass 10 rfl (by kernel_rfl) (.some rfl rfl rfl rfl) rfl ?_
        refine AD.pass 11 rfl (by kernel_rfl) (.some rfl rfl rfl rfl) rfl ?_
        refine AD.pass 12 rfl (by kernel_rfl) (.some rfl rfl rfl rfl) rfl ?_
        refine AD.pass 13 rfl (by kernel_rfl) (.some rfl rfl rfl rfl) rfl ?_
        refine AD.pass 14 rfl (by kernel_rfl) (.some rfl rfl rfl rfl) rfl ?_
        refine AD.pass 15 rfl (by kernel_rfl) (.some rfl rfl rfl rfl) rfl ?_
        refine AD.pass 16 rfl (by kernel_rfl) (.some rfl rfl rfl rfl) rfl ?_
        refine AD.takeP 17 rfl (by kernel_rfl) (RV.pickF rfl rfl) (.some rfl rfl rfl rfl) rfl ?_
        refine AD.takeP 18 rfl (by kernel_rfl) (RV.pickF rfl rfl) (.none rfl) rfl ?_
        refine AD.takeP 19 rfl (by kernel_rfl) (RV.move rfl) (.none rfl) rfl ?_
        refine AD.takeP 20 rfl (by kernel_rfl) (RV.move rfl) (.some rfl rfl rfl rfl) rfl ?_
        refine AD.takeP 21 rfl (by kernel_rfl) (RV.not rfl) (.some rfl rfl rfl rfl) rfl ?_
        refine AD.takeP 22 rfl (by kernel_rfl) (RV.move rfl) (.some rfl rfl rfl rfl) rfl ?_
        refine AD.caseG (d := 93) (j := 22) rfl rfl ?_ ?_
        · intro hg5
          try simp only [decide_eq_true_eq, decide_eq_false_iff_not, Bool.not_eq_true', Bool.not_eq_false', beq_iff_eq] at hg5
          refine AD.takeP 23 rfl (by kernel_rfl) (RV.move rfl) (.some rfl rfl rfl rfl) rfl ?_
          refine AD.takeP 24 rfl (by kernel_rfl) ((RV.neq rfl rfl).to (v' := .bool false) (by rw [rel_off rm2 look (by simp_all)]; simp)) (.some rfl rfl rfl rfl) rfl ?_
          refine AD.takeP 25 rfl (by kernel_rfl) (RV.pickT rfl rfl) (.some rfl rfl rfl rfl) rfl ?_
          refine AD.takeP 26 rfl (by kernel_rfl) (RV.pickF rfl rfl) (.none rfl) rfl ?_
          refine AD.takeP 27 rfl (by kernel_rfl) (RV.move rfl) (.none rfl) rfl ?_
          refine AD.takeP 28 rfl (by kernel_rfl) (RV.move rfl) (.some rfl rfl rfl rfl) rfl ?_
          refine AD.takeP 30 rfl (by kernel_rfl) (RV.move rfl) (.some rfl rfl rfl rfl) rfl ?_
          refine AD.takeP 31 rfl (by kernel_rfl) (RV.nilCheck rfl) (.some rfl rfl rfl rfl) rfl ?_
          refine AD.takeP 32 rfl (by kernel_rfl) (by first | exact RV.fieldAddr rfl | exact RV.fieldAddrA rfl) (.some rfl rfl rfl rfl) rfl ?_
          refine AD.take 33 rfl (by kernel_rfl) (by first | exact RV.loadO rfl rfl (by simp) | exact RV.loadSF rfl (by assumption) (fun _ => rfl) (by omega) rfl rfl (by simp) | exact RV.loadS rfl (by assumption) (by omega) (by simp)) (.some rfl rfl rfl rfl) rfl ?_
          refine AD.takeP 34 rfl (by kernel_rfl) (RV.lenS rfl) (.some rfl rfl rfl rfl) rfl ?_
          refine AD.one 29 (by kernel_rfl) (AE.eff rfl (EF.callF rfl (len_spec B [] _ p bm (nextM s (lget l i).1 (lget l i).2.1 l2 s.c) mi2)) (.some rfl rfl rfl rfl) rfl ?_)
          rintro _ _ ⟨rfl, rfl⟩
          simp only [List.nil_append, List.cons_append]
          refine ⟨(by first | exact .inr fun x hx hM => hx | exact .inr fun x hx hM => List.mem_cons_of_mem _ hx | exact .inr fun x hx hM => List.mem_append_right _ hx), ?_⟩
          refine AD.takeP 35 rfl (by kernel_rfl) ((RV.neq rfl rfl).to (v' := .bool false) (by have := rm2.len; simp; omega)) (.some rfl rfl rfl rfl) rfl ?_
          refine AD.takeP 36 rfl (by kernel_rfl) (RV.pickF rfl rfl) (.none rfl) rfl ?_
          refine AD.takeP 37 rfl (by kernel_rfl) (RV.move rfl) (.none rfl) rfl ?_
          refine AD.takeP 38 rfl (by kernel_rfl) (RV.move rfl) (.some rfl rfl rfl rfl) rfl ?_
          refine AD.takeP 40 rfl (by kernel_rfl) (RV.move rfl) (.some rfl rfl rfl rfl) rfl ?_
          refine AD.takeP 41 rfl (by kernel_rfl) (RV.nilCheck rfl) (.some rfl rfl rfl rfl) rfl ?_
          refine AD.takeP 42 rfl (by kernel_rfl) (by first | exact RV.fieldAddr rfl | exact RV.fieldAddrA rfl) (.some rfl rfl rfl rfl) rfl ?_
          refine AD.take 43 rfl (by kernel_rfl) (by first | exact RV.loadO rfl rfl (by simp) | exact RV.loadSF rfl (by assumption) (fun _ => rfl) (by omega) rfl rfl (by simp) | exact RV.loadS rfl (by assumption) (by omega) (by simp)) (.some rfl rfl rfl rfl) rfl ?_
          refine AD.one 39 (by kernel_rfl) (AE.eff rfl (EF.callF rfl (now_spec B [] _ p bm (nextM s (lget l i).1 (lget l i).2.1 l2 s.c) mi2)) (.some rfl rfl rfl rfl) rfl ?_)
          rintro _ _ ⟨rfl, rfl⟩
          simp only [List.nil_append, List.cons_append]
          refine ⟨(by first | exact .inr fun x hx hM => hx | exact .inr fun x hx hM => List.mem_cons_of_mem _ hx | exact .inr fun x hx hM => List.mem_append_right _ hx), ?_⟩
          refine AD.takeP 44 rfl (by kernel_rfl) ((RV.neq rfl rfl).to (v' := .bool false) (by simp [nextM, tickM])) (.some rfl rfl rfl rfl) rfl ?_
          refine AD.takeP 45 rfl (by kernel_rfl) (RV.pickF rfl rfl) (.none rfl) rfl ?_
          refine AD.done (by kernel_rfl) ?_
          refine AK.condF rfl ?_
          refine AK.skip ?_
          refine AK.inBlock ?_
          refine AK.region ?_
          refine AO.val (RV.move rfl) (.none rfl) rfl ?_
          refine AO.val (by first | exact RV.addIn rfl rfl (by omega) | exact RV.add rfl rfl) (.none rfl) rfl ?_
          refine AO.val (RV.assign rfl) (.none rfl) rfl ?_
          refine AO.nil ?_
          -- round ends at L0tTft
          refine AK.weak (.cons (by exact rfl) (.cons (by exact rfl) (.cons (by exact rfl) (.cons (by exact rfl) (.cons (by exact rfl) .nil))))) (by exact List.Sublist.refl _) (hih0 (i + 1, (nextM s (lget l i).1 (lget l i).2.1 l2 s.c), (nextL L kk (lget l i).1 (leftQ L s.rate s.burst (max s.now (min (lget l i).2.1 1073741824)) (findQ L (lget l i).1)) (max s.now (min (lget l i).2.1 1073741824))), Q2, cq2, p2 ++ D) ?_ ?_)
          · try dsimp only
            exact ⟨by omega, by omega, rm2, hs2, hc2, hl2⟩
          · try dsimp only
            omega
        · intro hg5
          try simp only [decide_eq_true_eq, decide_eq_false_iff_not, Bool.not_eq_true', Bool.not_eq_false', beq_iff_eq] at hg5
          refine AD.pass 23 rfl (by kernel_rfl) (.some rfl rfl rfl rfl) rfl ?_
          refine AD.pass 24 rfl (by kernel_rfl) (.some rfl rfl rfl rfl) rfl ?_
          refine AD.takeP 25 rfl (by kernel_rfl) (RV.pickF rfl rfl) (.some rfl rfl rfl rfl) rfl ?_
          refine AD.takeP 26 rfl (by kernel_rfl) (RV.pickF rfl rfl) (.none rfl) rfl ?_
          refine AD.takeP 27 rfl (by kernel_rfl) (RV.move rfl) (.none rfl) rfl ?_
          refine AD.takeP 28 rfl (by kernel_rfl) (RV.move rfl) (.some rfl rfl rfl rfl) rfl ?_
          refine AD.takeP 30 rfl (by kernel_rfl) (RV.move rfl) (.some rfl rfl rfl rfl) rfl ?_
          refine AD.takeP 31 rfl (by kernel_rfl) (RV.nilCheck rfl) (.some rfl rfl rfl rfl) rfl ?_
          refine AD.takeP 32 rfl (by kernel_rfl) (by first | exact RV.fieldAddr rfl | exact RV.fieldAddrA rfl) (.some rfl rfl rfl rfl) rfl ?_
          refine AD.take 33 rfl (by kernel_rfl) (by first | exact RV.loadO rfl rfl (by simp) | exact RV.loadSF rfl (by assumption) (fun _ => rfl) (by omega) rfl rfl (by simp) | exact RV.loadS rfl (by assumption) (by omega) (by simp)) (.some rfl rfl rfl rfl) rfl ?_
          refine AD.takeP 34 rfl (by kernel_rfl) (RV.lenS rfl) (.some rfl rfl rfl rfl) rfl ?_
          refine AD.one 29 (by kernel_rfl) (AE.eff rfl (EF.callF rfl (len_spec B [] _ p bm (nextM s (lget l i).1 (lget l i).2.1 l2 s.c) mi2)) (.some rfl rfl rfl rfl) rfl ?_)
          rintro _ _ ⟨rfl, rfl⟩
          simp only [List.nil_append, List.cons_append]
          refine ⟨(by first | exact .inr fun x hx hM => hx | exact .inr fun x hx hM => List.mem_cons_of_mem _ hx | exact .inr fun x hx hM => List.mem_append_right _ hx), ?_⟩
          refine AD.takeP 35 rfl (by kernel_rfl) ((RV.neq rfl rfl).to (v' := .bool false) (by have := rm2.len; simp; omega)) (.some rfl rfl rfl rfl) rfl ?_
          refine AD.takeP 36 rfl (by kernel_rfl) (RV.pickF rfl rfl) (.none rfl) rfl ?_
          refine AD.takeP 37 rfl (by kernel_rfl) (RV.move rfl) (.none rfl) rfl ?_
          refine AD.takeP 38 rfl (by kernel_rfl) (RV.move rfl) (.some rfl rfl rfl rfl) rfl ?_
          refine AD.takeP 40 rfl (by kernel_rfl) (RV.move rfl) (.some rfl rfl rfl rfl) rfl ?_
          refine AD.takeP 41 rfl (by kernel_rfl) (RV.nilCheck rfl) (.some rfl rfl rfl rfl) rfl ?_
          refine AD.takeP 42 rfl (by kernel_rfl) (by first | exact RV.fieldAddr rfl | exact RV.fieldAddrA rfl) (.some rfl rfl rfl rfl) rfl ?_
          refine AD.take 43 rfl (by kernel_rfl) (by first | exact RV.loadO rfl rfl (by simp) | exact RV.loadSF rfl (by assumption) (fun _ => rfl) (by omega) rfl rfl (by simp) | exact RV.loadS rfl (by assumption) (by omega) (by simp)) (.some rfl rfl rfl rfl) rfl ?_
          refine AD.one 39 (by kernel_rfl) (AE.eff rfl (EF.callF rfl (now_spec B [] _ p bm (nextM s (lget l i).1 (lget l i).2.1 l2 s.c) mi2)) (.some rfl rfl rfl rfl) rfl ?_)
          rintro _ _ ⟨rfl, rfl⟩
          simp only [List.nil_append, List.cons_append]
          refine ⟨(by first | exact .inr fun x hx hM => hx | exact .inr fun x hx hM => List.mem_cons_of_mem _ hx | exact .inr fun x hx hM => List.mem_append_right _ hx), ?_⟩
          refine AD.takeP 44 rfl (by kernel_rfl) ((RV.neq rfl rfl).to (v' := .bool false) (by simp [nextM, tickM])) (.some rfl rfl rfl rfl) rfl ?_
          refine AD.takeP 45 rfl (by kernel_rfl) (RV.pickF rfl rfl) (.none rfl) rfl ?_
          refine AD.done (by kernel_rfl) ?_
          refine AK.condF rfl ?_
          refine AK.skip ?_
          refine AK.inBlock ?_
          refine AK.region ?_
          refine AO.val (RV.move rfl) (.none rfl) rfl ?_
          refine AO.val (by first | exact RV.addIn rfl rfl (by omega) | exact RV.add rfl rfl) (.none rfl) rfl ?_
          refine AO.val (RV.assign rfl) (.none rfl) rfl ?_
          refine AO.nil ?_
          -- round ends at L0tTff
          refine AK.weak (.cons (by exact rfl) (.cons (by exact rfl) (.cons (by exact rfl) (.cons (by exact rfl) (.cons (by exact rfl) .nil))))) (by exact List.Sublist.refl _) (hih0 (i + 1, (nextM s (lget l i).1 (lget l i).2.1 l2 s.c), (nextL L kk (lget l i).1 (leftQ L s.rate s.burst (max s.now (min (lget l i).2.1 1073741824)) (findQ L (lget l i).1)) (max s.now (min (lget l i).2.1 1073741824))), Q2, cq2, p2 ++ D) ?_ ?_)
          · try dsimp only
            exact ⟨by omega, by omega, rm2, hs2, hc2, hl2⟩
          · try dsimp only
            omega
    · intro hc2
      try simp only [decide_eq_true_eq, decide_eq_false_iff_not, Bool.not_eq_true', Bool.not_eq_false', beq_iff_eq] at hc2
      refine AK.exit rfl ?_
      refine AK.seq ?_
      refine AK.region ?_
      refine AO.eff (EF.callF rfl (lives_spec B _)) (.none rfl) rfl ?_
      rintro _ _ rfl
      refine AO.val (RV.assign rfl) (.none rfl) rfl ?_
      refine AO.nil ?_
      -- at L0tF
      clear hih0
      refine AK.ret (h' := []) Try.func4 (.tmp rfl .nil) ?_ (List.nil_sublist _)
      rfl
  · intro hg1
    try simp only [decide_eq_true_eq, decide_eq_false_iff_not, Bool.not_eq_true', Bool.not_eq_false', beq_iff_eq] at hg1
    refine AO.pass (.some rfl rfl rfl rfl) rfl ?_
    refine AO.pass (.some rfl rfl rfl rfl) rfl ?_
    refine AO.val (RV.pickF rfl rfl) (.none rfl) rfl ?_
    refine AO.nil ?_
    refine AK.condF rfl ?_
    refine AK.exit rfl ?_
    refine AK.seq ?_
    refine AK.region ?_
    refine AO.eff (EF.callF rfl (lives_spec B _)) (.none rfl) rfl ?_
    rintro _ _ rfl
    refine AO.val (RV.assign rfl) (.none rfl) rfl ?_
    refine AO.nil ?_
    -- at L0f
    clear hih0
    refine AK.ret (h' := []) Try.func4 (.tmp rfl .nil) ?_ (List.nil_sublist _)
    rfl

set_option maxRecDepth 100000 in
theorem meterDoes_lifted (os : Os) (started : os.Started) (H : Type) (enc : TypeId × Value → H) :
    ReturnsInHanded {} Try.checked os 4 .any (Rows.meterDoesSpec.pre6 enc Try.prog Try.f4 Rows.meterDoesRow.domain false) (Rows.meterDoesSpec.post enc Try.prog Try.f4 false true false false) := by
  refine returnsInHanded_of_change (C := Try.checked) own_ started (by kernel_rfl) Try.func4
    (ChangeSpec.witness6 (enc := enc) (C := Try.checked) false ⟨#[], #[(Value.int IntKind.i64 0), (Value.int IntKind.i64 0), (Value.int IntKind.i64 0), (Value.slice none 0 0), (Value.int IntKind.u32 0)], []⟩ 8 (by kernel_rfl) (by kernel_rfl) (by kernel_rfl) (by kernel_rfl)) ?_
  intro W base args ds gs before hval0 hW hcnd _
  have hval : ∀ (j : Nat) t v, Try.f4.params[j]? = some t → args[j]? = some v → Value.okWide Try.prog W .any base t v := hval0
  have hW' := hW
  obtain ⟨p, q, hA0, hV, rfl, hfz, hnd⟩ := hW
  have hA : DataW.TrodAll enc Try.prog W 0 (fun _ => true) true Try.f4.params.toList args.toList ds p := hA0
  rw [Try.params4] at hA hval
  obtain ⟨args⟩ := args
  simp only at hA
  obtain ⟨v0, vs0, d0, ds0, p0, q0, e0a, e0b, e0c, t0, r0⟩ := trodAll_cons hA
  obtain ⟨v1, vs1, d1, ds1, p1, q1, e1a, e1b, e1c, t1, r1⟩ := trodAll_cons r0
  obtain ⟨v2, vs2, d2, ds2, p2, q2, e2a, e2b, e2c, t2, r2⟩ := trodAll_cons r1
  obtain ⟨v3, vs3, d3, ds3, p3, q3, e3a, e3b, e3c, t3, r3⟩ := trodAll_cons r2
  obtain ⟨v4, vs4, d4, ds4, p4, q4, e4a, e4b, e4c, t4, r4⟩ := trodAll_cons r3
  subst e0a e0b e0c
  subst e1a e1b e1c
  subst e2a e2b e2c
  subst e3a e3b e3c
  subst e4a e4b e4c
  obtain ⟨rfl, rfl, rfl⟩ := trodAll_nil r4
  obtain ⟨rfl, rfl⟩ := trodVars_none hV
  have hlt := hW'.lt
  have k0 : Value.okWide Try.prog W .any base 3 v0 := hval 0 _ v0 rfl rfl
  obtain ⟨a, w0, a_lo, a_hi⟩ := Dec.argI k0 t0
  have k1 : Value.okWide Try.prog W .any base 3 v1 := hval 1 _ v1 rfl rfl
  obtain ⟨b, w1, b_lo, b_hi⟩ := Dec.argI k1 t1
  have k2 : Value.okWide Try.prog W .any base 3 v2 := hval 2 _ v2 rfl rfl
  obtain ⟨c, w2, c_lo, c_hi⟩ := Dec.argI k2 t2
  have k3 : Value.okWide Try.prog W .any base 22 v3 := hval 3 _ v3 rfl rfl
  obtain ⟨l, w3, hl⟩ := Dec.argS k3 t3 ((Dec.struct (t := 31) (.cons (off := 0) (sz := 1) (by rfl) (by kernel_rfl) (Dec.int (t := 23) (k := .u32)) (.cons (off := 1) (sz := 1) (by rfl) (by kernel_rfl) (Dec.int (t := 3) (k := .i64)) .nil)) (by kernel_rfl))) (by decide)
  have k4 : Value.okWide Try.prog W .any base 23 v4 := hval 4 _ v4 rfl rfl
  obtain ⟨look, w4, look_lo, look_hi⟩ := Dec.argI k4 t4
  have htri : Tri Try.prog W 4 [v0, v1, v2, v3, v4] [] (fun v _ => v = .bool true) := by
    subst w0 w1 w2 w3 w4
    exact does_law W a b c look l.l hl.2.1 (by have := hl.2.1; have := hl.2.2.1; omega) hl.1 (fun x hx => (hl.2.2.2.1 x hx).1)
  clear w0 w1 w2 w3 w4
  refine (htri.run W (Models.start W)).mono fun e W' ⟨v, h2, he, m2, hv⟩ => ?_
  subst he; subst hv
  have hb := m2.below
  refine ⟨_, rfl, post_of_below (pa := (p0 ++ (p1 ++ (p2 ++ (p3 ++ (p4 ++ ([]))))))) (pv := []) hW' (fun _ _ _ => trodAll_mk1 (shut_bool (Try.underlying4) true)) (fun sp hsp => ?_) (fun _ _ => rfl) rfl hb (ok_one (t := 4) (by kernel_rfl) rfl ?_)⟩
  · refine TAcons (WideElems.Trod_stays laidOut_ (by kernel_rfl) (of_decide_eq_true (by kernel_rfl)) t0 (fun x hx => hb.same (hlt x (by simp [hx]))) (fun x hx => hsp x (by simp [hx]))) ?_
    refine TAcons (WideElems.Trod_stays laidOut_ (by kernel_rfl) (of_decide_eq_true (by kernel_rfl)) t1 (fun x hx => hb.same (hlt x (by simp [hx]))) (fun x hx => hsp x (by simp [hx]))) ?_
    refine TAcons (WideElems.Trod_stays laidOut_ (by kernel_rfl) (of_decide_eq_true (by kernel_rfl)) t2 (fun x hx => hb.same (hlt x (by simp [hx]))) (fun x hx => hsp x (by simp [hx]))) ?_
    refine TAcons (WideElems.Trod_stays laidOut_ (by kernel_rfl) (of_decide_eq_true (by kernel_rfl)) t3 (fun x hx => hb.same (hlt x (by simp [hx]))) (fun x hx => hsp x (by simp [hx]))) ?_
    refine TAcons (WideElems.Trod_stays laidOut_ (by kernel_rfl) (of_decide_eq_true (by kernel_rfl)) t4 (fun x hx => hb.same (hlt x (by simp [hx]))) (fun x hx => hsp x (by simp [hx]))) ?_
    rfl
  · exact okBool Try.underlying4

theorem meterDoes_holds : Rows.MeterDoesSaid :=
  OpenClaim.holds_of_wide 4 Try.f4 rfl rfl rfl rfl rfl rfl rfl ⟨rfl, rfl, rfl, rfl, rfl⟩ rfl rfl rfl rfl rfl (by kernel_rfl) Try.func4 (by kernel_rfl)
    (of_decide_eq_true (by kernel_rfl)) (by unfold Func.isWrapper; first | (rw [if_pos (by decide +kernel)]; kernel_rfl) | (rw [if_neg (by decide +kernel)]; exact ⟨rfl, rfl⟩))
    (fun os started H enc _ => meterDoes_lifted os started H enc)

end Go.Proofs.Ytdefjkokbffccaa
