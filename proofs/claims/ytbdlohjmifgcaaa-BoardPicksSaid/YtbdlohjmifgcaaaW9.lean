/- Walks through the code: what each function that is named here gives back, from any memory that holds its arguments. Written by a program of the claim's author, out of the program's form in Lean. -/
import Derived.Test.YtbdlohjmifgcaaaW8
set_option linter.unusedSimpArgs false
set_option linter.unusedVariables false
namespace Go.Proofs.Ytbdlohjmifgcaaa
open Go.Sep Go.Sep.Sip Go.Sep.Perm Go.Sep.Maglev Go.Sep.Board Go.Sep.Cookie Go.RowKit Go.WideShapes Go.ChangeShapes
theorem perm_pick1 (p D : Own) (a b c d e f : Nat × Blk) : (p ++ (a :: b :: c :: d :: e :: f :: D)).Perm (c :: d :: (p ++ (a :: b :: e :: f :: D))) := perm_count fun y => by simp only [List.count_append, List.count_cons]; omega
theorem perm_pick2 (p q r D : Own) (a b c d e f : Nat × Blk) : (c :: d :: (p ++ (q ++ (r ++ (a :: b :: e :: f :: D))))).Perm (a :: b :: c :: d :: e :: f :: (p ++ (q ++ (r ++ D)))) := perm_count fun y => by simp only [List.count_append, List.count_cons]; omega
theorem perm_pick0 (a b c e f : Nat × Blk) : (a :: b :: c :: e :: f :: []).Perm (a :: b :: c :: e :: f :: []) := List.Perm.refl _
theorem mem_two {x : Nat × Blk} {X D p r : Own} (h : x ∈ X ++ D) (hr : ∀ y ∈ D, y ∈ r) : x ∈ X ++ (p ++ r) := by
  rcases List.mem_append.1 h with h | h
  · exact List.mem_append_left _ h
  · exact List.mem_append_right _ (List.mem_append_right _ (hr x h))

set_option maxHeartbeats 8000000 in
theorem picks_law (B : World) (lo hi m : Int) {A : Option Addr} {cap : Nat} (l : List Dd) (hl : Src B [] A l.length 13 (flat encDd l)) (hln : l.length ≤ 9223372036854775807) (x : Flow) (hf : FOk x) : Tri Try.prog B 3 [.agg #[.int .u64 lo, .int .u64 hi], .int .i64 m, .slice A l.length cap, .agg (encF x).toArray] [] fun v h' => v = .bool true := by
  refine Tri.enter (n := 121) Try.func3 rfl rfl rfl ?_
  simp only [argsE, Nat.reduceAdd]
  try dsimp only [argsE]
  refine AK.seq ?_
  refine AK.region ?_
  refine AO.eff (EF.box rfl rfl) (.none rfl) rfl ?_
  rintro _ _ ⟨b4, hf4, rfl, rfl⟩
  refine AO.eff (EF.box rfl rfl) (.none rfl) rfl ?_
  rintro _ _ ⟨b7, hf7, rfl, rfl⟩
  refine AO.val (RV.assign rfl) (.none rfl) rfl ?_
  refine AO.nil ?_
  refine AK.seq ?_
  refine AK.seq ?_
  refine AK.region ?_
  refine AO.val (RV.move rfl) (.none rfl) rfl ?_
  refine AO.eff (EF.callF rfl (rprime_spec B _ m)) (.none rfl) rfl ?_
  rintro _ _ ⟨rfl, rfl⟩
  refine AO.val (RV.not rfl) (.none rfl) rfl ?_
  refine AO.nil ?_
  refine AK.cond rfl ?_ ?_
  · intro hc1
    try simp only [decide_eq_true_eq, decide_eq_false_iff_not, Bool.not_eq_true', Bool.not_eq_false', beq_iff_eq] at hc1
    refine AK.seq ?_
    refine AK.region ?_
    refine AO.eff (EF.callF rfl (lives_spec B _)) (.none rfl) rfl ?_
    rintro _ _ ⟨rfl, rfl⟩
    refine AO.val (RV.assign rfl) (.none rfl) rfl ?_
    refine AO.nil ?_
    -- at T
    refine AK.ret (h' := []) Try.func3 (.tmp rfl .nil) ?_ (List.nil_sublist _)
    rfl
  · intro hc1
    try simp only [decide_eq_true_eq, decide_eq_false_iff_not, Bool.not_eq_true', Bool.not_eq_false', beq_iff_eq] at hc1
    refine AK.skip ?_
    refine AK.seq ?_
    refine AK.region ?_
    refine AO.val (by first | exact RV.loadAggO rfl rfl (by first | simp | assumption) | exact RV.loadAggP rfl rfl rfl (by first | simp | assumption)) (.none rfl) rfl ?_
    refine AO.val (RV.move rfl) (.none rfl) rfl ?_
    refine AO.eff (EF.callF rfl (bnew_spec B _ lo hi m)) (.none rfl) rfl ?_
    rintro _ _ ⟨b, mr0, rfl, rfl⟩
    refine AO.val (RV.assign rfl) (.none rfl) rfl ?_
    refine AO.nil ?_
    refine AK.seq ?_
    refine AK.seq ?_
    refine AK.region ?_
    refine AO.val (RV.move rfl) (.none rfl) rfl ?_
    refine AO.val (RV.eqlP rfl rfl) (.none rfl) rfl ?_
    refine AO.nil ?_
    refine AK.condF rfl ?_
    refine AK.skip ?_
    refine AK.seq ?_
    refine AK.region ?_
    refine AO.val (RV.build rfl .nil) (.none rfl) rfl ?_
    refine AO.eff (EF.alloc) (.none rfl) rfl ?_
    rintro _ _ ⟨b10, hf10, rfl, rfl⟩
    refine AO.effN (EF.storeO rfl rfl rfl rfl rfl rfl) (.none rfl) ?_
    rintro _ _ rfl
    refine AO.nil ?_
    refine AK.seq ?_
    refine AK.region ?_
    refine AO.val (RV.assign rfl) (.none rfl) rfl ?_
    refine AO.nil ?_
    refine AK.seq ?_
    refine AK.seq ?_
    refine AK.region ?_
    refine AO.val (RV.assign rfl) (.none rfl) rfl ?_
    refine AO.nil ?_
    refine AK.block ?_
    refine AK.loop (α := Int × FM × Nat × List (Ent TB) × Nat × Int × Own) (E := fun (i, f, mr, ml, mc, n, D) => [(1, .int .i64 m), (2, .slice A l.length cap), (4, .pointer (some ⟨b4, 0, none⟩)), (7, .pointer (some ⟨b7, 0, none⟩)), (9, .pointer (some ⟨b, 0, none⟩)), (10, .pointer (some ⟨b10, 0, none⟩)), (12, .int .i64 i), (11, .int .i64 n)]) (H := fun (i, f, mr, ml, mc, n, D) => (b10, Blk.cells (encFM f) 37 (0, 0)) :: ((b, Blk.cells [.int .u64 lo, .int .u64 hi, .int .i64 m, .map (some mr), .int .i64 n] 61 (0, 0)) :: ((mr, mapB .i64 evT ml mc) :: ((b7, Blk.cells (encF x) 29 (0, 0)) :: (b4, Blk.cells [.int .u64 lo, .int .u64 hi] 24 (0, 0)) :: D)))) (Inv := fun (i, f, mr, ml, mc, n, D) => 0 ≤ i ∧ i ≤ l.length ∧ i ≤ 40 ∧ FIn B D f ∧ FarmOk f ∧ KeysOk ml ∧ StampT ml mc ∧ BM (fillS lo hi m) B D ml (tabV f.vs.l f.bs.l) ∧ 0 ≤ n ∧ n ≤ i) (μ := fun (i, f, mr, ml, mc, n, D) => (l.length - i).toNat) (0, ZF, mr0, [], 0, 0, []) ?_ (.cons (by exact rfl) (.cons (by exact rfl) (.cons (by exact rfl) (.cons (by exact rfl) (.cons (by exact rfl) (.cons (by exact rfl) (.cons (by exact rfl) (.cons (by exact rfl) .nil)))))))) ?_ ?_
    · exact ⟨by omega, by omega, by omega, fin_zero B [], zf_ok, .nil, ⟨by simp, by simp⟩, BM.nil.congr fun k => rfl, by omega, by omega⟩
    · exact (by first | exact SubO.sub | exact List.Sublist.refl _ | exact .cons _ (List.Sublist.refl _) | exact .cons _ (.cons _ (List.Sublist.refl _)) | exact .cons _ (.cons _ (.cons _ (List.Sublist.refl _))))
    rintro ⟨i, f, mr, ml, mc, n, D⟩ ⟨hi0, hi1, hi40, fi, fo, hk, hs, bm, hn0, hn1⟩ hih0
    try dsimp only at hih0 ⊢
    refine AK.seq ?_
    refine AK.seq ?_
    refine AK.region ?_
    refine AO.val (RV.move rfl) (.none rfl) rfl ?_
    refine AO.val (RV.move rfl) (.none rfl) rfl ?_
    refine AO.val (RV.lenS rfl) (.none rfl) rfl ?_
    refine AO.val (RV.lss rfl rfl) (.none rfl) rfl ?_
    refine AO.val (RV.move rfl) (.none rfl) rfl ?_
    refine AO.caseG rfl rfl rfl ?_ ?_
    · intro hg2
      try simp only [decide_eq_true_eq, decide_eq_false_iff_not, Bool.not_eq_true', Bool.not_eq_false', beq_iff_eq] at hg2
      refine AO.val (RV.move rfl) (.some rfl rfl rfl rfl) rfl ?_
      refine AO.val (RV.lss rfl rfl) (.some rfl rfl rfl rfl) rfl ?_
      refine AO.val (RV.pickT rfl rfl) (.none rfl) rfl ?_
      refine AO.nil ?_
      refine AK.cond rfl ?_ ?_
      · intro hc3
        try simp only [decide_eq_true_eq, decide_eq_false_iff_not, Bool.not_eq_true', Bool.not_eq_false', beq_iff_eq] at hc3
        refine AK.skip ?_
        refine AK.seq ?_
        refine AK.block ?_
        refine AK.seq ?_
        refine AK.region ?_
        refine AO.val (by first | exact RV.loadAggO rfl rfl (by first | simp | assumption) | exact RV.loadAggP rfl rfl rfl (by first | simp | assumption)) (.none rfl) rfl ?_
        refine AO.eff (EF.alloc) (.none rfl) rfl ?_
        rintro _ _ ⟨b13, hf13, rfl, rfl⟩
        refine AO.effN (EF.storeO rfl rfl rfl rfl rfl rfl) (.none rfl) ?_
        rintro _ _ rfl
        refine AO.nil ?_
        refine AK.seq ?_
        refine AK.draw [] [5, 9] mixed ?_
        refine AD.take 0 rfl (by kernel_rfl) (by first | exact RV.loadAggO rfl rfl (by first | simp | assumption) | exact RV.loadAggP rfl rfl rfl (by first | simp | assumption)) (.none rfl) rfl ?_
        refine AD.takeP 1 rfl (by kernel_rfl) (RV.move rfl) (.none rfl) rfl ?_
        refine AD.takeP 2 rfl (by kernel_rfl) (RV.move rfl) (.none rfl) rfl ?_
        refine AD.takeP 3 rfl (by kernel_rfl) (RV.indexS rfl rfl hl (by omega) rfl) (.none rfl) rfl ?_
        refine AD.take 4 rfl (by kernel_rfl) (RV.loadSA (enc := encDd) (l := l) rfl hl (fun _ => rfl) (by omega) (by simp)) (.none rfl) rfl ?_
        refine AD.one 5 (by kernel_rfl) (AE.eff rfl (EF.callF rfl (would_spec B _ D (fun x hx => by simp [hx]) f fi fo (lget l i))) (.none rfl) rfl ?_)
        rintro _ _ ⟨f2, part, e, rfl, fi2, fo2, rfl⟩
        have hlv := fo2.lv
        have hlb := fo2.lb
        refine ⟨.inl (by kernel_rfl), ?_⟩
        refine AD.takeP 6 rfl (by kernel_rfl) (RV.move rfl) (.none rfl) rfl ?_
        refine AD.takeP 7 rfl (by kernel_rfl) (RV.extract rfl rfl) (.none rfl) rfl ?_
        refine AD.takeP 8 rfl (by kernel_rfl) (RV.extract rfl rfl) (.none rfl) rfl ?_
        refine AD.one 9 (by kernel_rfl) (AE.effN rfl (EF.storeO rfl rfl rfl rfl rfl rfl) (.none rfl) ?_)
        rintro _ _ rfl
        refine ⟨.inl (by kernel_rfl), ?_⟩
        refine AD.done (by kernel_rfl) ?_
        refine AK.seq ?_
        refine AK.region ?_
        refine AO.val (by first | exact RV.loadAggO rfl rfl (by first | simp | assumption) | exact RV.loadAggP rfl rfl rfl (by first | simp | assumption)) (.none rfl) rfl ?_
        refine AO.val (by first | exact RV.loadAggO rfl rfl (by first | simp | assumption) | exact RV.loadAggP rfl rfl rfl (by first | simp | assumption)) (.none rfl) rfl ?_
        refine AO.eff (EF.callF rfl (turned_spec B _ f f2 (fi.mono fun x hx => by simp [hx]) (fi2.mono fun x hx => by simp only [List.mem_append] at hx; rcases hx with hx | hx <;> simp [hx]) fo fo2)) (.none rfl) rfl ?_
        rintro _ _ ⟨rfl, tt, rfl, htt⟩
        refine AO.val (RV.assign rfl) (.none rfl) rfl ?_
        refine AO.nil ?_
        refine AK.seq ?_
        refine AK.seq ?_
        refine AK.region ?_
        refine AO.val (RV.move rfl) (.none rfl) rfl ?_
        refine AO.val (by first | exact RV.loadAggO rfl rfl (by first | simp | assumption) | exact RV.loadAggP rfl rfl rfl (by first | simp | assumption)) (.none rfl) rfl ?_
        refine AO.eff (EF.callF rfl (Tri.perm (perm_pick1 ..) (refresh_spec B _ lo hi m b mr n ml mc hk hs (tabV f.vs.l f.bs.l) D (fun x hx => by simp [hx]) bm f2.vs.l (fi2.sv.mono fun x hx => by simp only [List.mem_append] at hx; rcases hx with hx | hx <;> simp [hx]) (by omega) f2.bs.l (fi2.sb.mono fun x hx => by simp only [List.mem_append] at hx; rcases hx with hx | hx <;> simp [hx]) fi2.cb (FarmOk.bk fo2) (by omega) (by omega)))) (.none rfl) rfl ?_
        rintro _ _ ⟨m1, l1, c1, X1, tb, rfl, rfl, htb, hk1, hs1, bm1⟩
        have htt2 : tb = tt := by rw [Bool.eq_iff_iff, htb, htt]; exact tab_turn fo fo2
        subst htt2
        refine AO.val (RV.move rfl) (.none rfl) rfl ?_
        refine AO.val ((RV.neqB rfl rfl).to (v' := .bool false) (by simp)) (.none rfl) rfl ?_
        refine AO.val (RV.move rfl) (.none rfl) rfl ?_
        refine AO.val (RV.move rfl) (.some rfl rfl rfl rfl) rfl ?_
        refine AO.val (by first | exact RV.loadAggO rfl rfl (by first | simp | assumption) | exact RV.loadAggP rfl rfl rfl (by first | simp | assumption)) (.some rfl rfl rfl rfl) rfl ?_
        refine AO.eff (EF.callF rfl (refresh_spec B _ lo hi m b m1 (n + if tb = true then 1 else 0) l1 c1 hk1 hs1 (tabV f2.vs.l f2.bs.l) (X1 ++ D) (fun x hx => mem_two hx fun y hy => by simp [hy]) bm1 f2.vs.l (fi2.sv.mono fun x hx => by simp only [List.mem_append] at hx; rcases hx with hx | hx <;> simp [hx]) (by omega) f2.bs.l (fi2.sb.mono fun x hx => by simp only [List.mem_append] at hx; rcases hx with hx | hx <;> simp [hx]) fi2.cb (FarmOk.bk fo2) (by omega) (by split <;> omega))) (.some rfl rfl rfl rfl) rfl ?_
        rintro _ _ ⟨m2, l2, c2, X2, tc, rfl, rfl, htc, hk2, hs2, bm2⟩
        have htc2 : tc = false := by rw [Bool.eq_false_iff]; intro h0; obtain ⟨k, hk0⟩ := htc.1 h0; exact hk0 rfl
        subst htc2
        rw [show (n + if tb = true then 1 else 0) + (if false = true then (1 : Int) else 0) = (n + if tb = true then 1 else 0) by simp]
        refine AO.val (RV.pickF rfl rfl) (.none rfl) rfl ?_
        refine AO.nil ?_
        refine AK.condF rfl ?_
        refine AK.skip ?_
        refine AK.seq ?_
        refine AK.seq ?_
        refine AK.region ?_
        refine AO.val (RV.move rfl) (.none rfl) rfl ?_
        refine AO.nil ?_
        refine AK.cut (α := Int) (E := fun n2 => [(1, .int .i64 m), (2, .slice A l.length cap), (4, .pointer (some ⟨b4, 0, none⟩)), (7, .pointer (some ⟨b7, 0, none⟩)), (9, .pointer (some ⟨b, 0, none⟩)), (10, .pointer (some ⟨b10, 0, none⟩)), (12, .int .i64 i), (11, .int .i64 n2)]) (H := fun n2 => (b, Blk.cells [.int .u64 lo, .int .u64 hi, .int .i64 m, .map (some m2), .int .i64 (n + if tb = true then 1 else 0)] 61 (0, 0)) :: ((m2, mapB .i64 evT l2 c2) :: (X2 ++ (X1 ++ (part ++ ((b13, Blk.cells (encFM f) 37 (0, 0)) :: (b10, Blk.cells (encFM f2) 37 (0, 0)) :: (b7, Blk.cells (encF x) 29 (0, 0)) :: (b4, Blk.cells [.int .u64 lo, .int .u64 hi] 24 (0, 0)) :: D)))))) (Inv := fun n2 => n2 = (n + if tb = true then 1 else 0)) ?_ ?_
        · rintro n2 hn2
          try dsimp only
          have fi3 : FIn B ((b, Blk.cells [.int .u64 lo, .int .u64 hi, .int .i64 m, .map (some m2), .int .i64 (n + if tb = true then 1 else 0)] 61 (0, 0)) :: ((m2, mapB .i64 evT l2 c2) :: (X2 ++ (X1 ++ (part ++ ((b13, Blk.cells (encFM f) 37 (0, 0)) :: (b10, Blk.cells (encFM f2) 37 (0, 0)) :: (b7, Blk.cells (encF x) 29 (0, 0)) :: (b4, Blk.cells [.int .u64 lo, .int .u64 hi] 24 (0, 0)) :: D)))))) f2 := fi2.mono fun x hx => by simp only [List.mem_append] at hx; rcases hx with hx | hx <;> simp [hx]
          refine AK.seq ?_
          refine AK.seq ?_
          refine AK.region ?_
          refine AO.val (RV.move rfl) (.none rfl) rfl ?_
          refine AO.eff (EF.callF rfl (bversion_spec B _ lo hi m b m2 _)) (.none rfl) rfl ?_
          rintro _ _ ⟨rfl, rfl⟩
          refine AO.val (RV.move rfl) (.none rfl) rfl ?_
          refine AO.val ((RV.neq rfl rfl).to (v' := .bool false) (by rw [hn2]; simp)) (.none rfl) rfl ?_
          refine AO.nil ?_
          refine AK.condF rfl ?_
          refine AK.skip ?_
          refine AK.seq ?_
          refine AK.region ?_
          refine AO.val (RV.assign rfl) (.none rfl) rfl ?_
          refine AO.nil ?_
          refine AK.block ?_
          refine AK.loop (α := Int) (E := fun j => [(1, .int .i64 m), (2, .slice A l.length cap), (4, .pointer (some ⟨b4, 0, none⟩)), (7, .pointer (some ⟨b7, 0, none⟩)), (9, .pointer (some ⟨b, 0, none⟩)), (10, .pointer (some ⟨b10, 0, none⟩)), (12, .int .i64 i), (11, .int .i64 n2), (15, .int .i64 j)]) (H := fun j => (b, Blk.cells [.int .u64 lo, .int .u64 hi, .int .i64 m, .map (some m2), .int .i64 (n + if tb = true then 1 else 0)] 61 (0, 0)) :: ((m2, mapB .i64 evT l2 c2) :: (X2 ++ (X1 ++ (part ++ ((b13, Blk.cells (encFM f) 37 (0, 0)) :: (b10, Blk.cells (encFM f2) 37 (0, 0)) :: (b7, Blk.cells (encF x) 29 (0, 0)) :: (b4, Blk.cells [.int .u64 lo, .int .u64 hi] 24 (0, 0)) :: D)))))) (Inv := fun j => 0 ≤ j ∧ j ≤ f2.vs.l.length) (μ := fun j => (f2.vs.l.length - j).toNat) 0 ?_ (.cons (by exact rfl) (.cons (by exact rfl) (.cons (by exact rfl) (.cons (by exact rfl) (.cons (by exact rfl) (.cons (by exact rfl) (.cons (by exact rfl) (.cons (by exact rfl) (.cons (by exact rfl) .nil))))))))) ?_ ?_
          · exact ⟨by omega, by omega⟩
          · exact (by first | exact SubO.sub | exact List.Sublist.refl _ | exact .cons _ (List.Sublist.refl _) | exact .cons _ (.cons _ (List.Sublist.refl _)) | exact .cons _ (.cons _ (.cons _ (List.Sublist.refl _))))
          rintro j ⟨hj0, hj1⟩ hih1
          try dsimp only at hih1 ⊢
          refine AK.seq ?_
          refine AK.seq ?_
          refine AK.region ?_
          refine AO.val (RV.move rfl) (.none rfl) rfl ?_
          refine AO.val (by first | exact RV.fieldAddr rfl | exact RV.fieldAddrA rfl) (.none rfl) rfl ?_
          refine AO.val (by first | exact RV.loadO rfl rfl (by first | simp | assumption) | exact RV.loadSF rfl (by assumption) (fun _ => rfl) (by omega) rfl rfl (by first | simp | assumption) | exact RV.loadS rfl (by assumption) (by omega) (by first | simp | assumption)) (.none rfl) rfl ?_
          refine AO.val (RV.lenS rfl) (.none rfl) rfl ?_
          refine AO.val (RV.lss rfl rfl) (.none rfl) rfl ?_
          refine AO.nil ?_
          refine AK.cond rfl ?_ ?_
          · intro hc4
            try simp only [decide_eq_true_eq, decide_eq_false_iff_not, Bool.not_eq_true', Bool.not_eq_false', beq_iff_eq] at hc4
            refine AK.skip ?_
            refine AK.seq ?_
            refine AK.block ?_
            refine AK.seq ?_
            refine AK.region ?_
            refine AO.val (by first | exact RV.fieldAddr rfl | exact RV.fieldAddrA rfl) (.none rfl) rfl ?_
            refine AO.val (by first | exact RV.loadO rfl rfl (by first | simp | assumption) | exact RV.loadSF rfl (by assumption) (fun _ => rfl) (by omega) rfl rfl (by first | simp | assumption) | exact RV.loadS rfl (by assumption) (by omega) (by first | simp | assumption)) (.none rfl) rfl ?_
            refine AO.val (RV.move rfl) (.none rfl) rfl ?_
            refine AO.val (RV.indexS rfl rfl fi3.sv (by omega) rfl) (.none rfl) rfl ?_
            refine AO.val (by first | exact RV.fieldAddr rfl | exact RV.fieldAddrA rfl) (.none rfl) rfl ?_
            refine AO.val (RV.loadSF (enc := encV) (l := f2.vs.l) (fo := 0) rfl fi3.sv (fun _ => rfl) (by omega) rfl rfl (by simp)) (.none rfl) rfl ?_
            refine AO.val (RV.assign rfl) (.none rfl) rfl ?_
            refine AO.nil ?_
            refine AK.seq ?_
            refine AK.region ?_
            refine AO.val (RV.move rfl) (.none rfl) rfl ?_
            refine AO.val (RV.move rfl) (.none rfl) rfl ?_
            refine AO.val (by first | exact RV.loadAggO rfl rfl (by first | simp | assumption) | exact RV.loadAggP rfl rfl rfl (by first | simp | assumption)) (.none rfl) rfl ?_
            refine AO.eff (EF.callF rfl (bpick_spec B _ lo hi m b m2 _ l2 c2 hk2 hs2 (tabV f2.vs.l f2.bs.l) (X2 ++ (X1 ++ D)) (fun x hx => by simp only [List.mem_append] at hx; rcases hx with hx | hx | hx <;> simp [hx]) bm2 (lget f2.vs.l j).1 x hf)) (.none rfl) rfl ?_
            rintro _ _ ⟨rfl, rfl⟩
            refine AO.val (RV.move rfl) (.none rfl) rfl ?_
            refine AO.val (RV.extract rfl rfl) (.none rfl) rfl ?_
            refine AO.val (RV.extract rfl rfl) (.none rfl) rfl ?_
            refine AO.val (RV.assign rfl) (.none rfl) rfl ?_
            refine AO.val (RV.assign rfl) (.none rfl) rfl ?_
            refine AO.nil ?_
            refine AK.seq ?_
            refine AK.region ?_
            refine AO.val (by first | exact RV.loadAggO rfl rfl (by first | simp | assumption) | exact RV.loadAggP rfl rfl rfl (by first | simp | assumption)) (.none rfl) rfl ?_
            refine AO.val (RV.move rfl) (.none rfl) rfl ?_
            refine AO.val (by first | exact RV.loadAggO rfl rfl (by first | simp | assumption) | exact RV.loadAggP rfl rfl rfl (by first | simp | assumption)) (.none rfl) rfl ?_
            refine AO.val (RV.move rfl) (.none rfl) rfl ?_
            refine AO.val (by first | exact RV.loadAggO rfl rfl (by first | simp | assumption) | exact RV.loadAggP rfl rfl rfl (by first | simp | assumption)) (.none rfl) rfl ?_
            refine AO.eff (EF.callF rfl (rpick_spec B _ lo hi m f2 fi3 fo2 (lget f2.vs.l j).1 x hf)) (.none rfl) rfl ?_
            rintro _ _ ⟨rfl, rfl⟩
            refine AO.val (RV.move rfl) (.none rfl) rfl ?_
            refine AO.val (RV.extract rfl rfl) (.none rfl) rfl ?_
            refine AO.val (RV.extract rfl rfl) (.none rfl) rfl ?_
            refine AO.val (RV.assign rfl) (.none rfl) rfl ?_
            refine AO.val (RV.assign rfl) (.none rfl) rfl ?_
            refine AO.nil ?_
            refine AK.seq ?_
            refine AK.draw [] [16, 17] mixed ?_
            refine AD.takeP 0 rfl (by kernel_rfl) (RV.move rfl) (.none rfl) rfl ?_
            refine AD.takeP 1 rfl (by kernel_rfl) (RV.move rfl) (.none rfl) rfl ?_
            refine AD.takeP 2 rfl (by kernel_rfl) ((RV.neq rfl rfl).to (v' := .bool false) (by simp)) (.none rfl) rfl ?_
            refine AD.takeP 3 rfl (by kernel_rfl) (RV.move rfl) (.none rfl) rfl ?_
            refine AD.takeP 4 rfl (by kernel_rfl) (RV.move rfl) (.some rfl rfl rfl rfl) rfl ?_
            refine AD.takeP 5 rfl (by kernel_rfl) (RV.move rfl) (.some rfl rfl rfl rfl) rfl ?_
            refine AD.takeP 6 rfl (by kernel_rfl) ((RV.neqB rfl rfl).to (v' := .bool false) (by simp)) (.some rfl rfl rfl rfl) rfl ?_
            refine AD.takeP 7 rfl (by kernel_rfl) (RV.pickF rfl rfl) (.none rfl) rfl ?_
            refine AD.takeP 8 rfl (by kernel_rfl) (RV.move rfl) (.none rfl) rfl ?_
            refine AD.takeP 9 rfl (by kernel_rfl) (RV.move rfl) (.some rfl rfl rfl rfl) rfl ?_
            refine AD.takeP 10 rfl (by kernel_rfl) (RV.move rfl) (.some rfl rfl rfl rfl) rfl ?_
            refine AD.take 12 rfl (by kernel_rfl) (by first | exact RV.loadAggO rfl rfl (by first | simp | assumption) | exact RV.loadAggP rfl rfl rfl (by first | simp | assumption)) (.some rfl rfl rfl rfl) rfl ?_
            refine AD.takeP 13 rfl (by kernel_rfl) (RV.move rfl) (.some rfl rfl rfl rfl) rfl ?_
            refine AD.take 14 rfl (by kernel_rfl) (by first | exact RV.loadAggO rfl rfl (by first | simp | assumption) | exact RV.loadAggP rfl rfl rfl (by first | simp | assumption)) (.some rfl rfl rfl rfl) rfl ?_
            refine AD.takeP 15 rfl (by kernel_rfl) (RV.move rfl) (.some rfl rfl rfl rfl) rfl ?_
            refine AD.one 11 (by kernel_rfl) (AE.eff rfl (EF.callF rfl (btable_spec B _ lo hi m b m2 _ l2 c2 hk2 hs2 (tabV f2.vs.l f2.bs.l) (X2 ++ (X1 ++ D)) (fun x hx => by simp only [List.mem_append] at hx; rcases hx with hx | hx | hx <;> simp [hx]) bm2 (lget f2.vs.l j).1)) (.some rfl rfl rfl rfl) rfl ?_)
            rintro _ _ ⟨A111, c111, p111, rfl, hr111, hc111, rfl⟩
            have hfl := fillS_len lo hi m (tabV f2.vs.l f2.bs.l (lget f2.vs.l j).1)
            refine ⟨(by first | exact .inr fun x hx hM => hx | exact .inr fun x hx hM => List.mem_cons_of_mem _ hx | exact .inr fun x hx hM => List.mem_append_right _ hx), ?_⟩
            refine AD.one 16 (by kernel_rfl) (AE.eff rfl (EF.callF rfl (rtable_spec B _ lo hi m f2 (fi3.mono fun x hx => List.mem_append_right _ hx) fo2 (lget f2.vs.l j).1)) (.some rfl rfl rfl rfl) rfl ?_)
            rintro _ _ ⟨A116, c116, p116, rfl, hr116, hc116, rfl⟩
            refine ⟨.inl (by kernel_rfl), ?_⟩
            refine AD.one 17 (by kernel_rfl) (AE.eff rfl (EF.callF rfl (psame_spec (cap := c111) (cap2 := c116) B _ (fillS lo hi m (tabV f2.vs.l f2.bs.l (lget f2.vs.l j).1)) (hr111.src fun x hx => by simp [hx]) (hr116.src fun x hx => by simp [hx]) (by omega))) (.some rfl rfl rfl rfl) rfl ?_)
            rintro _ _ ⟨rfl, rfl⟩
            refine ⟨.inl (by kernel_rfl), ?_⟩
            refine AD.takeP 18 rfl (by kernel_rfl) ((RV.not rfl).to (v' := .bool false) rfl) (.some rfl rfl rfl rfl) rfl ?_
            refine AD.takeP 19 rfl (by kernel_rfl) (RV.pickF rfl rfl) (.none rfl) rfl ?_
            refine AD.done (by kernel_rfl) ?_
            refine AK.condF rfl ?_
            refine AK.skip ?_
            refine AK.inBlock ?_
            refine AK.region ?_
            refine AO.val (RV.move rfl) (.none rfl) rfl ?_
            refine AO.val (by first | exact RV.addIn rfl rfl (by omega) | exact RV.add rfl rfl) (.none rfl) rfl ?_
            refine AO.val (RV.assign rfl) (.none rfl) rfl ?_
            refine AO.nil ?_
            -- round ends at FL0tTJc4L1T
            refine AK.weak (.cons (by exact rfl) (.cons (by exact rfl) (.cons (by exact rfl) (.cons (by exact rfl) (.cons (by exact rfl) (.cons (by exact rfl) (.cons (by exact rfl) (.cons (by exact rfl) (.cons (by exact rfl) .nil))))))))) (by first | exact SubO.sub | exact (List.sublist_append_right _ _).trans (List.sublist_append_right _ _)) (hih1 (j + 1) ?_ ?_)
            · try dsimp only
              exact ⟨by omega, by omega⟩
            · try dsimp only
              (try simp only); omega
          · intro hc4
            try simp only [decide_eq_true_eq, decide_eq_false_iff_not, Bool.not_eq_true', Bool.not_eq_false', beq_iff_eq] at hc4
            refine AK.exit rfl ?_
            refine AK.inBlock ?_
            refine AK.region ?_
            refine AO.val (RV.move rfl) (.none rfl) rfl ?_
            refine AO.val (by first | exact RV.addIn rfl rfl (by omega) | exact RV.add rfl rfl) (.none rfl) rfl ?_
            refine AO.val (RV.assign rfl) (.none rfl) rfl ?_
            refine AO.nil ?_
            -- round ends at FL0tTJc4L1F
            refine AK.perm (perm_pick2 ..) ?_
            refine AK.weak (.cons (by exact rfl) (.cons (by exact rfl) (.cons (by exact rfl) (.cons (by exact rfl) (.cons (by exact rfl) (.cons (by exact rfl) (.cons (by exact rfl) (.cons (by exact rfl) .nil)))))))) (by (try dsimp only); rw [hn2]; exact .cons _ (List.Sublist.refl _)) (hih0 (i + 1, f2, m2, l2, c2, n2, X2 ++ (X1 ++ (part ++ D))) ?_ ?_)
            · try dsimp only
              refine ⟨by omega, by omega, by omega, fi2.mono fun x hx => ?_, fo2, hk2, hs2, bm2.mono fun x hx => ?_, by rw [hn2]; split <;> omega, by rw [hn2]; split <;> omega⟩
              · exact List.mem_append_right _ (List.mem_append_right _ hx)
              · rcases List.mem_append.1 hx with hx | hx
                · exact List.mem_append_left _ hx
                · exact List.mem_append_right _ (by rcases List.mem_append.1 hx with hx | hx
                                                    · exact List.mem_append_left _ hx
                                                    · exact List.mem_append_right _ (List.mem_append_right _ hx))
            · try dsimp only
              omega
        · intro hjc4
          try dsimp only at hjc4
          refine AK.cond rfl ?_ ?_
          · intro hc5
            try simp only [decide_eq_true_eq, decide_eq_false_iff_not, Bool.not_eq_true', Bool.not_eq_false', beq_iff_eq] at hc5
            refine AK.region ?_
            refine AO.val (RV.move rfl) (.none rfl) rfl ?_
            refine AO.val (by first | exact RV.addIn rfl rfl (by omega) | exact RV.add rfl rfl) (.none rfl) rfl ?_
            refine AO.val (RV.assign rfl) (.none rfl) rfl ?_
            refine AO.nil ?_
            -- ways meet at FL0tTT
            refine AK.weak (.cons (by exact rfl) (.cons (by exact rfl) (.cons (by exact rfl) (.cons (by exact rfl) (.cons (by exact rfl) (.cons (by exact rfl) (.cons (by exact rfl) (.cons (by exact rfl) .nil)))))))) (by first | exact SubO.sub | exact List.Sublist.refl _ | exact .cons _ (List.Sublist.refl _) | exact .cons _ (.cons _ (List.Sublist.refl _)) | exact .cons _ (.cons _ (.cons _ (List.Sublist.refl _)))) (hjc4 (n + 1) ?_)
            · try dsimp only
              have h0 : tb = true := by assumption
              rw [if_pos h0]
          · intro hc5
            try simp only [decide_eq_true_eq, decide_eq_false_iff_not, Bool.not_eq_true', Bool.not_eq_false', beq_iff_eq] at hc5
            refine AK.skip ?_
            -- ways meet at FL0tTF
            refine AK.weak (.cons (by exact rfl) (.cons (by exact rfl) (.cons (by exact rfl) (.cons (by exact rfl) (.cons (by exact rfl) (.cons (by exact rfl) (.cons (by exact rfl) (.cons (by exact rfl) .nil)))))))) (by first | exact SubO.sub | exact List.Sublist.refl _ | exact .cons _ (List.Sublist.refl _) | exact .cons _ (.cons _ (List.Sublist.refl _)) | exact .cons _ (.cons _ (.cons _ (List.Sublist.refl _)))) (hjc4 n ?_)
            · try dsimp only
              have h0 : tb = false := by assumption
              rw [h0]; simp
      · intro hc3
        try simp only [decide_eq_true_eq, decide_eq_false_iff_not, Bool.not_eq_true', Bool.not_eq_false', beq_iff_eq] at hc3
        refine AK.exit rfl ?_
        refine AK.seq ?_
        refine AK.region ?_
        refine AO.eff (EF.callF rfl (lives_spec B _)) (.none rfl) rfl ?_
        rintro _ _ ⟨rfl, rfl⟩
        refine AO.val (RV.assign rfl) (.none rfl) rfl ?_
        refine AO.nil ?_
        -- at FL0tF
        clear hih0
        refine AK.ret (h' := []) Try.func3 (.tmp rfl .nil) ?_ (List.nil_sublist _)
        rfl
    · intro hg2
      try simp only [decide_eq_true_eq, decide_eq_false_iff_not, Bool.not_eq_true', Bool.not_eq_false', beq_iff_eq] at hg2
      refine AO.pass (.some rfl rfl rfl rfl) rfl ?_
      refine AO.pass (.some rfl rfl rfl rfl) rfl ?_
      refine AO.val (RV.pickF rfl rfl) (.none rfl) rfl ?_
      refine AO.nil ?_
      refine AK.condF rfl ?_
      refine AK.exit rfl ?_
      refine AK.seq ?_
      refine AK.region ?_
      refine AO.eff (EF.callF rfl (lives_spec B _)) (.none rfl) rfl ?_
      rintro _ _ ⟨rfl, rfl⟩
      refine AO.val (RV.assign rfl) (.none rfl) rfl ?_
      refine AO.nil ?_
      -- at FL0f
      clear hih0
      refine AK.ret (h' := []) Try.func3 (.tmp rfl .nil) ?_ (List.nil_sublist _)
      rfl

set_option maxRecDepth 100000 in
theorem boardPicks_lifted (os : Os) (started : os.Started) (H : Type) (enc : TypeId × Value → H) :
    ReturnsInHanded {} Try.checked os 3 .any (Rows.boardPicksSpec.pre6 enc Try.prog Try.f3 Rows.boardPicksRow.domain false) (Rows.boardPicksSpec.post enc Try.prog Try.f3 false true false false) := by
  refine returnsInHanded_of_change (C := Try.checked) own_ started (by kernel_rfl) Try.func3
    (ChangeSpec.witness6 (enc := enc) (C := Try.checked) false ⟨#[], #[(Value.agg #[(Value.int IntKind.u64 0), (Value.int IntKind.u64 0)]), (Value.int IntKind.i64 0), (Value.slice none 0 0), (Value.agg #[(Value.int IntKind.u32 0), (Value.int IntKind.u32 0), (Value.int IntKind.u16 0), (Value.int IntKind.u16 0), (Value.int IntKind.u8 0)])], []⟩ 8 (by kernel_rfl) (by kernel_rfl) (by kernel_rfl) (by kernel_rfl)) ?_
  intro W base args ds gs before hval0 hW hcnd _
  have hval : ∀ (j : Nat) t v, Try.f3.params[j]? = some t → args[j]? = some v → Value.okWide Try.prog W .any base t v := hval0
  have hW' := hW
  obtain ⟨p, q, hA0, hV, rfl, hfz, hnd⟩ := hW
  have hA : DataW.TrodAll enc Try.prog W 0 (fun _ => true) true Try.f3.params.toList args.toList ds p := hA0
  rw [Try.params3] at hA hval
  obtain ⟨args⟩ := args
  simp only at hA
  obtain ⟨v0, vs0, d0, ds0, p0, q0, e0a, e0b, e0c, t0, r0⟩ := trodAll_cons hA
  obtain ⟨v1, vs1, d1, ds1, p1, q1, e1a, e1b, e1c, t1, r1⟩ := trodAll_cons r0
  obtain ⟨v2, vs2, d2, ds2, p2, q2, e2a, e2b, e2c, t2, r2⟩ := trodAll_cons r1
  obtain ⟨v3, vs3, d3, ds3, p3, q3, e3a, e3b, e3c, t3, r3⟩ := trodAll_cons r2
  subst e0a e0b e0c
  subst e1a e1b e1c
  subst e2a e2b e2c
  subst e3a e3b e3c
  obtain ⟨rfl, rfl, rfl⟩ := trodAll_nil r3
  obtain ⟨rfl, rfl⟩ := trodVars_none hV
  have hlt := hW'.lt
  have k0 : Value.okWide Try.prog W .any base 24 v0 := hval 0 _ v0 rfl rfl
  obtain ⟨k, w0, hk⟩ := Dec.argA k0 t0 ((.cons (off := 0) (sz := 1) (by rfl) (by kernel_rfl) (Dec.int (t := 22) (k := .u64)) (.cons (off := 1) (sz := 1) (by rfl) (by kernel_rfl) (Dec.int (t := 22) (k := .u64)) .nil))) (by kernel_rfl)
  have k1 : Value.okWide Try.prog W .any base 3 v1 := hval 1 _ v1 rfl rfl
  obtain ⟨m, w1, m_lo, m_hi⟩ := Dec.argI k1 t1
  have k2 : Value.okWide Try.prog W .any base 25 v2 := hval 2 _ v2 rfl rfl
  obtain ⟨l, w2, hl⟩ := Dec.argS k2 t2 ((Dec.struct (t := 45) (.cons (off := 0) (sz := 1) (by rfl) (by kernel_rfl) (Dec.int (t := 3) (k := .i64)) (.cons (off := 1) (sz := 5) (by rfl) (by kernel_rfl) (Dec.struct (t := 41) (.cons (off := 0) (sz := 1) (by rfl) (by kernel_rfl) (Dec.int (t := 3) (k := .i64)) (.cons (off := 1) (sz := 1) (by rfl) (by kernel_rfl) (Dec.int (t := 26) (k := .u32)) (.cons (off := 2) (sz := 1) (by rfl) (by kernel_rfl) (Dec.int (t := 27) (k := .u16)) (.cons (off := 3) (sz := 1) (by rfl) (by kernel_rfl) (Dec.int (t := 5) (k := .u8)) (.cons (off := 4) (sz := 1) (by rfl) (by kernel_rfl) (Dec.int (t := 3) (k := .i64)) .nil))))) (by kernel_rfl)) (.cons (off := 6) (sz := 6) (by rfl) (by kernel_rfl) (Dec.struct (t := 43) (.cons (off := 0) (sz := 1) (by rfl) (by kernel_rfl) (Dec.int (t := 3) (k := .i64)) (.cons (off := 1) (sz := 1) (by rfl) (by kernel_rfl) (Dec.int (t := 3) (k := .i64)) (.cons (off := 2) (sz := 1) (by rfl) (by kernel_rfl) (Dec.int (t := 26) (k := .u32)) (.cons (off := 3) (sz := 1) (by rfl) (by kernel_rfl) (Dec.int (t := 3) (k := .i64)) (.cons (off := 4) (sz := 1) (by rfl) (by kernel_rfl) (Dec.int (t := 3) (k := .i64)) (.cons (off := 5) (sz := 1) (by rfl) (by kernel_rfl) (Dec.bool (t := 4)) .nil)))))) (by kernel_rfl)) (.cons (off := 12) (sz := 1) (by rfl) (by kernel_rfl) (Dec.int (t := 3) (k := .i64)) .nil)))) (by kernel_rfl))) (by decide)
  have k3 : Value.okWide Try.prog W .any base 29 v3 := hval 3 _ v3 rfl rfl
  obtain ⟨x, w3, hx⟩ := Dec.argA k3 t3 ((.cons (off := 0) (sz := 1) (by rfl) (by kernel_rfl) (Dec.int (t := 26) (k := .u32)) (.cons (off := 1) (sz := 1) (by rfl) (by kernel_rfl) (Dec.int (t := 26) (k := .u32)) (.cons (off := 2) (sz := 1) (by rfl) (by kernel_rfl) (Dec.int (t := 27) (k := .u16)) (.cons (off := 3) (sz := 1) (by rfl) (by kernel_rfl) (Dec.int (t := 27) (k := .u16)) (.cons (off := 4) (sz := 1) (by rfl) (by kernel_rfl) (Dec.int (t := 5) (k := .u8)) .nil)))))) (by kernel_rfl)
  have htri : Tri Try.prog W 3 [v0, v1, v2, v3] [] (fun v _ => v = .bool true) := by
    subst w0 w1 w2 w3
    exact picks_law W k.1 k.2.1 m l.l hl.1 (by have := hl.2.1; have := hl.2.2.1; omega) x ⟨hx.1, hx.2.1, hx.2.2.1, hx.2.2.2.1, hx.2.2.2.2.1⟩
  clear w0 w1 w2 w3
  refine (htri.run W (Models.start W)).mono fun e W' ⟨v, h2, he, m2, hv⟩ => ?_
  subst he; subst hv
  have hb := m2.below
  refine ⟨_, rfl, post_of_below (pa := (p0 ++ (p1 ++ (p2 ++ (p3 ++ ([])))))) (pv := []) hW' (fun _ _ _ => trodAll_mk1 (shut_bool (Try.underlying4) true)) (fun sp hsp => ?_) (fun _ _ => rfl) rfl hb (ok_one (t := 4) (by kernel_rfl) rfl ?_)⟩
  · refine TAcons (WideElems.Trod_stays laidOut_ (by kernel_rfl) (of_decide_eq_true (by kernel_rfl)) t0 (fun x hx => hb.same (hlt x (by simp [hx]))) (fun x hx => hsp x (by simp [hx]))) ?_
    refine TAcons (WideElems.Trod_stays laidOut_ (by kernel_rfl) (of_decide_eq_true (by kernel_rfl)) t1 (fun x hx => hb.same (hlt x (by simp [hx]))) (fun x hx => hsp x (by simp [hx]))) ?_
    refine TAcons (WideElems.Trod_stays laidOut_ (by kernel_rfl) (of_decide_eq_true (by kernel_rfl)) t2 (fun x hx => hb.same (hlt x (by simp [hx]))) (fun x hx => hsp x (by simp [hx]))) ?_
    refine TAcons (WideElems.Trod_stays laidOut_ (by kernel_rfl) (of_decide_eq_true (by kernel_rfl)) t3 (fun x hx => hb.same (hlt x (by simp [hx]))) (fun x hx => hsp x (by simp [hx]))) ?_
    rfl
  · exact okBool Try.underlying4

theorem boardPicks_holds : Rows.BoardPicksSaid :=
  OpenClaim.holds_of_wide 3 Try.f3 rfl rfl rfl rfl rfl rfl rfl ⟨rfl, rfl, rfl, rfl, rfl⟩ rfl rfl rfl rfl rfl (by kernel_rfl) Try.func3 (by kernel_rfl)
    (of_decide_eq_true (by kernel_rfl)) (by unfold Func.isWrapper; first | (rw [if_pos (by decide +kernel)]; kernel_rfl) | (rw [if_neg (by decide +kernel)]; exact ⟨rfl, rfl⟩))
    (fun os started H enc _ => boardPicks_lifted os started H enc)

end Go.Proofs.Ytbdlohjmifgcaaa
