/- Walks through the code: what each function that is named here gives back, from any memory that holds its arguments. Written by a program of the claim's author, out of the program's form in Lean. -/
import Derived.Test.YtbdlohjmifgcaaaS19W4
set_option linter.unusedSimpArgs false
set_option linter.unusedVariables false
namespace Go.Proofs.Ytbdlohjmifgcaaa
open Go.Sep Go.Sep.Sip Go.Sep.Perm Go.Sep.Maglev
abbrev slE (x : InS Int) : Value := .slice x.A x.l.length x.cap
/-- rows of places: p holds the row of rows, q the places -/
structure NewR (t : Nat) (lo hi m : Int) (B : World) (h : Own) (A : Option Addr) (c : Nat) (p q : Own) (bs : List Bk) (xs : List (InS Int)) : Prop where
  row : Row t 1 (.slice A xs.length c) xs.length (xs.map slE) p
  cap : xs.length ≤ c
  src : ∀ x ∈ xs, Src B (q ++ h) x.A x.l.length 1 (x.l.map (fun x => Value.int .i64 x)) ∧ x.l.length ≤ x.cap
  row_ : ∀ j : Int, 0 ≤ j → j < xs.length → (lget xs j).l = rowS lo hi (lget bs j).1 m
theorem NewR.snoc {t : Nat} {lo hi m : Int} {B : World} {h : Own} {A A1 : Option Addr} {c c1 : Nat} {p p1 q d : Own} {bs : List Bk} {xs : List (InS Int)} {x : InS Int} (n : NewR t lo hi m B h A c p q bs xs) (hr : Row t 1 (.slice A1 (xs ++ [x]).length c1) (xs ++ [x]).length ((xs ++ [x]).map slE) p1) (hc : (xs ++ [x]).length ≤ c1)
    (hx : Src B (d ++ (q ++ h)) x.A x.l.length 1 (x.l.map (fun x => Value.int .i64 x)) ∧ x.l.length ≤ x.cap) (hrow : x.l = rowS lo hi (lget bs xs.length).1 m) : NewR t lo hi m B h A1 c1 p1 (d ++ q) bs (xs ++ [x]) := ⟨hr, hc, fun y hy => by
  rw [List.append_assoc]
  rcases List.mem_append.1 hy with hy | hy
  · exact ⟨(n.src y hy).1.mono fun z hz => List.mem_append_right _ hz, (n.src y hy).2⟩
  · rw [List.mem_singleton.1 hy]; exact hx, fun j h0 h1 => by
  rw [List.length_append, List.length_singleton] at h1
  by_cases hj : j = xs.length
  · subst hj
    have e : lget (xs ++ [x]) (xs.length : Int) = x := by simp [lget, List.getD]
    rw [e]; exact hrow
  · have e : lget (xs ++ [x]) j = lget xs j := by
      have : j.toNat < xs.length := by omega
      simp [lget, List.getD, List.getElem?_append_left this]
    rw [e]; exact n.row_ j h0 (by omega)⟩
theorem perm_mid2 (p q X : Own) (a b : Nat × Blk) : (p ++ (q ++ (a :: b :: X))).Perm (a :: b :: (p ++ (q ++ X))) := perm_count fun x => by simp only [List.count_append, List.count_cons]; omega

set_option maxHeartbeats 1600000 in
theorem rfill_spec (B : World) (h : Own) (lo hi m : Int) {A : Option Addr} {cap : Nat} (l : List Bk) (hl : Src B h A l.length 6 (flat encK l)) (hid : ∀ b ∈ l, BkOk b) (hcap : l.length ≤ cap) (hln : l.length ≤ 1000) : Tri Try.prog B 35 [.agg #[.int .u64 lo, .int .u64 hi], .int .i64 m, .slice A l.length cap] h fun v h' => NewS 3 1 (fillS lo hi m (l.map prK)).length ((fillS lo hi m (l.map prK)).map (fun x => Value.int .i64 x)) h v h' := by
  have hzi : zerosL m.toNat [Value.int .i64 0] = flat encI ((zeroF m.toNat).map fun q : Int × Bool => q.1) := by rw [zeros_flat, zeroF, List.map_replicate]
  have hzt : zerosL m.toNat [Value.bool false] = flat encT ((zeroF m.toNat).map fun q : Int × Bool => q.2) := by rw [zeros_flat (α := Bool), zeroF, List.map_replicate]
  refine Tri.enter (n := 109) Try.func35 rfl rfl rfl ?_
  simp only [argsE, Nat.reduceAdd]
  try dsimp only [argsE]
  refine AK.seq ?_
  refine AK.region ?_
  refine AO.eff (EF.box rfl rfl) (.none rfl) rfl ?_
  rintro _ _ ⟨b3, hf3, rfl, rfl⟩
  refine AO.val (RV.assign rfl) (.none rfl) rfl ?_
  refine AO.nil ?_
  refine AK.seq ?_
  refine AK.region ?_
  refine AO.val (RV.move rfl) (.none rfl) rfl ?_
  refine AO.eff (EF.callF rfl (rparts_spec B _ l hl.sub hid hcap hln)) (.none rfl) rfl ?_
  rintro _ _ ⟨Ab, cb, pp, bs, rfl, hrb, hcb, hbp, hsub, rfl⟩
  refine AO.val (RV.assign rfl) (.none rfl) rfl ?_
  refine AO.nil ?_
  refine AK.seq ?_
  refine AK.seq ?_
  refine AK.region ?_
  refine AO.val (RV.move rfl) (.none rfl) rfl ?_
  refine AO.eff (EF.callF rfl (rprime_spec B _ _)) (.none rfl) rfl ?_
  rintro _ _ ⟨rfl, rfl⟩
  refine AO.val (RV.not rfl) (.none rfl) rfl ?_
  refine AO.val (RV.move rfl) (.none rfl) rfl ?_
  refine AO.caseG rfl rfl rfl ?_ ?_
  · intro hg1
    try simp only [decide_eq_true_eq, decide_eq_false_iff_not, Bool.not_eq_true', Bool.not_eq_false', beq_iff_eq] at hg1
    refine AO.pass (.some rfl rfl rfl rfl) rfl ?_
    refine AO.pass (.some rfl rfl rfl rfl) rfl ?_
    refine AO.pass (.some rfl rfl rfl rfl) rfl ?_
    refine AO.val (RV.pickT rfl rfl) (.none rfl) rfl ?_
    refine AO.nil ?_
    refine AK.condT rfl ?_
    refine AK.seq ?_
    refine AK.region ?_
    refine AO.val (RV.assign rfl) (.none rfl) rfl ?_
    refine AO.nil ?_
    -- at t
    refine AK.ret (h' := h) Try.func35 (.tmp rfl .nil) ?_ (by exact SubO.sub)
    have hfs : fillS lo hi m (l.map prK) = [] := by rw [fillS, if_neg (fun h => by simp_all)]
    rw [hfs]
    exact ⟨none, 0, [], rfl, .nil, Nat.le_refl _, rfl⟩
  · intro hg1
    try simp only [decide_eq_true_eq, decide_eq_false_iff_not, Bool.not_eq_true', Bool.not_eq_false', beq_iff_eq] at hg1
    have hpr : prB m = true := by simpa using hg1
    have hm := prB_in hpr
    have hg := fun id => row_good (lo := lo) (hi := hi) (id := id) hpr
    refine AO.val (RV.move rfl) (.some rfl rfl rfl rfl) rfl ?_
    refine AO.val (RV.lenS rfl) (.some rfl rfl rfl rfl) rfl ?_
    refine AO.val (RV.eql rfl rfl) (.some rfl rfl rfl rfl) rfl ?_
    refine AO.val (RV.pickF rfl rfl) (.none rfl) rfl ?_
    refine AO.nil ?_
    refine AK.cond rfl ?_ ?_
    · intro hc2
      try simp only [decide_eq_true_eq, decide_eq_false_iff_not, Bool.not_eq_true', Bool.not_eq_false', beq_iff_eq] at hc2
      refine AK.seq ?_
      refine AK.region ?_
      refine AO.val (RV.assign rfl) (.none rfl) rfl ?_
      refine AO.nil ?_
      -- at fT
      refine AK.ret (h' := h) Try.func35 (.tmp rfl .nil) ?_ (by exact SubO.sub)
      have hp0 : (partsS (l.map prK)) = [] := by rw [← hbp]; exact List.map_eq_nil_iff.2 (List.eq_nil_of_length_eq_zero (by omega))
      have hfs : fillS lo hi m (l.map prK) = [] := by rw [fillS, if_neg (fun h => h.2 hp0)]
      rw [hfs]
      exact ⟨none, 0, [], rfl, .nil, Nat.le_refl _, rfl⟩
    · intro hc2
      try simp only [decide_eq_true_eq, decide_eq_false_iff_not, Bool.not_eq_true', Bool.not_eq_false', beq_iff_eq] at hc2
      have hne : (partsS (l.map prK)) ≠ [] := by rw [← hbp]; intro e; have := List.map_eq_nil_iff.1 e; subst this; simp at hc2
      have hgd := parts_good (l.map prK)
      have hbk := block_pos hgd hne
      have hpl1 : bs.length = (partsS (l.map prK)).length := by rw [← hbp, List.length_map]
      have hpln := parts_len (l.map prK)
      rw [List.length_map] at hpln
      have hpos : 0 < (partsS (l.map prK)).length := List.length_pos_iff.2 hne
      have hsb := hrb.src (B := B) (h := pp) (fun x hx => hx)
      refine AK.skip ?_
      refine AK.seq ?_
      refine AK.region ?_
      refine AO.val (RV.move rfl) (.none rfl) rfl ?_
      refine AO.eff (EF.makeSlice rfl rfl rfl (by omega) (by omega) (by omega)) (.none rfl) rfl ?_
      rintro _ _ ⟨b27, hf27, rfl, rfl⟩
      rw [hzi]
      refine AO.val (RV.assign rfl) (.none rfl) rfl ?_
      refine AO.nil ?_
      refine AK.seq ?_
      refine AK.region ?_
      refine AO.val (RV.move rfl) (.none rfl) rfl ?_
      refine AO.eff (EF.makeSlice rfl rfl rfl (by omega) (by omega) (by omega)) (.none rfl) rfl ?_
      rintro _ _ ⟨b29, hf29, rfl, rfl⟩
      rw [hzt]
      refine AO.val (RV.assign rfl) (.none rfl) rfl ?_
      refine AO.nil ?_
      refine AK.seq ?_
      refine AK.region ?_
      refine AO.eff (EF.buildSeq [] rfl rfl rfl rfl) (.none rfl) rfl ?_
      rintro _ _ ⟨b30, hf30, rfl, rfl⟩
      refine AO.val (RV.assign rfl) (.none rfl) rfl ?_
      refine AO.nil ?_
      refine AK.seq ?_
      refine AK.seq ?_
      refine AK.region ?_
      refine AO.val (RV.assign rfl) (.none rfl) rfl ?_
      refine AO.nil ?_
      refine AK.block ?_
      refine AK.loop (α := Int × Option Addr × Nat × Own × Own × List (InS Int)) (E := fun (i, Ar, cr, p, q, xs) => [(1, .int .i64 m), (3, .pointer (some ⟨b3, 0, none⟩)), (7, .slice Ab bs.length cb), (8, .slice (some ⟨b27, 0, none⟩) m.toNat m.toNat), (9, .slice (some ⟨b29, 0, none⟩) m.toNat m.toNat), (10, .slice Ar xs.length cr), (11, .int .i64 i)]) (H := fun (i, Ar, cr, p, q, xs) => p ++ (q ++ ((b29, Blk.cells (flat encT ((zeroF m.toNat).map fun q : Int × Bool => q.2)) 4 (0, 0)) :: (b27, Blk.cells (flat encI ((zeroF m.toNat).map fun q : Int × Bool => q.1)) 3 (0, 0)) :: (pp ++ ((b3, Blk.cells [.int .u64 lo, .int .u64 hi] 24 (0, 0)) :: h))))) (Inv := fun (i, Ar, cr, p, q, xs) => 0 ≤ i ∧ i ≤ bs.length ∧ (xs.length : Int) = i ∧ NewR 53 lo hi m B (pp ++ ((b3, Blk.cells [.int .u64 lo, .int .u64 hi] 24 (0, 0)) :: h)) Ar cr p q bs xs) (μ := fun (i, Ar, cr, p, q, xs) => (bs.length - i).toNat) (0, some ⟨b30, 0, none⟩, 0, [(b30, Blk.cells [] 53 (0, 0))], [], []) ?_ (.cons (by exact rfl) (.cons (by exact rfl) (.cons (by exact rfl) (.cons (by exact rfl) (.cons (by exact rfl) (.cons (by exact rfl) (.cons (by exact rfl) .nil))))))) ?_ ?_
      · exact ⟨by omega, by omega, rfl, Row.new rfl, Nat.le_refl _, fun x hx => (List.not_mem_nil hx).elim, fun j h0 h1 => by have h2 : j < 0 := h1; omega⟩
      · exact (by first | exact SubO.sub | exact List.Sublist.refl _ | exact .cons _ (List.Sublist.refl _) | exact .cons _ (.cons _ (List.Sublist.refl _)) | exact .cons _ (.cons _ (.cons _ (List.Sublist.refl _))))
      rintro ⟨i, Ar, cr, p, q, xs⟩ ⟨hi0, hi1, hxi, nr⟩ hih0
      try dsimp only at hih0 ⊢
      refine AK.seq ?_
      refine AK.seq ?_
      refine AK.region ?_
      refine AO.val (RV.move rfl) (.none rfl) rfl ?_
      refine AO.val (RV.move rfl) (.none rfl) rfl ?_
      refine AO.val (RV.lenS rfl) (.none rfl) rfl ?_
      refine AO.val (RV.lss rfl rfl) (.none rfl) rfl ?_
      refine AO.nil ?_
      refine AK.cond rfl ?_ ?_
      · intro hc3
        try simp only [decide_eq_true_eq, decide_eq_false_iff_not, Bool.not_eq_true', Bool.not_eq_false', beq_iff_eq] at hc3
        have hmb := lget_mem (l := bs) (i := i) (by omega)
        have hk1 := (hid _ (hsub _ hmb)).id
        refine AK.skip ?_
        refine AK.seq ?_
        refine AK.block ?_
        refine AK.draw [] [8, 9, 10] mixed ?_
        refine AD.takeP 0 rfl (by kernel_rfl) (RV.move rfl) (.none rfl) rfl ?_
        refine AD.take 1 rfl (by kernel_rfl) (by first | exact RV.loadAggO rfl rfl (by first | simp | assumption) | exact RV.loadAggP rfl rfl rfl (by first | simp | assumption) | exact RV.loadFA rfl (fun _ => rfl) (by omega) (by first | simp | assumption)) (.none rfl) rfl ?_
        refine AD.takeP 2 rfl (by kernel_rfl) (RV.move rfl) (.none rfl) rfl ?_
        refine AD.takeP 3 rfl (by kernel_rfl) (RV.move rfl) (.none rfl) rfl ?_
        refine AD.takeP 4 rfl (by kernel_rfl) (by first | exact RV.indexO rfl rfl (by omega) | exact RV.indexS rfl rfl (by assumption) (by omega) rfl | exact RV.indexAddr rfl rfl (by omega)) (.none rfl) rfl ?_
        refine AD.takeP 5 rfl (by kernel_rfl) (by first | exact RV.fieldAddr rfl | exact RV.fieldAddrA rfl) (.none rfl) rfl ?_
        refine AD.take 6 rfl (by kernel_rfl) (RV.loadSF (enc := encK) (l := bs) (i := i) (fo := 0) rfl hsb (fun _ => rfl) (by omega) rfl rfl (by simp)) (.none rfl) rfl ?_
        refine AD.takeP 7 rfl (by kernel_rfl) (RV.move rfl) (.none rfl) rfl ?_
        refine AD.one 8 (by kernel_rfl) (AE.eff rfl (EF.callF rfl (rrow_spec B _ lo hi (lget bs i).1 m hk1)) (.none rfl) rfl ?_)
        rintro _ _ ⟨A77, c77, p77, rfl, hr77, hc77, rfl⟩
        refine ⟨.inl (by kernel_rfl), ?_⟩
        refine AD.one 9 (by kernel_rfl) (AE.eff rfl (EF.buildSeq [slE (⟨A77, c77, rowS lo hi (lget bs i).1 m⟩ : InS Int)] rfl rfl rfl rfl) (.none rfl) rfl ?_)
        rintro _ _ ⟨b46, hf46, rfl, rfl⟩
        refine ⟨.inl (by kernel_rfl), ?_⟩
        refine AD.one 10 (by kernel_rfl) (AE.eff rfl (EF.appendS (n' := (xs ++ [(⟨A77, c77, rowS lo hi (lget bs i).1 m⟩ : InS Int)]).length) (ys := (xs ++ [(⟨A77, c77, rowS lo hi (lget bs i).1 m⟩ : InS Int)]).map slE) rfl rfl nr.row (Src.of_new (el := 53) (cs := [slE (⟨A77, c77, rowS lo hi (lget bs i).1 m⟩ : InS Int)]) List.mem_cons_self 1 1 (Nat.le_refl _)) (by simp) (by simp) rfl (by decide) rfl (by omega) (by omega)) (.none rfl) rfl ?_)
        rintro _ _ ⟨A47, c47, p47, rfl, hr47, hc47, rfl⟩
        refine ⟨.inl (by kernel_rfl), ?_⟩
        refine AD.takeP 11 rfl (by kernel_rfl) (RV.assign rfl) (.none rfl) rfl ?_
        refine AD.done (by kernel_rfl) ?_
        refine AK.inBlock ?_
        refine AK.region ?_
        refine AO.val (RV.move rfl) (.none rfl) rfl ?_
        refine AO.val (by first | exact RV.addIn rfl rfl (by omega) | exact RV.add rfl rfl) (.none rfl) rfl ?_
        refine AO.val (RV.assign rfl) (.none rfl) rfl ?_
        refine AO.nil ?_
        -- round ends at fFL0T
        refine AK.weak (.cons (by exact rfl) (.cons (by exact rfl) (.cons (by exact rfl) (.cons (by exact rfl) (.cons (by exact rfl) (.cons (by exact rfl) (.cons (by exact rfl) .nil))))))) (by rw [List.append_assoc p77 q]; exact List.Sublist.append_left (.cons _ (List.Sublist.refl _)) _) (hih0 (i + 1, A47, c47, p47, p77 ++ q, (xs ++ [(⟨A77, c77, rowS lo hi (lget bs i).1 m⟩ : InS Int)])) ?_ ?_)
        · try dsimp only
          exact ⟨by omega, by omega, by simp; omega, nr.snoc hr47 hc47 ⟨hr77.src fun x hx => List.mem_append_left _ hx, hc77⟩ (by rw [hxi])⟩
        · try dsimp only
          omega
      · intro hc3
        try simp only [decide_eq_true_eq, decide_eq_false_iff_not, Bool.not_eq_true', Bool.not_eq_false', beq_iff_eq] at hc3
        refine AK.exit rfl ?_
        refine AK.seq ?_
        refine AK.region ?_
        refine AO.val (RV.assign rfl) (.none rfl) rfl ?_
        refine AO.nil ?_
        refine AK.seq ?_
        refine AK.block ?_
        have hsx0 := nr.row.src (B := B) (h := p) (fun x hx => hx)
        refine AK.perm (h' := (b29, Blk.cells (flat encT ((zeroF m.toNat).map fun q : Int × Bool => q.2)) 4 (0, 0)) :: (b27, Blk.cells (flat encI ((zeroF m.toNat).map fun q : Int × Bool => q.1)) 3 (0, 0)) :: (p ++ (q ++ (pp ++ ((b3, Blk.cells [.int .u64 lo, .int .u64 hi] 24 (0, 0)) :: h))))) (perm_mid2 _ _ _ _ _) ?_
        refine AK.loop (α := Int × List (Int × Bool)) (E := fun (n, ss) => [(1, .int .i64 m), (7, .slice Ab bs.length cb), (8, .slice (some ⟨b27, 0, none⟩) m.toNat m.toNat), (9, .slice (some ⟨b29, 0, none⟩) m.toNat m.toNat), (10, .slice Ar xs.length cr), (12, .int .i64 n)]) (H := fun (n, ss) => (b29, Blk.cells (flat encT (ss.map fun q : Int × Bool => q.2)) 4 (0, 0)) :: (b27, Blk.cells (flat encI (ss.map fun q : Int × Bool => q.1)) 3 (0, 0)) :: (p ++ (q ++ (pp ++ ((b3, Blk.cells [.int .u64 lo, .int .u64 hi] 24 (0, 0)) :: h))))) (Inv := fun (n, ss) => ss.length = m.toNat ∧ 0 ≤ n ∧ n ≤ m ∧ (cntF ss : Int) = n ∧ ((cyc (partsS (l.map prK)) m.toNat).take (m - n).toNat).foldl (stepF (rowOf lo hi m)) ss = (fillF (rowOf lo hi m) (partsS (l.map prK)) m.toNat)) (μ := fun (n, ss) => (m - n).toNat) (0, (zeroF m.toNat)) ?_ (.cons (by exact rfl) (.cons (by exact rfl) (.cons (by exact rfl) (.cons (by exact rfl) (.cons (by exact rfl) (.cons (by exact rfl) .nil)))))) ?_ ?_
        · refine ⟨zero_len _, by omega, by omega, by rw [zero_cnt]; rfl, ?_⟩
          rw [Int.sub_zero]; rfl
        · exact (by first | exact SubO.sub | exact List.Sublist.refl _ | exact .cons _ (List.Sublist.refl _) | exact .cons _ (.cons _ (List.Sublist.refl _)) | exact .cons _ (.cons _ (.cons _ (List.Sublist.refl _))))
        rintro ⟨n, ss⟩ ⟨hsl, hn0, hn1, hcn, hfold⟩ hih1
        try dsimp only at hih1 ⊢
        refine AK.seq ?_
        refine AK.seq ?_
        refine AK.region ?_
        refine AO.val (RV.move rfl) (.none rfl) rfl ?_
        refine AO.val (RV.move rfl) (.none rfl) rfl ?_
        refine AO.val (RV.lss rfl rfl) (.none rfl) rfl ?_
        refine AO.nil ?_
        refine AK.cond rfl ?_ ?_
        · intro hc4
          try simp only [decide_eq_true_eq, decide_eq_false_iff_not, Bool.not_eq_true', Bool.not_eq_false', beq_iff_eq] at hc4
          refine AK.skip ?_
          refine AK.block ?_
          refine AK.seq ?_
          refine AK.region ?_
          refine AO.val (RV.assign rfl) (.none rfl) rfl ?_
          refine AO.nil ?_
          refine AK.block ?_
          have hfold1 := hfold
          rw [rest_start hbk (by omega)] at hfold1
          generalize hn00 : n = n0 at *
          refine AK.loop (α := Int × Int × List (Int × Bool)) (E := fun (i, n, ss) => [(1, .int .i64 m), (7, .slice Ab bs.length cb), (8, .slice (some ⟨b27, 0, none⟩) m.toNat m.toNat), (9, .slice (some ⟨b29, 0, none⟩) m.toNat m.toNat), (10, .slice Ar xs.length cr), (12, .int .i64 n), (13, .int .i64 i)]) (H := fun (i, n, ss) => (b29, Blk.cells (flat encT (ss.map fun q : Int × Bool => q.2)) 4 (0, 0)) :: (b27, Blk.cells (flat encI (ss.map fun q : Int × Bool => q.1)) 3 (0, 0)) :: (p ++ (q ++ (pp ++ ((b3, Blk.cells [.int .u64 lo, .int .u64 hi] 24 (0, 0)) :: h))))) (Inv := fun (i, n, ss) => ss.length = m.toNat ∧ 0 ≤ n ∧ n ≤ m ∧ (cntF ss : Int) = n ∧ 0 ≤ i ∧ i ≤ bs.length ∧ n0 ≤ n ∧ (0 < i → n0 < n) ∧ (i = 0 → n = n0) ∧ ((restT (partsS (l.map prK)) m.toNat (i.toNat)).take (m - n).toNat).foldl (stepF (rowOf lo hi m)) ss = (fillF (rowOf lo hi m) (partsS (l.map prK)) m.toNat)) (μ := fun (i, n, ss) => (bs.length - i).toNat) (0, n0, ss) ?_ (.cons (by exact rfl) (.cons (by exact rfl) (.cons (by exact rfl) (.cons (by exact rfl) (.cons (by exact rfl) (.cons (by exact rfl) (.cons (by exact rfl) .nil))))))) ?_ ?_
          · exact ⟨hsl, hn0, hn1, hcn, by omega, by omega, by omega, fun h => by omega, fun _ => rfl, hfold1⟩
          · exact (by first | exact SubO.sub | exact List.Sublist.refl _ | exact .cons _ (List.Sublist.refl _) | exact .cons _ (.cons _ (List.Sublist.refl _)) | exact .cons _ (.cons _ (.cons _ (List.Sublist.refl _))))
          rintro ⟨i, n, ss⟩ ⟨hsl, hn0, hn1, hcn, hi0, hi1, hle, hlt0, heq0, hfold⟩ hih2
          try dsimp only at hih2 ⊢
          refine AK.seq ?_
          refine AK.seq ?_
          refine AK.region ?_
          refine AO.val (RV.move rfl) (.none rfl) rfl ?_
          refine AO.val (RV.move rfl) (.none rfl) rfl ?_
          refine AO.val (RV.lenS rfl) (.none rfl) rfl ?_
          refine AO.val (RV.lss rfl rfl) (.none rfl) rfl ?_
          refine AO.nil ?_
          refine AK.cond rfl ?_ ?_
          · intro hc5
            try simp only [decide_eq_true_eq, decide_eq_false_iff_not, Bool.not_eq_true', Bool.not_eq_false', beq_iff_eq] at hc5
            have hix : 0 ≤ i ∧ i < bs.length := ⟨hi0, by omega⟩
            have hpg : lget (partsS (l.map prK)) i = prK (lget bs i) := by
              obtain ⟨h2, e⟩ := lget_at hix
              rw [e, ← hbp]; simp [lget, List.getD, h2]
            have hpi : i.toNat < (partsS (l.map prK)).length := by omega
            have hpe : (partsS (l.map prK))[i.toNat] = prK (lget bs i) := by rw [← hpg]; simp [lget, List.getD, hpi]
            have hwt := weight_in (hgd.2 _ (by rw [← hpe]; exact List.getElem_mem hpi : prK (lget bs i) ∈ (partsS (l.map prK))))
            simp only [prK] at hwt
            have hrs := rest_step m.toNat hpi
            rw [hpe] at hrs
            have hxm := nr.src _ (lget_mem (l := xs) (i := i) (by omega))
            have hxl := nr.row_ i hi0 (by omega)
            have hgi := hg (lget bs i).1
            have hxn : (lget xs i).l.length = m.toNat := by rw [hxl, hgi.len]
            have hxs : Src B (p ++ (q ++ (pp ++ ((b3, Blk.cells [.int .u64 lo, .int .u64 hi] 24 (0, 0)) :: h)))) (lget xs i).A (lget xs i).l.length 1 ((lget xs i).l.map (fun x => Value.int .i64 x)) := hxm.1.mono fun x hx => List.mem_append_right _ hx
            refine AK.skip ?_
            refine AK.seq ?_
            refine AK.block ?_
            refine AK.seq ?_
            refine AK.region ?_
            refine AO.val (RV.assign rfl) (.none rfl) rfl ?_
            refine AO.nil ?_
            refine AK.block ?_
            have hfold2 := hfold
            rw [hrs] at hfold2
            refine AK.loop (α := Int × Int × List (Int × Bool)) (E := fun (w, n, ss) => [(1, .int .i64 m), (7, .slice Ab bs.length cb), (8, .slice (some ⟨b27, 0, none⟩) m.toNat m.toNat), (9, .slice (some ⟨b29, 0, none⟩) m.toNat m.toNat), (10, .slice Ar xs.length cr), (12, .int .i64 n), (13, .int .i64 i), (14, .int .i64 w)]) (H := fun (w, n, ss) => (b29, Blk.cells (flat encT (ss.map fun q : Int × Bool => q.2)) 4 (0, 0)) :: (b27, Blk.cells (flat encI (ss.map fun q : Int × Bool => q.1)) 3 (0, 0)) :: (p ++ (q ++ (pp ++ ((b3, Blk.cells [.int .u64 lo, .int .u64 hi] 24 (0, 0)) :: h))))) (Inv := fun (w, n, ss) => ss.length = m.toNat ∧ 0 ≤ n ∧ n ≤ m ∧ (cntF ss : Int) = n ∧ 0 ≤ w ∧ w ≤ (lget bs i).2.2.2.1 ∧ n0 ≤ n ∧ (0 < w → n0 < n) ∧ (w = 0 → 0 < i → n0 < n) ∧ (w = 0 → i = 0 → n = n0) ∧ ((List.replicate ((lget bs i).2.2.2.1 - w).toNat (prK (lget bs i)) ++ restT (partsS (l.map prK)) m.toNat (i.toNat + 1)).take (m - n).toNat).foldl (stepF (rowOf lo hi m)) ss = (fillF (rowOf lo hi m) (partsS (l.map prK)) m.toNat)) (μ := fun (w, n, ss) => ((lget bs i).2.2.2.1 - w).toNat) (0, n, ss) ?_ (.cons (by exact rfl) (.cons (by exact rfl) (.cons (by exact rfl) (.cons (by exact rfl) (.cons (by exact rfl) (.cons (by exact rfl) (.cons (by exact rfl) (.cons (by exact rfl) .nil)))))))) ?_ ?_
            · refine ⟨hsl, hn0, hn1, hcn, by omega, by omega, by omega, fun h => by omega, fun _ => hlt0, fun _ => heq0, ?_⟩
              rw [Int.sub_zero]; exact hfold2
            · exact (by first | exact SubO.sub | exact List.Sublist.refl _ | exact .cons _ (List.Sublist.refl _) | exact .cons _ (.cons _ (List.Sublist.refl _)) | exact .cons _ (.cons _ (.cons _ (List.Sublist.refl _))))
            rintro ⟨w, n, ss⟩ ⟨hsl, hn0, hn1, hcn, hw0, hw1, hle, hlt2, hlt3, heq3, hfold⟩ hih3
            try dsimp only at hih3 ⊢
            refine AK.seq ?_
            refine AK.seq ?_
            refine AK.region ?_
            refine AO.val (RV.move rfl) (.none rfl) rfl ?_
            refine AO.val (RV.move rfl) (.none rfl) rfl ?_
            refine AO.val (RV.move rfl) (.none rfl) rfl ?_
            refine AO.val (by first | exact RV.indexO rfl rfl (by omega) | exact RV.indexS rfl rfl (by assumption) (by omega) rfl | exact RV.indexAddr rfl rfl (by omega)) (.none rfl) rfl ?_
            refine AO.val (by first | exact RV.fieldAddr rfl | exact RV.fieldAddrA rfl) (.none rfl) rfl ?_
            refine AO.val (RV.loadSF (enc := encK) (l := bs) (i := i) (fo := 3) rfl hsb (fun _ => rfl) (by omega) rfl rfl (by simp)) (.none rfl) rfl ?_
            refine AO.val (RV.lss rfl rfl) (.none rfl) rfl ?_
            refine AO.val (RV.move rfl) (.none rfl) rfl ?_
            refine AO.caseG rfl rfl rfl ?_ ?_
            · intro hg6
              try simp only [decide_eq_true_eq, decide_eq_false_iff_not, Bool.not_eq_true', Bool.not_eq_false', beq_iff_eq] at hg6
              refine AO.val (RV.move rfl) (.some rfl rfl rfl rfl) rfl ?_
              refine AO.val (RV.move rfl) (.some rfl rfl rfl rfl) rfl ?_
              refine AO.val (RV.lss rfl rfl) (.some rfl rfl rfl rfl) rfl ?_
              refine AO.val (RV.pickT rfl rfl) (.none rfl) rfl ?_
              refine AO.nil ?_
              refine AK.cond rfl ?_ ?_
              · intro hc7
                try simp only [decide_eq_true_eq, decide_eq_false_iff_not, Bool.not_eq_true', Bool.not_eq_false', beq_iff_eq] at hc7
                have hlt : cntF ss < m.toNat := by omega
                have hsp := spot_in hgi hsl hlt
                have hfl := free_lt hgi hsl hlt
                refine AK.skip ?_
                refine AK.seq ?_
                refine AK.block ?_
                refine AK.seq ?_
                refine AK.region ?_
                refine AO.val (RV.assign rfl) (.none rfl) rfl ?_
                refine AO.nil ?_
                refine AK.seq ?_
                refine AK.block ?_
                refine AK.loop (α := Int) (E := fun j => [(1, .int .i64 m), (7, .slice Ab bs.length cb), (8, .slice (some ⟨b27, 0, none⟩) m.toNat m.toNat), (9, .slice (some ⟨b29, 0, none⟩) m.toNat m.toNat), (10, .slice Ar xs.length cr), (12, .int .i64 n), (13, .int .i64 i), (14, .int .i64 w), (15, .int .i64 j)]) (H := fun j => (b29, Blk.cells (flat encT (ss.map fun q : Int × Bool => q.2)) 4 (0, 0)) :: (b27, Blk.cells (flat encI (ss.map fun q : Int × Bool => q.1)) 3 (0, 0)) :: (p ++ (q ++ (pp ++ ((b3, Blk.cells [.int .u64 lo, .int .u64 hi] 24 (0, 0)) :: h))))) (Inv := fun j => 0 ≤ j ∧ j ≤ (free (rowS lo hi (lget bs i).1 m) ss : Int) ∧ ∀ k : Int, 0 ≤ k → k < j → lget (ss.map (·.2)) (lget (rowS lo hi (lget bs i).1 m) k) = true) (μ := fun j => ((free (rowS lo hi (lget bs i).1 m) ss : Int) - j).toNat) 0 ?_ (.cons (by exact rfl) (.cons (by exact rfl) (.cons (by exact rfl) (.cons (by exact rfl) (.cons (by exact rfl) (.cons (by exact rfl) (.cons (by exact rfl) (.cons (by exact rfl) (.cons (by exact rfl) .nil))))))))) ?_ ?_
                · exact ⟨by omega, by omega, fun k h1 h2 => by omega⟩
                · exact (by first | exact SubO.sub | exact List.Sublist.refl _ | exact .cons _ (List.Sublist.refl _) | exact .cons _ (.cons _ (List.Sublist.refl _)) | exact .cons _ (.cons _ (.cons _ (List.Sublist.refl _))))
                rintro j ⟨hj0, hj1, hall⟩ hih4
                try dsimp only at hih4 ⊢
                have hra := row_at hgi hj0 (by omega)
                rw [← hxl] at hra
                have hsx : Src B (p ++ (q ++ (pp ++ ((b3, Blk.cells [.int .u64 lo, .int .u64 hi] 24 (0, 0)) :: h)))) Ar xs.length 1 (xs.map slE) := hsx0.mono fun x hx => List.mem_append_left _ hx
                have hst : Src B ((b29, Blk.cells (flat encT (ss.map fun q : Int × Bool => q.2)) 4 (0, 0)) :: (b27, Blk.cells (flat encI (ss.map fun q : Int × Bool => q.1)) 3 (0, 0)) :: (p ++ (q ++ (pp ++ ((b3, Blk.cells [.int .u64 lo, .int .u64 hi] 24 (0, 0)) :: h))))) (some ⟨b29, 0, none⟩) m.toNat 1 ((ss.map fun q : Int × Bool => q.2).map Value.bool) := src_flat1 (f := Value.bool) List.mem_cons_self (by rw [List.length_map, hsl])
                refine AK.seq ?_
                refine AK.seq ?_
                refine AK.region ?_
                refine AO.val (RV.move rfl) (.none rfl) rfl ?_
                refine AO.val (RV.move rfl) (.none rfl) rfl ?_
                refine AO.val (RV.move rfl) (.none rfl) rfl ?_
                refine AO.val (by first | exact RV.indexO rfl rfl (by omega) | exact RV.indexS rfl rfl (by assumption) (by omega) rfl | exact RV.indexAddr rfl rfl (by omega)) (.none rfl) rfl ?_
                refine AO.val (RV.loadS (enc := slE) (l := xs) (i := i) rfl hsx (by omega) (by simp)) (.none rfl) rfl ?_
                refine AO.val (RV.move rfl) (.none rfl) rfl ?_
                refine AO.val (RV.indexS rfl rfl hxs (by omega) rfl) (.none rfl) rfl ?_
                refine AO.val (RV.loadS (enc := Value.int .i64) (l := (lget xs i).l) (i := j) rfl hxs (by omega) (by simp)) (.none rfl) rfl ?_
                refine AO.val (RV.indexS rfl rfl hst (by omega) rfl) (.none rfl) rfl ?_
                refine AO.val (RV.loadS (enc := Value.bool) (l := ss.map fun q : Int × Bool => q.2) rfl hst (by rw [List.length_map, hsl]; omega) (by simp)) (.none rfl) rfl ?_
                refine AO.nil ?_
                refine AK.cond rfl ?_ ?_
                · intro hc8
                  try simp only [decide_eq_true_eq, decide_eq_false_iff_not, Bool.not_eq_true', Bool.not_eq_false', beq_iff_eq] at hc8
                  have hct := hc8
                  refine AK.skip ?_
                  refine AK.block ?_
                  refine AK.region ?_
                  refine AO.val (RV.move rfl) (.none rfl) rfl ?_
                  refine AO.val (by first | exact RV.addIn rfl rfl (by omega) | exact RV.add rfl rfl) (.none rfl) rfl ?_
                  refine AO.val (RV.assign rfl) (.none rfl) rfl ?_
                  refine AO.nil ?_
                  refine AK.inBlock ?_
                  -- round ends at fFL0FL1TL2TL3tTL4T
                  have hall2 : ∀ k : Int, 0 ≤ k → k < j + 1 → lget (ss.map (·.2)) (lget (rowS lo hi (lget bs i).1 m) k) = true := fun k h1 h2 => by
                    by_cases hk : k = j
                    · subst hk; rw [← hxl]; exact hct
                    · exact hall k h1 (by omega)
                  have hj4 := taken_le hgi hsl hlt (j := j + 1) (by omega) hall2
                  refine AK.weak (.cons (by exact rfl) (.cons (by exact rfl) (.cons (by exact rfl) (.cons (by exact rfl) (.cons (by exact rfl) (.cons (by exact rfl) (.cons (by exact rfl) (.cons (by exact rfl) (.cons (by exact rfl) .nil))))))))) (by first | exact SubO.sub | exact List.Sublist.refl _ | exact .cons _ (List.Sublist.refl _) | exact .cons _ (.cons _ (List.Sublist.refl _)) | exact .cons _ (.cons _ (.cons _ (List.Sublist.refl _)))) (hih4 (j + 1) ?_ ?_)
                  · try dsimp only
                    exact ⟨by omega, hj4, hall2⟩
                  · try dsimp only
                    omega
                · intro hc8
                  try simp only [decide_eq_true_eq, decide_eq_false_iff_not, Bool.not_eq_true', Bool.not_eq_false', beq_iff_eq] at hc8
                  have hcf := hc8
                  have hfe : (free (rowS lo hi (lget bs i).1 m) ss : Int) = j := taken_before hj0 (by rw [hgi.len]; omega) hall (by rw [← hxl]; exact hcf)
                  have hspj : lget (lget xs i).l j = spot (rowS lo hi (lget bs i).1 m) ss := by rw [hxl, spot, hfe]
                  refine AK.exit rfl ?_
                  refine AK.seq ?_
                  refine AK.draw [] [14] mixed ?_
                  refine AD.takeP 0 rfl (by kernel_rfl) (RV.move rfl) (.none rfl) rfl ?_
                  refine AD.takeP 1 rfl (by kernel_rfl) (RV.move rfl) (.none rfl) rfl ?_
                  refine AD.takeP 2 rfl (by kernel_rfl) (RV.move rfl) (.none rfl) rfl ?_
                  refine AD.takeP 3 rfl (by kernel_rfl) (by first | exact RV.indexO rfl rfl (by omega) | exact RV.indexS rfl rfl (by assumption) (by omega) rfl | exact RV.indexAddr rfl rfl (by omega)) (.none rfl) rfl ?_
                  refine AD.take 4 rfl (by kernel_rfl) (RV.loadS (enc := slE) (l := xs) (i := i) rfl hsx (by omega) (by simp)) (.none rfl) rfl ?_
                  refine AD.takeP 5 rfl (by kernel_rfl) (RV.move rfl) (.none rfl) rfl ?_
                  refine AD.takeP 6 rfl (by kernel_rfl) (RV.indexS rfl rfl hxs (by omega) rfl) (.none rfl) rfl ?_
                  refine AD.take 7 rfl (by kernel_rfl) ((RV.loadS (enc := Value.int .i64) (l := (lget xs i).l) (i := j) rfl hxs (by omega) (by simp)).to (v' := .int .i64 (spot (rowS lo hi (lget bs i).1 m) ss)) (by rw [hspj])) (.none rfl) rfl ?_
                  refine AD.takeP 8 rfl (by kernel_rfl) (RV.move rfl) (.none rfl) rfl ?_
                  refine AD.takeP 9 rfl (by kernel_rfl) (RV.move rfl) (.none rfl) rfl ?_
                  refine AD.takeP 10 rfl (by kernel_rfl) (by first | exact RV.indexO rfl rfl (by omega) | exact RV.indexS rfl rfl (by assumption) (by omega) rfl | exact RV.indexAddr rfl rfl (by omega)) (.none rfl) rfl ?_
                  refine AD.takeP 11 rfl (by kernel_rfl) (by first | exact RV.fieldAddr rfl | exact RV.fieldAddrA rfl) (.none rfl) rfl ?_
                  refine AD.take 12 rfl (by kernel_rfl) (RV.loadSF (enc := encK) (l := bs) (i := i) (fo := 0) rfl hsb (fun _ => rfl) (by omega) rfl rfl (by simp)) (.none rfl) rfl ?_
                  refine AD.takeP 13 rfl (by kernel_rfl) (by first | exact RV.indexO rfl rfl (by omega) | exact RV.indexS rfl rfl (by assumption) (by omega) rfl | exact RV.indexAddr rfl rfl (by omega)) (.none rfl) rfl ?_
                  refine AD.one 14 (by kernel_rfl) (AE.effN rfl (EF.storeF0 (enc := encI) (l := ss.map fun q : Int × Bool => q.1) (prK (lget bs i)).1 rfl rfl (fun _ => rfl) (by rw [List.length_map, hsl]; omega) rfl rfl rfl (Nat.le_of_ble_eq_true rfl) rfl) (.none rfl) ?_)
                  rintro _ _ rfl
                  refine ⟨.inl (by kernel_rfl), ?_⟩
                  refine AD.done (by kernel_rfl) ?_
                  refine AK.seq ?_
                  refine AK.region ?_
                  refine AO.val (RV.move rfl) (.none rfl) rfl ?_
                  refine AO.val (RV.move rfl) (.none rfl) rfl ?_
                  refine AO.val (RV.move rfl) (.none rfl) rfl ?_
                  refine AO.val (by first | exact RV.indexO rfl rfl (by omega) | exact RV.indexS rfl rfl (by assumption) (by omega) rfl | exact RV.indexAddr rfl rfl (by omega)) (.none rfl) rfl ?_
                  refine AO.val (RV.loadS (enc := slE) (l := xs) (i := i) rfl hsx (by omega) (by simp)) (.none rfl) rfl ?_
                  refine AO.val (RV.move rfl) (.none rfl) rfl ?_
                  refine AO.val (RV.indexS rfl rfl hxs (by omega) rfl) (.none rfl) rfl ?_
                  refine AO.val ((RV.loadS (enc := Value.int .i64) (l := (lget xs i).l) (i := j) rfl hxs (by omega) (by simp)).to (v' := .int .i64 (spot (rowS lo hi (lget bs i).1 m) ss)) (by rw [hspj])) (.none rfl) rfl ?_
                  refine AO.val (by first | exact RV.indexO rfl rfl (by omega) | exact RV.indexS rfl rfl (by assumption) (by omega) rfl | exact RV.indexAddr rfl rfl (by omega)) (.none rfl) rfl ?_
                  refine AO.effN (EF.storeF0 (enc := encT) (l := ss.map fun q : Int × Bool => q.2) true rfl rfl (fun _ => rfl) (by rw [List.length_map, hsl]; omega) rfl rfl rfl (Nat.le_of_ble_eq_true rfl) rfl) (.none rfl) ?_
                  rintro _ _ rfl
                  refine AO.nil ?_
                  refine AK.region ?_
                  refine AO.val (RV.move rfl) (.none rfl) rfl ?_
                  refine AO.val (by first | exact RV.addIn rfl rfl (by omega) | exact RV.add rfl rfl) (.none rfl) rfl ?_
                  refine AO.val (RV.assign rfl) (.none rfl) rfl ?_
                  refine AO.nil ?_
                  refine AK.inBlock ?_
                  refine AK.region ?_
                  refine AO.val (RV.move rfl) (.none rfl) rfl ?_
                  refine AO.val (by first | exact RV.addIn rfl rfl (by omega) | exact RV.add rfl rfl) (.none rfl) rfl ?_
                  refine AO.val (RV.assign rfl) (.none rfl) rfl ?_
                  refine AO.nil ?_
                  -- round ends at fFL0FL1TL2TL3tTL4F
                  rw [rep_step _ _ (by omega) (by omega), List.foldl_cons] at hfold
                  refine AK.weak (.cons (by exact rfl) (.cons (by exact rfl) (.cons (by exact rfl) (.cons (by exact rfl) (.cons (by exact rfl) (.cons (by exact rfl) (.cons (by exact rfl) (.cons (by exact rfl) .nil)))))))) (by simp only [stepF, map_lset]; exact List.Sublist.refl _) (hih3 (w + 1, n + 1, (stepF (rowOf lo hi m) ss (prK (lget bs i)))) ?_ ?_)
                  · try dsimp only
                    refine ⟨by rw [step_len]; exact hsl, by omega, by omega, by rw [step_cnt hg hsl hlt]; omega, by omega, by omega, by omega, fun _ => by omega, fun h => by omega, fun h => by omega, ?_⟩
                    rw [show (lget bs i).2.2.2.1 - (w + 1) = (lget bs i).2.2.2.1 - w - 1 by omega, show m - (n + 1) = m - n - 1 by omega]
                    exact hfold
                  · try dsimp only
                    omega
              · intro hc7
                try simp only [decide_eq_true_eq, decide_eq_false_iff_not, Bool.not_eq_true', Bool.not_eq_false', beq_iff_eq] at hc7
                refine AK.exit rfl ?_
                refine AK.inBlock ?_
                refine AK.region ?_
                refine AO.val (RV.move rfl) (.none rfl) rfl ?_
                refine AO.val (by first | exact RV.addIn rfl rfl (by omega) | exact RV.add rfl rfl) (.none rfl) rfl ?_
                refine AO.val (RV.assign rfl) (.none rfl) rfl ?_
                refine AO.nil ?_
                -- round ends at fFL0FL1TL2TL3tF
                rw [show (m - n).toNat = 0 by omega, List.take_zero] at hfold
                refine AK.weak (.cons (by exact rfl) (.cons (by exact rfl) (.cons (by exact rfl) (.cons (by exact rfl) (.cons (by exact rfl) (.cons (by exact rfl) (.cons (by exact rfl) .nil))))))) (by first | exact SubO.sub | exact List.Sublist.refl _ | exact .cons _ (List.Sublist.refl _) | exact .cons _ (.cons _ (List.Sublist.refl _)) | exact .cons _ (.cons _ (.cons _ (List.Sublist.refl _)))) (hih2 (i + 1, n, ss) ?_ ?_)
                · try dsimp only
                  refine ⟨hsl, hn0, hn1, hcn, by omega, by omega, by omega, fun _ => by omega, fun h => by omega, ?_⟩
                  rw [show (i + 1).toNat = i.toNat + 1 by omega]
                  rw [show (m - n).toNat = 0 by omega, List.take_zero]; exact hfold
                · try dsimp only
                  omega
            · intro hg6
              try simp only [decide_eq_true_eq, decide_eq_false_iff_not, Bool.not_eq_true', Bool.not_eq_false', beq_iff_eq] at hg6
              refine AO.pass (.some rfl rfl rfl rfl) rfl ?_
              refine AO.pass (.some rfl rfl rfl rfl) rfl ?_
              refine AO.pass (.some rfl rfl rfl rfl) rfl ?_
              refine AO.val (RV.pickF rfl rfl) (.none rfl) rfl ?_
              refine AO.nil ?_
              refine AK.condF rfl ?_
              refine AK.exit rfl ?_
              refine AK.inBlock ?_
              refine AK.region ?_
              refine AO.val (RV.move rfl) (.none rfl) rfl ?_
              refine AO.val (by first | exact RV.addIn rfl rfl (by omega) | exact RV.add rfl rfl) (.none rfl) rfl ?_
              refine AO.val (RV.assign rfl) (.none rfl) rfl ?_
              refine AO.nil ?_
              -- round ends at fFL0FL1TL2TL3f
              rw [show ((lget bs i).2.2.2.1 - w).toNat = 0 by omega, List.replicate_zero, List.nil_append] at hfold
              refine AK.weak (.cons (by exact rfl) (.cons (by exact rfl) (.cons (by exact rfl) (.cons (by exact rfl) (.cons (by exact rfl) (.cons (by exact rfl) (.cons (by exact rfl) .nil))))))) (by first | exact SubO.sub | exact List.Sublist.refl _ | exact .cons _ (List.Sublist.refl _) | exact .cons _ (.cons _ (List.Sublist.refl _)) | exact .cons _ (.cons _ (.cons _ (List.Sublist.refl _)))) (hih2 (i + 1, n, ss) ?_ ?_)
              · try dsimp only
                refine ⟨hsl, hn0, hn1, hcn, by omega, by omega, by omega, fun _ => by omega, fun h => by omega, ?_⟩
                rw [show (i + 1).toNat = i.toNat + 1 by omega]
                exact hfold
              · try dsimp only
                omega
          · intro hc5
            try simp only [decide_eq_true_eq, decide_eq_false_iff_not, Bool.not_eq_true', Bool.not_eq_false', beq_iff_eq] at hc5
            refine AK.exit rfl ?_
            refine AK.inBlock ?_
            -- round ends at fFL0FL1TL2F
            rw [rest_end _ _ (by omega)] at hfold
            refine AK.weak (.cons (by exact rfl) (.cons (by exact rfl) (.cons (by exact rfl) (.cons (by exact rfl) (.cons (by exact rfl) (.cons (by exact rfl) .nil)))))) (by first | exact SubO.sub | exact List.Sublist.refl _ | exact .cons _ (List.Sublist.refl _) | exact .cons _ (.cons _ (List.Sublist.refl _)) | exact .cons _ (.cons _ (.cons _ (List.Sublist.refl _)))) (hih1 (n, ss) ?_ ?_)
            · try dsimp only
              exact ⟨hsl, hn0, hn1, hcn, hfold⟩
            · try dsimp only
              have := hlt0 (by omega); omega
        · intro hc4
          try simp only [decide_eq_true_eq, decide_eq_false_iff_not, Bool.not_eq_true', Bool.not_eq_false', beq_iff_eq] at hc4
          refine AK.exit rfl ?_
          refine AK.seq ?_
          refine AK.region ?_
          refine AO.val (RV.move rfl) (.none rfl) rfl ?_
          refine AO.val (RV.assign rfl) (.none rfl) rfl ?_
          refine AO.nil ?_
          -- at fFL0FL1F
          clear hih0
          clear hih1
          refine AK.ret (h' := (b27, Blk.cells (flat encI (ss.map fun q : Int × Bool => q.1)) 3 (0, 0)) :: h) Try.func35 (.tmp rfl .nil) ?_ (by exact SubO.sub)
          have hl0 : (m - n).toNat = 0 := by omega
          rw [hl0, List.take_zero] at hfold
          have hfold : ss = (fillF (rowOf lo hi m) (partsS (l.map prK)) m.toNat) := hfold
          have hfs : fillS lo hi m (l.map prK) = ss.map (·.1) := by rw [fillS, if_pos ⟨hpr, hne⟩, hfold]
          rw [hfs, List.length_map, hsl]
          rw [show flat encI (ss.map fun q : Int × Bool => q.1) = (ss.map (·.1)).map (fun x => Value.int .i64 x) from flat_map1 _ _] at *
          exact ⟨some ⟨b27, 0, none⟩, m.toNat, [_], rfl, Row.new (by rw [List.length_map, List.length_map, hsl, Nat.mul_one]), Nat.le_refl _, rfl⟩

end Go.Proofs.Ytbdlohjmifgcaaa
