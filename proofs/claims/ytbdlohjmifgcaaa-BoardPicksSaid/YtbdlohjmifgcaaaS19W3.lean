/- Walks through the code: what each function that is named here gives back, from any memory that holds its arguments. Written by a program of the claim's author, out of the program's form in Lean. -/
import Derived.Test.YtbdlohjmifgcaaaS19W2
set_option linter.unusedSimpArgs false
set_option linter.unusedVariables false
namespace Go.Proofs.Ytbdlohjmifgcaaa
open Go.Sep Go.Sep.Sip Go.Sep.Perm Go.Sep.Maglev
theorem perm_ab (p X : Own) (a b : Nat × Blk) : (a :: b :: (p ++ X)).Perm (p ++ (a :: b :: X)) := perm_count fun x => by simp only [List.count_append, List.count_cons]; omega
theorem perm_ba (p X : Own) (a b : Nat × Blk) : (a :: b :: (p ++ X)).Perm (p ++ (b :: a :: X)) := perm_count fun x => by simp only [List.count_append, List.count_cons]; omega
theorem flat_map1 {α : Type} (f : α → Value) (l : List α) : flat (fun x => [f x]) l = l.map f := by
  induction l with
  | nil => rfl
  | cons x r ih => simp only [flat, List.flatMap_cons, List.map_cons] at ih ⊢; rw [ih]; rfl

set_option maxHeartbeats 1600000 in
theorem mfill_spec (B : World) (h : Own) (lo hi m : Int) {A : Option Addr} {cap : Nat} (l : List Bk) (hl : Src B h A l.length 6 (flat encK l)) (hid : ∀ b ∈ l, BkOk b) (hcap : l.length ≤ cap) (hln : l.length ≤ 1000) : Tri Try.prog B 27 [.agg #[.int .u64 lo, .int .u64 hi], .int .i64 m, .slice A l.length cap] h fun v h' => NewS 3 1 (fillS lo hi m (l.map prK)).length ((fillS lo hi m (l.map prK)).map (fun x => Value.int .i64 x)) h v h' := by
  have hzi : zerosL m.toNat [Value.int .i64 0] = flat encI ((zeroF m.toNat).map (·.1)) := by rw [zeros_flat, zeroF, List.map_replicate]
  have hzt : zerosL m.toNat [Value.bool false] = flat encT ((zeroF m.toNat).map (·.2)) := by rw [zeros_flat (α := Bool), zeroF, List.map_replicate]
  refine Tri.enter (n := 69) Try.func27 rfl rfl rfl ?_
  simp only [argsE, Nat.reduceAdd]
  try dsimp only [argsE]
  refine AK.seq ?_
  refine AK.region ?_
  refine AO.eff (EF.box rfl rfl) (.none rfl) rfl ?_
  rintro _ _ ⟨b3, hf3, rfl, rfl⟩
  refine AO.val (RV.assign rfl) (.none rfl) rfl ?_
  refine AO.nil ?_
  refine AK.seq ?_
  refine AK.seq ?_
  refine AK.region ?_
  refine AO.val (RV.move rfl) (.none rfl) rfl ?_
  refine AO.eff (EF.callF rfl (prime_spec B _ _)) (.none rfl) rfl ?_
  rintro _ _ ⟨rfl, rfl⟩
  refine AO.val (RV.not rfl) (.none rfl) rfl ?_
  refine AO.nil ?_
  refine AK.cond rfl ?_ ?_
  · intro hc1
    try simp only [decide_eq_true_eq, decide_eq_false_iff_not, Bool.not_eq_true', Bool.not_eq_false', beq_iff_eq] at hc1
    refine AK.seq ?_
    refine AK.region ?_
    refine AO.val (RV.assign rfl) (.none rfl) rfl ?_
    refine AO.nil ?_
    -- at T
    refine AK.ret (h' := h) Try.func27 (.tmp rfl .nil) ?_ (by exact SubO.sub)
    have hfs : fillS lo hi m (l.map prK) = [] := by rw [fillS, if_neg (fun h => by simp_all)]
    rw [hfs]
    exact ⟨none, 0, [], rfl, .nil, Nat.le_refl _, rfl⟩
  · intro hc1
    try simp only [decide_eq_true_eq, decide_eq_false_iff_not, Bool.not_eq_true', Bool.not_eq_false', beq_iff_eq] at hc1
    have hpr : prB m = true := by simpa using hc1
    have hm := prB_in hpr
    have hg := fun id => row_good (lo := lo) (hi := hi) (id := id) hpr
    refine AK.skip ?_
    refine AK.seq ?_
    refine AK.region ?_
    refine AO.val (by first | exact RV.loadAggO rfl rfl (by first | simp | assumption) | exact RV.loadAggP rfl rfl rfl (by first | simp | assumption) | exact RV.loadFA rfl (fun _ => rfl) (by omega) (by first | simp | assumption)) (.none rfl) rfl ?_
    refine AO.val (RV.move rfl) (.none rfl) rfl ?_
    refine AO.val (RV.move rfl) (.none rfl) rfl ?_
    refine AO.eff (EF.callF rfl (players_spec B _ lo hi m l hl.sub hid hcap hln)) (.none rfl) rfl ?_
    rintro _ _ ⟨Ao, c, p, q, ps, rfl, hn, hpp, rfl⟩
    refine AO.val (RV.assign rfl) (.none rfl) rfl ?_
    refine AO.nil ?_
    refine AK.seq ?_
    refine AK.seq ?_
    refine AK.region ?_
    refine AO.val (RV.move rfl) (.none rfl) rfl ?_
    refine AO.val (RV.lenS rfl) (.none rfl) rfl ?_
    refine AO.val (RV.eql rfl rfl) (.none rfl) rfl ?_
    refine AO.nil ?_
    refine AK.cond rfl ?_ ?_
    · intro hc2
      try simp only [decide_eq_true_eq, decide_eq_false_iff_not, Bool.not_eq_true', Bool.not_eq_false', beq_iff_eq] at hc2
      refine AK.seq ?_
      refine AK.region ?_
      refine AO.val (RV.assign rfl) (.none rfl) rfl ?_
      refine AO.nil ?_
      -- at FT
      refine AK.ret (h' := h) Try.func27 (.tmp rfl .nil) ?_ (by exact SubO.sub)
      have hp0 : (partsS (l.map prK)) = [] := by rw [← hpp]; exact List.map_eq_nil_iff.2 (List.eq_nil_of_length_eq_zero (by omega))
      have hfs : fillS lo hi m (l.map prK) = [] := by rw [fillS, if_neg (fun h => h.2 hp0)]
      rw [hfs]
      exact ⟨none, 0, [], rfl, .nil, Nat.le_refl _, rfl⟩
    · intro hc2
      try simp only [decide_eq_true_eq, decide_eq_false_iff_not, Bool.not_eq_true', Bool.not_eq_false', beq_iff_eq] at hc2
      have hne : (partsS (l.map prK)) ≠ [] := by rw [← hpp]; intro e; have := List.map_eq_nil_iff.1 e; subst this; simp at hc2
      have hgd := parts_good (l.map prK)
      have hbk := block_pos hgd hne
      have hpl1 : ps.length = (partsS (l.map prK)).length := by rw [← hpp, List.length_map]
      have hpln := parts_len (l.map prK)
      rw [List.length_map] at hpln
      have hpos : 0 < (partsS (l.map prK)).length := List.length_pos_iff.2 hne
      refine AK.skip ?_
      refine AK.seq ?_
      refine AK.draw [] [1, 3] mixed ?_
      refine AD.takeP 0 rfl (by kernel_rfl) (RV.move rfl) (.none rfl) rfl ?_
      refine AD.takeP 2 rfl (by kernel_rfl) (RV.move rfl) (.none rfl) rfl ?_
      refine AD.cut (α := Nat × Nat) 0 #[true, true, true, true, true, true] (fun (b25, b27) e => (9, .slice (some ⟨b27, 0, none⟩) m.toNat m.toNat) :: (8, .slice (some ⟨b25, 0, none⟩) m.toNat m.toNat) :: (27, .slice (some ⟨b27, 0, none⟩) m.toNat m.toNat) :: (25, .slice (some ⟨b25, 0, none⟩) m.toNat m.toNat) :: e) (fun (b25, b27) h => (b27, Blk.cells (flat encT ((zeroF m.toNat).map (·.2))) 4 (0, 0)) :: ((b25, Blk.cells (flat encI ((zeroF m.toNat).map (·.1))) 3 (0, 0)) :: (h))) (fun (b25, b27) => True) ?_ ?_
      · rintro ⟨b25, b27⟩ _
        try dsimp only
        refine AD.done (by kernel_rfl) ?_
        refine AK.seq ?_
        refine AK.seq ?_
        refine AK.region ?_
        refine AO.val (RV.move rfl) (.none rfl) rfl ?_
        refine AO.val (RV.assign rfl) (.none rfl) rfl ?_
        refine AO.nil ?_
        refine AK.block ?_
        first
        | refine AK.perm (h' := p ++ ((b27, Blk.cells (flat encT ((zeroF m.toNat).map (·.2))) 4 (0, 0)) :: (b25, Blk.cells (flat encI ((zeroF m.toNat).map (·.1))) 3 (0, 0)) :: (q ++ ((b3, Blk.cells [.int .u64 lo, .int .u64 hi] 24 (0, 0)) :: h)))) (perm_ab _ _ _ _) ?_
        | refine AK.perm (h' := p ++ ((b27, Blk.cells (flat encT ((zeroF m.toNat).map (·.2))) 4 (0, 0)) :: (b25, Blk.cells (flat encI ((zeroF m.toNat).map (·.1))) 3 (0, 0)) :: (q ++ ((b3, Blk.cells [.int .u64 lo, .int .u64 hi] 24 (0, 0)) :: h)))) (perm_ba _ _ _ _) ?_
        refine AK.loop (α := Int × List (Int × Bool) × Own × List Pl) (E := fun (left, ss, pl, ps) => [(7, .slice Ao ps.length c), (8, .slice (some ⟨b25, 0, none⟩) m.toNat m.toNat), (9, .slice (some ⟨b27, 0, none⟩) m.toNat m.toNat), (10, .int .i64 left)]) (H := fun (left, ss, pl, ps) => pl ++ ((b27, Blk.cells (flat encT (ss.map (·.2))) 4 (0, 0)) :: (b25, Blk.cells (flat encI (ss.map (·.1))) 3 (0, 0)) :: (q ++ ((b3, Blk.cells [.int .u64 lo, .int .u64 hi] 24 (0, 0)) :: h)))) (Inv := fun (left, ss, pl, ps) => FI 92 lo hi m B (q ++ ((b3, Blk.cells [.int .u64 lo, .int .u64 hi] 24 (0, 0)) :: h)) (partsS (l.map prK)) Ao c left ss pl ps ∧ ((cyc (partsS (l.map prK)) m.toNat).take left.toNat).foldl (stepF (rowOf lo hi m)) ss = (fillF (rowOf lo hi m) (partsS (l.map prK)) m.toNat)) (μ := fun (left, ss, pl, ps) => left.toNat) (m, zeroF m.toNat, p, ps) ?_ (.cons (by exact rfl) (.cons (by exact rfl) (.cons (by exact rfl) (.cons (by exact rfl) .nil)))) ?_ ?_
        · refine ⟨⟨hn.row, hpp, hn.dat, fun x hx => ⟨by rw [hn.next x hx]; exact Int.le_refl _, fun j h0 h1 => by rw [hn.next x hx] at h1; omega⟩, zero_len _, by omega, by rw [zero_cnt]; omega⟩, rfl⟩
        · exact (by first | exact SubO.sub | exact List.Sublist.refl _ | exact .cons _ (List.Sublist.refl _) | exact .cons _ (.cons _ (List.Sublist.refl _)) | exact .cons _ (.cons _ (.cons _ (List.Sublist.refl _))))
        rintro ⟨left, ss, pl, ps⟩ ⟨f, hfold⟩ hih0
        try dsimp only at hih0 ⊢
        clear hn hpp
        have hpl1 : ps.length = (partsS (l.map prK)).length := by rw [← f.pr, List.length_map]
        have hlf := f.lft
        have hcn0 := f.cnt
        refine AK.seq ?_
        refine AK.seq ?_
        refine AK.region ?_
        refine AO.val (RV.move rfl) (.none rfl) rfl ?_
        refine AO.val (RV.gtr rfl rfl) (.none rfl) rfl ?_
        refine AO.nil ?_
        refine AK.cond rfl ?_ ?_
        · intro hc3
          try simp only [decide_eq_true_eq, decide_eq_false_iff_not, Bool.not_eq_true', Bool.not_eq_false', beq_iff_eq] at hc3
          refine AK.skip ?_
          refine AK.block ?_
          refine AK.seq ?_
          refine AK.region ?_
          refine AO.val (RV.move rfl) (.none rfl) rfl ?_
          refine AO.val (RV.lenS rfl) (.none rfl) rfl ?_
          refine AO.val (RV.move rfl) (.none rfl) rfl ?_
          refine AO.nil ?_
          refine AK.block ?_
          have hfold1 := hfold
          rw [rest_start hbk (by omega)] at hfold1
          generalize hl0 : left = left0 at *
          refine AK.loop (α := Int × Int × List (Int × Bool) × Own × List Pl) (E := fun (i, left, ss, pl, ps) => [(7, .slice Ao ps.length c), (8, .slice (some ⟨b25, 0, none⟩) m.toNat m.toNat), (9, .slice (some ⟨b27, 0, none⟩) m.toNat m.toNat), (10, .int .i64 left), (31, .slice Ao ps.length c), (32, .int .i64 ps.length), (33, .int .i64 i)]) (H := fun (i, left, ss, pl, ps) => pl ++ ((b27, Blk.cells (flat encT (ss.map (·.2))) 4 (0, 0)) :: (b25, Blk.cells (flat encI (ss.map (·.1))) 3 (0, 0)) :: (q ++ ((b3, Blk.cells [.int .u64 lo, .int .u64 hi] 24 (0, 0)) :: h)))) (Inv := fun (i, left, ss, pl, ps) => FI 92 lo hi m B (q ++ ((b3, Blk.cells [.int .u64 lo, .int .u64 hi] 24 (0, 0)) :: h)) (partsS (l.map prK)) Ao c left ss pl ps ∧ 0 ≤ i ∧ i ≤ ps.length ∧ left ≤ left0 ∧ (0 < i → left < left0) ∧ (i = 0 → left = left0) ∧ ((restT (partsS (l.map prK)) m.toNat (i.toNat)).take left.toNat).foldl (stepF (rowOf lo hi m)) ss = (fillF (rowOf lo hi m) (partsS (l.map prK)) m.toNat)) (μ := fun (i, left, ss, pl, ps) => ((partsS (l.map prK)).length - i).toNat) (0, left0, ss, pl, ps) ?_ (.cons (by exact rfl) (.cons (by exact rfl) (.cons (by exact rfl) (.cons (by exact rfl) (.cons (by exact rfl) (.cons (by exact rfl) (.cons (by exact rfl) .nil))))))) ?_ ?_
          · exact ⟨f, by omega, by omega, by omega, fun h => by omega, fun _ => rfl, hfold1⟩
          · exact (by first | exact SubO.sub | exact List.Sublist.refl _ | exact .cons _ (List.Sublist.refl _) | exact .cons _ (.cons _ (List.Sublist.refl _)) | exact .cons _ (.cons _ (.cons _ (List.Sublist.refl _))))
          rintro ⟨i, left, ss, pl, ps⟩ ⟨f, hi0, hi1, hle, hlt0, heq0, hfold⟩ hih1
          try dsimp only at hih1 ⊢
          have hpl1 : ps.length = (partsS (l.map prK)).length := by rw [← f.pr, List.length_map]
          have hlf := f.lft
          refine AK.seq ?_
          refine AK.region ?_
          refine AO.val (RV.lss rfl rfl) (.none rfl) rfl ?_
          refine AO.nil ?_
          refine AK.seq ?_
          refine AK.cond rfl ?_ ?_
          · intro hc4
            try simp only [decide_eq_true_eq, decide_eq_false_iff_not, Bool.not_eq_true', Bool.not_eq_false', beq_iff_eq] at hc4
            have hsr := f.row.src (B := B) (h := pl) (fun x hx => hx)
            have hix : 0 ≤ i ∧ i < ps.length := ⟨hi0, by omega⟩
            have hpg : lget (partsS (l.map prK)) i = prP (lget ps i) := by
              obtain ⟨h2, e⟩ := lget_at hix
              rw [e, ← f.pr]; simp [lget, List.getD, h2]
            have hpi : i.toNat < (partsS (l.map prK)).length := by omega
            have hpe : (partsS (l.map prK))[i.toNat] = prP (lget ps i) := by rw [← hpg]; simp [lget, List.getD, hpi]
            have hwt := weight_in (hgd.2 _ (by rw [← hpe]; exact List.getElem_mem hpi : prP (lget ps i) ∈ (partsS (l.map prK))))
            have hrs := rest_step m.toNat hpi
            rw [hpe] at hrs
            refine AK.skip ?_
            refine AK.seq ?_
            refine AK.block ?_
            refine AK.seq ?_
            refine AK.region ?_
            refine AO.val (RV.move rfl) (.none rfl) rfl ?_
            refine AO.val (RV.assign rfl) (.none rfl) rfl ?_
            refine AO.nil ?_
            refine AK.seq ?_
            refine AK.region ?_
            refine AO.val (RV.move rfl) (.none rfl) rfl ?_
            refine AO.val (RV.move rfl) (.none rfl) rfl ?_
            refine AO.val (by first | exact RV.indexO rfl rfl (by omega) | exact RV.indexS rfl rfl (by assumption) (by omega) rfl | exact RV.indexAddr rfl rfl (by omega)) (.none rfl) rfl ?_
            refine AO.val (by first | exact RV.fieldAddr rfl | exact RV.fieldAddrA rfl) (.none rfl) rfl ?_
            refine AO.val ((RV.loadSF (enc := encP) (l := ps) (fo := 1) rfl hsr (fun _ => rfl) (by omega) rfl rfl (by simp)).to (v' := .int .i64 (lget ps i).2.1) rfl) (.none rfl) rfl ?_
            refine AO.val (RV.assign rfl) (.none rfl) rfl ?_
            refine AO.nil ?_
            refine AK.block ?_
            generalize hw : (lget ps i).2.1 = w at *
            have hfold2 := hfold
            rw [hrs] at hfold2
            generalize hpq : prP (lget ps i) = pq at *
            have hw2 : pq.2 = w := by rw [← hpq]; exact hw
            have hids : (lget ps i).1 = pq.1 := by rw [← hpq]; rfl
            refine AK.loop (α := Int × Int × List (Int × Bool) × Own × List Pl) (E := fun (n, left, ss, pl, ps) => [(7, .slice Ao ps.length c), (8, .slice (some ⟨b25, 0, none⟩) m.toNat m.toNat), (9, .slice (some ⟨b27, 0, none⟩) m.toNat m.toNat), (10, .int .i64 left), (11, .int .i64 i), (12, .int .i64 n), (31, .slice Ao ps.length c), (32, .int .i64 ps.length), (33, .int .i64 i)]) (H := fun (n, left, ss, pl, ps) => pl ++ ((b27, Blk.cells (flat encT (ss.map (·.2))) 4 (0, 0)) :: (b25, Blk.cells (flat encI (ss.map (·.1))) 3 (0, 0)) :: (q ++ ((b3, Blk.cells [.int .u64 lo, .int .u64 hi] 24 (0, 0)) :: h)))) (Inv := fun (n, left, ss, pl, ps) => FI 92 lo hi m B (q ++ ((b3, Blk.cells [.int .u64 lo, .int .u64 hi] 24 (0, 0)) :: h)) (partsS (l.map prK)) Ao c left ss pl ps ∧ 0 ≤ n ∧ n ≤ w ∧ left ≤ left0 ∧ (n < w → left < left0) ∧ (n = w → 0 < i → left < left0) ∧ (n = w → i = 0 → left = left0) ∧ prP (lget ps i) = pq ∧ ((List.replicate n.toNat pq ++ restT (partsS (l.map prK)) m.toNat (i.toNat + 1)).take left.toNat).foldl (stepF (rowOf lo hi m)) ss = (fillF (rowOf lo hi m) (partsS (l.map prK)) m.toNat)) (μ := fun (n, left, ss, pl, ps) => n.toNat) (w, left, ss, pl, ps) ?_ (.cons (by exact rfl) (.cons (by exact rfl) (.cons (by exact rfl) (.cons (by exact rfl) (.cons (by exact rfl) (.cons (by exact rfl) (.cons (by exact rfl) (.cons (by exact rfl) (.cons (by exact rfl) .nil))))))))) ?_ ?_
            · exact ⟨f, by omega, by omega, by omega, fun h => by omega, fun _ => hlt0, fun _ => heq0, hpq, by rw [← hw2]; exact hfold2⟩
            · exact (by first | exact SubO.sub | exact List.Sublist.refl _ | exact .cons _ (List.Sublist.refl _) | exact .cons _ (.cons _ (List.Sublist.refl _)) | exact .cons _ (.cons _ (.cons _ (List.Sublist.refl _))))
            rintro ⟨n, left, ss, pl, ps⟩ ⟨f, hn0, hn1, hle, hlt2, hlt3, heq3, hpq, hfold⟩ hih2
            try dsimp only at hih2 ⊢
            have hpl1 : ps.length = (partsS (l.map prK)).length := by rw [← f.pr, List.length_map]
            have hlf := f.lft
            have hix : 0 ≤ i ∧ i < ps.length := ⟨hi0, by omega⟩
            refine AK.seq ?_
            refine AK.seq ?_
            refine AK.region ?_
            refine AO.val (RV.move rfl) (.none rfl) rfl ?_
            refine AO.val (RV.gtr rfl rfl) (.none rfl) rfl ?_
            refine AO.val (RV.move rfl) (.none rfl) rfl ?_
            refine AO.caseG rfl rfl rfl ?_ ?_
            · intro hg5
              try simp only [decide_eq_true_eq, decide_eq_false_iff_not, Bool.not_eq_true', Bool.not_eq_false', beq_iff_eq] at hg5
              refine AO.val (RV.move rfl) (.some rfl rfl rfl rfl) rfl ?_
              refine AO.val (RV.gtr rfl rfl) (.some rfl rfl rfl rfl) rfl ?_
              refine AO.val (RV.pickT rfl rfl) (.none rfl) rfl ?_
              refine AO.nil ?_
              refine AK.cond rfl ?_ ?_
              · intro hc6
                try simp only [decide_eq_true_eq, decide_eq_false_iff_not, Bool.not_eq_true', Bool.not_eq_false', beq_iff_eq] at hc6
                have hcn := f.cnt
                have hlt : cntF ss < m.toNat := by omega
                have hsr := f.row.src (B := B) (h := pl) (fun x hx => hx)
                have hsp := spot_in (hg (lget ps i).1) f.len hlt
                refine AK.skip ?_
                refine AK.seq ?_
                refine AK.block ?_
                refine AK.seq ?_
                refine AK.region ?_
                refine AO.val (RV.move rfl) (.none rfl) rfl ?_
                refine AO.val (RV.move rfl) (.none rfl) rfl ?_
                refine AO.val (by first | exact RV.indexO rfl rfl (by omega) | exact RV.indexS rfl rfl (by assumption) (by omega) rfl | exact RV.indexAddr rfl rfl (by omega)) (.none rfl) rfl ?_
                refine AO.val (RV.move rfl) (.none rfl) rfl ?_
                refine AO.eff (EF.callF rfl (ptake_spec B pl _ lo hi m hpr ps f.row i hix ss (src_flat1 (f := Value.bool) (l := ss.map (·.2)) List.mem_cons_self (by rw [List.length_map, f.len])) ((f.dat _ (lget_mem hix)).mono fun x hx => .tail _ (.tail _ hx)) (f.nx _ (lget_mem hix)) f.len hlt)) (.none rfl) rfl ?_
                rintro _ _ ⟨pl3, rfl, rfl, hr3⟩
                have hfn := f.step hpr (by omega) hix hr3
                refine AO.val (RV.assign rfl) (.none rfl) rfl ?_
                refine AO.nil ?_
                refine AK.seq ?_
                refine AK.region ?_
                refine AO.val (RV.move rfl) (.none rfl) rfl ?_
                refine AO.val (RV.move rfl) (.none rfl) rfl ?_
                refine AO.val (RV.move rfl) (.none rfl) rfl ?_
                refine AO.val (RV.move rfl) (.none rfl) rfl ?_
                refine AO.val (RV.move rfl) (.none rfl) rfl ?_
                refine AO.val (RV.move rfl) (.none rfl) rfl ?_
                refine AO.val (by first | exact RV.indexO rfl rfl (by omega) | exact RV.indexS rfl rfl (by assumption) (by omega) rfl | exact RV.indexAddr rfl rfl (by omega)) (.none rfl) rfl ?_
                refine AO.val (by first | exact RV.fieldAddr rfl | exact RV.fieldAddrA rfl) (.none rfl) rfl ?_
                refine AO.val ((RV.loadSF (enc := encP) (l := (lset ps i (withN (lget ps i) (free (rowS lo hi (lget ps i).1 m) ss)))) (fo := 0) rfl (hr3.src (B := B) (h := pl3) (fun x hx => hx)) (fun _ => rfl) (by rw [lset_len]; omega) rfl (by rw [lget_lset _ _ _ _ hix hix.1, if_pos rfl]; rfl) (by simp)).to (v' := .int .i64 (prP (lget ps i)).1) rfl) (.none rfl) rfl ?_
                refine AO.val (by first | exact RV.indexO rfl rfl (by omega) | exact RV.indexS rfl rfl (by assumption) (by omega) rfl | exact RV.indexAddr rfl rfl (by omega)) (.none rfl) rfl ?_
                refine AO.effN (EF.storeF0 (enc := encI) (l := ss.map fun q : Int × Bool => q.1) (prP (lget ps i)).1 rfl rfl (fun _ => rfl) (by rw [List.length_map, f.len]; omega) rfl rfl rfl (Nat.le_of_ble_eq_true rfl) rfl) (.none rfl) ?_
                rintro _ _ rfl
                refine AO.val (by first | exact RV.indexO rfl rfl (by omega) | exact RV.indexS rfl rfl (by assumption) (by omega) rfl | exact RV.indexAddr rfl rfl (by omega)) (.none rfl) rfl ?_
                refine AO.effN (EF.storeF0 (enc := encT) (l := ss.map fun q : Int × Bool => q.2) true rfl rfl (fun _ => rfl) (by rw [List.length_map, f.len]; omega) rfl rfl rfl (Nat.le_of_ble_eq_true rfl) rfl) (.none rfl) ?_
                rintro _ _ rfl
                refine AO.nil ?_
                refine AK.region ?_
                refine AO.val (RV.move rfl) (.none rfl) rfl ?_
                refine AO.val (by first | exact RV.subIn rfl rfl (by omega) | exact RV.sub rfl rfl) (.none rfl) rfl ?_
                refine AO.val (RV.assign rfl) (.none rfl) rfl ?_
                refine AO.nil ?_
                refine AK.inBlock ?_
                refine AK.region ?_
                refine AO.val (RV.move rfl) (.none rfl) rfl ?_
                refine AO.val (by first | exact RV.subIn rfl rfl (by omega) | exact RV.sub rfl rfl) (.none rfl) rfl ?_
                refine AO.val (RV.assign rfl) (.none rfl) rfl ?_
                refine AO.nil ?_
                -- round ends at FFL0TL1TL2tT
                rw [rep_step _ _ (by omega) (by omega), List.foldl_cons, ← hpq] at hfold
                refine AK.weak (.cons (by rw [lset_len]; exact rfl) (.cons (by exact rfl) (.cons (by exact rfl) (.cons (by exact rfl) (.cons (by exact rfl) (.cons (by exact rfl) (.cons (by rw [lset_len]; exact rfl) (.cons (by rw [lset_len]; exact rfl) (.cons (by exact rfl) .nil))))))))) (by simp only [stepF, map_lset]; exact List.Sublist.refl _) (hih2 (n - 1, left - 1, (stepF (rowOf lo hi m) ss (prP (lget ps i))), pl3, (lset ps i (withN (lget ps i) (free (rowS lo hi (lget ps i).1 m) ss)))) ?_ ?_)
                · try dsimp only
                  refine ⟨hfn, by omega, by omega, by omega, fun _ => by omega, fun h => by omega, fun h => by omega, ?_, ?_⟩
                  · rw [lget_lset _ _ _ _ hix hix.1, if_pos rfl]; exact hpq
                  · rw [← hpq]; exact hfold
                · try dsimp only
                  omega
              · intro hc6
                try simp only [decide_eq_true_eq, decide_eq_false_iff_not, Bool.not_eq_true', Bool.not_eq_false', beq_iff_eq] at hc6
                refine AK.exit rfl ?_
                refine AK.inBlock ?_
                refine AK.region ?_
                refine AO.val (by first | exact RV.addIn rfl rfl (by omega) | exact RV.add rfl rfl) (.none rfl) rfl ?_
                refine AO.val (RV.move rfl) (.none rfl) rfl ?_
                refine AO.nil ?_
                -- round ends at FFL0TL1TL2tF
                rw [show left.toNat = 0 by omega, List.take_zero] at hfold
                refine AK.weak (.cons (by exact rfl) (.cons (by exact rfl) (.cons (by exact rfl) (.cons (by exact rfl) (.cons (by exact rfl) (.cons (by exact rfl) (.cons (by exact rfl) .nil))))))) (by first | exact SubO.sub | exact List.Sublist.refl _ | exact .cons _ (List.Sublist.refl _) | exact .cons _ (.cons _ (List.Sublist.refl _)) | exact .cons _ (.cons _ (.cons _ (List.Sublist.refl _)))) (hih1 (i + 1, left, ss, pl, ps) ?_ ?_)
                · try dsimp only
                  refine ⟨f, by omega, by omega, by omega, fun _ => by omega, fun h => by omega, ?_⟩
                  rw [show (i + 1).toNat = i.toNat + 1 by omega]
                  rw [show left.toNat = 0 by omega, List.take_zero]; exact hfold
                · try dsimp only
                  omega
            · intro hg5
              try simp only [decide_eq_true_eq, decide_eq_false_iff_not, Bool.not_eq_true', Bool.not_eq_false', beq_iff_eq] at hg5
              refine AO.pass (.some rfl rfl rfl rfl) rfl ?_
              refine AO.pass (.some rfl rfl rfl rfl) rfl ?_
              refine AO.val (RV.pickF rfl rfl) (.none rfl) rfl ?_
              refine AO.nil ?_
              refine AK.condF rfl ?_
              refine AK.exit rfl ?_
              refine AK.inBlock ?_
              refine AK.region ?_
              refine AO.val (by first | exact RV.addIn rfl rfl (by omega) | exact RV.add rfl rfl) (.none rfl) rfl ?_
              refine AO.val (RV.move rfl) (.none rfl) rfl ?_
              refine AO.nil ?_
              -- round ends at FFL0TL1TL2f
              rw [show n.toNat = 0 by omega, List.replicate_zero, List.nil_append] at hfold
              refine AK.weak (.cons (by exact rfl) (.cons (by exact rfl) (.cons (by exact rfl) (.cons (by exact rfl) (.cons (by exact rfl) (.cons (by exact rfl) (.cons (by exact rfl) .nil))))))) (by first | exact SubO.sub | exact List.Sublist.refl _ | exact .cons _ (List.Sublist.refl _) | exact .cons _ (.cons _ (List.Sublist.refl _)) | exact .cons _ (.cons _ (.cons _ (List.Sublist.refl _)))) (hih1 (i + 1, left, ss, pl, ps) ?_ ?_)
              · try dsimp only
                refine ⟨f, by omega, by omega, by omega, fun _ => by omega, fun h => by omega, ?_⟩
                rw [show (i + 1).toNat = i.toNat + 1 by omega]
                exact hfold
              · try dsimp only
                omega
          · intro hc4
            try simp only [decide_eq_true_eq, decide_eq_false_iff_not, Bool.not_eq_true', Bool.not_eq_false', beq_iff_eq] at hc4
            refine AK.exit rfl ?_
            refine AK.inBlock ?_
            -- round ends at FFL0TL1F
            rw [rest_end _ _ (by omega)] at hfold
            refine AK.weak (.cons (by exact rfl) (.cons (by exact rfl) (.cons (by exact rfl) (.cons (by exact rfl) .nil)))) (by first | exact SubO.sub | exact List.Sublist.refl _ | exact .cons _ (List.Sublist.refl _) | exact .cons _ (.cons _ (List.Sublist.refl _)) | exact .cons _ (.cons _ (.cons _ (List.Sublist.refl _)))) (hih0 (left, ss, pl, ps) ?_ ?_)
            · try dsimp only
              exact ⟨f, hfold⟩
            · try dsimp only
              first | omega | (have := hlt0 (by omega); omega)
        · intro hc3
          try simp only [decide_eq_true_eq, decide_eq_false_iff_not, Bool.not_eq_true', Bool.not_eq_false', beq_iff_eq] at hc3
          refine AK.exit rfl ?_
          refine AK.seq ?_
          refine AK.region ?_
          refine AO.val (RV.move rfl) (.none rfl) rfl ?_
          refine AO.val (RV.assign rfl) (.none rfl) rfl ?_
          refine AO.nil ?_
          -- at FFL0F
          clear hih0
          refine AK.ret (h' := (b25, Blk.cells (flat encI (ss.map (·.1))) 3 (0, 0)) :: h) Try.func27 (.tmp rfl .nil) ?_ (by exact SubO.sub)
          have hl0 : left.toNat = 0 := by omega
          rw [hl0, List.take_zero] at hfold
          have hfold : ss = (fillF (rowOf lo hi m) (partsS (l.map prK)) m.toNat) := hfold
          have hfs : fillS lo hi m (l.map prK) = ss.map (·.1) := by rw [fillS, if_pos ⟨hpr, hne⟩, hfold]
          rw [hfs, List.length_map, f.len]
          rw [show flat encI (ss.map (·.1)) = (ss.map (·.1)).map (fun x => Value.int .i64 x) from flat_map1 _ _] at *
          exact ⟨some ⟨b25, 0, none⟩, m.toNat, [_], rfl, Row.new (by rw [List.length_map, List.length_map, f.len, Nat.mul_one]), Nat.le_refl _, rfl⟩
      · intro hst0
        try dsimp only at hst0
        refine AD.many (i := 1) (l := [3]) (by kernel_rfl) (.cons ?_ (.cons ?_ (.nil)))
        · skip
          refine AE.eff rfl (EF.makeSlice rfl rfl rfl (by omega) (by omega) (by omega)) (.none rfl) rfl ?_
          rintro _ _ ⟨b25, hf25, rfl, rfl⟩
          rw [hzi]
          refine ⟨.inl (by kernel_rfl), ?_⟩
          refine AD.takeP 4 rfl (by kernel_rfl) (RV.assign rfl) (.none rfl) rfl ?_
          refine AD.one 3 (by kernel_rfl) (AE.eff rfl (EF.makeSlice rfl rfl rfl (by omega) (by omega) (by omega)) (.none rfl) rfl ?_)
          rintro _ _ ⟨b27, hf27, rfl, rfl⟩
          rw [hzt]
          refine ⟨.inl (by kernel_rfl), ?_⟩
          refine AD.takeP 5 rfl (by kernel_rfl) (RV.assign rfl) (.none rfl) rfl ?_
          refine AD.to rfl (by rfl) (.cons rfl (.cons rfl (.cons rfl (.cons rfl (.drop rfl (.drop rfl (.drop rfl (.drop rfl .refl)))))))) (by first | exact List.Perm.refl _ | exact perm_count fun x => by simp only [List.count_append, List.count_cons, List.count_nil]; omega) (hst0 ⟨b25, b27⟩ trivial)
        · skip
          refine AE.eff rfl (EF.makeSlice rfl rfl rfl (by omega) (by omega) (by omega)) (.none rfl) rfl ?_
          rintro _ _ ⟨b27, hf27, rfl, rfl⟩
          rw [hzt]
          refine ⟨.inl (by kernel_rfl), ?_⟩
          refine AD.one 1 (by kernel_rfl) (AE.eff rfl (EF.makeSlice rfl rfl rfl (by omega) (by omega) (by omega)) (.none rfl) rfl ?_)
          rintro _ _ ⟨b25, hf25, rfl, rfl⟩
          rw [hzi]
          refine ⟨.inl (by kernel_rfl), ?_⟩
          refine AD.takeP 4 rfl (by kernel_rfl) (RV.assign rfl) (.none rfl) rfl ?_
          refine AD.takeP 5 rfl (by kernel_rfl) (RV.assign rfl) (.none rfl) rfl ?_
          refine AD.to rfl (by rfl) (.cons rfl (.cons rfl (.cons rfl (.cons rfl (.drop rfl (.drop rfl (.drop rfl (.drop rfl .refl)))))))) (by first | exact List.Perm.refl _ | exact perm_count fun x => by simp only [List.count_append, List.count_cons, List.count_nil]; omega) (hst0 ⟨b25, b27⟩ trivial)

end Go.Proofs.Ytbdlohjmifgcaaa
