/- Walks through the code: what each function that is named here gives back, from any memory that holds its arguments. Written by a program of the claim's author, out of the program's form in Lean. -/
import Derived.Test.YtefpiiknjnekeaaW3
set_option linter.unusedSimpArgs false
set_option linter.unusedVariables false
namespace Go.Proofs.Ytefpiiknjnekeaa
open Go.Sep Go.Sep.Sip Go.Sep.Tag Go.Sep.Count Go.RowKit Go.WideShapes Go.ChangeShapes
theorem own_ : ownKnob Try.prog.godebug = none := by kernel_rfl
theorem laidOut_ : laidOutB Try.prog = true := by kernel_rfl

abbrev oneC : List Int := addS zeroC 35
theorem one_eq : oneC = lset zeroC 35 1 := by unfold oneC addS; rw [if_pos (by decide)]; rfl
theorem one_cnt : Cnt oneC := add_cnt zero_cnt 35
theorem one_at {j : Int} (h0 : 0 ≤ j) (h1 : j < 37) : lget oneC j = if j = 35 then 1 else 0 := by
  rw [one_eq, lget_lset _ _ _ _ (by decide) h0]
  split
  · rfl
  · have h2 : j.toNat < 37 := by omega
    unfold lget zeroC
    simp only [List.getD, List.getElem?_replicate, h2, if_true]; rfl
theorem lines_zero {c : List Int} (i : Nat) (h : ∀ j : Int, 0 ≤ j → j < i → lget c j = 0) : linesS c i = [] := by
  induction i with
  | zero => rfl
  | succ i ih =>
    rw [linesS, ih fun j h0 h1 => h j h0 (by omega), lineS, if_neg (by rw [h (i : Int) (by omega) (by omega)]; decide)]; rfl
theorem one_lines : linesS oneC 37 = [102, 111, 114, 119, 97, 114, 100, 32, 49, 10] := by
  have h35 : linesS oneC 35 = [] := lines_zero 35 fun j h0 h1 => by rw [one_at h0 (by omega), if_neg (by omega)]
  have e35 : lineS oneC ((35 : Nat) : Int) = [102, 111, 114, 119, 97, 114, 100, 32, 49, 10] := by
    rw [lineS, one_at (by decide) (by decide), if_pos (by decide), if_pos (by decide), dig_one (by decide)]; rfl
  have e36 : lineS oneC ((36 : Nat) : Int) = [] := by
    rw [lineS, one_at (by decide) (by decide), if_neg (by decide)]
  show (linesS oneC 35 ++ lineS oneC ((35 : Nat) : Int)) ++ lineS oneC ((36 : Nat) : Int) = _
  rw [h35, e35, e36]; rfl
theorem lget_add {a : List Int} (h : Cnt a) (k : Int) {i : Int} (h0 : 0 ≤ i) (h1 : i < 37) : lget (addS a k) i = if i = k ∧ lget a i < 4294967295 then lget a i + 1 else lget a i := by
  unfold addS
  by_cases hk : 0 ≤ k ∧ k < 37 ∧ lget a k < 4294967295
  · rw [if_pos hk, lget_lset _ _ _ _ ⟨hk.1, by rw [h.len]; exact hk.2.1⟩ h0]
    by_cases hi : i = k
    · subst hi; rw [if_pos rfl, if_pos ⟨rfl, hk.2.2⟩]
    · rw [if_neg hi, if_neg (fun hh => hi hh.1)]
  · rw [if_neg hk, if_neg]
    rintro ⟨rfl, h2⟩
    exact hk ⟨h0, h1, h2⟩

theorem lives36_spec (B : World) (h : Own)  : Tri Try.prog B 11 [] h fun v h' => h = h' ∧ v = .bool true := by
  refine Tri.enter (n := 17) Try.func11 rfl rfl rfl ?_
  try dsimp only [argsE]
  refine AK.seq ?_
  refine AK.region ?_
  refine AO.val (RV.assign rfl) (.none rfl) rfl ?_
  refine AO.nil ?_
  refine AK.seq ?_
  refine AK.region ?_
  refine AO.val ((RV.buildArr rfl .nil).to (v' := .agg (zeroC.map (Value.int .u32)).toArray) rfl) (.none rfl) rfl ?_
  refine AO.eff (EF.callF rfl (add36_spec B _ zeroC zero_cnt 35)) (.none rfl) rfl ?_
  rintro _ _ ⟨rfl, rfl⟩
  refine AO.eff (EF.alloc) (.none rfl) rfl ?_
  rintro _ _ ⟨b1, hf1, rfl, rfl⟩
  rw [zero_cells]
  refine AO.effN (EF.storeArr (l := oneC) (f := Value.int .u32) rfl rfl one_cnt.len (fun _ => rfl) (by rw [List.length_map]; rfl)) (.none rfl) ?_
  rintro _ _ rfl
  refine AO.nil ?_
  refine AK.seq ?_
  refine AK.region ?_
  refine AO.val (RV.loadArr (l := oneC) (f := Value.int .u32) rfl one_cnt.len (by simp)) (.none rfl) rfl ?_
  refine AO.eff (EF.callF rfl (lines_spec B _ oneC one_cnt)) (.none rfl) rfl ?_
  rintro _ _ ⟨rfl, rfl⟩
  refine AO.val ((RV.eqlStr rfl rfl).to (v' := .bool true) (by rw [one_lines]; kernel_rfl)) (.none rfl) rfl ?_
  refine AO.val (RV.move rfl) (.none rfl) rfl ?_
  refine AO.eff (EF.callF rfl (name_spec B _ 35)) (.some rfl rfl rfl rfl) rfl ?_
  rintro _ _ ⟨rfl, rfl⟩
  refine AO.val ((RV.eqlStr rfl rfl).to (v' := .bool true) (by kernel_rfl)) (.some rfl rfl rfl rfl) rfl ?_
  refine AO.val (RV.pickT rfl rfl) (.none rfl) rfl ?_
  refine AO.val (RV.move rfl) (.none rfl) rfl ?_
  refine AO.val (RV.loadArr (l := oneC) (f := Value.int .u32) rfl one_cnt.len (by simp)) (.some rfl rfl rfl rfl) rfl ?_
  refine AO.eff (EF.callF rfl (bytes36_spec B _ oneC one_cnt)) (.some rfl rfl rfl rfl) rfl ?_
  rintro _ _ ⟨A13, c13, p13, rfl, hr13, hc13, rfl⟩
  refine AO.val (RV.lenS rfl) (.some rfl rfl rfl rfl) rfl ?_
  refine AO.val ((RV.eql rfl rfl).to (v' := .bool true) (by rw [bytesC_len, one_cnt.len]; rfl)) (.some rfl rfl rfl rfl) rfl ?_
  refine AO.val (RV.pickT rfl rfl) (.none rfl) rfl ?_
  refine AO.val (RV.assign rfl) (.none rfl) rfl ?_
  refine AO.nil ?_
  -- at 
  refine AK.ret (h' := h) Try.func11 (.tmp rfl .nil) ?_ (by exact SubO.sub)
  exact ⟨rfl, rfl⟩

set_option maxHeartbeats 1600000 in
theorem adds_law (B : World) (h : Own) (a b : List Int) (ha : Cnt a) (hb : Cnt b) (k : Int) : Tri Try.prog B 4 [.agg (a.map (Value.int .u32)).toArray, .agg (b.map (Value.int .u32)).toArray, .int .i64 k] h fun v h' => v = .bool true := by
  have hal := ha.len
  have hbl := hb.len
  have hkl := (add_cnt ha k).len
  refine Tri.enter (n := 85) Try.func4 rfl rfl rfl ?_
  simp only [argsE, Nat.reduceAdd]
  try dsimp only [argsE]
  refine AK.seq ?_
  refine AK.region ?_
  refine AO.eff (EF.box rfl rfl) (.none rfl) rfl ?_
  rintro _ _ ⟨b3, hf3, rfl, rfl⟩
  refine AO.eff (EF.box rfl rfl) (.none rfl) rfl ?_
  rintro _ _ ⟨b4, hf4, rfl, rfl⟩
  refine AO.val (RV.assign rfl) (.none rfl) rfl ?_
  refine AO.nil ?_
  refine AK.seq ?_
  refine AK.draw [] [8, 12, 13, 14] mixed ?_
  refine AD.take 0 rfl (by kernel_rfl) (RV.loadArr (l := a) (f := Value.int .u32) rfl hal (by simp)) (.none rfl) rfl ?_
  refine AD.takeP 1 rfl (by kernel_rfl) (RV.move rfl) (.none rfl) rfl ?_
  refine AD.take 3 rfl (by kernel_rfl) (RV.loadArr (l := a) (f := Value.int .u32) rfl hal (by simp)) (.none rfl) rfl ?_
  refine AD.take 4 rfl (by kernel_rfl) (RV.loadArr (l := b) (f := Value.int .u32) rfl hbl (by simp)) (.none rfl) rfl ?_
  refine AD.take 6 rfl (by kernel_rfl) (RV.loadArr (l := a) (f := Value.int .u32) rfl hal (by simp)) (.none rfl) rfl ?_
  refine AD.take 7 rfl (by kernel_rfl) (RV.loadArr (l := b) (f := Value.int .u32) rfl hbl (by simp)) (.none rfl) rfl ?_
  refine AD.cut (α := List Int × List Int × Nat × Nat × Nat) 3 #[true, true, true, true, true, true, true, true, true, true, true, true, false, false, false] (fun (r19, r22, b7, b8, b9) e => (9, .pointer (some ⟨b9, 0, none⟩)) :: (8, .pointer (some ⟨b8, 0, none⟩)) :: (7, .pointer (some ⟨b7, 0, none⟩)) :: (22, .agg (r22.map (Value.int .u32)).toArray) :: (19, .agg (r19.map (Value.int .u32)).toArray) :: (16, .agg ((addS a k).map (Value.int .u32)).toArray) :: e) (fun (r19, r22, b7, b8, b9) h => (b9, Blk.cells (zeroC.map (Value.int .u32)) 24 (0, 0)) :: ((b8, Blk.cells (zeroC.map (Value.int .u32)) 24 (0, 0)) :: ((b7, Blk.cells (zeroC.map (Value.int .u32)) 24 (0, 0)) :: (h)))) (fun (r19, r22, b7, b8, b9) => (Cnt r19) ∧ (∀ j : Int, 0 ≤ j → j < 37 → lget r19 j = min (lget a j + lget b j) 4294967295) ∧ (Cnt r22) ∧ (∀ j : Int, 0 ≤ j → j < 37 → lget r22 j = lget a j - min (lget a j) (lget b j))) ?_ ?_
  · rintro ⟨r19, r22, b7, b8, b9⟩ ⟨hq19, hv19, hq22, hv22⟩
    try dsimp only
    refine AD.one 12 (by kernel_rfl) (AE.effN rfl (EF.storeArr (l := (addS a k)) (f := Value.int .u32) rfl rfl hkl (fun _ => rfl) (by rw [List.length_map]; rfl)) (.none rfl) ?_)
    rintro _ _ rfl
    refine ⟨.inl (by kernel_rfl), ?_⟩
    refine AD.one 13 (by kernel_rfl) (AE.effN rfl (EF.storeArr (l := r19) (f := Value.int .u32) rfl rfl hq19.len (fun _ => rfl) (by rw [List.length_map]; rfl)) (.none rfl) ?_)
    rintro _ _ rfl
    refine ⟨.inl (by kernel_rfl), ?_⟩
    refine AD.one 14 (by kernel_rfl) (AE.effN rfl (EF.storeArr (l := r22) (f := Value.int .u32) rfl rfl hq22.len (fun _ => rfl) (by rw [List.length_map]; rfl)) (.none rfl) ?_)
    rintro _ _ rfl
    refine ⟨.inl (by kernel_rfl), ?_⟩
    refine AD.done (by kernel_rfl) ?_
    refine AK.seq ?_
    refine AK.seq ?_
    refine AK.region ?_
    refine AO.val (RV.assign rfl) (.none rfl) rfl ?_
    refine AO.nil ?_
    refine AK.block ?_
    refine AK.loop (α := Int) (E := fun i => [(2, .int .i64 k), (3, .pointer (some ⟨b3, 0, none⟩)), (4, .pointer (some ⟨b4, 0, none⟩)), (7, .pointer (some ⟨b7, 0, none⟩)), (8, .pointer (some ⟨b8, 0, none⟩)), (9, .pointer (some ⟨b9, 0, none⟩)), (10, .int .i64 i)]) (H := fun i => (b9, Blk.cells (r22.map (Value.int .u32)) 24 (0, 0)) :: (b8, Blk.cells (r19.map (Value.int .u32)) 24 (0, 0)) :: (b7, Blk.cells ((addS a k).map (Value.int .u32)) 24 (0, 0)) :: (b4, Blk.cells (b.map (Value.int .u32)) 24 (0, 0)) :: (b3, Blk.cells (a.map (Value.int .u32)) 24 (0, 0)) :: h) (Inv := fun i => 0 ≤ i ∧ i ≤ 37) (μ := fun i => (37 - i).toNat) 0 ?_ (.cons (by exact rfl) (.cons (by exact rfl) (.cons (by exact rfl) (.cons (by exact rfl) (.cons (by exact rfl) (.cons (by exact rfl) (.cons (by exact rfl) .nil))))))) ?_ ?_
    · exact ⟨by omega, by omega⟩
    · exact (by first | exact SubO.sub | exact List.Sublist.refl _ | exact .cons _ (List.Sublist.refl _) | exact .cons _ (.cons _ (List.Sublist.refl _)) | exact .cons _ (.cons _ (.cons _ (List.Sublist.refl _))))
    rintro i ⟨hi0, hi1⟩ hih0
    try dsimp only at hih0 ⊢
    refine AK.seq ?_
    refine AK.seq ?_
    refine AK.region ?_
    refine AO.val (RV.move rfl) (.none rfl) rfl ?_
    refine AO.val (RV.lss rfl rfl) (.none rfl) rfl ?_
    refine AO.nil ?_
    refine AK.cond rfl ?_ ?_
    · intro hc1
      try simp only [decide_eq_true_eq, decide_eq_false_iff_not, Bool.not_eq_true', Bool.not_eq_false', beq_iff_eq] at hc1
      have hai := ha.at_ (i := i) (by omega) (by omega)
      have hbi := hb.at_ (i := i) (by omega) (by omega)
      have hga := lget_add ha k (i := i) (by omega) (by omega)
      have hgs := hv19 i (by omega) (by omega)
      have hgl := hv22 i (by omega) (by omega)
      have hl19 := hq19.len
      have hl22 := hq22.len
      refine AK.skip ?_
      refine AK.seq ?_
      refine AK.block ?_
      refine AK.seq ?_
      refine AK.region ?_
      refine AO.val (RV.move rfl) (.none rfl) rfl ?_
      refine AO.val (RV.indexAddrL rfl rfl (by omega)) (.none rfl) rfl ?_
      refine AO.val (RV.loadAt (f := Value.int .u32) (l := a) rfl (by omega) (by simp)) (.none rfl) rfl ?_
      refine AO.val (RV.assign rfl) (.none rfl) rfl ?_
      refine AO.nil ?_
      refine AK.seq ?_
      refine AK.seq ?_
      refine AK.region ?_
      refine AO.val (RV.move rfl) (.none rfl) rfl ?_
      refine AO.val (RV.move rfl) (.none rfl) rfl ?_
      refine AO.val (RV.eql rfl rfl) (.none rfl) rfl ?_
      refine AO.val (RV.move rfl) (.none rfl) rfl ?_
      refine AO.caseG rfl rfl rfl ?_ ?_
      · intro hg2
        try simp only [decide_eq_true_eq, decide_eq_false_iff_not, Bool.not_eq_true', Bool.not_eq_false', beq_iff_eq] at hg2
        refine AO.val (RV.move rfl) (.some rfl rfl rfl rfl) rfl ?_
        refine AO.val (RV.lss rfl rfl) (.some rfl rfl rfl rfl) rfl ?_
        refine AO.val (RV.pickT rfl rfl) (.none rfl) rfl ?_
        refine AO.nil ?_
        refine AK.cond rfl ?_ ?_
        · intro hc3
          try simp only [decide_eq_true_eq, decide_eq_false_iff_not, Bool.not_eq_true', Bool.not_eq_false', beq_iff_eq] at hc3
          refine AK.region ?_
          refine AO.val (RV.move rfl) (.none rfl) rfl ?_
          refine AO.val (RV.addK rfl rfl (by simp only [kb]; omega)) (.none rfl) rfl ?_
          refine AO.val (RV.assign rfl) (.none rfl) rfl ?_
          refine AO.nil ?_
          refine AK.seq ?_
          refine AK.draw [] [] mixed ?_
          refine AD.takeP 0 rfl (by kernel_rfl) (RV.move rfl) (.none rfl) rfl ?_
          refine AD.takeP 1 rfl (by kernel_rfl) (RV.indexAddrL rfl rfl (by omega)) (.none rfl) rfl ?_
          refine AD.take 2 rfl (by kernel_rfl) (RV.loadAt (f := Value.int .u32) (l := a) rfl (by omega) (by simp)) (.none rfl) rfl ?_
          refine AD.takeP 3 rfl (by kernel_rfl) (RV.convIn rfl (by simp only [kb]; omega)) (.none rfl) rfl ?_
          refine AD.takeP 4 rfl (by kernel_rfl) (RV.move rfl) (.none rfl) rfl ?_
          refine AD.takeP 5 rfl (by kernel_rfl) (RV.indexAddrL rfl rfl (by omega)) (.none rfl) rfl ?_
          refine AD.take 6 rfl (by kernel_rfl) (RV.loadAt (f := Value.int .u32) (l := b) rfl (by omega) (by simp)) (.none rfl) rfl ?_
          refine AD.takeP 7 rfl (by kernel_rfl) (RV.convIn rfl (by simp only [kb]; omega)) (.none rfl) rfl ?_
          refine AD.takeP 8 rfl (by kernel_rfl) (RV.addK rfl rfl (by simp only [kb]; omega)) (.none rfl) rfl ?_
          refine AD.takeP 9 rfl (by kernel_rfl) (RV.assign rfl) (.none rfl) rfl ?_
          refine AD.done (by kernel_rfl) ?_
          refine AK.seq ?_
          refine AK.seq ?_
          refine AK.region ?_
          refine AO.val (RV.move rfl) (.none rfl) rfl ?_
          refine AO.val (RV.gtr rfl rfl) (.none rfl) rfl ?_
          refine AO.nil ?_
          refine AK.cond rfl ?_ ?_
          · intro hc4
            try simp only [decide_eq_true_eq, decide_eq_false_iff_not, Bool.not_eq_true', Bool.not_eq_false', beq_iff_eq] at hc4
            refine AK.region ?_
            refine AO.val (RV.assign rfl) (.none rfl) rfl ?_
            refine AO.nil ?_
            refine AK.seq ?_
            refine AK.region ?_
            refine AO.val (RV.assign rfl) (.none rfl) rfl ?_
            refine AO.nil ?_
            refine AK.seq ?_
            refine AK.seq ?_
            refine AK.draw [] [] mixed ?_
            refine AD.takeP 0 rfl (by kernel_rfl) (RV.move rfl) (.none rfl) rfl ?_
            refine AD.takeP 1 rfl (by kernel_rfl) (RV.indexAddrL rfl rfl (by omega)) (.none rfl) rfl ?_
            refine AD.take 2 rfl (by kernel_rfl) (RV.loadAt (f := Value.int .u32) (l := a) rfl (by omega) (by simp)) (.none rfl) rfl ?_
            refine AD.takeP 3 rfl (by kernel_rfl) (RV.move rfl) (.none rfl) rfl ?_
            refine AD.takeP 4 rfl (by kernel_rfl) (RV.indexAddrL rfl rfl (by omega)) (.none rfl) rfl ?_
            refine AD.take 5 rfl (by kernel_rfl) (RV.loadAt (f := Value.int .u32) (l := b) rfl (by omega) (by simp)) (.none rfl) rfl ?_
            refine AD.takeP 6 rfl (by kernel_rfl) (RV.gtr rfl rfl) (.none rfl) rfl ?_
            refine AD.done (by kernel_rfl) ?_
            refine AK.cond rfl ?_ ?_
            · intro hc5
              try simp only [decide_eq_true_eq, decide_eq_false_iff_not, Bool.not_eq_true', Bool.not_eq_false', beq_iff_eq] at hc5
              refine AK.draw [] [] mixed ?_
              refine AD.takeP 0 rfl (by kernel_rfl) (RV.move rfl) (.none rfl) rfl ?_
              refine AD.takeP 1 rfl (by kernel_rfl) (RV.indexAddrL rfl rfl (by omega)) (.none rfl) rfl ?_
              refine AD.take 2 rfl (by kernel_rfl) (RV.loadAt (f := Value.int .u32) (l := a) rfl (by omega) (by simp)) (.none rfl) rfl ?_
              refine AD.takeP 3 rfl (by kernel_rfl) (RV.move rfl) (.none rfl) rfl ?_
              refine AD.takeP 4 rfl (by kernel_rfl) (RV.indexAddrL rfl rfl (by omega)) (.none rfl) rfl ?_
              refine AD.take 5 rfl (by kernel_rfl) (RV.loadAt (f := Value.int .u32) (l := b) rfl (by omega) (by simp)) (.none rfl) rfl ?_
              refine AD.takeP 6 rfl (by kernel_rfl) (RV.subK rfl rfl (by simp only [kb]; omega)) (.none rfl) rfl ?_
              refine AD.takeP 7 rfl (by kernel_rfl) (RV.assign rfl) (.none rfl) rfl ?_
              refine AD.done (by kernel_rfl) ?_
              refine AK.seq ?_
              refine AK.region ?_
              refine AO.val (RV.move rfl) (.none rfl) rfl ?_
              refine AO.val (RV.indexAddrL rfl rfl (by omega)) (.none rfl) rfl ?_
              refine AO.val (RV.loadAt (f := Value.int .u32) (l := (addS a k)) rfl (by omega) (by simp)) (.none rfl) rfl ?_
              refine AO.val (RV.move rfl) (.none rfl) rfl ?_
              refine AO.val ((RV.neq rfl rfl).to (v' := .bool false) (by rw [hga, if_pos ⟨by omega, by omega⟩]; simp)) (.none rfl) rfl ?_
              refine AO.val (RV.move rfl) (.none rfl) rfl ?_
              refine AO.val (RV.move rfl) (.some rfl rfl rfl rfl) rfl ?_
              refine AO.val (RV.indexAddrL rfl rfl (by omega)) (.some rfl rfl rfl rfl) rfl ?_
              refine AO.val (RV.loadAt (f := Value.int .u32) (l := r19) rfl (by omega) (by simp)) (.some rfl rfl rfl rfl) rfl ?_
              refine AO.val (RV.convIn rfl (by simp only [kb]; omega)) (.some rfl rfl rfl rfl) rfl ?_
              refine AO.val (RV.move rfl) (.some rfl rfl rfl rfl) rfl ?_
              refine AO.val ((RV.neq rfl rfl).to (v' := .bool false) (by rw [hgs]; simp; omega)) (.some rfl rfl rfl rfl) rfl ?_
              refine AO.val (RV.pickF rfl rfl) (.none rfl) rfl ?_
              refine AO.val (RV.move rfl) (.none rfl) rfl ?_
              refine AO.val (RV.move rfl) (.some rfl rfl rfl rfl) rfl ?_
              refine AO.val (RV.indexAddrL rfl rfl (by omega)) (.some rfl rfl rfl rfl) rfl ?_
              refine AO.val (RV.loadAt (f := Value.int .u32) (l := r22) rfl (by omega) (by simp)) (.some rfl rfl rfl rfl) rfl ?_
              refine AO.val (RV.move rfl) (.some rfl rfl rfl rfl) rfl ?_
              refine AO.val ((RV.neq rfl rfl).to (v' := .bool false) (by rw [hgl]; simp; omega)) (.some rfl rfl rfl rfl) rfl ?_
              refine AO.val (RV.pickF rfl rfl) (.none rfl) rfl ?_
              refine AO.nil ?_
              refine AK.condF rfl ?_
              refine AK.skip ?_
              refine AK.inBlock ?_
              refine AK.region ?_
              refine AO.val (RV.move rfl) (.none rfl) rfl ?_
              refine AO.val (by first | exact RV.addIn rfl rfl (by omega) | exact RV.add rfl rfl) (.none rfl) rfl ?_
              refine AO.val (RV.assign rfl) (.none rfl) rfl ?_
              refine AO.nil ?_
              -- round ends at L0TtTTT
              refine AK.weak (.cons (by exact rfl) (.cons (by exact rfl) (.cons (by exact rfl) (.cons (by exact rfl) (.cons (by exact rfl) (.cons (by exact rfl) (.cons (by exact rfl) .nil))))))) (by first | exact SubO.sub | exact List.Sublist.refl _ | exact .cons _ (List.Sublist.refl _) | exact .cons _ (.cons _ (List.Sublist.refl _)) | exact .cons _ (.cons _ (.cons _ (List.Sublist.refl _)))) (hih0 (i + 1) ?_ ?_)
              · try dsimp only
                exact ⟨by omega, by omega⟩
              · try dsimp only
                omega
            · intro hc5
              try simp only [decide_eq_true_eq, decide_eq_false_iff_not, Bool.not_eq_true', Bool.not_eq_false', beq_iff_eq] at hc5
              refine AK.skip ?_
              refine AK.seq ?_
              refine AK.region ?_
              refine AO.val (RV.move rfl) (.none rfl) rfl ?_
              refine AO.val (RV.indexAddrL rfl rfl (by omega)) (.none rfl) rfl ?_
              refine AO.val (RV.loadAt (f := Value.int .u32) (l := (addS a k)) rfl (by omega) (by simp)) (.none rfl) rfl ?_
              refine AO.val (RV.move rfl) (.none rfl) rfl ?_
              refine AO.val ((RV.neq rfl rfl).to (v' := .bool false) (by rw [hga, if_pos ⟨by omega, by omega⟩]; simp)) (.none rfl) rfl ?_
              refine AO.val (RV.move rfl) (.none rfl) rfl ?_
              refine AO.val (RV.move rfl) (.some rfl rfl rfl rfl) rfl ?_
              refine AO.val (RV.indexAddrL rfl rfl (by omega)) (.some rfl rfl rfl rfl) rfl ?_
              refine AO.val (RV.loadAt (f := Value.int .u32) (l := r19) rfl (by omega) (by simp)) (.some rfl rfl rfl rfl) rfl ?_
              refine AO.val (RV.convIn rfl (by simp only [kb]; omega)) (.some rfl rfl rfl rfl) rfl ?_
              refine AO.val (RV.move rfl) (.some rfl rfl rfl rfl) rfl ?_
              refine AO.val ((RV.neq rfl rfl).to (v' := .bool false) (by rw [hgs]; simp; omega)) (.some rfl rfl rfl rfl) rfl ?_
              refine AO.val (RV.pickF rfl rfl) (.none rfl) rfl ?_
              refine AO.val (RV.move rfl) (.none rfl) rfl ?_
              refine AO.val (RV.move rfl) (.some rfl rfl rfl rfl) rfl ?_
              refine AO.val (RV.indexAddrL rfl rfl (by omega)) (.some rfl rfl rfl rfl) rfl ?_
              refine AO.val (RV.loadAt (f := Value.int .u32) (l := r22) rfl (by omega) (by simp)) (.some rfl rfl rfl rfl) rfl ?_
              refine AO.val (RV.move rfl) (.some rfl rfl rfl rfl) rfl ?_
              refine AO.val ((RV.neq rfl rfl).to (v' := .bool false) (by rw [hgl]; simp; omega)) (.some rfl rfl rfl rfl) rfl ?_
              refine AO.val (RV.pickF rfl rfl) (.none rfl) rfl ?_
              refine AO.nil ?_
              refine AK.condF rfl ?_
              refine AK.skip ?_
              refine AK.inBlock ?_
              refine AK.region ?_
              refine AO.val (RV.move rfl) (.none rfl) rfl ?_
              refine AO.val (by first | exact RV.addIn rfl rfl (by omega) | exact RV.add rfl rfl) (.none rfl) rfl ?_
              refine AO.val (RV.assign rfl) (.none rfl) rfl ?_
              refine AO.nil ?_
              -- round ends at L0TtTTF
              refine AK.weak (.cons (by exact rfl) (.cons (by exact rfl) (.cons (by exact rfl) (.cons (by exact rfl) (.cons (by exact rfl) (.cons (by exact rfl) (.cons (by exact rfl) .nil))))))) (by first | exact SubO.sub | exact List.Sublist.refl _ | exact .cons _ (List.Sublist.refl _) | exact .cons _ (.cons _ (List.Sublist.refl _)) | exact .cons _ (.cons _ (.cons _ (List.Sublist.refl _)))) (hih0 (i + 1) ?_ ?_)
              · try dsimp only
                exact ⟨by omega, by omega⟩
              · try dsimp only
                omega
          · intro hc4
            try simp only [decide_eq_true_eq, decide_eq_false_iff_not, Bool.not_eq_true', Bool.not_eq_false', beq_iff_eq] at hc4
            refine AK.skip ?_
            refine AK.seq ?_
            refine AK.region ?_
            refine AO.val (RV.assign rfl) (.none rfl) rfl ?_
            refine AO.nil ?_
            refine AK.seq ?_
            refine AK.seq ?_
            refine AK.draw [] [] mixed ?_
            refine AD.takeP 0 rfl (by kernel_rfl) (RV.move rfl) (.none rfl) rfl ?_
            refine AD.takeP 1 rfl (by kernel_rfl) (RV.indexAddrL rfl rfl (by omega)) (.none rfl) rfl ?_
            refine AD.take 2 rfl (by kernel_rfl) (RV.loadAt (f := Value.int .u32) (l := a) rfl (by omega) (by simp)) (.none rfl) rfl ?_
            refine AD.takeP 3 rfl (by kernel_rfl) (RV.move rfl) (.none rfl) rfl ?_
            refine AD.takeP 4 rfl (by kernel_rfl) (RV.indexAddrL rfl rfl (by omega)) (.none rfl) rfl ?_
            refine AD.take 5 rfl (by kernel_rfl) (RV.loadAt (f := Value.int .u32) (l := b) rfl (by omega) (by simp)) (.none rfl) rfl ?_
            refine AD.takeP 6 rfl (by kernel_rfl) (RV.gtr rfl rfl) (.none rfl) rfl ?_
            refine AD.done (by kernel_rfl) ?_
            refine AK.cond rfl ?_ ?_
            · intro hc6
              try simp only [decide_eq_true_eq, decide_eq_false_iff_not, Bool.not_eq_true', Bool.not_eq_false', beq_iff_eq] at hc6
              refine AK.draw [] [] mixed ?_
              refine AD.takeP 0 rfl (by kernel_rfl) (RV.move rfl) (.none rfl) rfl ?_
              refine AD.takeP 1 rfl (by kernel_rfl) (RV.indexAddrL rfl rfl (by omega)) (.none rfl) rfl ?_
              refine AD.take 2 rfl (by kernel_rfl) (RV.loadAt (f := Value.int .u32) (l := a) rfl (by omega) (by simp)) (.none rfl) rfl ?_
              refine AD.takeP 3 rfl (by kernel_rfl) (RV.move rfl) (.none rfl) rfl ?_
              refine AD.takeP 4 rfl (by kernel_rfl) (RV.indexAddrL rfl rfl (by omega)) (.none rfl) rfl ?_
              refine AD.take 5 rfl (by kernel_rfl) (RV.loadAt (f := Value.int .u32) (l := b) rfl (by omega) (by simp)) (.none rfl) rfl ?_
              refine AD.takeP 6 rfl (by kernel_rfl) (RV.subK rfl rfl (by simp only [kb]; omega)) (.none rfl) rfl ?_
              refine AD.takeP 7 rfl (by kernel_rfl) (RV.assign rfl) (.none rfl) rfl ?_
              refine AD.done (by kernel_rfl) ?_
              refine AK.seq ?_
              refine AK.region ?_
              refine AO.val (RV.move rfl) (.none rfl) rfl ?_
              refine AO.val (RV.indexAddrL rfl rfl (by omega)) (.none rfl) rfl ?_
              refine AO.val (RV.loadAt (f := Value.int .u32) (l := (addS a k)) rfl (by omega) (by simp)) (.none rfl) rfl ?_
              refine AO.val (RV.move rfl) (.none rfl) rfl ?_
              refine AO.val ((RV.neq rfl rfl).to (v' := .bool false) (by rw [hga, if_pos ⟨by omega, by omega⟩]; simp)) (.none rfl) rfl ?_
              refine AO.val (RV.move rfl) (.none rfl) rfl ?_
              refine AO.val (RV.move rfl) (.some rfl rfl rfl rfl) rfl ?_
              refine AO.val (RV.indexAddrL rfl rfl (by omega)) (.some rfl rfl rfl rfl) rfl ?_
              refine AO.val (RV.loadAt (f := Value.int .u32) (l := r19) rfl (by omega) (by simp)) (.some rfl rfl rfl rfl) rfl ?_
              refine AO.val (RV.convIn rfl (by simp only [kb]; omega)) (.some rfl rfl rfl rfl) rfl ?_
              refine AO.val (RV.move rfl) (.some rfl rfl rfl rfl) rfl ?_
              refine AO.val ((RV.neq rfl rfl).to (v' := .bool false) (by rw [hgs]; simp; omega)) (.some rfl rfl rfl rfl) rfl ?_
              refine AO.val (RV.pickF rfl rfl) (.none rfl) rfl ?_
              refine AO.val (RV.move rfl) (.none rfl) rfl ?_
              refine AO.val (RV.move rfl) (.some rfl rfl rfl rfl) rfl ?_
              refine AO.val (RV.indexAddrL rfl rfl (by omega)) (.some rfl rfl rfl rfl) rfl ?_
              refine AO.val (RV.loadAt (f := Value.int .u32) (l := r22) rfl (by omega) (by simp)) (.some rfl rfl rfl rfl) rfl ?_
              refine AO.val (RV.move rfl) (.some rfl rfl rfl rfl) rfl ?_
              refine AO.val ((RV.neq rfl rfl).to (v' := .bool false) (by rw [hgl]; simp; omega)) (.some rfl rfl rfl rfl) rfl ?_
              refine AO.val (RV.pickF rfl rfl) (.none rfl) rfl ?_
              refine AO.nil ?_
              refine AK.condF rfl ?_
              refine AK.skip ?_
              refine AK.inBlock ?_
              refine AK.region ?_
              refine AO.val (RV.move rfl) (.none rfl) rfl ?_
              refine AO.val (by first | exact RV.addIn rfl rfl (by omega) | exact RV.add rfl rfl) (.none rfl) rfl ?_
              refine AO.val (RV.assign rfl) (.none rfl) rfl ?_
              refine AO.nil ?_
              -- round ends at L0TtTFT
              refine AK.weak (.cons (by exact rfl) (.cons (by exact rfl) (.cons (by exact rfl) (.cons (by exact rfl) (.cons (by exact rfl) (.cons (by exact rfl) (.cons (by exact rfl) .nil))))))) (by first | exact SubO.sub | exact List.Sublist.refl _ | exact .cons _ (List.Sublist.refl _) | exact .cons _ (.cons _ (List.Sublist.refl _)) | exact .cons _ (.cons _ (.cons _ (List.Sublist.refl _)))) (hih0 (i + 1) ?_ ?_)
              · try dsimp only
                exact ⟨by omega, by omega⟩
              · try dsimp only
                omega
            · intro hc6
              try simp only [decide_eq_true_eq, decide_eq_false_iff_not, Bool.not_eq_true', Bool.not_eq_false', beq_iff_eq] at hc6
              refine AK.skip ?_
              refine AK.seq ?_
              refine AK.region ?_
              refine AO.val (RV.move rfl) (.none rfl) rfl ?_
              refine AO.val (RV.indexAddrL rfl rfl (by omega)) (.none rfl) rfl ?_
              refine AO.val (RV.loadAt (f := Value.int .u32) (l := (addS a k)) rfl (by omega) (by simp)) (.none rfl) rfl ?_
              refine AO.val (RV.move rfl) (.none rfl) rfl ?_
              refine AO.val ((RV.neq rfl rfl).to (v' := .bool false) (by rw [hga, if_pos ⟨by omega, by omega⟩]; simp)) (.none rfl) rfl ?_
              refine AO.val (RV.move rfl) (.none rfl) rfl ?_
              refine AO.val (RV.move rfl) (.some rfl rfl rfl rfl) rfl ?_
              refine AO.val (RV.indexAddrL rfl rfl (by omega)) (.some rfl rfl rfl rfl) rfl ?_
              refine AO.val (RV.loadAt (f := Value.int .u32) (l := r19) rfl (by omega) (by simp)) (.some rfl rfl rfl rfl) rfl ?_
              refine AO.val (RV.convIn rfl (by simp only [kb]; omega)) (.some rfl rfl rfl rfl) rfl ?_
              refine AO.val (RV.move rfl) (.some rfl rfl rfl rfl) rfl ?_
              refine AO.val ((RV.neq rfl rfl).to (v' := .bool false) (by rw [hgs]; simp; omega)) (.some rfl rfl rfl rfl) rfl ?_
              refine AO.val (RV.pickF rfl rfl) (.none rfl) rfl ?_
              refine AO.val (RV.move rfl) (.none rfl) rfl ?_
              refine AO.val (RV.move rfl) (.some rfl rfl rfl rfl) rfl ?_
              refine AO.val (RV.indexAddrL rfl rfl (by omega)) (.some rfl rfl rfl rfl) rfl ?_
              refine AO.val (RV.loadAt (f := Value.int .u32) (l := r22) rfl (by omega) (by simp)) (.some rfl rfl rfl rfl) rfl ?_
              refine AO.val (RV.move rfl) (.some rfl rfl rfl rfl) rfl ?_
              refine AO.val ((RV.neq rfl rfl).to (v' := .bool false) (by rw [hgl]; simp; omega)) (.some rfl rfl rfl rfl) rfl ?_
              refine AO.val (RV.pickF rfl rfl) (.none rfl) rfl ?_
              refine AO.nil ?_
              refine AK.condF rfl ?_
              refine AK.skip ?_
              refine AK.inBlock ?_
              refine AK.region ?_
              refine AO.val (RV.move rfl) (.none rfl) rfl ?_
              refine AO.val (by first | exact RV.addIn rfl rfl (by omega) | exact RV.add rfl rfl) (.none rfl) rfl ?_
              refine AO.val (RV.assign rfl) (.none rfl) rfl ?_
              refine AO.nil ?_
              -- round ends at L0TtTFF
              refine AK.weak (.cons (by exact rfl) (.cons (by exact rfl) (.cons (by exact rfl) (.cons (by exact rfl) (.cons (by exact rfl) (.cons (by exact rfl) (.cons (by exact rfl) .nil))))))) (by first | exact SubO.sub | exact List.Sublist.refl _ | exact .cons _ (List.Sublist.refl _) | exact .cons _ (.cons _ (List.Sublist.refl _)) | exact .cons _ (.cons _ (.cons _ (List.Sublist.refl _)))) (hih0 (i + 1) ?_ ?_)
              · try dsimp only
                exact ⟨by omega, by omega⟩
              · try dsimp only
                omega
        · intro hc3
          try simp only [decide_eq_true_eq, decide_eq_false_iff_not, Bool.not_eq_true', Bool.not_eq_false', beq_iff_eq] at hc3
          refine AK.skip ?_
          refine AK.seq ?_
          refine AK.draw [] [] mixed ?_
          refine AD.takeP 0 rfl (by kernel_rfl) (RV.move rfl) (.none rfl) rfl ?_
          refine AD.takeP 1 rfl (by kernel_rfl) (RV.indexAddrL rfl rfl (by omega)) (.none rfl) rfl ?_
          refine AD.take 2 rfl (by kernel_rfl) (RV.loadAt (f := Value.int .u32) (l := a) rfl (by omega) (by simp)) (.none rfl) rfl ?_
          refine AD.takeP 3 rfl (by kernel_rfl) (RV.convIn rfl (by simp only [kb]; omega)) (.none rfl) rfl ?_
          refine AD.takeP 4 rfl (by kernel_rfl) (RV.move rfl) (.none rfl) rfl ?_
          refine AD.takeP 5 rfl (by kernel_rfl) (RV.indexAddrL rfl rfl (by omega)) (.none rfl) rfl ?_
          refine AD.take 6 rfl (by kernel_rfl) (RV.loadAt (f := Value.int .u32) (l := b) rfl (by omega) (by simp)) (.none rfl) rfl ?_
          refine AD.takeP 7 rfl (by kernel_rfl) (RV.convIn rfl (by simp only [kb]; omega)) (.none rfl) rfl ?_
          refine AD.takeP 8 rfl (by kernel_rfl) (RV.addK rfl rfl (by simp only [kb]; omega)) (.none rfl) rfl ?_
          refine AD.takeP 9 rfl (by kernel_rfl) (RV.assign rfl) (.none rfl) rfl ?_
          refine AD.done (by kernel_rfl) ?_
          refine AK.seq ?_
          refine AK.seq ?_
          refine AK.region ?_
          refine AO.val (RV.move rfl) (.none rfl) rfl ?_
          refine AO.val (RV.gtr rfl rfl) (.none rfl) rfl ?_
          refine AO.nil ?_
          refine AK.cond rfl ?_ ?_
          · intro hc7
            try simp only [decide_eq_true_eq, decide_eq_false_iff_not, Bool.not_eq_true', Bool.not_eq_false', beq_iff_eq] at hc7
            refine AK.region ?_
            refine AO.val (RV.assign rfl) (.none rfl) rfl ?_
            refine AO.nil ?_
            refine AK.seq ?_
            refine AK.region ?_
            refine AO.val (RV.assign rfl) (.none rfl) rfl ?_
            refine AO.nil ?_
            refine AK.seq ?_
            refine AK.seq ?_
            refine AK.draw [] [] mixed ?_
            refine AD.takeP 0 rfl (by kernel_rfl) (RV.move rfl) (.none rfl) rfl ?_
            refine AD.takeP 1 rfl (by kernel_rfl) (RV.indexAddrL rfl rfl (by omega)) (.none rfl) rfl ?_
            refine AD.take 2 rfl (by kernel_rfl) (RV.loadAt (f := Value.int .u32) (l := a) rfl (by omega) (by simp)) (.none rfl) rfl ?_
            refine AD.takeP 3 rfl (by kernel_rfl) (RV.move rfl) (.none rfl) rfl ?_
            refine AD.takeP 4 rfl (by kernel_rfl) (RV.indexAddrL rfl rfl (by omega)) (.none rfl) rfl ?_
            refine AD.take 5 rfl (by kernel_rfl) (RV.loadAt (f := Value.int .u32) (l := b) rfl (by omega) (by simp)) (.none rfl) rfl ?_
            refine AD.takeP 6 rfl (by kernel_rfl) (RV.gtr rfl rfl) (.none rfl) rfl ?_
            refine AD.done (by kernel_rfl) ?_
            refine AK.cond rfl ?_ ?_
            · intro hc8
              try simp only [decide_eq_true_eq, decide_eq_false_iff_not, Bool.not_eq_true', Bool.not_eq_false', beq_iff_eq] at hc8
              refine AK.draw [] [] mixed ?_
              refine AD.takeP 0 rfl (by kernel_rfl) (RV.move rfl) (.none rfl) rfl ?_
              refine AD.takeP 1 rfl (by kernel_rfl) (RV.indexAddrL rfl rfl (by omega)) (.none rfl) rfl ?_
              refine AD.take 2 rfl (by kernel_rfl) (RV.loadAt (f := Value.int .u32) (l := a) rfl (by omega) (by simp)) (.none rfl) rfl ?_
              refine AD.takeP 3 rfl (by kernel_rfl) (RV.move rfl) (.none rfl) rfl ?_
              refine AD.takeP 4 rfl (by kernel_rfl) (RV.indexAddrL rfl rfl (by omega)) (.none rfl) rfl ?_
              refine AD.take 5 rfl (by kernel_rfl) (RV.loadAt (f := Value.int .u32) (l := b) rfl (by omega) (by simp)) (.none rfl) rfl ?_
              refine AD.takeP 6 rfl (by kernel_rfl) (RV.subK rfl rfl (by simp only [kb]; omega)) (.none rfl) rfl ?_
              refine AD.takeP 7 rfl (by kernel_rfl) (RV.assign rfl) (.none rfl) rfl ?_
              refine AD.done (by kernel_rfl) ?_
              refine AK.seq ?_
              refine AK.region ?_
              refine AO.val (RV.move rfl) (.none rfl) rfl ?_
              refine AO.val (RV.indexAddrL rfl rfl (by omega)) (.none rfl) rfl ?_
              refine AO.val (RV.loadAt (f := Value.int .u32) (l := (addS a k)) rfl (by omega) (by simp)) (.none rfl) rfl ?_
              refine AO.val (RV.move rfl) (.none rfl) rfl ?_
              refine AO.val ((RV.neq rfl rfl).to (v' := .bool false) (by rw [hga, if_neg (by omega)]; simp)) (.none rfl) rfl ?_
              refine AO.val (RV.move rfl) (.none rfl) rfl ?_
              refine AO.val (RV.move rfl) (.some rfl rfl rfl rfl) rfl ?_
              refine AO.val (RV.indexAddrL rfl rfl (by omega)) (.some rfl rfl rfl rfl) rfl ?_
              refine AO.val (RV.loadAt (f := Value.int .u32) (l := r19) rfl (by omega) (by simp)) (.some rfl rfl rfl rfl) rfl ?_
              refine AO.val (RV.convIn rfl (by simp only [kb]; omega)) (.some rfl rfl rfl rfl) rfl ?_
              refine AO.val (RV.move rfl) (.some rfl rfl rfl rfl) rfl ?_
              refine AO.val ((RV.neq rfl rfl).to (v' := .bool false) (by rw [hgs]; simp; omega)) (.some rfl rfl rfl rfl) rfl ?_
              refine AO.val (RV.pickF rfl rfl) (.none rfl) rfl ?_
              refine AO.val (RV.move rfl) (.none rfl) rfl ?_
              refine AO.val (RV.move rfl) (.some rfl rfl rfl rfl) rfl ?_
              refine AO.val (RV.indexAddrL rfl rfl (by omega)) (.some rfl rfl rfl rfl) rfl ?_
              refine AO.val (RV.loadAt (f := Value.int .u32) (l := r22) rfl (by omega) (by simp)) (.some rfl rfl rfl rfl) rfl ?_
              refine AO.val (RV.move rfl) (.some rfl rfl rfl rfl) rfl ?_
              refine AO.val ((RV.neq rfl rfl).to (v' := .bool false) (by rw [hgl]; simp; omega)) (.some rfl rfl rfl rfl) rfl ?_
              refine AO.val (RV.pickF rfl rfl) (.none rfl) rfl ?_
              refine AO.nil ?_
              refine AK.condF rfl ?_
              refine AK.skip ?_
              refine AK.inBlock ?_
              refine AK.region ?_
              refine AO.val (RV.move rfl) (.none rfl) rfl ?_
              refine AO.val (by first | exact RV.addIn rfl rfl (by omega) | exact RV.add rfl rfl) (.none rfl) rfl ?_
              refine AO.val (RV.assign rfl) (.none rfl) rfl ?_
              refine AO.nil ?_
              -- round ends at L0TtFTT
              refine AK.weak (.cons (by exact rfl) (.cons (by exact rfl) (.cons (by exact rfl) (.cons (by exact rfl) (.cons (by exact rfl) (.cons (by exact rfl) (.cons (by exact rfl) .nil))))))) (by first | exact SubO.sub | exact List.Sublist.refl _ | exact .cons _ (List.Sublist.refl _) | exact .cons _ (.cons _ (List.Sublist.refl _)) | exact .cons _ (.cons _ (.cons _ (List.Sublist.refl _)))) (hih0 (i + 1) ?_ ?_)
              · try dsimp only
                exact ⟨by omega, by omega⟩
              · try dsimp only
                omega
            · intro hc8
              try simp only [decide_eq_true_eq, decide_eq_false_iff_not, Bool.not_eq_true', Bool.not_eq_false', beq_iff_eq] at hc8
              refine AK.skip ?_
              refine AK.seq ?_
              refine AK.region ?_
              refine AO.val (RV.move rfl) (.none rfl) rfl ?_
              refine AO.val (RV.indexAddrL rfl rfl (by omega)) (.none rfl) rfl ?_
              refine AO.val (RV.loadAt (f := Value.int .u32) (l := (addS a k)) rfl (by omega) (by simp)) (.none rfl) rfl ?_
              refine AO.val (RV.move rfl) (.none rfl) rfl ?_
              refine AO.val ((RV.neq rfl rfl).to (v' := .bool false) (by rw [hga, if_neg (by omega)]; simp)) (.none rfl) rfl ?_
              refine AO.val (RV.move rfl) (.none rfl) rfl ?_
              refine AO.val (RV.move rfl) (.some rfl rfl rfl rfl) rfl ?_
              refine AO.val (RV.indexAddrL rfl rfl (by omega)) (.some rfl rfl rfl rfl) rfl ?_
              refine AO.val (RV.loadAt (f := Value.int .u32) (l := r19) rfl (by omega) (by simp)) (.some rfl rfl rfl rfl) rfl ?_
              refine AO.val (RV.convIn rfl (by simp only [kb]; omega)) (.some rfl rfl rfl rfl) rfl ?_
              refine AO.val (RV.move rfl) (.some rfl rfl rfl rfl) rfl ?_
              refine AO.val ((RV.neq rfl rfl).to (v' := .bool false) (by rw [hgs]; simp; omega)) (.some rfl rfl rfl rfl) rfl ?_
              refine AO.val (RV.pickF rfl rfl) (.none rfl) rfl ?_
              refine AO.val (RV.move rfl) (.none rfl) rfl ?_
              refine AO.val (RV.move rfl) (.some rfl rfl rfl rfl) rfl ?_
              refine AO.val (RV.indexAddrL rfl rfl (by omega)) (.some rfl rfl rfl rfl) rfl ?_
              refine AO.val (RV.loadAt (f := Value.int .u32) (l := r22) rfl (by omega) (by simp)) (.some rfl rfl rfl rfl) rfl ?_
              refine AO.val (RV.move rfl) (.some rfl rfl rfl rfl) rfl ?_
              refine AO.val ((RV.neq rfl rfl).to (v' := .bool false) (by rw [hgl]; simp; omega)) (.some rfl rfl rfl rfl) rfl ?_
              refine AO.val (RV.pickF rfl rfl) (.none rfl) rfl ?_
              refine AO.nil ?_
              refine AK.condF rfl ?_
              refine AK.skip ?_
              refine AK.inBlock ?_
              refine AK.region ?_
              refine AO.val (RV.move rfl) (.none rfl) rfl ?_
              refine AO.val (by first | exact RV.addIn rfl rfl (by omega) | exact RV.add rfl rfl) (.none rfl) rfl ?_
              refine AO.val (RV.assign rfl) (.none rfl) rfl ?_
              refine AO.nil ?_
              -- round ends at L0TtFTF
              refine AK.weak (.cons (by exact rfl) (.cons (by exact rfl) (.cons (by exact rfl) (.cons (by exact rfl) (.cons (by exact rfl) (.cons (by exact rfl) (.cons (by exact rfl) .nil))))))) (by first | exact SubO.sub | exact List.Sublist.refl _ | exact .cons _ (List.Sublist.refl _) | exact .cons _ (.cons _ (List.Sublist.refl _)) | exact .cons _ (.cons _ (.cons _ (List.Sublist.refl _)))) (hih0 (i + 1) ?_ ?_)
              · try dsimp only
                exact ⟨by omega, by omega⟩
              · try dsimp only
                omega
          · intro hc7
            try simp only [decide_eq_true_eq, decide_eq_false_iff_not, Bool.not_eq_true', Bool.not_eq_false', beq_iff_eq] at hc7
            refine AK.skip ?_
            refine AK.seq ?_
            refine AK.region ?_
            refine AO.val (RV.assign rfl) (.none rfl) rfl ?_
            refine AO.nil ?_
            refine AK.seq ?_
            refine AK.seq ?_
            refine AK.draw [] [] mixed ?_
            refine AD.takeP 0 rfl (by kernel_rfl) (RV.move rfl) (.none rfl) rfl ?_
            refine AD.takeP 1 rfl (by kernel_rfl) (RV.indexAddrL rfl rfl (by omega)) (.none rfl) rfl ?_
            refine AD.take 2 rfl (by kernel_rfl) (RV.loadAt (f := Value.int .u32) (l := a) rfl (by omega) (by simp)) (.none rfl) rfl ?_
            refine AD.takeP 3 rfl (by kernel_rfl) (RV.move rfl) (.none rfl) rfl ?_
            refine AD.takeP 4 rfl (by kernel_rfl) (RV.indexAddrL rfl rfl (by omega)) (.none rfl) rfl ?_
            refine AD.take 5 rfl (by kernel_rfl) (RV.loadAt (f := Value.int .u32) (l := b) rfl (by omega) (by simp)) (.none rfl) rfl ?_
            refine AD.takeP 6 rfl (by kernel_rfl) (RV.gtr rfl rfl) (.none rfl) rfl ?_
            refine AD.done (by kernel_rfl) ?_
            refine AK.cond rfl ?_ ?_
            · intro hc9
              try simp only [decide_eq_true_eq, decide_eq_false_iff_not, Bool.not_eq_true', Bool.not_eq_false', beq_iff_eq] at hc9
              refine AK.draw [] [] mixed ?_
              refine AD.takeP 0 rfl (by kernel_rfl) (RV.move rfl) (.none rfl) rfl ?_
              refine AD.takeP 1 rfl (by kernel_rfl) (RV.indexAddrL rfl rfl (by omega)) (.none rfl) rfl ?_
              refine AD.take 2 rfl (by kernel_rfl) (RV.loadAt (f := Value.int .u32) (l := a) rfl (by omega) (by simp)) (.none rfl) rfl ?_
              refine AD.takeP 3 rfl (by kernel_rfl) (RV.move rfl) (.none rfl) rfl ?_
              refine AD.takeP 4 rfl (by kernel_rfl) (RV.indexAddrL rfl rfl (by omega)) (.none rfl) rfl ?_
              refine AD.take 5 rfl (by kernel_rfl) (RV.loadAt (f := Value.int .u32) (l := b) rfl (by omega) (by simp)) (.none rfl) rfl ?_
              refine AD.takeP 6 rfl (by kernel_rfl) (RV.subK rfl rfl (by simp only [kb]; omega)) (.none rfl) rfl ?_
              refine AD.takeP 7 rfl (by kernel_rfl) (RV.assign rfl) (.none rfl) rfl ?_
              refine AD.done (by kernel_rfl) ?_
              refine AK.seq ?_
              refine AK.region ?_
              refine AO.val (RV.move rfl) (.none rfl) rfl ?_
              refine AO.val (RV.indexAddrL rfl rfl (by omega)) (.none rfl) rfl ?_
              refine AO.val (RV.loadAt (f := Value.int .u32) (l := (addS a k)) rfl (by omega) (by simp)) (.none rfl) rfl ?_
              refine AO.val (RV.move rfl) (.none rfl) rfl ?_
              refine AO.val ((RV.neq rfl rfl).to (v' := .bool false) (by rw [hga, if_neg (by omega)]; simp)) (.none rfl) rfl ?_
              refine AO.val (RV.move rfl) (.none rfl) rfl ?_
              refine AO.val (RV.move rfl) (.some rfl rfl rfl rfl) rfl ?_
              refine AO.val (RV.indexAddrL rfl rfl (by omega)) (.some rfl rfl rfl rfl) rfl ?_
              refine AO.val (RV.loadAt (f := Value.int .u32) (l := r19) rfl (by omega) (by simp)) (.some rfl rfl rfl rfl) rfl ?_
              refine AO.val (RV.convIn rfl (by simp only [kb]; omega)) (.some rfl rfl rfl rfl) rfl ?_
              refine AO.val (RV.move rfl) (.some rfl rfl rfl rfl) rfl ?_
              refine AO.val ((RV.neq rfl rfl).to (v' := .bool false) (by rw [hgs]; simp; omega)) (.some rfl rfl rfl rfl) rfl ?_
              refine AO.val (RV.pickF rfl rfl) (.none rfl) rfl ?_
              refine AO.val (RV.move rfl) (.none rfl) rfl ?_
              refine AO.val (RV.move rfl) (.some rfl rfl rfl rfl) rfl ?_
              refine AO.val (RV.indexAddrL rfl rfl (by omega)) (.some rfl rfl rfl rfl) rfl ?_
              refine AO.val (RV.loadAt (f := Value.int .u32) (l := r22) rfl (by omega) (by simp)) (.some rfl rfl rfl rfl) rfl ?_
              refine AO.val (RV.move rfl) (.some rfl rfl rfl rfl) rfl ?_
              refine AO.val ((RV.neq rfl rfl).to (v' := .bool false) (by rw [hgl]; simp; omega)) (.some rfl rfl rfl rfl) rfl ?_
              refine AO.val (RV.pickF rfl rfl) (.none rfl) rfl ?_
              refine AO.nil ?_
              refine AK.condF rfl ?_
              refine AK.skip ?_
              refine AK.inBlock ?_
              refine AK.region ?_
              refine AO.val (RV.move rfl) (.none rfl) rfl ?_
              refine AO.val (by first | exact RV.addIn rfl rfl (by omega) | exact RV.add rfl rfl) (.none rfl) rfl ?_
              refine AO.val (RV.assign rfl) (.none rfl) rfl ?_
              refine AO.nil ?_
              -- round ends at L0TtFFT
              refine AK.weak (.cons (by exact rfl) (.cons (by exact rfl) (.cons (by exact rfl) (.cons (by exact rfl) (.cons (by exact rfl) (.cons (by exact rfl) (.cons (by exact rfl) .nil))))))) (by first | exact SubO.sub | exact List.Sublist.refl _ | exact .cons _ (List.Sublist.refl _) | exact .cons _ (.cons _ (List.Sublist.refl _)) | exact .cons _ (.cons _ (.cons _ (List.Sublist.refl _)))) (hih0 (i + 1) ?_ ?_)
              · try dsimp only
                exact ⟨by omega, by omega⟩
              · try dsimp only
                omega
            · intro hc9
              try simp only [decide_eq_true_eq, decide_eq_false_iff_not, Bool.not_eq_true', Bool.not_eq_false', beq_iff_eq] at hc9
              refine AK.skip ?_
              refine AK.seq ?_
              refine AK.region ?_
              refine AO.val (RV.move rfl) (.none rfl) rfl ?_
              refine AO.val (RV.indexAddrL rfl rfl (by omega)) (.none rfl) rfl ?_
              refine AO.val (RV.loadAt (f := Value.int .u32) (l := (addS a k)) rfl (by omega) (by simp)) (.none rfl) rfl ?_
              refine AO.val (RV.move rfl) (.none rfl) rfl ?_
              refine AO.val ((RV.neq rfl rfl).to (v' := .bool false) (by rw [hga, if_neg (by omega)]; simp)) (.none rfl) rfl ?_
              refine AO.val (RV.move rfl) (.none rfl) rfl ?_
              refine AO.val (RV.move rfl) (.some rfl rfl rfl rfl) rfl ?_
              refine AO.val (RV.indexAddrL rfl rfl (by omega)) (.some rfl rfl rfl rfl) rfl ?_
              refine AO.val (RV.loadAt (f := Value.int .u32) (l := r19) rfl (by omega) (by simp)) (.some rfl rfl rfl rfl) rfl ?_
              refine AO.val (RV.convIn rfl (by simp only [kb]; omega)) (.some rfl rfl rfl rfl) rfl ?_
              refine AO.val (RV.move rfl) (.some rfl rfl rfl rfl) rfl ?_
              refine AO.val ((RV.neq rfl rfl).to (v' := .bool false) (by rw [hgs]; simp; omega)) (.some rfl rfl rfl rfl) rfl ?_
              refine AO.val (RV.pickF rfl rfl) (.none rfl) rfl ?_
              refine AO.val (RV.move rfl) (.none rfl) rfl ?_
              refine AO.val (RV.move rfl) (.some rfl rfl rfl rfl) rfl ?_
              refine AO.val (RV.indexAddrL rfl rfl (by omega)) (.some rfl rfl rfl rfl) rfl ?_
              refine AO.val (RV.loadAt (f := Value.int .u32) (l := r22) rfl (by omega) (by simp)) (.some rfl rfl rfl rfl) rfl ?_
              refine AO.val (RV.move rfl) (.some rfl rfl rfl rfl) rfl ?_
              refine AO.val ((RV.neq rfl rfl).to (v' := .bool false) (by rw [hgl]; simp; omega)) (.some rfl rfl rfl rfl) rfl ?_
              refine AO.val (RV.pickF rfl rfl) (.none rfl) rfl ?_
              refine AO.nil ?_
              refine AK.condF rfl ?_
              refine AK.skip ?_
              refine AK.inBlock ?_
              refine AK.region ?_
              refine AO.val (RV.move rfl) (.none rfl) rfl ?_
              refine AO.val (by first | exact RV.addIn rfl rfl (by omega) | exact RV.add rfl rfl) (.none rfl) rfl ?_
              refine AO.val (RV.assign rfl) (.none rfl) rfl ?_
              refine AO.nil ?_
              -- round ends at L0TtFFF
              refine AK.weak (.cons (by exact rfl) (.cons (by exact rfl) (.cons (by exact rfl) (.cons (by exact rfl) (.cons (by exact rfl) (.cons (by exact rfl) (.cons (by exact rfl) .nil))))))) (by first | exact SubO.sub | exact List.Sublist.refl _ | exact .cons _ (List.Sublist.refl _) | exact .cons _ (.cons _ (List.Sublist.refl _)) | exact .cons _ (.cons _ (.cons _ (List.Sublist.refl _)))) (hih0 (i + 1) ?_ ?_)
              · try dsimp only
                exact ⟨by omega, by omega⟩
              · try dsimp only
                omega
      · intro hg2
        try simp only [decide_eq_true_eq, decide_eq_false_iff_not, Bool.not_eq_true', Bool.not_eq_false', beq_iff_eq] at hg2
        refine AO.pass (.some rfl rfl rfl rfl) rfl ?_
        refine AO.pass (.some rfl rfl rfl rfl) rfl ?_
        refine AO.val (RV.pickF rfl rfl) (.none rfl) rfl ?_
        refine AO.nil ?_
        refine AK.condF rfl ?_
        refine AK.skip ?_
        refine AK.seq ?_
        refine AK.draw [] [] mixed ?_
        refine AD.takeP 0 rfl (by kernel_rfl) (RV.move rfl) (.none rfl) rfl ?_
        refine AD.takeP 1 rfl (by kernel_rfl) (RV.indexAddrL rfl rfl (by omega)) (.none rfl) rfl ?_
        refine AD.take 2 rfl (by kernel_rfl) (RV.loadAt (f := Value.int .u32) (l := a) rfl (by omega) (by simp)) (.none rfl) rfl ?_
        refine AD.takeP 3 rfl (by kernel_rfl) (RV.convIn rfl (by simp only [kb]; omega)) (.none rfl) rfl ?_
        refine AD.takeP 4 rfl (by kernel_rfl) (RV.move rfl) (.none rfl) rfl ?_
        refine AD.takeP 5 rfl (by kernel_rfl) (RV.indexAddrL rfl rfl (by omega)) (.none rfl) rfl ?_
        refine AD.take 6 rfl (by kernel_rfl) (RV.loadAt (f := Value.int .u32) (l := b) rfl (by omega) (by simp)) (.none rfl) rfl ?_
        refine AD.takeP 7 rfl (by kernel_rfl) (RV.convIn rfl (by simp only [kb]; omega)) (.none rfl) rfl ?_
        refine AD.takeP 8 rfl (by kernel_rfl) (RV.addK rfl rfl (by simp only [kb]; omega)) (.none rfl) rfl ?_
        refine AD.takeP 9 rfl (by kernel_rfl) (RV.assign rfl) (.none rfl) rfl ?_
        refine AD.done (by kernel_rfl) ?_
        refine AK.seq ?_
        refine AK.seq ?_
        refine AK.region ?_
        refine AO.val (RV.move rfl) (.none rfl) rfl ?_
        refine AO.val (RV.gtr rfl rfl) (.none rfl) rfl ?_
        refine AO.nil ?_
        refine AK.cond rfl ?_ ?_
        · intro hc10
          try simp only [decide_eq_true_eq, decide_eq_false_iff_not, Bool.not_eq_true', Bool.not_eq_false', beq_iff_eq] at hc10
          refine AK.region ?_
          refine AO.val (RV.assign rfl) (.none rfl) rfl ?_
          refine AO.nil ?_
          refine AK.seq ?_
          refine AK.region ?_
          refine AO.val (RV.assign rfl) (.none rfl) rfl ?_
          refine AO.nil ?_
          refine AK.seq ?_
          refine AK.seq ?_
          refine AK.draw [] [] mixed ?_
          refine AD.takeP 0 rfl (by kernel_rfl) (RV.move rfl) (.none rfl) rfl ?_
          refine AD.takeP 1 rfl (by kernel_rfl) (RV.indexAddrL rfl rfl (by omega)) (.none rfl) rfl ?_
          refine AD.take 2 rfl (by kernel_rfl) (RV.loadAt (f := Value.int .u32) (l := a) rfl (by omega) (by simp)) (.none rfl) rfl ?_
          refine AD.takeP 3 rfl (by kernel_rfl) (RV.move rfl) (.none rfl) rfl ?_
          refine AD.takeP 4 rfl (by kernel_rfl) (RV.indexAddrL rfl rfl (by omega)) (.none rfl) rfl ?_
          refine AD.take 5 rfl (by kernel_rfl) (RV.loadAt (f := Value.int .u32) (l := b) rfl (by omega) (by simp)) (.none rfl) rfl ?_
          refine AD.takeP 6 rfl (by kernel_rfl) (RV.gtr rfl rfl) (.none rfl) rfl ?_
          refine AD.done (by kernel_rfl) ?_
          refine AK.cond rfl ?_ ?_
          · intro hc11
            try simp only [decide_eq_true_eq, decide_eq_false_iff_not, Bool.not_eq_true', Bool.not_eq_false', beq_iff_eq] at hc11
            refine AK.draw [] [] mixed ?_
            refine AD.takeP 0 rfl (by kernel_rfl) (RV.move rfl) (.none rfl) rfl ?_
            refine AD.takeP 1 rfl (by kernel_rfl) (RV.indexAddrL rfl rfl (by omega)) (.none rfl) rfl ?_
            refine AD.take 2 rfl (by kernel_rfl) (RV.loadAt (f := Value.int .u32) (l := a) rfl (by omega) (by simp)) (.none rfl) rfl ?_
            refine AD.takeP 3 rfl (by kernel_rfl) (RV.move rfl) (.none rfl) rfl ?_
            refine AD.takeP 4 rfl (by kernel_rfl) (RV.indexAddrL rfl rfl (by omega)) (.none rfl) rfl ?_
            refine AD.take 5 rfl (by kernel_rfl) (RV.loadAt (f := Value.int .u32) (l := b) rfl (by omega) (by simp)) (.none rfl) rfl ?_
            refine AD.takeP 6 rfl (by kernel_rfl) (RV.subK rfl rfl (by simp only [kb]; omega)) (.none rfl) rfl ?_
            refine AD.takeP 7 rfl (by kernel_rfl) (RV.assign rfl) (.none rfl) rfl ?_
            refine AD.done (by kernel_rfl) ?_
            refine AK.seq ?_
            refine AK.region ?_
            refine AO.val (RV.move rfl) (.none rfl) rfl ?_
            refine AO.val (RV.indexAddrL rfl rfl (by omega)) (.none rfl) rfl ?_
            refine AO.val (RV.loadAt (f := Value.int .u32) (l := (addS a k)) rfl (by omega) (by simp)) (.none rfl) rfl ?_
            refine AO.val (RV.move rfl) (.none rfl) rfl ?_
            refine AO.val ((RV.neq rfl rfl).to (v' := .bool false) (by rw [hga, if_neg (by omega)]; simp)) (.none rfl) rfl ?_
            refine AO.val (RV.move rfl) (.none rfl) rfl ?_
            refine AO.val (RV.move rfl) (.some rfl rfl rfl rfl) rfl ?_
            refine AO.val (RV.indexAddrL rfl rfl (by omega)) (.some rfl rfl rfl rfl) rfl ?_
            refine AO.val (RV.loadAt (f := Value.int .u32) (l := r19) rfl (by omega) (by simp)) (.some rfl rfl rfl rfl) rfl ?_
            refine AO.val (RV.convIn rfl (by simp only [kb]; omega)) (.some rfl rfl rfl rfl) rfl ?_
            refine AO.val (RV.move rfl) (.some rfl rfl rfl rfl) rfl ?_
            refine AO.val ((RV.neq rfl rfl).to (v' := .bool false) (by rw [hgs]; simp; omega)) (.some rfl rfl rfl rfl) rfl ?_
            refine AO.val (RV.pickF rfl rfl) (.none rfl) rfl ?_
            refine AO.val (RV.move rfl) (.none rfl) rfl ?_
            refine AO.val (RV.move rfl) (.some rfl rfl rfl rfl) rfl ?_
            refine AO.val (RV.indexAddrL rfl rfl (by omega)) (.some rfl rfl rfl rfl) rfl ?_
            refine AO.val (RV.loadAt (f := Value.int .u32) (l := r22) rfl (by omega) (by simp)) (.some rfl rfl rfl rfl) rfl ?_
            refine AO.val (RV.move rfl) (.some rfl rfl rfl rfl) rfl ?_
            refine AO.val ((RV.neq rfl rfl).to (v' := .bool false) (by rw [hgl]; simp; omega)) (.some rfl rfl rfl rfl) rfl ?_
            refine AO.val (RV.pickF rfl rfl) (.none rfl) rfl ?_
            refine AO.nil ?_
            refine AK.condF rfl ?_
            refine AK.skip ?_
            refine AK.inBlock ?_
            refine AK.region ?_
            refine AO.val (RV.move rfl) (.none rfl) rfl ?_
            refine AO.val (by first | exact RV.addIn rfl rfl (by omega) | exact RV.add rfl rfl) (.none rfl) rfl ?_
            refine AO.val (RV.assign rfl) (.none rfl) rfl ?_
            refine AO.nil ?_
            -- round ends at L0TfTT
            refine AK.weak (.cons (by exact rfl) (.cons (by exact rfl) (.cons (by exact rfl) (.cons (by exact rfl) (.cons (by exact rfl) (.cons (by exact rfl) (.cons (by exact rfl) .nil))))))) (by first | exact SubO.sub | exact List.Sublist.refl _ | exact .cons _ (List.Sublist.refl _) | exact .cons _ (.cons _ (List.Sublist.refl _)) | exact .cons _ (.cons _ (.cons _ (List.Sublist.refl _)))) (hih0 (i + 1) ?_ ?_)
            · try dsimp only
              exact ⟨by omega, by omega⟩
            · try dsimp only
              omega
          · intro hc11
            try simp only [decide_eq_true_eq, decide_eq_false_iff_not, Bool.not_eq_true', Bool.not_eq_false', beq_iff_eq] at hc11
            refine AK.skip ?_
            refine AK.seq ?_
            refine AK.region ?_
            refine AO.val (RV.move rfl) (.none rfl) rfl ?_
            refine AO.val (RV.indexAddrL rfl rfl (by omega)) (.none rfl) rfl ?_
            refine AO.val (RV.loadAt (f := Value.int .u32) (l := (addS a k)) rfl (by omega) (by simp)) (.none rfl) rfl ?_
            refine AO.val (RV.move rfl) (.none rfl) rfl ?_
            refine AO.val ((RV.neq rfl rfl).to (v' := .bool false) (by rw [hga, if_neg (by omega)]; simp)) (.none rfl) rfl ?_
            refine AO.val (RV.move rfl) (.none rfl) rfl ?_
            refine AO.val (RV.move rfl) (.some rfl rfl rfl rfl) rfl ?_
            refine AO.val (RV.indexAddrL rfl rfl (by omega)) (.some rfl rfl rfl rfl) rfl ?_
            refine AO.val (RV.loadAt (f := Value.int .u32) (l := r19) rfl (by omega) (by simp)) (.some rfl rfl rfl rfl) rfl ?_
            refine AO.val (RV.convIn rfl (by simp only [kb]; omega)) (.some rfl rfl rfl rfl) rfl ?_
            refine AO.val (RV.move rfl) (.some rfl rfl rfl rfl) rfl ?_
            refine AO.val ((RV.neq rfl rfl).to (v' := .bool false) (by rw [hgs]; simp; omega)) (.some rfl rfl rfl rfl) rfl ?_
            refine AO.val (RV.pickF rfl rfl) (.none rfl) rfl ?_
            refine AO.val (RV.move rfl) (.none rfl) rfl ?_
            refine AO.val (RV.move rfl) (.some rfl rfl rfl rfl) rfl ?_
            refine AO.val (RV.indexAddrL rfl rfl (by omega)) (.some rfl rfl rfl rfl) rfl ?_
            refine AO.val (RV.loadAt (f := Value.int .u32) (l := r22) rfl (by omega) (by simp)) (.some rfl rfl rfl rfl) rfl ?_
            refine AO.val (RV.move rfl) (.some rfl rfl rfl rfl) rfl ?_
            refine AO.val ((RV.neq rfl rfl).to (v' := .bool false) (by rw [hgl]; simp; omega)) (.some rfl rfl rfl rfl) rfl ?_
            refine AO.val (RV.pickF rfl rfl) (.none rfl) rfl ?_
            refine AO.nil ?_
            refine AK.condF rfl ?_
            refine AK.skip ?_
            refine AK.inBlock ?_
            refine AK.region ?_
            refine AO.val (RV.move rfl) (.none rfl) rfl ?_
            refine AO.val (by first | exact RV.addIn rfl rfl (by omega) | exact RV.add rfl rfl) (.none rfl) rfl ?_
            refine AO.val (RV.assign rfl) (.none rfl) rfl ?_
            refine AO.nil ?_
            -- round ends at L0TfTF
            refine AK.weak (.cons (by exact rfl) (.cons (by exact rfl) (.cons (by exact rfl) (.cons (by exact rfl) (.cons (by exact rfl) (.cons (by exact rfl) (.cons (by exact rfl) .nil))))))) (by first | exact SubO.sub | exact List.Sublist.refl _ | exact .cons _ (List.Sublist.refl _) | exact .cons _ (.cons _ (List.Sublist.refl _)) | exact .cons _ (.cons _ (.cons _ (List.Sublist.refl _)))) (hih0 (i + 1) ?_ ?_)
            · try dsimp only
              exact ⟨by omega, by omega⟩
            · try dsimp only
              omega
        · intro hc10
          try simp only [decide_eq_true_eq, decide_eq_false_iff_not, Bool.not_eq_true', Bool.not_eq_false', beq_iff_eq] at hc10
          refine AK.skip ?_
          refine AK.seq ?_
          refine AK.region ?_
          refine AO.val (RV.assign rfl) (.none rfl) rfl ?_
          refine AO.nil ?_
          refine AK.seq ?_
          refine AK.seq ?_
          refine AK.draw [] [] mixed ?_
          refine AD.takeP 0 rfl (by kernel_rfl) (RV.move rfl) (.none rfl) rfl ?_
          refine AD.takeP 1 rfl (by kernel_rfl) (RV.indexAddrL rfl rfl (by omega)) (.none rfl) rfl ?_
          refine AD.take 2 rfl (by kernel_rfl) (RV.loadAt (f := Value.int .u32) (l := a) rfl (by omega) (by simp)) (.none rfl) rfl ?_
          refine AD.takeP 3 rfl (by kernel_rfl) (RV.move rfl) (.none rfl) rfl ?_
          refine AD.takeP 4 rfl (by kernel_rfl) (RV.indexAddrL rfl rfl (by omega)) (.none rfl) rfl ?_
          refine AD.take 5 rfl (by kernel_rfl) (RV.loadAt (f := Value.int .u32) (l := b) rfl (by omega) (by simp)) (.none rfl) rfl ?_
          refine AD.takeP 6 rfl (by kernel_rfl) (RV.gtr rfl rfl) (.none rfl) rfl ?_
          refine AD.done (by kernel_rfl) ?_
          refine AK.cond rfl ?_ ?_
          · intro hc12
            try simp only [decide_eq_true_eq, decide_eq_false_iff_not, Bool.not_eq_true', Bool.not_eq_false', beq_iff_eq] at hc12
            refine AK.draw [] [] mixed ?_
            refine AD.takeP 0 rfl (by kernel_rfl) (RV.move rfl) (.none rfl) rfl ?_
            refine AD.takeP 1 rfl (by kernel_rfl) (RV.indexAddrL rfl rfl (by omega)) (.none rfl) rfl ?_
            refine AD.take 2 rfl (by kernel_rfl) (RV.loadAt (f := Value.int .u32) (l := a) rfl (by omega) (by simp)) (.none rfl) rfl ?_
            refine AD.takeP 3 rfl (by kernel_rfl) (RV.move rfl) (.none rfl) rfl ?_
            refine AD.takeP 4 rfl (by kernel_rfl) (RV.indexAddrL rfl rfl (by omega)) (.none rfl) rfl ?_
            refine AD.take 5 rfl (by kernel_rfl) (RV.loadAt (f := Value.int .u32) (l := b) rfl (by omega) (by simp)) (.none rfl) rfl ?_
            refine AD.takeP 6 rfl (by kernel_rfl) (RV.subK rfl rfl (by simp only [kb]; omega)) (.none rfl) rfl ?_
            refine AD.takeP 7 rfl (by kernel_rfl) (RV.assign rfl) (.none rfl) rfl ?_
            refine AD.done (by kernel_rfl) ?_
            refine AK.seq ?_
            refine AK.region ?_
            refine AO.val (RV.move rfl) (.none rfl) rfl ?_
            refine AO.val (RV.indexAddrL rfl rfl (by omega)) (.none rfl) rfl ?_
            refine AO.val (RV.loadAt (f := Value.int .u32) (l := (addS a k)) rfl (by omega) (by simp)) (.none rfl) rfl ?_
            refine AO.val (RV.move rfl) (.none rfl) rfl ?_
            refine AO.val ((RV.neq rfl rfl).to (v' := .bool false) (by rw [hga, if_neg (by omega)]; simp)) (.none rfl) rfl ?_
            refine AO.val (RV.move rfl) (.none rfl) rfl ?_
            refine AO.val (RV.move rfl) (.some rfl rfl rfl rfl) rfl ?_
            refine AO.val (RV.indexAddrL rfl rfl (by omega)) (.some rfl rfl rfl rfl) rfl ?_
            refine AO.val (RV.loadAt (f := Value.int .u32) (l := r19) rfl (by omega) (by simp)) (.some rfl rfl rfl rfl) rfl ?_
            refine AO.val (RV.convIn rfl (by simp only [kb]; omega)) (.some rfl rfl rfl rfl) rfl ?_
            refine AO.val (RV.move rfl) (.some rfl rfl rfl rfl) rfl ?_
            refine AO.val ((RV.neq rfl rfl).to (v' := .bool false) (by rw [hgs]; simp; omega)) (.some rfl rfl rfl rfl) rfl ?_
            refine AO.val (RV.pickF rfl rfl) (.none rfl) rfl ?_
            refine AO.val (RV.move rfl) (.none rfl) rfl ?_
            refine AO.val (RV.move rfl) (.some rfl rfl rfl rfl) rfl ?_
            refine AO.val (RV.indexAddrL rfl rfl (by omega)) (.some rfl rfl rfl rfl) rfl ?_
            refine AO.val (RV.loadAt (f := Value.int .u32) (l := r22) rfl (by omega) (by simp)) (.some rfl rfl rfl rfl) rfl ?_
            refine AO.val (RV.move rfl) (.some rfl rfl rfl rfl) rfl ?_
            refine AO.val ((RV.neq rfl rfl).to (v' := .bool false) (by rw [hgl]; simp; omega)) (.some rfl rfl rfl rfl) rfl ?_
            refine AO.val (RV.pickF rfl rfl) (.none rfl) rfl ?_
            refine AO.nil ?_
            refine AK.condF rfl ?_
            refine AK.skip ?_
            refine AK.inBlock ?_
            refine AK.region ?_
            refine AO.val (RV.move rfl) (.none rfl) rfl ?_
            refine AO.val (by first | exact RV.addIn rfl rfl (by omega) | exact RV.add rfl rfl) (.none rfl) rfl ?_
            refine AO.val (RV.assign rfl) (.none rfl) rfl ?_
            refine AO.nil ?_
            -- round ends at L0TfFT
            refine AK.weak (.cons (by exact rfl) (.cons (by exact rfl) (.cons (by exact rfl) (.cons (by exact rfl) (.cons (by exact rfl) (.cons (by exact rfl) (.cons (by exact rfl) .nil))))))) (by first | exact SubO.sub | exact List.Sublist.refl _ | exact .cons _ (List.Sublist.refl _) | exact .cons _ (.cons _ (List.Sublist.refl _)) | exact .cons _ (.cons _ (.cons _ (List.Sublist.refl _)))) (hih0 (i + 1) ?_ ?_)
            · try dsimp only
              exact ⟨by omega, by omega⟩
            · try dsimp only
              omega
          · intro hc12
            try simp only [decide_eq_true_eq, decide_eq_false_iff_not, Bool.not_eq_true', Bool.not_eq_false', beq_iff_eq] at hc12
            refine AK.skip ?_
            refine AK.seq ?_
            refine AK.region ?_
            refine AO.val (RV.move rfl) (.none rfl) rfl ?_
            refine AO.val (RV.indexAddrL rfl rfl (by omega)) (.none rfl) rfl ?_
            refine AO.val (RV.loadAt (f := Value.int .u32) (l := (addS a k)) rfl (by omega) (by simp)) (.none rfl) rfl ?_
            refine AO.val (RV.move rfl) (.none rfl) rfl ?_
            refine AO.val ((RV.neq rfl rfl).to (v' := .bool false) (by rw [hga, if_neg (by omega)]; simp)) (.none rfl) rfl ?_
            refine AO.val (RV.move rfl) (.none rfl) rfl ?_
            refine AO.val (RV.move rfl) (.some rfl rfl rfl rfl) rfl ?_
            refine AO.val (RV.indexAddrL rfl rfl (by omega)) (.some rfl rfl rfl rfl) rfl ?_
            refine AO.val (RV.loadAt (f := Value.int .u32) (l := r19) rfl (by omega) (by simp)) (.some rfl rfl rfl rfl) rfl ?_
            refine AO.val (RV.convIn rfl (by simp only [kb]; omega)) (.some rfl rfl rfl rfl) rfl ?_
            refine AO.val (RV.move rfl) (.some rfl rfl rfl rfl) rfl ?_
            refine AO.val ((RV.neq rfl rfl).to (v' := .bool false) (by rw [hgs]; simp; omega)) (.some rfl rfl rfl rfl) rfl ?_
            refine AO.val (RV.pickF rfl rfl) (.none rfl) rfl ?_
            refine AO.val (RV.move rfl) (.none rfl) rfl ?_
            refine AO.val (RV.move rfl) (.some rfl rfl rfl rfl) rfl ?_
            refine AO.val (RV.indexAddrL rfl rfl (by omega)) (.some rfl rfl rfl rfl) rfl ?_
            refine AO.val (RV.loadAt (f := Value.int .u32) (l := r22) rfl (by omega) (by simp)) (.some rfl rfl rfl rfl) rfl ?_
            refine AO.val (RV.move rfl) (.some rfl rfl rfl rfl) rfl ?_
            refine AO.val ((RV.neq rfl rfl).to (v' := .bool false) (by rw [hgl]; simp; omega)) (.some rfl rfl rfl rfl) rfl ?_
            refine AO.val (RV.pickF rfl rfl) (.none rfl) rfl ?_
            refine AO.nil ?_
            refine AK.condF rfl ?_
            refine AK.skip ?_
            refine AK.inBlock ?_
            refine AK.region ?_
            refine AO.val (RV.move rfl) (.none rfl) rfl ?_
            refine AO.val (by first | exact RV.addIn rfl rfl (by omega) | exact RV.add rfl rfl) (.none rfl) rfl ?_
            refine AO.val (RV.assign rfl) (.none rfl) rfl ?_
            refine AO.nil ?_
            -- round ends at L0TfFF
            refine AK.weak (.cons (by exact rfl) (.cons (by exact rfl) (.cons (by exact rfl) (.cons (by exact rfl) (.cons (by exact rfl) (.cons (by exact rfl) (.cons (by exact rfl) .nil))))))) (by first | exact SubO.sub | exact List.Sublist.refl _ | exact .cons _ (List.Sublist.refl _) | exact .cons _ (.cons _ (List.Sublist.refl _)) | exact .cons _ (.cons _ (.cons _ (List.Sublist.refl _)))) (hih0 (i + 1) ?_ ?_)
            · try dsimp only
              exact ⟨by omega, by omega⟩
            · try dsimp only
              omega
    · intro hc1
      try simp only [decide_eq_true_eq, decide_eq_false_iff_not, Bool.not_eq_true', Bool.not_eq_false', beq_iff_eq] at hc1
      refine AK.exit rfl ?_
      refine AK.seq ?_
      refine AK.region ?_
      refine AO.eff (EF.callF rfl (lives36_spec B _)) (.none rfl) rfl ?_
      rintro _ _ ⟨rfl, rfl⟩
      refine AO.val (RV.assign rfl) (.none rfl) rfl ?_
      refine AO.nil ?_
      -- at L0F
      clear hih0
      refine AK.ret (h' := []) Try.func4 (.tmp rfl .nil) ?_ (List.nil_sublist _)
      rfl
  · intro hst0
    try dsimp only at hst0
    refine AD.cut (α := List Int × List Int × Nat × Nat) 4 #[true, true, true, true, true, true, true, true, true, true, true, false, false, false, false] (fun (r19, r22, b7, b8) e => (8, .pointer (some ⟨b8, 0, none⟩)) :: (7, .pointer (some ⟨b7, 0, none⟩)) :: (22, .agg (r22.map (Value.int .u32)).toArray) :: (19, .agg (r19.map (Value.int .u32)).toArray) :: (16, .agg ((addS a k).map (Value.int .u32)).toArray) :: e) (fun (r19, r22, b7, b8) h => (b8, Blk.cells (zeroC.map (Value.int .u32)) 24 (0, 0)) :: ((b7, Blk.cells (zeroC.map (Value.int .u32)) 24 (0, 0)) :: (h))) (fun (r19, r22, b7, b8) => (Cnt r19) ∧ (∀ j : Int, 0 ≤ j → j < 37 → lget r19 j = min (lget a j + lget b j) 4294967295) ∧ (Cnt r22) ∧ (∀ j : Int, 0 ≤ j → j < 37 → lget r22 j = lget a j - min (lget a j) (lget b j))) ?_ ?_
    · rintro ⟨r19, r22, b7, b8⟩ ⟨hq19, hv19, hq22, hv22⟩
      try dsimp only
      refine AD.one 11 (by kernel_rfl) (AE.eff rfl (EF.alloc) (.none rfl) rfl ?_)
      rintro _ _ ⟨b9, hf9, rfl, rfl⟩
      rw [zero_cells]
      refine ⟨.inl (by kernel_rfl), ?_⟩
      refine AD.to rfl (by rfl) (.cons rfl (.cons rfl (.cons rfl (.cons rfl (.cons rfl (.cons rfl (.drop rfl (.drop rfl (.drop rfl (.drop rfl (.drop rfl (.drop rfl .refl)))))))))))) (by first | exact List.Perm.refl _ | exact perm_count fun x => by simp only [List.count_append, List.count_cons, List.count_nil]; omega) (hst0 ⟨r19, r22, b7, b8, b9⟩ ⟨hq19, hv19, hq22, hv22⟩)
    · intro hst1
      try dsimp only at hst1
      refine AD.cut (α := List Int × List Int × Nat × Nat) 4 #[true, true, true, true, true, true, true, true, true, true, false, true, false, false, false] (fun (r19, r22, b7, b9) e => (9, .pointer (some ⟨b9, 0, none⟩)) :: (7, .pointer (some ⟨b7, 0, none⟩)) :: (22, .agg (r22.map (Value.int .u32)).toArray) :: (19, .agg (r19.map (Value.int .u32)).toArray) :: (16, .agg ((addS a k).map (Value.int .u32)).toArray) :: e) (fun (r19, r22, b7, b9) h => (b9, Blk.cells (zeroC.map (Value.int .u32)) 24 (0, 0)) :: ((b7, Blk.cells (zeroC.map (Value.int .u32)) 24 (0, 0)) :: (h))) (fun (r19, r22, b7, b9) => (Cnt r19) ∧ (∀ j : Int, 0 ≤ j → j < 37 → lget r19 j = min (lget a j + lget b j) 4294967295) ∧ (Cnt r22) ∧ (∀ j : Int, 0 ≤ j → j < 37 → lget r22 j = lget a j - min (lget a j) (lget b j))) ?_ ?_
      · rintro ⟨r19, r22, b7, b9⟩ ⟨hq19, hv19, hq22, hv22⟩
        try dsimp only
        refine AD.one 10 (by kernel_rfl) (AE.eff rfl (EF.alloc) (.none rfl) rfl ?_)
        rintro _ _ ⟨b8, hf8, rfl, rfl⟩
        rw [zero_cells]
        refine ⟨.inl (by kernel_rfl), ?_⟩
        refine AD.to rfl (by rfl) (.cons rfl (.cons rfl (.cons rfl (.cons rfl (.cons rfl (.cons rfl (.drop rfl (.drop rfl (.drop rfl (.drop rfl (.drop rfl (.drop rfl .refl)))))))))))) (by first | exact List.Perm.refl _ | exact perm_count fun x => by simp only [List.count_append, List.count_cons, List.count_nil]; omega) (hst0 ⟨r19, r22, b7, b8, b9⟩ ⟨hq19, hv19, hq22, hv22⟩)
      · intro hst2
        try dsimp only at hst2
        refine AD.cut (α := List Int × List Int × Nat × Nat) 4 #[true, true, true, true, true, true, true, true, true, false, true, true, false, false, false] (fun (r19, r22, b8, b9) e => (9, .pointer (some ⟨b9, 0, none⟩)) :: (8, .pointer (some ⟨b8, 0, none⟩)) :: (22, .agg (r22.map (Value.int .u32)).toArray) :: (19, .agg (r19.map (Value.int .u32)).toArray) :: (16, .agg ((addS a k).map (Value.int .u32)).toArray) :: e) (fun (r19, r22, b8, b9) h => (b9, Blk.cells (zeroC.map (Value.int .u32)) 24 (0, 0)) :: ((b8, Blk.cells (zeroC.map (Value.int .u32)) 24 (0, 0)) :: (h))) (fun (r19, r22, b8, b9) => (Cnt r19) ∧ (∀ j : Int, 0 ≤ j → j < 37 → lget r19 j = min (lget a j + lget b j) 4294967295) ∧ (Cnt r22) ∧ (∀ j : Int, 0 ≤ j → j < 37 → lget r22 j = lget a j - min (lget a j) (lget b j))) ?_ ?_
        · rintro ⟨r19, r22, b8, b9⟩ ⟨hq19, hv19, hq22, hv22⟩
          try dsimp only
          refine AD.one 9 (by kernel_rfl) (AE.eff rfl (EF.alloc) (.none rfl) rfl ?_)
          rintro _ _ ⟨b7, hf7, rfl, rfl⟩
          rw [zero_cells]
          refine ⟨.inl (by kernel_rfl), ?_⟩
          refine AD.to rfl (by rfl) (.cons rfl (.cons rfl (.cons rfl (.cons rfl (.cons rfl (.cons rfl (.drop rfl (.drop rfl (.drop rfl (.drop rfl (.drop rfl (.drop rfl .refl)))))))))))) (by first | exact List.Perm.refl _ | exact perm_count fun x => by simp only [List.count_append, List.count_cons, List.count_nil]; omega) (hst0 ⟨r19, r22, b7, b8, b9⟩ ⟨hq19, hv19, hq22, hv22⟩)
        · intro hst3
          try dsimp only at hst3
          refine AD.cut (α := List Int × Nat × Nat × Nat) 4 #[true, true, true, true, true, true, true, true, false, true, true, true, false, false, false] (fun (r19, b7, b8, b9) e => (9, .pointer (some ⟨b9, 0, none⟩)) :: (8, .pointer (some ⟨b8, 0, none⟩)) :: (7, .pointer (some ⟨b7, 0, none⟩)) :: (19, .agg (r19.map (Value.int .u32)).toArray) :: (16, .agg ((addS a k).map (Value.int .u32)).toArray) :: e) (fun (r19, b7, b8, b9) h => (b9, Blk.cells (zeroC.map (Value.int .u32)) 24 (0, 0)) :: ((b8, Blk.cells (zeroC.map (Value.int .u32)) 24 (0, 0)) :: ((b7, Blk.cells (zeroC.map (Value.int .u32)) 24 (0, 0)) :: (h)))) (fun (r19, b7, b8, b9) => (Cnt r19) ∧ (∀ j : Int, 0 ≤ j → j < 37 → lget r19 j = min (lget a j + lget b j) 4294967295)) ?_ ?_
          · rintro ⟨r19, b7, b8, b9⟩ ⟨hq19, hv19⟩
            try dsimp only
            refine AD.one 8 (by kernel_rfl) (AE.eff rfl (EF.callF rfl (less36_spec B _ a b ha hb)) (.none rfl) rfl ?_)
            rintro _ _ ⟨rfl, r22, rfl, hq22, hv22⟩
            refine ⟨.inl (by kernel_rfl), ?_⟩
            refine AD.to rfl (by rfl) (.cons rfl (.cons rfl (.cons rfl (.cons rfl (.cons rfl (.cons rfl (.drop rfl (.drop rfl (.drop rfl (.drop rfl (.drop rfl (.drop rfl .refl)))))))))))) (by first | exact List.Perm.refl _ | exact perm_count fun x => by simp only [List.count_append, List.count_cons, List.count_nil]; omega) (hst0 ⟨r19, r22, b7, b8, b9⟩ ⟨hq19, hv19, hq22, hv22⟩)
          · intro hst4
            try dsimp only at hst4
            refine AD.cut (α := List Int × List Int × Nat) 5 #[true, true, true, true, true, true, true, true, true, true, false, false, false, false, false] (fun (r19, r22, b7) e => (7, .pointer (some ⟨b7, 0, none⟩)) :: (22, .agg (r22.map (Value.int .u32)).toArray) :: (19, .agg (r19.map (Value.int .u32)).toArray) :: (16, .agg ((addS a k).map (Value.int .u32)).toArray) :: e) (fun (r19, r22, b7) h => (b7, Blk.cells (zeroC.map (Value.int .u32)) 24 (0, 0)) :: (h)) (fun (r19, r22, b7) => (Cnt r19) ∧ (∀ j : Int, 0 ≤ j → j < 37 → lget r19 j = min (lget a j + lget b j) 4294967295) ∧ (Cnt r22) ∧ (∀ j : Int, 0 ≤ j → j < 37 → lget r22 j = lget a j - min (lget a j) (lget b j))) ?_ ?_
            · rintro ⟨r19, r22, b7⟩ ⟨hq19, hv19, hq22, hv22⟩
              try dsimp only
              refine AD.many (i := 10) (l := [11]) (by kernel_rfl) (.cons ?_ (.cons ?_ (.nil)))
              · skip
                refine AE.eff rfl (EF.alloc) (.none rfl) rfl ?_
                rintro _ _ ⟨b8, hf8, rfl, rfl⟩
                rw [zero_cells]
                refine ⟨.inl (by kernel_rfl), ?_⟩
                refine AD.to rfl (by rfl) (.cons rfl (.cons rfl (.cons rfl (.cons rfl (.cons rfl (.drop rfl (.drop rfl (.drop rfl (.drop rfl (.drop rfl .refl)))))))))) (by first | exact List.Perm.refl _ | exact perm_count fun x => by simp only [List.count_append, List.count_cons, List.count_nil]; omega) (hst1 ⟨r19, r22, b7, b8⟩ ⟨hq19, hv19, hq22, hv22⟩)
              · skip
                refine AE.eff rfl (EF.alloc) (.none rfl) rfl ?_
                rintro _ _ ⟨b9, hf9, rfl, rfl⟩
                rw [zero_cells]
                refine ⟨.inl (by kernel_rfl), ?_⟩
                refine AD.to rfl (by rfl) (.cons rfl (.cons rfl (.cons rfl (.cons rfl (.cons rfl (.drop rfl (.drop rfl (.drop rfl (.drop rfl (.drop rfl .refl)))))))))) (by first | exact List.Perm.refl _ | exact perm_count fun x => by simp only [List.count_append, List.count_cons, List.count_nil]; omega) (hst2 ⟨r19, r22, b7, b9⟩ ⟨hq19, hv19, hq22, hv22⟩)
            · intro hst5
              try dsimp only at hst5
              refine AD.cut (α := List Int × List Int × Nat) 5 #[true, true, true, true, true, true, true, true, true, false, true, false, false, false, false] (fun (r19, r22, b8) e => (8, .pointer (some ⟨b8, 0, none⟩)) :: (22, .agg (r22.map (Value.int .u32)).toArray) :: (19, .agg (r19.map (Value.int .u32)).toArray) :: (16, .agg ((addS a k).map (Value.int .u32)).toArray) :: e) (fun (r19, r22, b8) h => (b8, Blk.cells (zeroC.map (Value.int .u32)) 24 (0, 0)) :: (h)) (fun (r19, r22, b8) => (Cnt r19) ∧ (∀ j : Int, 0 ≤ j → j < 37 → lget r19 j = min (lget a j + lget b j) 4294967295) ∧ (Cnt r22) ∧ (∀ j : Int, 0 ≤ j → j < 37 → lget r22 j = lget a j - min (lget a j) (lget b j))) ?_ ?_
              · rintro ⟨r19, r22, b8⟩ ⟨hq19, hv19, hq22, hv22⟩
                try dsimp only
                refine AD.many (i := 9) (l := [11]) (by kernel_rfl) (.cons ?_ (.cons ?_ (.nil)))
                · skip
                  refine AE.eff rfl (EF.alloc) (.none rfl) rfl ?_
                  rintro _ _ ⟨b7, hf7, rfl, rfl⟩
                  rw [zero_cells]
                  refine ⟨.inl (by kernel_rfl), ?_⟩
                  refine AD.to rfl (by rfl) (.cons rfl (.cons rfl (.cons rfl (.cons rfl (.cons rfl (.drop rfl (.drop rfl (.drop rfl (.drop rfl (.drop rfl .refl)))))))))) (by first | exact List.Perm.refl _ | exact perm_count fun x => by simp only [List.count_append, List.count_cons, List.count_nil]; omega) (hst1 ⟨r19, r22, b7, b8⟩ ⟨hq19, hv19, hq22, hv22⟩)
                · skip
                  refine AE.eff rfl (EF.alloc) (.none rfl) rfl ?_
                  rintro _ _ ⟨b9, hf9, rfl, rfl⟩
                  rw [zero_cells]
                  refine ⟨.inl (by kernel_rfl), ?_⟩
                  refine AD.to rfl (by rfl) (.cons rfl (.cons rfl (.cons rfl (.cons rfl (.cons rfl (.drop rfl (.drop rfl (.drop rfl (.drop rfl (.drop rfl .refl)))))))))) (by first | exact List.Perm.refl _ | exact perm_count fun x => by simp only [List.count_append, List.count_cons, List.count_nil]; omega) (hst3 ⟨r19, r22, b8, b9⟩ ⟨hq19, hv19, hq22, hv22⟩)
              · intro hst6
                try dsimp only at hst6
                refine AD.cut (α := List Int × List Int × Nat) 5 #[true, true, true, true, true, true, true, true, true, false, false, true, false, false, false] (fun (r19, r22, b9) e => (9, .pointer (some ⟨b9, 0, none⟩)) :: (22, .agg (r22.map (Value.int .u32)).toArray) :: (19, .agg (r19.map (Value.int .u32)).toArray) :: (16, .agg ((addS a k).map (Value.int .u32)).toArray) :: e) (fun (r19, r22, b9) h => (b9, Blk.cells (zeroC.map (Value.int .u32)) 24 (0, 0)) :: (h)) (fun (r19, r22, b9) => (Cnt r19) ∧ (∀ j : Int, 0 ≤ j → j < 37 → lget r19 j = min (lget a j + lget b j) 4294967295) ∧ (Cnt r22) ∧ (∀ j : Int, 0 ≤ j → j < 37 → lget r22 j = lget a j - min (lget a j) (lget b j))) ?_ ?_
                · rintro ⟨r19, r22, b9⟩ ⟨hq19, hv19, hq22, hv22⟩
                  try dsimp only
                  refine AD.many (i := 9) (l := [10]) (by kernel_rfl) (.cons ?_ (.cons ?_ (.nil)))
                  · skip
                    refine AE.eff rfl (EF.alloc) (.none rfl) rfl ?_
                    rintro _ _ ⟨b7, hf7, rfl, rfl⟩
                    rw [zero_cells]
                    refine ⟨.inl (by kernel_rfl), ?_⟩
                    refine AD.to rfl (by rfl) (.cons rfl (.cons rfl (.cons rfl (.cons rfl (.cons rfl (.drop rfl (.drop rfl (.drop rfl (.drop rfl (.drop rfl .refl)))))))))) (by first | exact List.Perm.refl _ | exact perm_count fun x => by simp only [List.count_append, List.count_cons, List.count_nil]; omega) (hst2 ⟨r19, r22, b7, b9⟩ ⟨hq19, hv19, hq22, hv22⟩)
                  · skip
                    refine AE.eff rfl (EF.alloc) (.none rfl) rfl ?_
                    rintro _ _ ⟨b8, hf8, rfl, rfl⟩
                    rw [zero_cells]
                    refine ⟨.inl (by kernel_rfl), ?_⟩
                    refine AD.to rfl (by rfl) (.cons rfl (.cons rfl (.cons rfl (.cons rfl (.cons rfl (.drop rfl (.drop rfl (.drop rfl (.drop rfl (.drop rfl .refl)))))))))) (by first | exact List.Perm.refl _ | exact perm_count fun x => by simp only [List.count_append, List.count_cons, List.count_nil]; omega) (hst3 ⟨r19, r22, b8, b9⟩ ⟨hq19, hv19, hq22, hv22⟩)
                · intro hst7
                  try dsimp only at hst7
                  refine AD.cut (α := List Int × Nat × Nat) 5 #[true, true, true, true, true, true, true, true, false, true, true, false, false, false, false] (fun (r19, b7, b8) e => (8, .pointer (some ⟨b8, 0, none⟩)) :: (7, .pointer (some ⟨b7, 0, none⟩)) :: (19, .agg (r19.map (Value.int .u32)).toArray) :: (16, .agg ((addS a k).map (Value.int .u32)).toArray) :: e) (fun (r19, b7, b8) h => (b8, Blk.cells (zeroC.map (Value.int .u32)) 24 (0, 0)) :: ((b7, Blk.cells (zeroC.map (Value.int .u32)) 24 (0, 0)) :: (h))) (fun (r19, b7, b8) => (Cnt r19) ∧ (∀ j : Int, 0 ≤ j → j < 37 → lget r19 j = min (lget a j + lget b j) 4294967295)) ?_ ?_
                  · rintro ⟨r19, b7, b8⟩ ⟨hq19, hv19⟩
                    try dsimp only
                    refine AD.many (i := 8) (l := [11]) (by kernel_rfl) (.cons ?_ (.cons ?_ (.nil)))
                    · skip
                      refine AE.eff rfl (EF.callF rfl (less36_spec B _ a b ha hb)) (.none rfl) rfl ?_
                      rintro _ _ ⟨rfl, r22, rfl, hq22, hv22⟩
                      refine ⟨.inl (by kernel_rfl), ?_⟩
                      refine AD.to rfl (by rfl) (.cons rfl (.cons rfl (.cons rfl (.cons rfl (.cons rfl (.drop rfl (.drop rfl (.drop rfl (.drop rfl (.drop rfl .refl)))))))))) (by first | exact List.Perm.refl _ | exact perm_count fun x => by simp only [List.count_append, List.count_cons, List.count_nil]; omega) (hst1 ⟨r19, r22, b7, b8⟩ ⟨hq19, hv19, hq22, hv22⟩)
                    · skip
                      refine AE.eff rfl (EF.alloc) (.none rfl) rfl ?_
                      rintro _ _ ⟨b9, hf9, rfl, rfl⟩
                      rw [zero_cells]
                      refine ⟨(by first | exact .inr fun x hx hM => hx | exact .inr fun x hx hM => List.mem_cons_of_mem _ hx | exact .inr fun x hx hM => List.mem_append_right _ hx), ?_⟩
                      refine AD.to rfl (by rfl) (.cons rfl (.cons rfl (.cons rfl (.cons rfl (.cons rfl (.drop rfl (.drop rfl (.drop rfl (.drop rfl (.drop rfl .refl)))))))))) (by first | exact List.Perm.refl _ | exact perm_count fun x => by simp only [List.count_append, List.count_cons, List.count_nil]; omega) (hst4 ⟨r19, b7, b8, b9⟩ ⟨hq19, hv19⟩)
                  · intro hst8
                    try dsimp only at hst8
                    refine AD.cut (α := List Int × Nat × Nat) 5 #[true, true, true, true, true, true, true, true, false, true, false, true, false, false, false] (fun (r19, b7, b9) e => (9, .pointer (some ⟨b9, 0, none⟩)) :: (7, .pointer (some ⟨b7, 0, none⟩)) :: (19, .agg (r19.map (Value.int .u32)).toArray) :: (16, .agg ((addS a k).map (Value.int .u32)).toArray) :: e) (fun (r19, b7, b9) h => (b9, Blk.cells (zeroC.map (Value.int .u32)) 24 (0, 0)) :: ((b7, Blk.cells (zeroC.map (Value.int .u32)) 24 (0, 0)) :: (h))) (fun (r19, b7, b9) => (Cnt r19) ∧ (∀ j : Int, 0 ≤ j → j < 37 → lget r19 j = min (lget a j + lget b j) 4294967295)) ?_ ?_
                    · rintro ⟨r19, b7, b9⟩ ⟨hq19, hv19⟩
                      try dsimp only
                      refine AD.many (i := 8) (l := [10]) (by kernel_rfl) (.cons ?_ (.cons ?_ (.nil)))
                      · skip
                        refine AE.eff rfl (EF.callF rfl (less36_spec B _ a b ha hb)) (.none rfl) rfl ?_
                        rintro _ _ ⟨rfl, r22, rfl, hq22, hv22⟩
                        refine ⟨.inl (by kernel_rfl), ?_⟩
                        refine AD.to rfl (by rfl) (.cons rfl (.cons rfl (.cons rfl (.cons rfl (.cons rfl (.drop rfl (.drop rfl (.drop rfl (.drop rfl (.drop rfl .refl)))))))))) (by first | exact List.Perm.refl _ | exact perm_count fun x => by simp only [List.count_append, List.count_cons, List.count_nil]; omega) (hst2 ⟨r19, r22, b7, b9⟩ ⟨hq19, hv19, hq22, hv22⟩)
                      · skip
                        refine AE.eff rfl (EF.alloc) (.none rfl) rfl ?_
                        rintro _ _ ⟨b8, hf8, rfl, rfl⟩
                        rw [zero_cells]
                        refine ⟨(by first | exact .inr fun x hx hM => hx | exact .inr fun x hx hM => List.mem_cons_of_mem _ hx | exact .inr fun x hx hM => List.mem_append_right _ hx), ?_⟩
                        refine AD.to rfl (by rfl) (.cons rfl (.cons rfl (.cons rfl (.cons rfl (.cons rfl (.drop rfl (.drop rfl (.drop rfl (.drop rfl (.drop rfl .refl)))))))))) (by first | exact List.Perm.refl _ | exact perm_count fun x => by simp only [List.count_append, List.count_cons, List.count_nil]; omega) (hst4 ⟨r19, b7, b8, b9⟩ ⟨hq19, hv19⟩)
                    · intro hst9
                      try dsimp only at hst9
                      refine AD.cut (α := List Int × Nat × Nat) 5 #[true, true, true, true, true, true, true, true, false, false, true, true, false, false, false] (fun (r19, b8, b9) e => (9, .pointer (some ⟨b9, 0, none⟩)) :: (8, .pointer (some ⟨b8, 0, none⟩)) :: (19, .agg (r19.map (Value.int .u32)).toArray) :: (16, .agg ((addS a k).map (Value.int .u32)).toArray) :: e) (fun (r19, b8, b9) h => (b9, Blk.cells (zeroC.map (Value.int .u32)) 24 (0, 0)) :: ((b8, Blk.cells (zeroC.map (Value.int .u32)) 24 (0, 0)) :: (h))) (fun (r19, b8, b9) => (Cnt r19) ∧ (∀ j : Int, 0 ≤ j → j < 37 → lget r19 j = min (lget a j + lget b j) 4294967295)) ?_ ?_
                      · rintro ⟨r19, b8, b9⟩ ⟨hq19, hv19⟩
                        try dsimp only
                        refine AD.many (i := 8) (l := [9]) (by kernel_rfl) (.cons ?_ (.cons ?_ (.nil)))
                        · skip
                          refine AE.eff rfl (EF.callF rfl (less36_spec B _ a b ha hb)) (.none rfl) rfl ?_
                          rintro _ _ ⟨rfl, r22, rfl, hq22, hv22⟩
                          refine ⟨.inl (by kernel_rfl), ?_⟩
                          refine AD.to rfl (by rfl) (.cons rfl (.cons rfl (.cons rfl (.cons rfl (.cons rfl (.drop rfl (.drop rfl (.drop rfl (.drop rfl (.drop rfl .refl)))))))))) (by first | exact List.Perm.refl _ | exact perm_count fun x => by simp only [List.count_append, List.count_cons, List.count_nil]; omega) (hst3 ⟨r19, r22, b8, b9⟩ ⟨hq19, hv19, hq22, hv22⟩)
                        · skip
                          refine AE.eff rfl (EF.alloc) (.none rfl) rfl ?_
                          rintro _ _ ⟨b7, hf7, rfl, rfl⟩
                          rw [zero_cells]
                          refine ⟨(by first | exact .inr fun x hx hM => hx | exact .inr fun x hx hM => List.mem_cons_of_mem _ hx | exact .inr fun x hx hM => List.mem_append_right _ hx), ?_⟩
                          refine AD.to rfl (by rfl) (.cons rfl (.cons rfl (.cons rfl (.cons rfl (.cons rfl (.drop rfl (.drop rfl (.drop rfl (.drop rfl (.drop rfl .refl)))))))))) (by first | exact List.Perm.refl _ | exact perm_count fun x => by simp only [List.count_append, List.count_cons, List.count_nil]; omega) (hst4 ⟨r19, b7, b8, b9⟩ ⟨hq19, hv19⟩)
                      · intro hst10
                        try dsimp only at hst10
                        refine AD.cut (α := Nat × Nat × Nat) 5 #[true, true, true, true, true, false, true, true, false, true, true, true, false, false, false] (fun (b7, b8, b9) e => (9, .pointer (some ⟨b9, 0, none⟩)) :: (8, .pointer (some ⟨b8, 0, none⟩)) :: (7, .pointer (some ⟨b7, 0, none⟩)) :: (16, .agg ((addS a k).map (Value.int .u32)).toArray) :: e) (fun (b7, b8, b9) h => (b9, Blk.cells (zeroC.map (Value.int .u32)) 24 (0, 0)) :: ((b8, Blk.cells (zeroC.map (Value.int .u32)) 24 (0, 0)) :: ((b7, Blk.cells (zeroC.map (Value.int .u32)) 24 (0, 0)) :: (h)))) (fun (b7, b8, b9) => True) ?_ ?_
                        · rintro ⟨b7, b8, b9⟩ _
                          try dsimp only
                          refine AD.one 5 (by kernel_rfl) (AE.eff rfl (EF.callF rfl (sum36_spec B _ a b ha hb)) (.none rfl) rfl ?_)
                          rintro _ _ ⟨rfl, r19, rfl, hq19, hv19⟩
                          refine ⟨(by first | exact .inr fun x hx hM => hx | exact .inr fun x hx hM => List.mem_cons_of_mem _ hx | exact .inr fun x hx hM => List.mem_append_right _ hx), ?_⟩
                          refine AD.to rfl (by rfl) (.cons rfl (.cons rfl (.cons rfl (.cons rfl (.cons rfl (.drop rfl (.drop rfl (.drop rfl (.drop rfl (.drop rfl .refl)))))))))) (by first | exact List.Perm.refl _ | exact perm_count fun x => by simp only [List.count_append, List.count_cons, List.count_nil]; omega) (hst4 ⟨r19, b7, b8, b9⟩ ⟨hq19, hv19⟩)
                        · intro hst11
                          try dsimp only at hst11
                          refine AD.cut (α := List Int × Nat) 6 #[true, true, true, true, true, true, true, true, false, true, false, false, false, false, false] (fun (r19, b7) e => (7, .pointer (some ⟨b7, 0, none⟩)) :: (19, .agg (r19.map (Value.int .u32)).toArray) :: (16, .agg ((addS a k).map (Value.int .u32)).toArray) :: e) (fun (r19, b7) h => (b7, Blk.cells (zeroC.map (Value.int .u32)) 24 (0, 0)) :: (h)) (fun (r19, b7) => (Cnt r19) ∧ (∀ j : Int, 0 ≤ j → j < 37 → lget r19 j = min (lget a j + lget b j) 4294967295)) ?_ ?_
                          · rintro ⟨r19, b7⟩ ⟨hq19, hv19⟩
                            try dsimp only
                            refine AD.many (i := 8) (l := [10, 11]) (by kernel_rfl) (.cons ?_ (.cons ?_ (.cons ?_ (.nil))))
                            · skip
                              refine AE.eff rfl (EF.callF rfl (less36_spec B _ a b ha hb)) (.none rfl) rfl ?_
                              rintro _ _ ⟨rfl, r22, rfl, hq22, hv22⟩
                              refine ⟨.inl (by kernel_rfl), ?_⟩
                              refine AD.to rfl (by rfl) (.cons rfl (.cons rfl (.cons rfl (.cons rfl (.drop rfl (.drop rfl (.drop rfl (.drop rfl .refl)))))))) (by first | exact List.Perm.refl _ | exact perm_count fun x => by simp only [List.count_append, List.count_cons, List.count_nil]; omega) (hst5 ⟨r19, r22, b7⟩ ⟨hq19, hv19, hq22, hv22⟩)
                            · skip
                              refine AE.eff rfl (EF.alloc) (.none rfl) rfl ?_
                              rintro _ _ ⟨b8, hf8, rfl, rfl⟩
                              rw [zero_cells]
                              refine ⟨(by first | exact .inr fun x hx hM => hx | exact .inr fun x hx hM => List.mem_cons_of_mem _ hx | exact .inr fun x hx hM => List.mem_append_right _ hx), ?_⟩
                              refine AD.to rfl (by rfl) (.cons rfl (.cons rfl (.cons rfl (.cons rfl (.drop rfl (.drop rfl (.drop rfl (.drop rfl .refl)))))))) (by first | exact List.Perm.refl _ | exact perm_count fun x => by simp only [List.count_append, List.count_cons, List.count_nil]; omega) (hst8 ⟨r19, b7, b8⟩ ⟨hq19, hv19⟩)
                            · skip
                              refine AE.eff rfl (EF.alloc) (.none rfl) rfl ?_
                              rintro _ _ ⟨b9, hf9, rfl, rfl⟩
                              rw [zero_cells]
                              refine ⟨(by first | exact .inr fun x hx hM => hx | exact .inr fun x hx hM => List.mem_cons_of_mem _ hx | exact .inr fun x hx hM => List.mem_append_right _ hx), ?_⟩
                              refine AD.to rfl (by rfl) (.cons rfl (.cons rfl (.cons rfl (.cons rfl (.drop rfl (.drop rfl (.drop rfl (.drop rfl .refl)))))))) (by first | exact List.Perm.refl _ | exact perm_count fun x => by simp only [List.count_append, List.count_cons, List.count_nil]; omega) (hst9 ⟨r19, b7, b9⟩ ⟨hq19, hv19⟩)
                          · intro hst12
                            try dsimp only at hst12
                            refine AD.cut (α := List Int × Nat) 6 #[true, true, true, true, true, true, true, true, false, false, true, false, false, false, false] (fun (r19, b8) e => (8, .pointer (some ⟨b8, 0, none⟩)) :: (19, .agg (r19.map (Value.int .u32)).toArray) :: (16, .agg ((addS a k).map (Value.int .u32)).toArray) :: e) (fun (r19, b8) h => (b8, Blk.cells (zeroC.map (Value.int .u32)) 24 (0, 0)) :: (h)) (fun (r19, b8) => (Cnt r19) ∧ (∀ j : Int, 0 ≤ j → j < 37 → lget r19 j = min (lget a j + lget b j) 4294967295)) ?_ ?_
                            · rintro ⟨r19, b8⟩ ⟨hq19, hv19⟩
                              try dsimp only
                              refine AD.many (i := 8) (l := [9, 11]) (by kernel_rfl) (.cons ?_ (.cons ?_ (.cons ?_ (.nil))))
                              · skip
                                refine AE.eff rfl (EF.callF rfl (less36_spec B _ a b ha hb)) (.none rfl) rfl ?_
                                rintro _ _ ⟨rfl, r22, rfl, hq22, hv22⟩
                                refine ⟨.inl (by kernel_rfl), ?_⟩
                                refine AD.to rfl (by rfl) (.cons rfl (.cons rfl (.cons rfl (.cons rfl (.drop rfl (.drop rfl (.drop rfl (.drop rfl .refl)))))))) (by first | exact List.Perm.refl _ | exact perm_count fun x => by simp only [List.count_append, List.count_cons, List.count_nil]; omega) (hst6 ⟨r19, r22, b8⟩ ⟨hq19, hv19, hq22, hv22⟩)
                              · skip
                                refine AE.eff rfl (EF.alloc) (.none rfl) rfl ?_
                                rintro _ _ ⟨b7, hf7, rfl, rfl⟩
                                rw [zero_cells]
                                refine ⟨(by first | exact .inr fun x hx hM => hx | exact .inr fun x hx hM => List.mem_cons_of_mem _ hx | exact .inr fun x hx hM => List.mem_append_right _ hx), ?_⟩
                                refine AD.to rfl (by rfl) (.cons rfl (.cons rfl (.cons rfl (.cons rfl (.drop rfl (.drop rfl (.drop rfl (.drop rfl .refl)))))))) (by first | exact List.Perm.refl _ | exact perm_count fun x => by simp only [List.count_append, List.count_cons, List.count_nil]; omega) (hst8 ⟨r19, b7, b8⟩ ⟨hq19, hv19⟩)
                              · skip
                                refine AE.eff rfl (EF.alloc) (.none rfl) rfl ?_
                                rintro _ _ ⟨b9, hf9, rfl, rfl⟩
                                rw [zero_cells]
                                refine ⟨(by first | exact .inr fun x hx hM => hx | exact .inr fun x hx hM => List.mem_cons_of_mem _ hx | exact .inr fun x hx hM => List.mem_append_right _ hx), ?_⟩
                                refine AD.to rfl (by rfl) (.cons rfl (.cons rfl (.cons rfl (.cons rfl (.drop rfl (.drop rfl (.drop rfl (.drop rfl .refl)))))))) (by first | exact List.Perm.refl _ | exact perm_count fun x => by simp only [List.count_append, List.count_cons, List.count_nil]; omega) (hst10 ⟨r19, b8, b9⟩ ⟨hq19, hv19⟩)
                            · intro hst13
                              try dsimp only at hst13
                              refine AD.cut (α := List Int × Nat) 6 #[true, true, true, true, true, true, true, true, false, false, false, true, false, false, false] (fun (r19, b9) e => (9, .pointer (some ⟨b9, 0, none⟩)) :: (19, .agg (r19.map (Value.int .u32)).toArray) :: (16, .agg ((addS a k).map (Value.int .u32)).toArray) :: e) (fun (r19, b9) h => (b9, Blk.cells (zeroC.map (Value.int .u32)) 24 (0, 0)) :: (h)) (fun (r19, b9) => (Cnt r19) ∧ (∀ j : Int, 0 ≤ j → j < 37 → lget r19 j = min (lget a j + lget b j) 4294967295)) ?_ ?_
                              · rintro ⟨r19, b9⟩ ⟨hq19, hv19⟩
                                try dsimp only
                                refine AD.many (i := 8) (l := [9, 10]) (by kernel_rfl) (.cons ?_ (.cons ?_ (.cons ?_ (.nil))))
                                · skip
                                  refine AE.eff rfl (EF.callF rfl (less36_spec B _ a b ha hb)) (.none rfl) rfl ?_
                                  rintro _ _ ⟨rfl, r22, rfl, hq22, hv22⟩
                                  refine ⟨.inl (by kernel_rfl), ?_⟩
                                  refine AD.to rfl (by rfl) (.cons rfl (.cons rfl (.cons rfl (.cons rfl (.drop rfl (.drop rfl (.drop rfl (.drop rfl .refl)))))))) (by first | exact List.Perm.refl _ | exact perm_count fun x => by simp only [List.count_append, List.count_cons, List.count_nil]; omega) (hst7 ⟨r19, r22, b9⟩ ⟨hq19, hv19, hq22, hv22⟩)
                                · skip
                                  refine AE.eff rfl (EF.alloc) (.none rfl) rfl ?_
                                  rintro _ _ ⟨b7, hf7, rfl, rfl⟩
                                  rw [zero_cells]
                                  refine ⟨(by first | exact .inr fun x hx hM => hx | exact .inr fun x hx hM => List.mem_cons_of_mem _ hx | exact .inr fun x hx hM => List.mem_append_right _ hx), ?_⟩
                                  refine AD.to rfl (by rfl) (.cons rfl (.cons rfl (.cons rfl (.cons rfl (.drop rfl (.drop rfl (.drop rfl (.drop rfl .refl)))))))) (by first | exact List.Perm.refl _ | exact perm_count fun x => by simp only [List.count_append, List.count_cons, List.count_nil]; omega) (hst9 ⟨r19, b7, b9⟩ ⟨hq19, hv19⟩)
                                · skip
                                  refine AE.eff rfl (EF.alloc) (.none rfl) rfl ?_
                                  rintro _ _ ⟨b8, hf8, rfl, rfl⟩
                                  rw [zero_cells]
                                  refine ⟨(by first | exact .inr fun x hx hM => hx | exact .inr fun x hx hM => List.mem_cons_of_mem _ hx | exact .inr fun x hx hM => List.mem_append_right _ hx), ?_⟩
                                  refine AD.to rfl (by rfl) (.cons rfl (.cons rfl (.cons rfl (.cons rfl (.drop rfl (.drop rfl (.drop rfl (.drop rfl .refl)))))))) (by first | exact List.Perm.refl _ | exact perm_count fun x => by simp only [List.count_append, List.count_cons, List.count_nil]; omega) (hst10 ⟨r19, b8, b9⟩ ⟨hq19, hv19⟩)
                              · intro hst14
                                try dsimp only at hst14
                                refine AD.cut (α := Nat × Nat) 6 #[true, true, true, true, true, false, true, true, false, true, true, false, false, false, false] (fun (b7, b8) e => (8, .pointer (some ⟨b8, 0, none⟩)) :: (7, .pointer (some ⟨b7, 0, none⟩)) :: (16, .agg ((addS a k).map (Value.int .u32)).toArray) :: e) (fun (b7, b8) h => (b8, Blk.cells (zeroC.map (Value.int .u32)) 24 (0, 0)) :: ((b7, Blk.cells (zeroC.map (Value.int .u32)) 24 (0, 0)) :: (h))) (fun (b7, b8) => True) ?_ ?_
                                · rintro ⟨b7, b8⟩ _
                                  try dsimp only
                                  refine AD.many (i := 5) (l := [11]) (by kernel_rfl) (.cons ?_ (.cons ?_ (.nil)))
                                  · skip
                                    refine AE.eff rfl (EF.callF rfl (sum36_spec B _ a b ha hb)) (.none rfl) rfl ?_
                                    rintro _ _ ⟨rfl, r19, rfl, hq19, hv19⟩
                                    refine ⟨(by first | exact .inr fun x hx hM => hx | exact .inr fun x hx hM => List.mem_cons_of_mem _ hx | exact .inr fun x hx hM => List.mem_append_right _ hx), ?_⟩
                                    refine AD.to rfl (by rfl) (.cons rfl (.cons rfl (.cons rfl (.cons rfl (.drop rfl (.drop rfl (.drop rfl (.drop rfl .refl)))))))) (by first | exact List.Perm.refl _ | exact perm_count fun x => by simp only [List.count_append, List.count_cons, List.count_nil]; omega) (hst8 ⟨r19, b7, b8⟩ ⟨hq19, hv19⟩)
                                  · skip
                                    refine AE.eff rfl (EF.alloc) (.none rfl) rfl ?_
                                    rintro _ _ ⟨b9, hf9, rfl, rfl⟩
                                    rw [zero_cells]
                                    refine ⟨(by first | exact .inr fun x hx hM => hx | exact .inr fun x hx hM => List.mem_cons_of_mem _ hx | exact .inr fun x hx hM => List.mem_append_right _ hx), ?_⟩
                                    refine AD.to rfl (by rfl) (.cons rfl (.cons rfl (.cons rfl (.cons rfl (.drop rfl (.drop rfl (.drop rfl (.drop rfl .refl)))))))) (by first | exact List.Perm.refl _ | exact perm_count fun x => by simp only [List.count_append, List.count_cons, List.count_nil]; omega) (hst11 ⟨b7, b8, b9⟩ trivial)
                                · intro hst15
                                  try dsimp only at hst15
                                  refine AD.cut (α := Nat × Nat) 6 #[true, true, true, true, true, false, true, true, false, true, false, true, false, false, false] (fun (b7, b9) e => (9, .pointer (some ⟨b9, 0, none⟩)) :: (7, .pointer (some ⟨b7, 0, none⟩)) :: (16, .agg ((addS a k).map (Value.int .u32)).toArray) :: e) (fun (b7, b9) h => (b9, Blk.cells (zeroC.map (Value.int .u32)) 24 (0, 0)) :: ((b7, Blk.cells (zeroC.map (Value.int .u32)) 24 (0, 0)) :: (h))) (fun (b7, b9) => True) ?_ ?_
                                  · rintro ⟨b7, b9⟩ _
                                    try dsimp only
                                    refine AD.many (i := 5) (l := [10]) (by kernel_rfl) (.cons ?_ (.cons ?_ (.nil)))
                                    · skip
                                      refine AE.eff rfl (EF.callF rfl (sum36_spec B _ a b ha hb)) (.none rfl) rfl ?_
                                      rintro _ _ ⟨rfl, r19, rfl, hq19, hv19⟩
                                      refine ⟨(by first | exact .inr fun x hx hM => hx | exact .inr fun x hx hM => List.mem_cons_of_mem _ hx | exact .inr fun x hx hM => List.mem_append_right _ hx), ?_⟩
                                      refine AD.to rfl (by rfl) (.cons rfl (.cons rfl (.cons rfl (.cons rfl (.drop rfl (.drop rfl (.drop rfl (.drop rfl .refl)))))))) (by first | exact List.Perm.refl _ | exact perm_count fun x => by simp only [List.count_append, List.count_cons, List.count_nil]; omega) (hst9 ⟨r19, b7, b9⟩ ⟨hq19, hv19⟩)
                                    · skip
                                      refine AE.eff rfl (EF.alloc) (.none rfl) rfl ?_
                                      rintro _ _ ⟨b8, hf8, rfl, rfl⟩
                                      rw [zero_cells]
                                      refine ⟨(by first | exact .inr fun x hx hM => hx | exact .inr fun x hx hM => List.mem_cons_of_mem _ hx | exact .inr fun x hx hM => List.mem_append_right _ hx), ?_⟩
                                      refine AD.to rfl (by rfl) (.cons rfl (.cons rfl (.cons rfl (.cons rfl (.drop rfl (.drop rfl (.drop rfl (.drop rfl .refl)))))))) (by first | exact List.Perm.refl _ | exact perm_count fun x => by simp only [List.count_append, List.count_cons, List.count_nil]; omega) (hst11 ⟨b7, b8, b9⟩ trivial)
                                  · intro hst16
                                    try dsimp only at hst16
                                    refine AD.cut (α := Nat × Nat) 6 #[true, true, true, true, true, false, true, true, false, false, true, true, false, false, false] (fun (b8, b9) e => (9, .pointer (some ⟨b9, 0, none⟩)) :: (8, .pointer (some ⟨b8, 0, none⟩)) :: (16, .agg ((addS a k).map (Value.int .u32)).toArray) :: e) (fun (b8, b9) h => (b9, Blk.cells (zeroC.map (Value.int .u32)) 24 (0, 0)) :: ((b8, Blk.cells (zeroC.map (Value.int .u32)) 24 (0, 0)) :: (h))) (fun (b8, b9) => True) ?_ ?_
                                    · rintro ⟨b8, b9⟩ _
                                      try dsimp only
                                      refine AD.many (i := 5) (l := [9]) (by kernel_rfl) (.cons ?_ (.cons ?_ (.nil)))
                                      · skip
                                        refine AE.eff rfl (EF.callF rfl (sum36_spec B _ a b ha hb)) (.none rfl) rfl ?_
                                        rintro _ _ ⟨rfl, r19, rfl, hq19, hv19⟩
                                        refine ⟨(by first | exact .inr fun x hx hM => hx | exact .inr fun x hx hM => List.mem_cons_of_mem _ hx | exact .inr fun x hx hM => List.mem_append_right _ hx), ?_⟩
                                        refine AD.to rfl (by rfl) (.cons rfl (.cons rfl (.cons rfl (.cons rfl (.drop rfl (.drop rfl (.drop rfl (.drop rfl .refl)))))))) (by first | exact List.Perm.refl _ | exact perm_count fun x => by simp only [List.count_append, List.count_cons, List.count_nil]; omega) (hst10 ⟨r19, b8, b9⟩ ⟨hq19, hv19⟩)
                                      · skip
                                        refine AE.eff rfl (EF.alloc) (.none rfl) rfl ?_
                                        rintro _ _ ⟨b7, hf7, rfl, rfl⟩
                                        rw [zero_cells]
                                        refine ⟨(by first | exact .inr fun x hx hM => hx | exact .inr fun x hx hM => List.mem_cons_of_mem _ hx | exact .inr fun x hx hM => List.mem_append_right _ hx), ?_⟩
                                        refine AD.to rfl (by rfl) (.cons rfl (.cons rfl (.cons rfl (.cons rfl (.drop rfl (.drop rfl (.drop rfl (.drop rfl .refl)))))))) (by first | exact List.Perm.refl _ | exact perm_count fun x => by simp only [List.count_append, List.count_cons, List.count_nil]; omega) (hst11 ⟨b7, b8, b9⟩ trivial)
                                    · intro hst17
                                      try dsimp only at hst17
                                      refine AD.cut (α := Nat × Nat × Nat) 6 #[true, true, false, true, true, false, true, true, false, true, true, true, false, false, false] (fun (b7, b8, b9) e => (9, .pointer (some ⟨b9, 0, none⟩)) :: (8, .pointer (some ⟨b8, 0, none⟩)) :: (7, .pointer (some ⟨b7, 0, none⟩)) :: e) (fun (b7, b8, b9) h => (b9, Blk.cells (zeroC.map (Value.int .u32)) 24 (0, 0)) :: ((b8, Blk.cells (zeroC.map (Value.int .u32)) 24 (0, 0)) :: ((b7, Blk.cells (zeroC.map (Value.int .u32)) 24 (0, 0)) :: (h)))) (fun (b7, b8, b9) => True) ?_ ?_
                                      · rintro ⟨b7, b8, b9⟩ _
                                        try dsimp only
                                        refine AD.one 2 (by kernel_rfl) (AE.eff rfl (EF.callF rfl (add36_spec B _ a ha k)) (.none rfl) rfl ?_)
                                        rintro _ _ ⟨rfl, rfl⟩
                                        refine ⟨(by first | exact .inr fun x hx hM => hx | exact .inr fun x hx hM => List.mem_cons_of_mem _ hx | exact .inr fun x hx hM => List.mem_append_right _ hx), ?_⟩
                                        refine AD.to rfl (by rfl) (.cons rfl (.cons rfl (.cons rfl (.cons rfl (.drop rfl (.drop rfl (.drop rfl (.drop rfl .refl)))))))) (by first | exact List.Perm.refl _ | exact perm_count fun x => by simp only [List.count_append, List.count_cons, List.count_nil]; omega) (hst11 ⟨b7, b8, b9⟩ trivial)
                                      · intro hst18
                                        try dsimp only at hst18
                                        refine AD.cut (α := Nat) 7 #[true, true, true, true, true, false, true, true, false, true, false, false, false, false, false] (fun b7 e => (7, .pointer (some ⟨b7, 0, none⟩)) :: (16, .agg ((addS a k).map (Value.int .u32)).toArray) :: e) (fun b7 h => (b7, Blk.cells (zeroC.map (Value.int .u32)) 24 (0, 0)) :: (h)) (fun b7 => True) ?_ ?_
                                        · rintro b7 _
                                          try dsimp only
                                          refine AD.many (i := 5) (l := [10, 11]) (by kernel_rfl) (.cons ?_ (.cons ?_ (.cons ?_ (.nil))))
                                          · skip
                                            refine AE.eff rfl (EF.callF rfl (sum36_spec B _ a b ha hb)) (.none rfl) rfl ?_
                                            rintro _ _ ⟨rfl, r19, rfl, hq19, hv19⟩
                                            refine ⟨(by first | exact .inr fun x hx hM => hx | exact .inr fun x hx hM => List.mem_cons_of_mem _ hx | exact .inr fun x hx hM => List.mem_append_right _ hx), ?_⟩
                                            refine AD.to rfl (by rfl) (.cons rfl (.cons rfl (.cons rfl (.drop rfl (.drop rfl (.drop rfl .refl)))))) (by first | exact List.Perm.refl _ | exact perm_count fun x => by simp only [List.count_append, List.count_cons, List.count_nil]; omega) (hst12 ⟨r19, b7⟩ ⟨hq19, hv19⟩)
                                          · skip
                                            refine AE.eff rfl (EF.alloc) (.none rfl) rfl ?_
                                            rintro _ _ ⟨b8, hf8, rfl, rfl⟩
                                            rw [zero_cells]
                                            refine ⟨(by first | exact .inr fun x hx hM => hx | exact .inr fun x hx hM => List.mem_cons_of_mem _ hx | exact .inr fun x hx hM => List.mem_append_right _ hx), ?_⟩
                                            refine AD.to rfl (by rfl) (.cons rfl (.cons rfl (.cons rfl (.drop rfl (.drop rfl (.drop rfl .refl)))))) (by first | exact List.Perm.refl _ | exact perm_count fun x => by simp only [List.count_append, List.count_cons, List.count_nil]; omega) (hst15 ⟨b7, b8⟩ trivial)
                                          · skip
                                            refine AE.eff rfl (EF.alloc) (.none rfl) rfl ?_
                                            rintro _ _ ⟨b9, hf9, rfl, rfl⟩
                                            rw [zero_cells]
                                            refine ⟨(by first | exact .inr fun x hx hM => hx | exact .inr fun x hx hM => List.mem_cons_of_mem _ hx | exact .inr fun x hx hM => List.mem_append_right _ hx), ?_⟩
                                            refine AD.to rfl (by rfl) (.cons rfl (.cons rfl (.cons rfl (.drop rfl (.drop rfl (.drop rfl .refl)))))) (by first | exact List.Perm.refl _ | exact perm_count fun x => by simp only [List.count_append, List.count_cons, List.count_nil]; omega) (hst16 ⟨b7, b9⟩ trivial)
                                        · intro hst19
                                          try dsimp only at hst19
                                          refine AD.cut (α := Nat) 7 #[true, true, true, true, true, false, true, true, false, false, true, false, false, false, false] (fun b8 e => (8, .pointer (some ⟨b8, 0, none⟩)) :: (16, .agg ((addS a k).map (Value.int .u32)).toArray) :: e) (fun b8 h => (b8, Blk.cells (zeroC.map (Value.int .u32)) 24 (0, 0)) :: (h)) (fun b8 => True) ?_ ?_
                                          · rintro b8 _
                                            try dsimp only
                                            refine AD.many (i := 5) (l := [9, 11]) (by kernel_rfl) (.cons ?_ (.cons ?_ (.cons ?_ (.nil))))
                                            · skip
                                              refine AE.eff rfl (EF.callF rfl (sum36_spec B _ a b ha hb)) (.none rfl) rfl ?_
                                              rintro _ _ ⟨rfl, r19, rfl, hq19, hv19⟩
                                              refine ⟨(by first | exact .inr fun x hx hM => hx | exact .inr fun x hx hM => List.mem_cons_of_mem _ hx | exact .inr fun x hx hM => List.mem_append_right _ hx), ?_⟩
                                              refine AD.to rfl (by rfl) (.cons rfl (.cons rfl (.cons rfl (.drop rfl (.drop rfl (.drop rfl .refl)))))) (by first | exact List.Perm.refl _ | exact perm_count fun x => by simp only [List.count_append, List.count_cons, List.count_nil]; omega) (hst13 ⟨r19, b8⟩ ⟨hq19, hv19⟩)
                                            · skip
                                              refine AE.eff rfl (EF.alloc) (.none rfl) rfl ?_
                                              rintro _ _ ⟨b7, hf7, rfl, rfl⟩
                                              rw [zero_cells]
                                              refine ⟨(by first | exact .inr fun x hx hM => hx | exact .inr fun x hx hM => List.mem_cons_of_mem _ hx | exact .inr fun x hx hM => List.mem_append_right _ hx), ?_⟩
                                              refine AD.to rfl (by rfl) (.cons rfl (.cons rfl (.cons rfl (.drop rfl (.drop rfl (.drop rfl .refl)))))) (by first | exact List.Perm.refl _ | exact perm_count fun x => by simp only [List.count_append, List.count_cons, List.count_nil]; omega) (hst15 ⟨b7, b8⟩ trivial)
                                            · skip
                                              refine AE.eff rfl (EF.alloc) (.none rfl) rfl ?_
                                              rintro _ _ ⟨b9, hf9, rfl, rfl⟩
                                              rw [zero_cells]
                                              refine ⟨(by first | exact .inr fun x hx hM => hx | exact .inr fun x hx hM => List.mem_cons_of_mem _ hx | exact .inr fun x hx hM => List.mem_append_right _ hx), ?_⟩
                                              refine AD.to rfl (by rfl) (.cons rfl (.cons rfl (.cons rfl (.drop rfl (.drop rfl (.drop rfl .refl)))))) (by first | exact List.Perm.refl _ | exact perm_count fun x => by simp only [List.count_append, List.count_cons, List.count_nil]; omega) (hst17 ⟨b8, b9⟩ trivial)
                                          · intro hst20
                                            try dsimp only at hst20
                                            refine AD.cut (α := Nat) 7 #[true, true, true, true, true, false, true, true, false, false, false, true, false, false, false] (fun b9 e => (9, .pointer (some ⟨b9, 0, none⟩)) :: (16, .agg ((addS a k).map (Value.int .u32)).toArray) :: e) (fun b9 h => (b9, Blk.cells (zeroC.map (Value.int .u32)) 24 (0, 0)) :: (h)) (fun b9 => True) ?_ ?_
                                            · rintro b9 _
                                              try dsimp only
                                              refine AD.many (i := 5) (l := [9, 10]) (by kernel_rfl) (.cons ?_ (.cons ?_ (.cons ?_ (.nil))))
                                              · skip
                                                refine AE.eff rfl (EF.callF rfl (sum36_spec B _ a b ha hb)) (.none rfl) rfl ?_
                                                rintro _ _ ⟨rfl, r19, rfl, hq19, hv19⟩
                                                refine ⟨(by first | exact .inr fun x hx hM => hx | exact .inr fun x hx hM => List.mem_cons_of_mem _ hx | exact .inr fun x hx hM => List.mem_append_right _ hx), ?_⟩
                                                refine AD.to rfl (by rfl) (.cons rfl (.cons rfl (.cons rfl (.drop rfl (.drop rfl (.drop rfl .refl)))))) (by first | exact List.Perm.refl _ | exact perm_count fun x => by simp only [List.count_append, List.count_cons, List.count_nil]; omega) (hst14 ⟨r19, b9⟩ ⟨hq19, hv19⟩)
                                              · skip
                                                refine AE.eff rfl (EF.alloc) (.none rfl) rfl ?_
                                                rintro _ _ ⟨b7, hf7, rfl, rfl⟩
                                                rw [zero_cells]
                                                refine ⟨(by first | exact .inr fun x hx hM => hx | exact .inr fun x hx hM => List.mem_cons_of_mem _ hx | exact .inr fun x hx hM => List.mem_append_right _ hx), ?_⟩
                                                refine AD.to rfl (by rfl) (.cons rfl (.cons rfl (.cons rfl (.drop rfl (.drop rfl (.drop rfl .refl)))))) (by first | exact List.Perm.refl _ | exact perm_count fun x => by simp only [List.count_append, List.count_cons, List.count_nil]; omega) (hst16 ⟨b7, b9⟩ trivial)
                                              · skip
                                                refine AE.eff rfl (EF.alloc) (.none rfl) rfl ?_
                                                rintro _ _ ⟨b8, hf8, rfl, rfl⟩
                                                rw [zero_cells]
                                                refine ⟨(by first | exact .inr fun x hx hM => hx | exact .inr fun x hx hM => List.mem_cons_of_mem _ hx | exact .inr fun x hx hM => List.mem_append_right _ hx), ?_⟩
                                                refine AD.to rfl (by rfl) (.cons rfl (.cons rfl (.cons rfl (.drop rfl (.drop rfl (.drop rfl .refl)))))) (by first | exact List.Perm.refl _ | exact perm_count fun x => by simp only [List.count_append, List.count_cons, List.count_nil]; omega) (hst17 ⟨b8, b9⟩ trivial)
                                            · intro hst21
                                              try dsimp only at hst21
                                              refine AD.cut (α := Nat × Nat) 7 #[true, true, false, true, true, false, true, true, false, true, true, false, false, false, false] (fun (b7, b8) e => (8, .pointer (some ⟨b8, 0, none⟩)) :: (7, .pointer (some ⟨b7, 0, none⟩)) :: e) (fun (b7, b8) h => (b8, Blk.cells (zeroC.map (Value.int .u32)) 24 (0, 0)) :: ((b7, Blk.cells (zeroC.map (Value.int .u32)) 24 (0, 0)) :: (h))) (fun (b7, b8) => True) ?_ ?_
                                              · rintro ⟨b7, b8⟩ _
                                                try dsimp only
                                                refine AD.many (i := 2) (l := [11]) (by kernel_rfl) (.cons ?_ (.cons ?_ (.nil)))
                                                · skip
                                                  refine AE.eff rfl (EF.callF rfl (add36_spec B _ a ha k)) (.none rfl) rfl ?_
                                                  rintro _ _ ⟨rfl, rfl⟩
                                                  refine ⟨(by first | exact .inr fun x hx hM => hx | exact .inr fun x hx hM => List.mem_cons_of_mem _ hx | exact .inr fun x hx hM => List.mem_append_right _ hx), ?_⟩
                                                  refine AD.to rfl (by rfl) (.cons rfl (.cons rfl (.cons rfl (.drop rfl (.drop rfl (.drop rfl .refl)))))) (by first | exact List.Perm.refl _ | exact perm_count fun x => by simp only [List.count_append, List.count_cons, List.count_nil]; omega) (hst15 ⟨b7, b8⟩ trivial)
                                                · skip
                                                  refine AE.eff rfl (EF.alloc) (.none rfl) rfl ?_
                                                  rintro _ _ ⟨b9, hf9, rfl, rfl⟩
                                                  rw [zero_cells]
                                                  refine ⟨(by first | exact .inr fun x hx hM => hx | exact .inr fun x hx hM => List.mem_cons_of_mem _ hx | exact .inr fun x hx hM => List.mem_append_right _ hx), ?_⟩
                                                  refine AD.to rfl (by rfl) (.cons rfl (.cons rfl (.cons rfl (.drop rfl (.drop rfl (.drop rfl .refl)))))) (by first | exact List.Perm.refl _ | exact perm_count fun x => by simp only [List.count_append, List.count_cons, List.count_nil]; omega) (hst18 ⟨b7, b8, b9⟩ trivial)
                                              · intro hst22
                                                try dsimp only at hst22
                                                refine AD.cut (α := Nat × Nat) 7 #[true, true, false, true, true, false, true, true, false, true, false, true, false, false, false] (fun (b7, b9) e => (9, .pointer (some ⟨b9, 0, none⟩)) :: (7, .pointer (some ⟨b7, 0, none⟩)) :: e) (fun (b7, b9) h => (b9, Blk.cells (zeroC.map (Value.int .u32)) 24 (0, 0)) :: ((b7, Blk.cells (zeroC.map (Value.int .u32)) 24 (0, 0)) :: (h))) (fun (b7, b9) => True) ?_ ?_
                                                · rintro ⟨b7, b9⟩ _
                                                  try dsimp only
                                                  refine AD.many (i := 2) (l := [10]) (by kernel_rfl) (.cons ?_ (.cons ?_ (.nil)))
                                                  · skip
                                                    refine AE.eff rfl (EF.callF rfl (add36_spec B _ a ha k)) (.none rfl) rfl ?_
                                                    rintro _ _ ⟨rfl, rfl⟩
                                                    refine ⟨(by first | exact .inr fun x hx hM => hx | exact .inr fun x hx hM => List.mem_cons_of_mem _ hx | exact .inr fun x hx hM => List.mem_append_right _ hx), ?_⟩
                                                    refine AD.to rfl (by rfl) (.cons rfl (.cons rfl (.cons rfl (.drop rfl (.drop rfl (.drop rfl .refl)))))) (by first | exact List.Perm.refl _ | exact perm_count fun x => by simp only [List.count_append, List.count_cons, List.count_nil]; omega) (hst16 ⟨b7, b9⟩ trivial)
                                                  · skip
                                                    refine AE.eff rfl (EF.alloc) (.none rfl) rfl ?_
                                                    rintro _ _ ⟨b8, hf8, rfl, rfl⟩
                                                    rw [zero_cells]
                                                    refine ⟨(by first | exact .inr fun x hx hM => hx | exact .inr fun x hx hM => List.mem_cons_of_mem _ hx | exact .inr fun x hx hM => List.mem_append_right _ hx), ?_⟩
                                                    refine AD.to rfl (by rfl) (.cons rfl (.cons rfl (.cons rfl (.drop rfl (.drop rfl (.drop rfl .refl)))))) (by first | exact List.Perm.refl _ | exact perm_count fun x => by simp only [List.count_append, List.count_cons, List.count_nil]; omega) (hst18 ⟨b7, b8, b9⟩ trivial)
                                                · intro hst23
                                                  try dsimp only at hst23
                                                  refine AD.cut (α := Nat × Nat) 7 #[true, true, false, true, true, false, true, true, false, false, true, true, false, false, false] (fun (b8, b9) e => (9, .pointer (some ⟨b9, 0, none⟩)) :: (8, .pointer (some ⟨b8, 0, none⟩)) :: e) (fun (b8, b9) h => (b9, Blk.cells (zeroC.map (Value.int .u32)) 24 (0, 0)) :: ((b8, Blk.cells (zeroC.map (Value.int .u32)) 24 (0, 0)) :: (h))) (fun (b8, b9) => True) ?_ ?_
                                                  · rintro ⟨b8, b9⟩ _
                                                    try dsimp only
                                                    refine AD.many (i := 2) (l := [9]) (by kernel_rfl) (.cons ?_ (.cons ?_ (.nil)))
                                                    · skip
                                                      refine AE.eff rfl (EF.callF rfl (add36_spec B _ a ha k)) (.none rfl) rfl ?_
                                                      rintro _ _ ⟨rfl, rfl⟩
                                                      refine ⟨(by first | exact .inr fun x hx hM => hx | exact .inr fun x hx hM => List.mem_cons_of_mem _ hx | exact .inr fun x hx hM => List.mem_append_right _ hx), ?_⟩
                                                      refine AD.to rfl (by rfl) (.cons rfl (.cons rfl (.cons rfl (.drop rfl (.drop rfl (.drop rfl .refl)))))) (by first | exact List.Perm.refl _ | exact perm_count fun x => by simp only [List.count_append, List.count_cons, List.count_nil]; omega) (hst17 ⟨b8, b9⟩ trivial)
                                                    · skip
                                                      refine AE.eff rfl (EF.alloc) (.none rfl) rfl ?_
                                                      rintro _ _ ⟨b7, hf7, rfl, rfl⟩
                                                      rw [zero_cells]
                                                      refine ⟨(by first | exact .inr fun x hx hM => hx | exact .inr fun x hx hM => List.mem_cons_of_mem _ hx | exact .inr fun x hx hM => List.mem_append_right _ hx), ?_⟩
                                                      refine AD.to rfl (by rfl) (.cons rfl (.cons rfl (.cons rfl (.drop rfl (.drop rfl (.drop rfl .refl)))))) (by first | exact List.Perm.refl _ | exact perm_count fun x => by simp only [List.count_append, List.count_cons, List.count_nil]; omega) (hst18 ⟨b7, b8, b9⟩ trivial)
                                                  · intro hst24
                                                    try dsimp only at hst24
                                                    refine AD.many (i := 2) (l := [9, 10, 11]) (by kernel_rfl) (.cons ?_ (.cons ?_ (.cons ?_ (.cons ?_ (.nil)))))
                                                    · skip
                                                      refine AE.eff rfl (EF.callF rfl (add36_spec B _ a ha k)) (.none rfl) rfl ?_
                                                      rintro _ _ ⟨rfl, rfl⟩
                                                      refine ⟨(by first | exact .inr fun x hx hM => hx | exact .inr fun x hx hM => List.mem_cons_of_mem _ hx | exact .inr fun x hx hM => List.mem_append_right _ hx), ?_⟩
                                                      refine AD.many (i := 5) (l := [9, 10, 11]) (by kernel_rfl) (.cons ?_ (.cons ?_ (.cons ?_ (.cons ?_ (.nil)))))
                                                      · skip
                                                        refine AE.eff rfl (EF.callF rfl (sum36_spec B _ a b ha hb)) (.none rfl) rfl ?_
                                                        rintro _ _ ⟨rfl, r19, rfl, hq19, hv19⟩
                                                        refine ⟨(by first | exact .inr fun x hx hM => hx | exact .inr fun x hx hM => List.mem_cons_of_mem _ hx | exact .inr fun x hx hM => List.mem_append_right _ hx), ?_⟩
                                                        refine AD.many (i := 8) (l := [9, 10, 11]) (by kernel_rfl) (.cons ?_ (.cons ?_ (.cons ?_ (.cons ?_ (.nil)))))
                                                        · skip
                                                          refine AE.eff rfl (EF.callF rfl (less36_spec B _ a b ha hb)) (.none rfl) rfl ?_
                                                          rintro _ _ ⟨rfl, r22, rfl, hq22, hv22⟩
                                                          refine ⟨.inl (by kernel_rfl), ?_⟩
                                                          refine AD.many (i := 9) (l := [10, 11]) (by kernel_rfl) (.cons ?_ (.cons ?_ (.cons ?_ (.nil))))
                                                          · skip
                                                            refine AE.eff rfl (EF.alloc) (.none rfl) rfl ?_
                                                            rintro _ _ ⟨b7, hf7, rfl, rfl⟩
                                                            rw [zero_cells]
                                                            refine ⟨.inl (by kernel_rfl), ?_⟩
                                                            refine AD.to rfl (by rfl) (.cons rfl (.cons rfl (.cons rfl (.cons rfl (.drop rfl (.drop rfl (.drop rfl (.drop rfl .refl)))))))) (by first | exact List.Perm.refl _ | exact perm_count fun x => by simp only [List.count_append, List.count_cons, List.count_nil]; omega) (hst5 ⟨r19, r22, b7⟩ ⟨hq19, hv19, hq22, hv22⟩)
                                                          · skip
                                                            refine AE.eff rfl (EF.alloc) (.none rfl) rfl ?_
                                                            rintro _ _ ⟨b8, hf8, rfl, rfl⟩
                                                            rw [zero_cells]
                                                            refine ⟨.inl (by kernel_rfl), ?_⟩
                                                            refine AD.to rfl (by rfl) (.cons rfl (.cons rfl (.cons rfl (.cons rfl (.drop rfl (.drop rfl (.drop rfl (.drop rfl .refl)))))))) (by first | exact List.Perm.refl _ | exact perm_count fun x => by simp only [List.count_append, List.count_cons, List.count_nil]; omega) (hst6 ⟨r19, r22, b8⟩ ⟨hq19, hv19, hq22, hv22⟩)
                                                          · skip
                                                            refine AE.eff rfl (EF.alloc) (.none rfl) rfl ?_
                                                            rintro _ _ ⟨b9, hf9, rfl, rfl⟩
                                                            rw [zero_cells]
                                                            refine ⟨.inl (by kernel_rfl), ?_⟩
                                                            refine AD.to rfl (by rfl) (.cons rfl (.cons rfl (.cons rfl (.cons rfl (.drop rfl (.drop rfl (.drop rfl (.drop rfl .refl)))))))) (by first | exact List.Perm.refl _ | exact perm_count fun x => by simp only [List.count_append, List.count_cons, List.count_nil]; omega) (hst7 ⟨r19, r22, b9⟩ ⟨hq19, hv19, hq22, hv22⟩)
                                                        · skip
                                                          refine AE.eff rfl (EF.alloc) (.none rfl) rfl ?_
                                                          rintro _ _ ⟨b7, hf7, rfl, rfl⟩
                                                          rw [zero_cells]
                                                          refine ⟨(by first | exact .inr fun x hx hM => hx | exact .inr fun x hx hM => List.mem_cons_of_mem _ hx | exact .inr fun x hx hM => List.mem_append_right _ hx), ?_⟩
                                                          refine AD.to rfl (by rfl) (.cons rfl (.cons rfl (.cons rfl (.drop rfl (.drop rfl (.drop rfl .refl)))))) (by first | exact List.Perm.refl _ | exact perm_count fun x => by simp only [List.count_append, List.count_cons, List.count_nil]; omega) (hst12 ⟨r19, b7⟩ ⟨hq19, hv19⟩)
                                                        · skip
                                                          refine AE.eff rfl (EF.alloc) (.none rfl) rfl ?_
                                                          rintro _ _ ⟨b8, hf8, rfl, rfl⟩
                                                          rw [zero_cells]
                                                          refine ⟨(by first | exact .inr fun x hx hM => hx | exact .inr fun x hx hM => List.mem_cons_of_mem _ hx | exact .inr fun x hx hM => List.mem_append_right _ hx), ?_⟩
                                                          refine AD.to rfl (by rfl) (.cons rfl (.cons rfl (.cons rfl (.drop rfl (.drop rfl (.drop rfl .refl)))))) (by first | exact List.Perm.refl _ | exact perm_count fun x => by simp only [List.count_append, List.count_cons, List.count_nil]; omega) (hst13 ⟨r19, b8⟩ ⟨hq19, hv19⟩)
                                                        · skip
                                                          refine AE.eff rfl (EF.alloc) (.none rfl) rfl ?_
                                                          rintro _ _ ⟨b9, hf9, rfl, rfl⟩
                                                          rw [zero_cells]
                                                          refine ⟨(by first | exact .inr fun x hx hM => hx | exact .inr fun x hx hM => List.mem_cons_of_mem _ hx | exact .inr fun x hx hM => List.mem_append_right _ hx), ?_⟩
                                                          refine AD.to rfl (by rfl) (.cons rfl (.cons rfl (.cons rfl (.drop rfl (.drop rfl (.drop rfl .refl)))))) (by first | exact List.Perm.refl _ | exact perm_count fun x => by simp only [List.count_append, List.count_cons, List.count_nil]; omega) (hst14 ⟨r19, b9⟩ ⟨hq19, hv19⟩)
                                                      · skip
                                                        refine AE.eff rfl (EF.alloc) (.none rfl) rfl ?_
                                                        rintro _ _ ⟨b7, hf7, rfl, rfl⟩
                                                        rw [zero_cells]
                                                        refine ⟨(by first | exact .inr fun x hx hM => hx | exact .inr fun x hx hM => List.mem_cons_of_mem _ hx | exact .inr fun x hx hM => List.mem_append_right _ hx), ?_⟩
                                                        refine AD.to rfl (by rfl) (.cons rfl (.cons rfl (.drop rfl (.drop rfl .refl)))) (by first | exact List.Perm.refl _ | exact perm_count fun x => by simp only [List.count_append, List.count_cons, List.count_nil]; omega) (hst19 b7 trivial)
                                                      · skip
                                                        refine AE.eff rfl (EF.alloc) (.none rfl) rfl ?_
                                                        rintro _ _ ⟨b8, hf8, rfl, rfl⟩
                                                        rw [zero_cells]
                                                        refine ⟨(by first | exact .inr fun x hx hM => hx | exact .inr fun x hx hM => List.mem_cons_of_mem _ hx | exact .inr fun x hx hM => List.mem_append_right _ hx), ?_⟩
                                                        refine AD.to rfl (by rfl) (.cons rfl (.cons rfl (.drop rfl (.drop rfl .refl)))) (by first | exact List.Perm.refl _ | exact perm_count fun x => by simp only [List.count_append, List.count_cons, List.count_nil]; omega) (hst20 b8 trivial)
                                                      · skip
                                                        refine AE.eff rfl (EF.alloc) (.none rfl) rfl ?_
                                                        rintro _ _ ⟨b9, hf9, rfl, rfl⟩
                                                        rw [zero_cells]
                                                        refine ⟨(by first | exact .inr fun x hx hM => hx | exact .inr fun x hx hM => List.mem_cons_of_mem _ hx | exact .inr fun x hx hM => List.mem_append_right _ hx), ?_⟩
                                                        refine AD.to rfl (by rfl) (.cons rfl (.cons rfl (.drop rfl (.drop rfl .refl)))) (by first | exact List.Perm.refl _ | exact perm_count fun x => by simp only [List.count_append, List.count_cons, List.count_nil]; omega) (hst21 b9 trivial)
                                                    · skip
                                                      refine AE.eff rfl (EF.alloc) (.none rfl) rfl ?_
                                                      rintro _ _ ⟨b7, hf7, rfl, rfl⟩
                                                      rw [zero_cells]
                                                      refine ⟨(by first | exact .inr fun x hx hM => hx | exact .inr fun x hx hM => List.mem_cons_of_mem _ hx | exact .inr fun x hx hM => List.mem_append_right _ hx), ?_⟩
                                                      refine AD.many (i := 2) (l := [10, 11]) (by kernel_rfl) (.cons ?_ (.cons ?_ (.cons ?_ (.nil))))
                                                      · skip
                                                        refine AE.eff rfl (EF.callF rfl (add36_spec B _ a ha k)) (.none rfl) rfl ?_
                                                        rintro _ _ ⟨rfl, rfl⟩
                                                        refine ⟨(by first | exact .inr fun x hx hM => hx | exact .inr fun x hx hM => List.mem_cons_of_mem _ hx | exact .inr fun x hx hM => List.mem_append_right _ hx), ?_⟩
                                                        refine AD.to rfl (by rfl) (.cons rfl (.cons rfl (.drop rfl (.drop rfl .refl)))) (by first | exact List.Perm.refl _ | exact perm_count fun x => by simp only [List.count_append, List.count_cons, List.count_nil]; omega) (hst19 b7 trivial)
                                                      · skip
                                                        refine AE.eff rfl (EF.alloc) (.none rfl) rfl ?_
                                                        rintro _ _ ⟨b8, hf8, rfl, rfl⟩
                                                        rw [zero_cells]
                                                        refine ⟨(by first | exact .inr fun x hx hM => hx | exact .inr fun x hx hM => List.mem_cons_of_mem _ hx | exact .inr fun x hx hM => List.mem_append_right _ hx), ?_⟩
                                                        refine AD.to rfl (by rfl) (.cons rfl (.cons rfl (.drop rfl (.drop rfl .refl)))) (by first | exact List.Perm.refl _ | exact perm_count fun x => by simp only [List.count_append, List.count_cons, List.count_nil]; omega) (hst22 ⟨b7, b8⟩ trivial)
                                                      · skip
                                                        refine AE.eff rfl (EF.alloc) (.none rfl) rfl ?_
                                                        rintro _ _ ⟨b9, hf9, rfl, rfl⟩
                                                        rw [zero_cells]
                                                        refine ⟨(by first | exact .inr fun x hx hM => hx | exact .inr fun x hx hM => List.mem_cons_of_mem _ hx | exact .inr fun x hx hM => List.mem_append_right _ hx), ?_⟩
                                                        refine AD.to rfl (by rfl) (.cons rfl (.cons rfl (.drop rfl (.drop rfl .refl)))) (by first | exact List.Perm.refl _ | exact perm_count fun x => by simp only [List.count_append, List.count_cons, List.count_nil]; omega) (hst23 ⟨b7, b9⟩ trivial)
                                                    · skip
                                                      refine AE.eff rfl (EF.alloc) (.none rfl) rfl ?_
                                                      rintro _ _ ⟨b8, hf8, rfl, rfl⟩
                                                      rw [zero_cells]
                                                      refine ⟨(by first | exact .inr fun x hx hM => hx | exact .inr fun x hx hM => List.mem_cons_of_mem _ hx | exact .inr fun x hx hM => List.mem_append_right _ hx), ?_⟩
                                                      refine AD.many (i := 2) (l := [9, 11]) (by kernel_rfl) (.cons ?_ (.cons ?_ (.cons ?_ (.nil))))
                                                      · skip
                                                        refine AE.eff rfl (EF.callF rfl (add36_spec B _ a ha k)) (.none rfl) rfl ?_
                                                        rintro _ _ ⟨rfl, rfl⟩
                                                        refine ⟨(by first | exact .inr fun x hx hM => hx | exact .inr fun x hx hM => List.mem_cons_of_mem _ hx | exact .inr fun x hx hM => List.mem_append_right _ hx), ?_⟩
                                                        refine AD.to rfl (by rfl) (.cons rfl (.cons rfl (.drop rfl (.drop rfl .refl)))) (by first | exact List.Perm.refl _ | exact perm_count fun x => by simp only [List.count_append, List.count_cons, List.count_nil]; omega) (hst20 b8 trivial)
                                                      · skip
                                                        refine AE.eff rfl (EF.alloc) (.none rfl) rfl ?_
                                                        rintro _ _ ⟨b7, hf7, rfl, rfl⟩
                                                        rw [zero_cells]
                                                        refine ⟨(by first | exact .inr fun x hx hM => hx | exact .inr fun x hx hM => List.mem_cons_of_mem _ hx | exact .inr fun x hx hM => List.mem_append_right _ hx), ?_⟩
                                                        refine AD.to rfl (by rfl) (.cons rfl (.cons rfl (.drop rfl (.drop rfl .refl)))) (by first | exact List.Perm.refl _ | exact perm_count fun x => by simp only [List.count_append, List.count_cons, List.count_nil]; omega) (hst22 ⟨b7, b8⟩ trivial)
                                                      · skip
                                                        refine AE.eff rfl (EF.alloc) (.none rfl) rfl ?_
                                                        rintro _ _ ⟨b9, hf9, rfl, rfl⟩
                                                        rw [zero_cells]
                                                        refine ⟨(by first | exact .inr fun x hx hM => hx | exact .inr fun x hx hM => List.mem_cons_of_mem _ hx | exact .inr fun x hx hM => List.mem_append_right _ hx), ?_⟩
                                                        refine AD.to rfl (by rfl) (.cons rfl (.cons rfl (.drop rfl (.drop rfl .refl)))) (by first | exact List.Perm.refl _ | exact perm_count fun x => by simp only [List.count_append, List.count_cons, List.count_nil]; omega) (hst24 ⟨b8, b9⟩ trivial)
                                                    · skip
                                                      refine AE.eff rfl (EF.alloc) (.none rfl) rfl ?_
                                                      rintro _ _ ⟨b9, hf9, rfl, rfl⟩
                                                      rw [zero_cells]
                                                      refine ⟨(by first | exact .inr fun x hx hM => hx | exact .inr fun x hx hM => List.mem_cons_of_mem _ hx | exact .inr fun x hx hM => List.mem_append_right _ hx), ?_⟩
                                                      refine AD.many (i := 2) (l := [9, 10]) (by kernel_rfl) (.cons ?_ (.cons ?_ (.cons ?_ (.nil))))
                                                      · skip
                                                        refine AE.eff rfl (EF.callF rfl (add36_spec B _ a ha k)) (.none rfl) rfl ?_
                                                        rintro _ _ ⟨rfl, rfl⟩
                                                        refine ⟨(by first | exact .inr fun x hx hM => hx | exact .inr fun x hx hM => List.mem_cons_of_mem _ hx | exact .inr fun x hx hM => List.mem_append_right _ hx), ?_⟩
                                                        refine AD.to rfl (by rfl) (.cons rfl (.cons rfl (.drop rfl (.drop rfl .refl)))) (by first | exact List.Perm.refl _ | exact perm_count fun x => by simp only [List.count_append, List.count_cons, List.count_nil]; omega) (hst21 b9 trivial)
                                                      · skip
                                                        refine AE.eff rfl (EF.alloc) (.none rfl) rfl ?_
                                                        rintro _ _ ⟨b7, hf7, rfl, rfl⟩
                                                        rw [zero_cells]
                                                        refine ⟨(by first | exact .inr fun x hx hM => hx | exact .inr fun x hx hM => List.mem_cons_of_mem _ hx | exact .inr fun x hx hM => List.mem_append_right _ hx), ?_⟩
                                                        refine AD.to rfl (by rfl) (.cons rfl (.cons rfl (.drop rfl (.drop rfl .refl)))) (by first | exact List.Perm.refl _ | exact perm_count fun x => by simp only [List.count_append, List.count_cons, List.count_nil]; omega) (hst23 ⟨b7, b9⟩ trivial)
                                                      · skip
                                                        refine AE.eff rfl (EF.alloc) (.none rfl) rfl ?_
                                                        rintro _ _ ⟨b8, hf8, rfl, rfl⟩
                                                        rw [zero_cells]
                                                        refine ⟨(by first | exact .inr fun x hx hM => hx | exact .inr fun x hx hM => List.mem_cons_of_mem _ hx | exact .inr fun x hx hM => List.mem_append_right _ hx), ?_⟩
                                                        refine AD.to rfl (by rfl) (.cons rfl (.cons rfl (.drop rfl (.drop rfl .refl)))) (by first | exact List.Perm.refl _ | exact perm_count fun x => by simp only [List.count_append, List.count_cons, List.count_nil]; omega) (hst24 ⟨b8, b9⟩ trivial)

set_option maxHeartbeats 800000 in
theorem bytes_law (B : World) (h : Own) (c : List Int) (hc : Cnt c) {A : Option Addr} {cap : Nat} (l : List Int) (hl : Src B h A l.length 1 (l.map (fun x => Value.int .u8 x))) (hb : Bytes l) (hcap : l.length ≤ cap) : Tri Try.prog B 5 [.agg (c.map (Value.int .u32)).toArray, .slice A l.length cap] h fun v h' => v = .bool true := by
  have htk : Src B h A (l.take (200 : Int).toNat).length 1 ((l.take (200 : Int).toNat).map (fun x => Value.int .u8 x)) := by
    have := hl.take (min 200 l.length) (by omega)
    rw [Nat.mul_one, ← List.map_take] at this
    rw [List.length_take, show (200 : Int).toNat = 200 from rfl]
    have e : l.take 200 = l.take (min 200 l.length) := by rw [List.take_eq_take_min]
    rw [e]; exact this
  have htn : (l.take (200 : Int).toNat).length ≤ 200 := by rw [List.length_take]; exact Nat.min_le_left _ _
  have htc : (l.take (200 : Int).toNat).length ≤ cap := by rw [List.length_take]; omega
  have htb : Bytes (l.take (200 : Int).toNat) := bytes_take hb _
  have hcl := hc.len
  have hoc : ofC (bytesC c) = (c, true) := by rw [ofC, if_pos (by rw [bytesC_len, hcl]), vals_bytes hc]
  have hbcl : (bytesC c).length = 148 := by rw [bytesC_len, hcl]
  refine Tri.enter (n := 75) Try.func5 rfl rfl rfl ?_
  simp only [argsE, Nat.reduceAdd]
  try dsimp only [argsE]
  refine AK.seq ?_
  refine AK.region ?_
  refine AO.eff (EF.box rfl rfl) (.none rfl) rfl ?_
  rintro _ _ ⟨b2, hf2, rfl, rfl⟩
  refine AO.val (RV.assign rfl) (.none rfl) rfl ?_
  refine AO.nil ?_
  refine AK.seq ?_
  refine AK.region ?_
  refine AO.val (RV.move rfl) (.none rfl) rfl ?_
  refine AO.eff (EF.callF rfl (few_spec B _ l 200 (by omega) hcap)) (.none rfl) rfl ?_
  rintro _ _ ⟨rfl, rfl⟩
  refine AO.val (RV.assign rfl) (.none rfl) rfl ?_
  refine AO.nil ?_
  refine AK.seq ?_
  refine AK.region ?_
  refine AO.eff (EF.buildSeq [] rfl rfl rfl rfl) (.none rfl) rfl ?_
  rintro _ _ ⟨b13, hf13, rfl, rfl⟩
  refine AO.val (RV.assign rfl) (.none rfl) rfl ?_
  refine AO.nil ?_
  refine AK.seq ?_
  refine AK.seq ?_
  refine AK.region ?_
  refine AO.val (RV.assign rfl) (.none rfl) rfl ?_
  refine AO.nil ?_
  refine AK.block ?_
  refine AK.loop (α := Nat × Option Addr × Nat × Own) (E := fun (i, Aw, cw, pw) => [(1, .slice A (l.take (200 : Int).toNat).length cap), (2, .pointer (some ⟨b2, 0, none⟩)), (5, .slice Aw (bytesC (c.take (i))).length cw), (6, .int .i64 i)]) (H := fun (i, Aw, cw, pw) => pw ++ ((b2, Blk.cells (c.map (Value.int .u32)) 24 (0, 0)) :: h)) (Inv := fun (i, Aw, cw, pw) => i ≤ 37 ∧ Row 5 1 (.slice Aw (bytesC (c.take (i))).length cw) (bytesC (c.take (i))).length ((bytesC (c.take (i))).map (fun x => Value.int .u8 x)) pw ∧ (bytesC (c.take (i))).length ≤ cw) (μ := fun (i, Aw, cw, pw) => 37 - i) (0, some ⟨b13, 0, none⟩, 0, [(b13, Blk.cells [] 5 (0, 0))]) ?_ (.cons (by exact rfl) (.cons (by exact rfl) (.cons (by exact rfl) (.cons (by exact rfl) .nil)))) ?_ ?_
  · exact ⟨by omega, Row.new rfl, Nat.le_refl _⟩
  · exact (by first | exact SubO.sub | exact List.Sublist.refl _ | exact .cons _ (List.Sublist.refl _) | exact .cons _ (.cons _ (List.Sublist.refl _)) | exact .cons _ (.cons _ (.cons _ (List.Sublist.refl _))))
  rintro ⟨i, Aw, cw, pw⟩ ⟨hi1, hrw, hcw⟩ hih0
  try dsimp only at hih0 ⊢
  have hwl : (bytesC (c.take (i))).length ≤ 148 := by rw [bytesC_len, List.length_take]; omega
  refine AK.seq ?_
  refine AK.seq ?_
  refine AK.region ?_
  refine AO.val (RV.move rfl) (.none rfl) rfl ?_
  refine AO.val (RV.lss rfl rfl) (.none rfl) rfl ?_
  refine AO.nil ?_
  refine AK.cond rfl ?_ ?_
  · intro hc1
    try simp only [decide_eq_true_eq, decide_eq_false_iff_not, Bool.not_eq_true', Bool.not_eq_false', beq_iff_eq] at hc1
    have hca := hc.at_ (i := (i : Int)) (by omega) (by omega)
    have hts : (bytesC (c.take (i + 1))) = (bytesC (c.take (i))) ++ beR 4 (lget c (i : Int)) := by
      have := take_snoc c i (by omega) (by omega)
      rw [show ((i : Int) + 1).toNat = i + 1 by omega, show (i : Int).toNat = i by omega] at this
      rw [this, bytesC, List.flatMap_append]; simp [bytesC]
    refine AK.skip ?_
    refine AK.seq ?_
    refine AK.block ?_
    refine AK.region ?_
    refine AO.val (RV.move rfl) (.none rfl) rfl ?_
    refine AO.val (RV.move rfl) (.none rfl) rfl ?_
    refine AO.val (RV.indexAddrL rfl rfl (by omega)) (.none rfl) rfl ?_
    refine AO.val (RV.loadAt (f := Value.int .u32) (l := c) rfl (by omega) (by simp)) (.none rfl) rfl ?_
    refine AO.eff (EF.callF rfl ((put_spec B _ (lget c (i : Int)) 4 (by omega) (by decide)).mono fun v h2 r => r.to (n' := (beR 4 (lget c (i : Int))).length) (ys := (beR 4 (lget c (i : Int))).map (fun x => Value.int .u8 x)) (by rw [beR_len]; rfl) rfl)) (.none rfl) rfl ?_
    rintro _ _ ⟨A22, c22, p22, rfl, hr22, hc22, rfl⟩
    refine AO.eff (EF.callF rfl ((add_spec (cap := cw) (cap2 := c22) B _ (bytesC (c.take (i))) (beR 4 (lget c (i : Int))) (hrw.src (B := B) (h := pw) (fun x hx => hx)).sub (hr22.src (B := B) (h := p22) (fun x hx => hx)).sub (by rw [beR_len]; omega)).mono fun v h2 r => r.to (n' := (bytesC (c.take (i + 1))).length) (ys := (bytesC (c.take (i + 1))).map (fun x => Value.int .u8 x)) (by rw [← hts]) (by rw [← hts]))) (.none rfl) rfl ?_
    rintro _ _ ⟨A23, c23, p23, rfl, hr23, hc23, rfl⟩
    refine AO.val (RV.assign rfl) (.none rfl) rfl ?_
    refine AO.nil ?_
    refine AK.inBlock ?_
    refine AK.region ?_
    refine AO.val (RV.move rfl) (.none rfl) rfl ?_
    refine AO.val (by first | exact RV.addIn rfl rfl (by omega) | exact RV.add rfl rfl) (.none rfl) rfl ?_
    refine AO.val (RV.assign rfl) (.none rfl) rfl ?_
    refine AO.nil ?_
    -- round ends at L0T
    refine AK.weak (.cons (by exact rfl) (.cons (by exact rfl) (.cons (by exact rfl) (.cons (by exact rfl) .nil)))) (by exact List.Sublist.append_left (by exact SubO.sub) _) (hih0 (i + 1, A23, c23, p23) ?_ ?_)
    · try dsimp only
      exact ⟨by omega, hr23, hc23⟩
    · try dsimp only
      omega
  · intro hc1
    try simp only [decide_eq_true_eq, decide_eq_false_iff_not, Bool.not_eq_true', Bool.not_eq_false', beq_iff_eq] at hc1
    have hci : c.take i = c := List.take_of_length_le (by omega)
    rw [hci] at hrw hcw ⊢
    have hofc : Cnt (ofC (l.take (200 : Int).toNat)).1 := by
      unfold ofC
      split
      · next h => exact vals_cnt h htb
      · exact zero_cnt
    have hofl := hofc.len
    have hof2 : (ofC (l.take (200 : Int).toNat)).2 = decide ((l.take (200 : Int).toNat).length = 148) := by
      unfold ofC
      split
      · next h => rw [decide_eq_true h]
      · next h => rw [decide_eq_false h]
    refine AK.exit rfl ?_
    refine AK.seq ?_
    refine AK.region ?_
    refine AO.val (RV.move rfl) (.none rfl) rfl ?_
    refine AO.eff (EF.callF rfl (of36_spec (cap := cap) B _ (l.take (200 : Int).toNat) htk.sub htb htc (by omega))) (.none rfl) rfl ?_
    rintro _ _ ⟨rfl, rfl⟩
    refine AO.val (RV.move rfl) (.none rfl) rfl ?_
    refine AO.val (RV.extract rfl rfl) (.none rfl) rfl ?_
    refine AO.val (RV.extract rfl rfl) (.none rfl) rfl ?_
    refine AO.eff (EF.alloc) (.none rfl) rfl ?_
    rintro _ _ ⟨b7, hf7, rfl, rfl⟩
    rw [zero_cells]
    refine AO.effN (EF.storeArr (l := (ofC (l.take (200 : Int).toNat)).1) (f := Value.int .u32) rfl rfl hofl (fun _ => rfl) (by rw [List.length_map]; rfl)) (.none rfl) ?_
    rintro _ _ rfl
    refine AO.val (RV.assign rfl) (.none rfl) rfl ?_
    refine AO.nil ?_
    refine AK.seq ?_
    refine AK.region ?_
    refine AO.val (RV.loadArr (l := c) (f := Value.int .u32) rfl hcl (by simp)) (.none rfl) rfl ?_
    refine AO.eff (EF.callF rfl (bytes36_spec B _ c hc)) (.none rfl) rfl ?_
    rintro _ _ ⟨A31, c31, p31, rfl, hr31, hc31, rfl⟩
    refine AO.eff (EF.callF rfl (of36_spec (cap := c31) B _ (bytesC c) (hr31.src (B := B) (h := p31) (fun x hx => hx)).sub (bytesC_bytes c) hc31 (by omega))) (.none rfl) rfl ?_
    rintro _ _ ⟨rfl, rfl⟩
    rw [hoc]
    refine AO.val (RV.move rfl) (.none rfl) rfl ?_
    refine AO.val (RV.extract rfl rfl) (.none rfl) rfl ?_
    refine AO.val (RV.extract rfl rfl) (.none rfl) rfl ?_
    refine AO.eff (EF.alloc) (.none rfl) rfl ?_
    rintro _ _ ⟨b9, hf9, rfl, rfl⟩
    rw [zero_cells]
    refine AO.effN (EF.storeArr (l := c) (f := Value.int .u32) rfl rfl hcl (fun _ => rfl) (by rw [List.length_map]; rfl)) (.none rfl) ?_
    rintro _ _ rfl
    refine AO.val (RV.assign rfl) (.none rfl) rfl ?_
    refine AO.nil ?_
    refine AK.seq ?_
    refine AK.seq ?_
    refine AK.region ?_
    refine AO.val (RV.loadArr (l := c) (f := Value.int .u32) rfl hcl (by simp)) (.none rfl) rfl ?_
    refine AO.eff (EF.callF rfl (bytes36_spec B _ c hc)) (.none rfl) rfl ?_
    rintro _ _ ⟨A36, c36, p36, rfl, hr36, hc36, rfl⟩
    refine AO.val (RV.move rfl) (.none rfl) rfl ?_
    refine AO.eff (EF.callF rfl (same_spec (cap := c36) (cap2 := cw) B _ (bytesC c) (bytesC c) (hr36.src (B := B) (h := p36) (fun x hx => hx)).sub (hrw.src (B := B) (h := pw) (fun x hx => hx)).sub (by omega))) (.none rfl) rfl ?_
    rintro _ _ ⟨rfl, bS, rfl, hS⟩
    have hS2 := hS.2 rfl
    subst hS2
    refine AO.val (RV.not rfl) (.none rfl) rfl ?_
    refine AO.val (RV.move rfl) (.none rfl) rfl ?_
    refine AO.val (RV.loadArr (l := c) (f := Value.int .u32) rfl hcl (by simp)) (.some rfl rfl rfl rfl) rfl ?_
    refine AO.val (RV.loadArr (l := c) (f := Value.int .u32) rfl hcl (by simp)) (.some rfl rfl rfl rfl) rfl ?_
    refine AO.val (RV.neqArr (l := c) (k := .u32) (el := 22) rfl rfl hcl (by kernel_rfl)) (.some rfl rfl rfl rfl) rfl ?_
    refine AO.val (RV.pickF rfl rfl) (.none rfl) rfl ?_
    refine AO.val (RV.move rfl) (.none rfl) rfl ?_
    refine AO.val (RV.move rfl) (.some rfl rfl rfl rfl) rfl ?_
    refine AO.val (RV.not rfl) (.some rfl rfl rfl rfl) rfl ?_
    refine AO.val (RV.pickF rfl rfl) (.none rfl) rfl ?_
    refine AO.val (RV.move rfl) (.none rfl) rfl ?_
    refine AO.val (RV.move rfl) (.some rfl rfl rfl rfl) rfl ?_
    refine AO.val (RV.move rfl) (.some rfl rfl rfl rfl) rfl ?_
    refine AO.val (RV.lenS rfl) (.some rfl rfl rfl rfl) rfl ?_
    refine AO.val (RV.eql rfl rfl) (.some rfl rfl rfl rfl) rfl ?_
    refine AO.val ((RV.neqB rfl rfl).to (v' := .bool false) (by rw [hof2, show decide ((l.take (200 : Int).toNat).length = 148) = decide (((l.take (200 : Int).toNat).length : Int) = 148) from decide_eq_decide.2 (by omega)]; simp)) (.some rfl rfl rfl rfl) rfl ?_
    refine AO.val (RV.pickF rfl rfl) (.none rfl) rfl ?_
    refine AO.nil ?_
    refine AK.condF rfl ?_
    refine AK.skip ?_
    refine AK.seq ?_
    refine AK.region ?_
    refine AO.val (RV.move rfl) (.none rfl) rfl ?_
    refine AO.val (RV.move rfl) (.none rfl) rfl ?_
    refine AO.caseG rfl rfl rfl ?_ ?_
    · intro hg2
      try simp only [decide_eq_true_eq, decide_eq_false_iff_not, Bool.not_eq_true', Bool.not_eq_false', beq_iff_eq] at hg2
      have hof3 : (l.take (200 : Int).toNat).length = 148 := by
        have h := hg2
        rw [hof2] at h; simpa using h
      have hof1 : (ofC (l.take (200 : Int).toNat)).1 = valsB (l.take (200 : Int).toNat) := by rw [ofC, if_pos hof3]
      refine AO.val (RV.loadArr (l := (ofC (l.take (200 : Int).toNat)).1) (f := Value.int .u32) rfl hofl (by simp)) (.some rfl rfl rfl rfl) rfl ?_
      refine AO.eff (EF.callF rfl (bytes36_spec B _ (ofC (l.take (200 : Int).toNat)).1 hofc)) (.some rfl rfl rfl rfl) rfl ?_
      rintro _ _ ⟨A59, c59, p59, rfl, hr59, hc59, rfl⟩
      refine AO.val (RV.move rfl) (.some rfl rfl rfl rfl) rfl ?_
      refine AO.eff (EF.callF rfl (same_spec (cap := c59) (cap2 := cap) B _ (bytesC (ofC (l.take (200 : Int).toNat)).1) (l.take (200 : Int).toNat) (hr59.src (B := B) (h := p59) (fun x hx => hx)).sub htk.sub (by rw [bytesC_len, hofl]; omega))) (.some rfl rfl rfl rfl) rfl ?_
      rintro _ _ ⟨rfl, bS, rfl, hS⟩
      have hS2 := hS.2 (by rw [hof1]; exact bytes_vals hof3 htb)
      subst hS2
      refine AO.val (RV.pickT rfl rfl) (.none rfl) rfl ?_
      refine AO.val (RV.move rfl) (.none rfl) rfl ?_
      refine AO.pass (.some rfl rfl rfl rfl) rfl ?_
      refine AO.pass (.some rfl rfl rfl rfl) rfl ?_
      refine AO.pass (.some rfl rfl rfl rfl) rfl ?_
      refine AO.pass (.undef rfl rfl rfl) rfl ?_
      refine AO.pass (.undef rfl rfl rfl) rfl ?_
      refine AO.pass (.undef rfl rfl rfl) rfl ?_
      refine AO.pass (.some rfl rfl rfl rfl) rfl ?_
      refine AO.val (RV.pickT rfl rfl) (.none rfl) rfl ?_
      refine AO.val (RV.move rfl) (.none rfl) rfl ?_
      refine AO.eff (EF.callF rfl (lives36_spec B _)) (.some rfl rfl rfl rfl) rfl ?_
      rintro _ _ ⟨rfl, rfl⟩
      refine AO.val (RV.pickT rfl rfl) (.none rfl) rfl ?_
      refine AO.val (RV.assign rfl) (.none rfl) rfl ?_
      refine AO.nil ?_
      -- at L0Ft
      clear hih0
      refine AK.ret (h' := []) Try.func5 (.tmp rfl .nil) ?_ (List.nil_sublist _)
      rfl
    · intro hg2
      try simp only [decide_eq_true_eq, decide_eq_false_iff_not, Bool.not_eq_true', Bool.not_eq_false', beq_iff_eq] at hg2
      have hgz := hg2
      have hof1 : (ofC (l.take (200 : Int).toNat)).1 = zeroC := by rw [ofC, if_neg (fun h => by rw [hof2, decide_eq_true h] at hgz; cases hgz)]
      refine AO.pass (.some rfl rfl rfl rfl) rfl ?_
      refine AO.pass (.some rfl rfl rfl rfl) rfl ?_
      refine AO.pass (.some rfl rfl rfl rfl) rfl ?_
      refine AO.pass (.some rfl rfl rfl rfl) rfl ?_
      refine AO.val (RV.pickF rfl rfl) (.none rfl) rfl ?_
      refine AO.val (RV.move rfl) (.none rfl) rfl ?_
      refine AO.val (RV.move rfl) (.some rfl rfl rfl rfl) rfl ?_
      refine AO.val ((RV.not rfl).to (v' := .bool true) (by rw [hgz]; rfl)) (.some rfl rfl rfl rfl) rfl ?_
      refine AO.val (RV.move rfl) (.some rfl rfl rfl rfl) rfl ?_
      refine AO.val (RV.loadArr (l := (ofC (l.take (200 : Int).toNat)).1) (f := Value.int .u32) rfl hofl (by simp)) (.some rfl rfl rfl rfl) rfl ?_
      refine AO.val ((RV.buildArr rfl .nil).to (v' := .agg (zeroC.map (Value.int .u32)).toArray) rfl) (.some rfl rfl rfl rfl) rfl ?_
      refine AO.val (RV.eqlArr (l := zeroC) (k := .u32) (el := 22) (by rw [hof1]; rfl) rfl (by rfl) (by kernel_rfl)) (.some rfl rfl rfl rfl) rfl ?_
      refine AO.val (RV.pickT rfl rfl) (.some rfl rfl rfl rfl) rfl ?_
      refine AO.val (RV.pickF rfl rfl) (.none rfl) rfl ?_
      refine AO.val (RV.move rfl) (.none rfl) rfl ?_
      refine AO.eff (EF.callF rfl (lives36_spec B _)) (.some rfl rfl rfl rfl) rfl ?_
      rintro _ _ ⟨rfl, rfl⟩
      refine AO.val (RV.pickT rfl rfl) (.none rfl) rfl ?_
      refine AO.val (RV.assign rfl) (.none rfl) rfl ?_
      refine AO.nil ?_
      -- at L0Ff
      clear hih0
      refine AK.ret (h' := []) Try.func5 (.tmp rfl .nil) ?_ (List.nil_sublist _)
      rfl

end Go.Proofs.Ytefpiiknjnekeaa
