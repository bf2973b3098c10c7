/- Walks through the code: what each function that is named here gives back, from any memory that holds its arguments. Written by a program of the claim's author, out of the program's form in Lean. -/
import Derived.Test.YtefpiiknjnekeaaW2
set_option linter.unusedSimpArgs false
set_option linter.unusedVariables false
namespace Go.Proofs.Ytefpiiknjnekeaa
open Go.Sep Go.Sep.Sip Go.Sep.Tag Go.Sep.Count
theorem zero_cells : [Value.int .u32 0, Value.int .u32 0, Value.int .u32 0, Value.int .u32 0, Value.int .u32 0, Value.int .u32 0, Value.int .u32 0, Value.int .u32 0, Value.int .u32 0, Value.int .u32 0, Value.int .u32 0, Value.int .u32 0, Value.int .u32 0, Value.int .u32 0, Value.int .u32 0, Value.int .u32 0, Value.int .u32 0, Value.int .u32 0, Value.int .u32 0, Value.int .u32 0, Value.int .u32 0, Value.int .u32 0, Value.int .u32 0, Value.int .u32 0, Value.int .u32 0, Value.int .u32 0, Value.int .u32 0, Value.int .u32 0, Value.int .u32 0, Value.int .u32 0, Value.int .u32 0, Value.int .u32 0, Value.int .u32 0, Value.int .u32 0, Value.int .u32 0, Value.int .u32 0, Value.int .u32 0] = zeroC.map (Value.int .u32) := rfl

theorem lines_spec (B : World) (h : Own) (c : List Int) (hc : Cnt c) : Tri Try.prog B 10 [.agg (c.map (Value.int .u32)).toArray] h fun v h' => h = h' ∧ v = .string (strL (linesS c 37)) := by
  refine Tri.enter (n := 23) Try.func10 rfl rfl rfl ?_
  simp only [argsE, Nat.reduceAdd]
  try dsimp only [argsE]
  refine AK.seq ?_
  refine AK.region ?_
  refine AO.eff (EF.box rfl rfl) (.none rfl) rfl ?_
  rintro _ _ ⟨b1, hf1, rfl, rfl⟩
  refine AO.val (RV.assign rfl) (.none rfl) rfl ?_
  refine AO.nil ?_
  refine AK.seq ?_
  refine AK.region ?_
  refine AO.eff (EF.alloc) (.none rfl) rfl ?_
  rintro _ _ ⟨b3, hf3, rfl, rfl⟩
  refine AO.nil ?_
  refine AK.seq ?_
  refine AK.seq ?_
  refine AK.region ?_
  refine AO.val (RV.loadArr (l := c) (f := Value.int .u32) rfl hc.len (by simp)) (.none rfl) rfl ?_
  refine AO.val (RV.move rfl) (.none rfl) rfl ?_
  refine AO.nil ?_
  refine AK.block ?_
  refine AK.loop (α := Nat × Option Addr × Value × Own) (E := fun (i, ap, sv, pb) => [(3, .pointer (some ⟨b3, 0, none⟩)), (6, .agg (c.map (Value.int .u32)).toArray), (7, .int .i64 i)]) (H := fun (i, ap, sv, pb) => pb ++ ((b3, Blk.cells [.pointer ap, sv] 51 (0, 0)) :: ((b1, Blk.cells (c.map (Value.int .u32)) 24 (0, 0)) :: h))) (Inv := fun (i, ap, sv, pb) => i ≤ 37 ∧ (ap = none ∨ ap = (some ⟨b3, 0, none⟩)) ∧ Row0 5 (linesS c i) sv pb) (μ := fun (i, ap, sv, pb) => 37 - i) (0, none, .slice none 0 0, []) ?_ (.cons (by exact rfl) (.cons (by exact rfl) (.cons (by exact rfl) .nil))) ?_ ?_
  · exact ⟨by omega, .inl rfl, .nil⟩
  · exact (by first | exact SubO.sub | exact List.Sublist.refl _ | exact .cons _ (List.Sublist.refl _) | exact .cons _ (.cons _ (List.Sublist.refl _)) | exact .cons _ (.cons _ (.cons _ (List.Sublist.refl _))))
  rintro ⟨i, ap, sv, pb⟩ ⟨hi1, hap, hr⟩ hih0
  try dsimp only at hih0 ⊢
  have hlk := lines_ok hc i hi1
  refine AK.seq ?_
  refine AK.region ?_
  refine AO.val (RV.lss rfl rfl) (.none rfl) rfl ?_
  refine AO.nil ?_
  refine AK.seq ?_
  refine AK.cond rfl ?_ ?_
  · intro hc1
    try simp only [decide_eq_true_eq, decide_eq_false_iff_not, Bool.not_eq_true', Bool.not_eq_false', beq_iff_eq] at hc1
    have hca := hc.at_ (i := (i : Int)) (by omega) (by omega)
    have hna := nms_at (i := (i : Int)) (by omega) (by omega)
    have hda := dig_ten hca.2
    refine AK.skip ?_
    refine AK.seq ?_
    refine AK.block ?_
    refine AK.seq ?_
    refine AK.region ?_
    refine AO.val (RV.move rfl) (.none rfl) rfl ?_
    refine AO.val (RV.indexArrL (l := c) (enc := Value.int .u32) rfl rfl rfl (by omega) hc.len) (.none rfl) rfl ?_
    refine AO.val (RV.assign rfl) (.none rfl) rfl ?_
    refine AO.val (RV.assign rfl) (.none rfl) rfl ?_
    refine AO.nil ?_
    refine AK.seq ?_
    refine AK.region ?_
    refine AO.val (RV.move rfl) (.none rfl) rfl ?_
    refine AO.val (RV.gtr rfl rfl) (.none rfl) rfl ?_
    refine AO.nil ?_
    refine AK.cond rfl ?_ ?_
    · intro hc2
      try simp only [decide_eq_true_eq, decide_eq_false_iff_not, Bool.not_eq_true', Bool.not_eq_false', beq_iff_eq] at hc2
      have hcx := hc2
      have hlb := line_ok hc (i := (i : Int)) (by omega) (by omega)
      rw [lineS, if_pos hcx] at hlb
      refine AK.region ?_
      refine AO.val (RV.move rfl) (.none rfl) rfl ?_
      refine AO.eff (EF.callF rfl (name_spec B _ _)) (.none rfl) rfl ?_
      rintro _ _ ⟨rfl, rfl⟩
      rw [name_in (by omega) (by omega)]
      refine AO.val (RV.addStr (b := [32]) rfl rfl (by simp; omega)) (.none rfl) rfl ?_
      refine AO.val (RV.move rfl) (.none rfl) rfl ?_
      refine AO.eff (EF.callF rfl (digits_spec B _ _ (by omega))) (.none rfl) rfl ?_
      rintro _ _ ⟨rfl, rfl⟩
      refine AO.val (RV.addStr rfl rfl (by simp; omega)) (.none rfl) rfl ?_
      refine AO.val (RV.addStr (b := [10]) rfl rfl (by simp; omega)) (.none rfl) rfl ?_
      refine AO.eff (EF.callF rfl (write_spec B pb _ b3 sv ap hap (linesS c i) (((lget NMS (i : Int) ++ [32]) ++ digS (lget c (i : Int))) ++ [10]) hr (by simp) hlb.2 (by omega))) (.none rfl) rfl ?_
      rintro _ _ ⟨sv2, pb2, rfl, hr2⟩
      refine AO.nil ?_
      refine AK.inBlock ?_
      refine AK.region ?_
      refine AO.val (by first | exact RV.addIn rfl rfl (by omega) | exact RV.add rfl rfl) (.none rfl) rfl ?_
      refine AO.val (RV.move rfl) (.none rfl) rfl ?_
      refine AO.nil ?_
      -- round ends at L0TT
      refine AK.weak (.cons (by exact rfl) (.cons (by exact rfl) (.cons (by exact rfl) .nil))) (by first | exact SubO.sub | exact List.Sublist.refl _ | exact .cons _ (List.Sublist.refl _) | exact .cons _ (.cons _ (List.Sublist.refl _)) | exact .cons _ (.cons _ (.cons _ (List.Sublist.refl _)))) (hih0 (i + 1, (some ⟨b3, 0, none⟩), sv2, pb2) ?_ ?_)
      · try dsimp only
        refine ⟨by omega, .inr rfl, ?_⟩
        rw [linesS, lineS, if_pos hcx]
        exact hr2
      · try dsimp only
        omega
    · intro hc2
      try simp only [decide_eq_true_eq, decide_eq_false_iff_not, Bool.not_eq_true', Bool.not_eq_false', beq_iff_eq] at hc2
      have hcx := hc2
      refine AK.skip ?_
      refine AK.inBlock ?_
      refine AK.region ?_
      refine AO.val (by first | exact RV.addIn rfl rfl (by omega) | exact RV.add rfl rfl) (.none rfl) rfl ?_
      refine AO.val (RV.move rfl) (.none rfl) rfl ?_
      refine AO.nil ?_
      -- round ends at L0TF
      refine AK.weak (.cons (by exact rfl) (.cons (by exact rfl) (.cons (by exact rfl) .nil))) (by first | exact SubO.sub | exact List.Sublist.refl _ | exact .cons _ (List.Sublist.refl _) | exact .cons _ (.cons _ (List.Sublist.refl _)) | exact .cons _ (.cons _ (.cons _ (List.Sublist.refl _)))) (hih0 (i + 1, ap, sv, pb) ?_ ?_)
      · try dsimp only
        refine ⟨by omega, hap, ?_⟩
        rw [linesS, lineS, if_neg hcx]
        rw [List.append_nil]; exact hr
      · try dsimp only
        omega
  · intro hc1
    try simp only [decide_eq_true_eq, decide_eq_false_iff_not, Bool.not_eq_true', Bool.not_eq_false', beq_iff_eq] at hc1
    obtain ⟨A2, c2, rfl⟩ := row0_val hr
    refine AK.exit rfl ?_
    refine AK.seq ?_
    refine AK.region ?_
    refine AO.eff (EF.callF rfl (bstring_spec B pb _ b3 ap (linesS c i) hr hlk.2 (by omega))) (.none rfl) rfl ?_
    rintro _ _ ⟨rfl, rfl⟩
    refine AO.val (RV.assign rfl) (.none rfl) rfl ?_
    refine AO.nil ?_
    -- at L0F
    clear hih0
    have hi37 : i = 37 := by omega
    subst hi37
    refine AK.ret (h' := h) Try.func10 (.tmp rfl .nil) ?_ (by exact SubO.sub)
    exact ⟨rfl, rfl⟩

def addS (c : List Int) (k : Int) : List Int := if 0 ≤ k ∧ k < 37 ∧ lget c k < 4294967295 then lset c k (lget c k + 1) else c
theorem cnt_set {c : List Int} (h : Cnt c) (i x : Int) (hx : 0 ≤ x ∧ x ≤ 4294967295) : Cnt (lset c i x) := ⟨by rw [lset_len]; exact h.len, fun y hy => by
  rcases List.mem_or_eq_of_mem_set hy with hy | rfl
  · exact h.rng y hy
  · exact hx⟩
theorem add_cnt {c : List Int} (h : Cnt c) (k : Int) : Cnt (addS c k) := by
  unfold addS
  split
  · next hk => have := h.at_ hk.1 hk.2.1; exact cnt_set h k _ (by omega)
  · exact h
theorem cnt_eq {x y : List Int} (hx : Cnt x) (hy : Cnt y) (h : ∀ j : Int, 0 ≤ j → j < 37 → lget x j = lget y j) : x = y := lget_ext (by rw [hx.len, hy.len]) fun j h0 h1 => h j h0 (by have := hx.len; omega)

theorem add36_spec (B : World) (h : Own) (c : List Int) (hc : Cnt c) (k : Int) : Tri Try.prog B 12 [.agg (c.map (Value.int .u32)).toArray, .int .i64 k] h fun v h' => h = h' ∧ v = .agg ((addS c k).map (Value.int .u32)).toArray := by
  have hcl := hc.len
  refine Tri.enter (n := 23) Try.func12 rfl rfl rfl ?_
  simp only [argsE, Nat.reduceAdd]
  try dsimp only [argsE]
  refine AK.seq ?_
  refine AK.region ?_
  refine AO.eff (EF.box rfl rfl) (.none rfl) rfl ?_
  rintro _ _ ⟨b2, hf2, rfl, rfl⟩
  refine AO.eff (EF.alloc) (.none rfl) rfl ?_
  rintro _ _ ⟨b4, hf4, rfl, rfl⟩
  rw [zero_cells]
  refine AO.nil ?_
  refine AK.seq ?_
  refine AK.seq ?_
  refine AK.region ?_
  refine AO.val (RV.move rfl) (.none rfl) rfl ?_
  refine AO.val (RV.geq rfl rfl) (.none rfl) rfl ?_
  refine AO.val (RV.move rfl) (.none rfl) rfl ?_
  refine AO.caseG rfl rfl rfl ?_ ?_
  · intro hg1
    try simp only [decide_eq_true_eq, decide_eq_false_iff_not, Bool.not_eq_true', Bool.not_eq_false', beq_iff_eq] at hg1
    refine AO.val (RV.move rfl) (.some rfl rfl rfl rfl) rfl ?_
    refine AO.val (RV.lss rfl rfl) (.some rfl rfl rfl rfl) rfl ?_
    refine AO.val (RV.pickT rfl rfl) (.none rfl) rfl ?_
    refine AO.val (RV.move rfl) (.none rfl) rfl ?_
    refine AO.caseG rfl rfl rfl ?_ ?_
    · intro hg2
      try simp only [decide_eq_true_eq, decide_eq_false_iff_not, Bool.not_eq_true', Bool.not_eq_false', beq_iff_eq] at hg2
      have hca := hc.at_ (i := k) (by omega) (by omega)
      refine AO.val (RV.move rfl) (.some rfl rfl rfl rfl) rfl ?_
      refine AO.val (RV.indexAddrL rfl rfl (by omega)) (.some rfl rfl rfl rfl) rfl ?_
      refine AO.val (RV.loadAt (f := Value.int .u32) (l := c) rfl (by omega) (by simp)) (.some rfl rfl rfl rfl) rfl ?_
      refine AO.val (RV.lss rfl rfl) (.some rfl rfl rfl rfl) rfl ?_
      refine AO.val (RV.pickT rfl rfl) (.none rfl) rfl ?_
      refine AO.nil ?_
      refine AK.cond rfl ?_ ?_
      · intro hc3
        try simp only [decide_eq_true_eq, decide_eq_false_iff_not, Bool.not_eq_true', Bool.not_eq_false', beq_iff_eq] at hc3
        have hca := hc.at_ (i := k) (by omega) (by omega)
        refine AK.region ?_
        refine AO.val (RV.move rfl) (.none rfl) rfl ?_
        refine AO.val (RV.indexAddrL rfl rfl (by omega)) (.none rfl) rfl ?_
        refine AO.val (RV.loadAt (f := Value.int .u32) (l := c) rfl (by omega) (by simp)) (.none rfl) rfl ?_
        refine AO.val (RV.addK rfl rfl (by simp only [kb]; omega)) (.none rfl) rfl ?_
        refine AO.val (RV.indexAddrL rfl rfl (by omega)) (.none rfl) rfl ?_
        refine AO.effN (EF.storeAt (f := Value.int .u32) (l := c) (lget c k + 1) rfl rfl (by omega) rfl rfl) (.none rfl) ?_
        rintro _ _ rfl
        refine AO.nil ?_
        refine AK.seq ?_
        refine AK.region ?_
        refine AO.val (RV.loadArr (l := (lset c k (lget c k + 1))) (f := Value.int .u32) rfl (by rw [lset_len]; exact hc.len) (by simp)) (.none rfl) rfl ?_
        refine AO.effN (EF.storeArr (l := (lset c k (lget c k + 1))) (f := Value.int .u32) rfl rfl (by rw [lset_len]; exact hc.len) (fun _ => rfl) (by rw [List.length_map]; rfl)) (.none rfl) ?_
        rintro _ _ rfl
        refine AO.nil ?_
        -- at ttT
        refine AK.ret (h' := h) Try.func12 (.arr rfl (by rw [lset_len]; exact hc.len) .nil) ?_ (by first | exact SubO.sub | exact List.Sublist.refl _ | exact .cons _ (List.Sublist.refl _) | exact .cons _ (.cons _ (List.Sublist.refl _)) | exact .cons _ (.cons _ (.cons _ (List.Sublist.refl _))))
        refine ⟨rfl, ?_⟩
        rw [addS, if_pos ⟨by omega, by omega, by omega⟩]; rfl
      · intro hc3
        try simp only [decide_eq_true_eq, decide_eq_false_iff_not, Bool.not_eq_true', Bool.not_eq_false', beq_iff_eq] at hc3
        refine AK.skip ?_
        refine AK.seq ?_
        refine AK.region ?_
        refine AO.val (RV.loadArr (l := c) (f := Value.int .u32) rfl hc.len (by simp)) (.none rfl) rfl ?_
        refine AO.effN (EF.storeArr (l := c) (f := Value.int .u32) rfl rfl hc.len (fun _ => rfl) (by rw [List.length_map]; rfl)) (.none rfl) ?_
        rintro _ _ rfl
        refine AO.nil ?_
        -- at ttF
        refine AK.ret (h' := h) Try.func12 (.arr rfl hc.len .nil) ?_ (by first | exact SubO.sub | exact List.Sublist.refl _ | exact .cons _ (List.Sublist.refl _) | exact .cons _ (.cons _ (List.Sublist.refl _)) | exact .cons _ (.cons _ (.cons _ (List.Sublist.refl _))))
        refine ⟨rfl, ?_⟩
        rw [addS, if_neg (by omega)]; rfl
    · intro hg2
      try simp only [decide_eq_true_eq, decide_eq_false_iff_not, Bool.not_eq_true', Bool.not_eq_false', beq_iff_eq] at hg2
      refine AO.pass (.some rfl rfl rfl rfl) rfl ?_
      refine AO.pass (.some rfl rfl rfl rfl) rfl ?_
      refine AO.pass (.some rfl rfl rfl rfl) rfl ?_
      refine AO.pass (.some rfl rfl rfl rfl) rfl ?_
      refine AO.val (RV.pickF rfl rfl) (.none rfl) rfl ?_
      refine AO.nil ?_
      refine AK.condF rfl ?_
      refine AK.skip ?_
      refine AK.seq ?_
      refine AK.region ?_
      refine AO.val (RV.loadArr (l := c) (f := Value.int .u32) rfl hc.len (by simp)) (.none rfl) rfl ?_
      refine AO.effN (EF.storeArr (l := c) (f := Value.int .u32) rfl rfl hc.len (fun _ => rfl) (by rw [List.length_map]; rfl)) (.none rfl) ?_
      rintro _ _ rfl
      refine AO.nil ?_
      -- at tf
      refine AK.ret (h' := h) Try.func12 (.arr rfl hc.len .nil) ?_ (by first | exact SubO.sub | exact List.Sublist.refl _ | exact .cons _ (List.Sublist.refl _) | exact .cons _ (.cons _ (List.Sublist.refl _)) | exact .cons _ (.cons _ (.cons _ (List.Sublist.refl _))))
      refine ⟨rfl, ?_⟩
      rw [addS, if_neg (by omega)]; rfl
  · intro hg1
    try simp only [decide_eq_true_eq, decide_eq_false_iff_not, Bool.not_eq_true', Bool.not_eq_false', beq_iff_eq] at hg1
    refine AO.pass (.some rfl rfl rfl rfl) rfl ?_
    refine AO.pass (.some rfl rfl rfl rfl) rfl ?_
    refine AO.val (RV.pickF rfl rfl) (.none rfl) rfl ?_
    refine AO.val (RV.move rfl) (.none rfl) rfl ?_
    refine AO.pass (.some rfl rfl rfl rfl) rfl ?_
    refine AO.pass (.some rfl rfl rfl rfl) rfl ?_
    refine AO.pass (.some rfl rfl rfl rfl) rfl ?_
    refine AO.pass (.some rfl rfl rfl rfl) rfl ?_
    refine AO.val (RV.pickF rfl rfl) (.none rfl) rfl ?_
    refine AO.nil ?_
    refine AK.condF rfl ?_
    refine AK.skip ?_
    refine AK.seq ?_
    refine AK.region ?_
    refine AO.val (RV.loadArr (l := c) (f := Value.int .u32) rfl hc.len (by simp)) (.none rfl) rfl ?_
    refine AO.effN (EF.storeArr (l := c) (f := Value.int .u32) rfl rfl hc.len (fun _ => rfl) (by rw [List.length_map]; rfl)) (.none rfl) ?_
    rintro _ _ rfl
    refine AO.nil ?_
    -- at f
    refine AK.ret (h' := h) Try.func12 (.arr rfl hc.len .nil) ?_ (by first | exact SubO.sub | exact List.Sublist.refl _ | exact .cons _ (List.Sublist.refl _) | exact .cons _ (.cons _ (List.Sublist.refl _)) | exact .cons _ (.cons _ (.cons _ (List.Sublist.refl _))))
    refine ⟨rfl, ?_⟩
    rw [addS, if_neg (by omega)]; rfl

theorem sum36_spec (B : World) (h : Own) (a b : List Int) (ha : Cnt a) (hb : Cnt b) : Tri Try.prog B 13 [.agg (a.map (Value.int .u32)).toArray, .agg (b.map (Value.int .u32)).toArray] h fun v h' => h = h' ∧ ∃ r, v = .agg (r.map (Value.int .u32)).toArray ∧ Cnt r ∧ ∀ j : Int, 0 ≤ j → j < 37 → lget r j = min (lget a j + lget b j) 4294967295 := by
  refine Tri.enter (n := 24) Try.func13 rfl rfl rfl ?_
  simp only [argsE, Nat.reduceAdd]
  try dsimp only [argsE]
  refine AK.seq ?_
  refine AK.region ?_
  refine AO.eff (EF.box rfl rfl) (.none rfl) rfl ?_
  rintro _ _ ⟨b2, hf2, rfl, rfl⟩
  refine AO.eff (EF.box rfl rfl) (.none rfl) rfl ?_
  rintro _ _ ⟨b3, hf3, rfl, rfl⟩
  refine AO.eff (EF.alloc) (.none rfl) rfl ?_
  rintro _ _ ⟨b4, hf4, rfl, rfl⟩
  rw [zero_cells]
  refine AO.nil ?_
  refine AK.seq ?_
  refine AK.seq ?_
  refine AK.region ?_
  refine AO.val (RV.move rfl) (.none rfl) rfl ?_
  refine AO.nil ?_
  refine AK.block ?_
  refine AK.loop (α := Int × List Int) (E := fun (i, x) => [(2, .pointer (some ⟨b2, 0, none⟩)), (3, .pointer (some ⟨b3, 0, none⟩)), (4, .pointer (some ⟨b4, 0, none⟩)), (6, .int .i64 i)]) (H := fun (i, x) => (b4, Blk.cells (zeroC.map (Value.int .u32)) 24 (0, 0)) :: (b3, Blk.cells (b.map (Value.int .u32)) 24 (0, 0)) :: (b2, Blk.cells (x.map (Value.int .u32)) 24 (0, 0)) :: h) (Inv := fun (i, x) => 0 ≤ i ∧ i ≤ 37 ∧ Cnt x ∧ (∀ j : Int, 0 ≤ j → j < i → lget x j = min (lget a j + lget b j) 4294967295) ∧ ∀ j : Int, i ≤ j → j < 37 → lget x j = lget a j) (μ := fun (i, x) => (37 - i).toNat) (0, a) ?_ (.cons (by exact rfl) (.cons (by exact rfl) (.cons (by exact rfl) (.cons (by exact rfl) .nil)))) ?_ ?_
  · exact ⟨by omega, by omega, ha, fun j h0 h1 => by omega, fun j _ _ => rfl⟩
  · exact (by first | exact SubO.sub | exact List.Sublist.refl _ | exact .cons _ (List.Sublist.refl _) | exact .cons _ (.cons _ (List.Sublist.refl _)) | exact .cons _ (.cons _ (.cons _ (List.Sublist.refl _))))
  rintro ⟨i, x⟩ ⟨hi0, hi1, hx, hdone, hleft⟩ hih0
  try dsimp only at hih0 ⊢
  have hxl := hx.len
  have hbl := hb.len
  refine AK.seq ?_
  refine AK.region ?_
  refine AO.val (RV.lss rfl rfl) (.none rfl) rfl ?_
  refine AO.nil ?_
  refine AK.seq ?_
  refine AK.cond rfl ?_ ?_
  · intro hc1
    try simp only [decide_eq_true_eq, decide_eq_false_iff_not, Bool.not_eq_true', Bool.not_eq_false', beq_iff_eq] at hc1
    have hai := ha.at_ (i := i) (by omega) (by omega)
    have hbi := hb.at_ (i := i) (by omega) (by omega)
    have hxi := hleft i (Int.le_refl _) (by omega)
    have hxr := hx.at_ (i := i) (by omega) (by omega)
    refine AK.skip ?_
    refine AK.seq ?_
    refine AK.block ?_
    refine AK.seq ?_
    refine AK.region ?_
    refine AO.val (RV.move rfl) (.none rfl) rfl ?_
    refine AO.val (RV.assign rfl) (.none rfl) rfl ?_
    refine AO.nil ?_
    refine AK.draw [] [13] mixed ?_
    refine AD.takeP 0 rfl (by kernel_rfl) (RV.move rfl) (.none rfl) rfl ?_
    refine AD.takeP 1 rfl (by kernel_rfl) (RV.move rfl) (.none rfl) rfl ?_
    refine AD.takeP 2 rfl (by kernel_rfl) (RV.indexAddrL rfl rfl (by omega)) (.none rfl) rfl ?_
    refine AD.take 3 rfl (by kernel_rfl) (RV.loadAt (f := Value.int .u32) (l := x) rfl (by omega) (by simp)) (.none rfl) rfl ?_
    refine AD.takeP 4 rfl (by kernel_rfl) (RV.convIn rfl (by simp only [kb]; omega)) (.none rfl) rfl ?_
    refine AD.takeP 5 rfl (by kernel_rfl) (RV.move rfl) (.none rfl) rfl ?_
    refine AD.takeP 6 rfl (by kernel_rfl) (RV.indexAddrL rfl rfl (by omega)) (.none rfl) rfl ?_
    refine AD.take 7 rfl (by kernel_rfl) (RV.loadAt (f := Value.int .u32) (l := b) rfl (by omega) (by simp)) (.none rfl) rfl ?_
    refine AD.takeP 8 rfl (by kernel_rfl) (RV.convIn rfl (by simp only [kb]; omega)) (.none rfl) rfl ?_
    refine AD.takeP 9 rfl (by kernel_rfl) (RV.addK rfl rfl (by simp only [kb]; omega)) (.none rfl) rfl ?_
    refine AD.takeP 10 rfl (by kernel_rfl) (RV.min2 rfl rfl) (.none rfl) rfl ?_
    refine AD.takeP 11 rfl (by kernel_rfl) (RV.convIn rfl (by simp only [kb]; omega)) (.none rfl) rfl ?_
    refine AD.takeP 12 rfl (by kernel_rfl) (RV.indexAddrL rfl rfl (by omega)) (.none rfl) rfl ?_
    refine AD.one 13 (by kernel_rfl) (AE.effN rfl (EF.storeAt (f := Value.int .u32) (l := x) (min (lget a i + lget b i) 4294967295) rfl (by rw [hxi]; exact rfl) (by omega) rfl rfl) (.none rfl) ?_)
    rintro _ _ rfl
    refine ⟨.inl (by kernel_rfl), ?_⟩
    refine AD.done (by kernel_rfl) ?_
    refine AK.inBlock ?_
    refine AK.region ?_
    refine AO.val (by first | exact RV.addIn rfl rfl (by omega) | exact RV.add rfl rfl) (.none rfl) rfl ?_
    refine AO.val (RV.move rfl) (.none rfl) rfl ?_
    refine AO.nil ?_
    -- round ends at L0T
    refine AK.weak (.cons (by exact rfl) (.cons (by exact rfl) (.cons (by exact rfl) (.cons (by exact rfl) .nil)))) (by first | exact SubO.sub | exact List.Sublist.refl _ | exact .cons _ (List.Sublist.refl _) | exact .cons _ (.cons _ (List.Sublist.refl _)) | exact .cons _ (.cons _ (.cons _ (List.Sublist.refl _)))) (hih0 (i + 1, (lset x i (min (lget a i + lget b i) 4294967295))) ?_ ?_)
    · try dsimp only
      refine ⟨by omega, by omega, cnt_set hx i _ (by omega), fun j h0 h1 => ?_, fun j h0 h1 => ?_⟩
      · rw [lget_lset _ _ _ _ ⟨hi0, by omega⟩ h0]
        by_cases hj : j = i
        · subst hj; rw [if_pos rfl]
        · rw [if_neg hj]; exact hdone j h0 (by omega)
      · rw [lget_lset _ _ _ _ ⟨hi0, by omega⟩ (by omega), if_neg (by omega)]; exact hleft j (by omega) h1
    · try dsimp only
      omega
  · intro hc1
    try simp only [decide_eq_true_eq, decide_eq_false_iff_not, Bool.not_eq_true', Bool.not_eq_false', beq_iff_eq] at hc1
    refine AK.exit rfl ?_
    refine AK.seq ?_
    refine AK.region ?_
    refine AO.val (RV.loadArr (l := x) (f := Value.int .u32) rfl hx.len (by simp)) (.none rfl) rfl ?_
    refine AO.effN (EF.storeArr (l := x) (f := Value.int .u32) rfl rfl hx.len (fun _ => rfl) (by rw [List.length_map]; rfl)) (.none rfl) ?_
    rintro _ _ rfl
    refine AO.nil ?_
    -- at L0F
    clear hih0
    have hi37 : i = 37 := by omega
    subst hi37
    refine AK.ret (h' := h) Try.func13 (.arr rfl hx.len .nil) ?_ (by first | exact SubO.sub | exact List.Sublist.refl _ | exact .cons _ (List.Sublist.refl _) | exact .cons _ (.cons _ (List.Sublist.refl _)) | exact .cons _ (.cons _ (.cons _ (List.Sublist.refl _))))
    exact ⟨rfl, x, rfl, hx, hdone⟩

theorem less36_spec (B : World) (h : Own) (a b : List Int) (ha : Cnt a) (hb : Cnt b) : Tri Try.prog B 14 [.agg (a.map (Value.int .u32)).toArray, .agg (b.map (Value.int .u32)).toArray] h fun v h' => h = h' ∧ ∃ r, v = .agg (r.map (Value.int .u32)).toArray ∧ Cnt r ∧ ∀ j : Int, 0 ≤ j → j < 37 → lget r j = lget a j - min (lget a j) (lget b j) := by
  refine Tri.enter (n := 23) Try.func14 rfl rfl rfl ?_
  simp only [argsE, Nat.reduceAdd]
  try dsimp only [argsE]
  refine AK.seq ?_
  refine AK.region ?_
  refine AO.eff (EF.box rfl rfl) (.none rfl) rfl ?_
  rintro _ _ ⟨b2, hf2, rfl, rfl⟩
  refine AO.eff (EF.box rfl rfl) (.none rfl) rfl ?_
  rintro _ _ ⟨b3, hf3, rfl, rfl⟩
  refine AO.eff (EF.alloc) (.none rfl) rfl ?_
  rintro _ _ ⟨b4, hf4, rfl, rfl⟩
  rw [zero_cells]
  refine AO.nil ?_
  refine AK.seq ?_
  refine AK.seq ?_
  refine AK.region ?_
  refine AO.val (RV.move rfl) (.none rfl) rfl ?_
  refine AO.nil ?_
  refine AK.block ?_
  refine AK.loop (α := Int × List Int) (E := fun (i, x) => [(2, .pointer (some ⟨b2, 0, none⟩)), (3, .pointer (some ⟨b3, 0, none⟩)), (4, .pointer (some ⟨b4, 0, none⟩)), (6, .int .i64 i)]) (H := fun (i, x) => (b4, Blk.cells (zeroC.map (Value.int .u32)) 24 (0, 0)) :: (b3, Blk.cells (b.map (Value.int .u32)) 24 (0, 0)) :: (b2, Blk.cells (x.map (Value.int .u32)) 24 (0, 0)) :: h) (Inv := fun (i, x) => 0 ≤ i ∧ i ≤ 37 ∧ Cnt x ∧ (∀ j : Int, 0 ≤ j → j < i → lget x j = lget a j - min (lget a j) (lget b j)) ∧ ∀ j : Int, i ≤ j → j < 37 → lget x j = lget a j) (μ := fun (i, x) => (37 - i).toNat) (0, a) ?_ (.cons (by exact rfl) (.cons (by exact rfl) (.cons (by exact rfl) (.cons (by exact rfl) .nil)))) ?_ ?_
  · exact ⟨by omega, by omega, ha, fun j h0 h1 => by omega, fun j _ _ => rfl⟩
  · exact (by first | exact SubO.sub | exact List.Sublist.refl _ | exact .cons _ (List.Sublist.refl _) | exact .cons _ (.cons _ (List.Sublist.refl _)) | exact .cons _ (.cons _ (.cons _ (List.Sublist.refl _))))
  rintro ⟨i, x⟩ ⟨hi0, hi1, hx, hdone, hleft⟩ hih0
  try dsimp only at hih0 ⊢
  have hxl := hx.len
  have hbl := hb.len
  refine AK.seq ?_
  refine AK.region ?_
  refine AO.val (RV.lss rfl rfl) (.none rfl) rfl ?_
  refine AO.nil ?_
  refine AK.seq ?_
  refine AK.cond rfl ?_ ?_
  · intro hc1
    try simp only [decide_eq_true_eq, decide_eq_false_iff_not, Bool.not_eq_true', Bool.not_eq_false', beq_iff_eq] at hc1
    have hai := ha.at_ (i := i) (by omega) (by omega)
    have hbi := hb.at_ (i := i) (by omega) (by omega)
    have hxi := hleft i (Int.le_refl _) (by omega)
    have hxr := hx.at_ (i := i) (by omega) (by omega)
    refine AK.skip ?_
    refine AK.seq ?_
    refine AK.block ?_
    refine AK.seq ?_
    refine AK.region ?_
    refine AO.val (RV.move rfl) (.none rfl) rfl ?_
    refine AO.val (RV.assign rfl) (.none rfl) rfl ?_
    refine AO.nil ?_
    refine AK.draw [] [12] mixed ?_
    refine AD.takeP 0 rfl (by kernel_rfl) (RV.move rfl) (.none rfl) rfl ?_
    refine AD.takeP 1 rfl (by kernel_rfl) (RV.indexAddrL rfl rfl (by omega)) (.none rfl) rfl ?_
    refine AD.take 2 rfl (by kernel_rfl) (RV.loadAt (f := Value.int .u32) (l := x) rfl (by omega) (by simp)) (.none rfl) rfl ?_
    refine AD.takeP 3 rfl (by kernel_rfl) (RV.move rfl) (.none rfl) rfl ?_
    refine AD.takeP 4 rfl (by kernel_rfl) (RV.indexAddrL rfl rfl (by omega)) (.none rfl) rfl ?_
    refine AD.take 5 rfl (by kernel_rfl) (RV.loadAt (f := Value.int .u32) (l := x) rfl (by omega) (by simp)) (.none rfl) rfl ?_
    refine AD.takeP 6 rfl (by kernel_rfl) (RV.move rfl) (.none rfl) rfl ?_
    refine AD.takeP 7 rfl (by kernel_rfl) (RV.indexAddrL rfl rfl (by omega)) (.none rfl) rfl ?_
    refine AD.take 8 rfl (by kernel_rfl) (RV.loadAt (f := Value.int .u32) (l := b) rfl (by omega) (by simp)) (.none rfl) rfl ?_
    refine AD.takeP 9 rfl (by kernel_rfl) (RV.min2 rfl rfl) (.none rfl) rfl ?_
    refine AD.takeP 10 rfl (by kernel_rfl) (RV.subK rfl rfl (by simp only [kb]; omega)) (.none rfl) rfl ?_
    refine AD.takeP 11 rfl (by kernel_rfl) (RV.indexAddrL rfl rfl (by omega)) (.none rfl) rfl ?_
    refine AD.one 12 (by kernel_rfl) (AE.effN rfl (EF.storeAt (f := Value.int .u32) (l := x) (lget a i - min (lget a i) (lget b i)) rfl (by rw [hxi]; exact rfl) (by omega) rfl rfl) (.none rfl) ?_)
    rintro _ _ rfl
    refine ⟨.inl (by kernel_rfl), ?_⟩
    refine AD.done (by kernel_rfl) ?_
    refine AK.inBlock ?_
    refine AK.region ?_
    refine AO.val (by first | exact RV.addIn rfl rfl (by omega) | exact RV.add rfl rfl) (.none rfl) rfl ?_
    refine AO.val (RV.move rfl) (.none rfl) rfl ?_
    refine AO.nil ?_
    -- round ends at L0T
    refine AK.weak (.cons (by exact rfl) (.cons (by exact rfl) (.cons (by exact rfl) (.cons (by exact rfl) .nil)))) (by first | exact SubO.sub | exact List.Sublist.refl _ | exact .cons _ (List.Sublist.refl _) | exact .cons _ (.cons _ (List.Sublist.refl _)) | exact .cons _ (.cons _ (.cons _ (List.Sublist.refl _)))) (hih0 (i + 1, (lset x i (lget a i - min (lget a i) (lget b i)))) ?_ ?_)
    · try dsimp only
      refine ⟨by omega, by omega, cnt_set hx i _ (by omega), fun j h0 h1 => ?_, fun j h0 h1 => ?_⟩
      · rw [lget_lset _ _ _ _ ⟨hi0, by omega⟩ h0]
        by_cases hj : j = i
        · subst hj; rw [if_pos rfl]
        · rw [if_neg hj]; exact hdone j h0 (by omega)
      · rw [lget_lset _ _ _ _ ⟨hi0, by omega⟩ (by omega), if_neg (by omega)]; exact hleft j (by omega) h1
    · try dsimp only
      omega
  · intro hc1
    try simp only [decide_eq_true_eq, decide_eq_false_iff_not, Bool.not_eq_true', Bool.not_eq_false', beq_iff_eq] at hc1
    refine AK.exit rfl ?_
    refine AK.seq ?_
    refine AK.region ?_
    refine AO.val (RV.loadArr (l := x) (f := Value.int .u32) rfl hx.len (by simp)) (.none rfl) rfl ?_
    refine AO.effN (EF.storeArr (l := x) (f := Value.int .u32) rfl rfl hx.len (fun _ => rfl) (by rw [List.length_map]; rfl)) (.none rfl) ?_
    rintro _ _ rfl
    refine AO.nil ?_
    -- at L0F
    clear hih0
    have hi37 : i = 37 := by omega
    subst hi37
    refine AK.ret (h' := h) Try.func14 (.arr rfl hx.len .nil) ?_ (by first | exact SubO.sub | exact List.Sublist.refl _ | exact .cons _ (List.Sublist.refl _) | exact .cons _ (.cons _ (List.Sublist.refl _)) | exact .cons _ (.cons _ (.cons _ (List.Sublist.refl _))))
    exact ⟨rfl, x, rfl, hx, hdone⟩

theorem bytes36_spec (B : World) (h : Own) (c : List Int) (hc : Cnt c) : Tri Try.prog B 19 [.agg (c.map (Value.int .u32)).toArray] h fun v h' => NewS 5 1 (bytesC c).length ((bytesC c).map (fun x => Value.int .u8 x)) h v h' := by
  have hcl := hc.len
  have hbl := bytesC_len (c := c)
  refine Tri.enter (n := 5) Try.func19 rfl rfl rfl ?_
  simp only [argsE, Nat.reduceAdd]
  try dsimp only [argsE]
  refine AK.seq ?_
  refine AK.region ?_
  refine AO.eff (EF.box rfl rfl) (.none rfl) rfl ?_
  rintro _ _ ⟨b1, hf1, rfl, rfl⟩
  refine AO.val (RV.assign rfl) (.none rfl) rfl ?_
  refine AO.nil ?_
  refine AK.seq ?_
  refine AK.region ?_
  refine AO.val ((RV.sliceArr rfl).to (v' := .slice (some ⟨b1, 0, none⟩) c.length 37) (by rw [hcl])) (.none rfl) rfl ?_
  refine AO.eff (EF.callF rfl ((put32_spec (A := none) (cap := 0) (A2 := some ⟨b1, 0, none⟩) (cap2 := 37) B _ [] c ⟨rfl, by simp⟩ (by simp) (src_arr hcl) (by omega)).mono fun v h2 r => r.to (n' := (bytesC c).length) (ys := (bytesC c).map (fun x => Value.int .u8 x)) (by simp; omega) (by simp [bytesC]))) (.none rfl) rfl ?_
  rintro _ _ ⟨A4, c4, p4, rfl, hr4, hc4, rfl⟩
  refine AO.val (RV.assign rfl) (.none rfl) rfl ?_
  refine AO.nil ?_
  -- at 
  refine AK.ret (h' := p4 ++ h) Try.func19 (.tmp rfl .nil) ?_ (by exact SubO.sub)
  exact ⟨A4, c4, p4, rfl, hr4, hc4, rfl⟩

theorem of36_spec (B : World) (h : Own) {A : Option Addr} {cap : Nat} (l : List Int) (hl : Src B h A l.length 1 (l.map (fun x => Value.int .u8 x))) (hb : Bytes l) (hcap : l.length ≤ cap) (hln : l.length ≤ 100000) : Tri Try.prog B 18 [.slice A l.length cap] h fun v h' => h = h' ∧ v = .tuple #[.agg ((ofC l).1.map (Value.int .u32)).toArray, .bool (ofC l).2] := by
  refine Tri.enter (n := 24) Try.func18 rfl rfl rfl ?_
  simp only [argsE, Nat.reduceAdd]
  try dsimp only [argsE]
  refine AK.seq ?_
  refine AK.region ?_
  refine AO.eff (EF.alloc) (.none rfl) rfl ?_
  rintro _ _ ⟨b2, hf2, rfl, rfl⟩
  rw [zero_cells]
  refine AO.val (RV.assign rfl) (.none rfl) rfl ?_
  refine AO.nil ?_
  refine AK.seq ?_
  refine AK.region ?_
  refine AO.eff (EF.alloc) (.none rfl) rfl ?_
  rintro _ _ ⟨b4, hf4, rfl, rfl⟩
  rw [zero_cells]
  refine AO.nil ?_
  refine AK.seq ?_
  refine AK.seq ?_
  refine AK.region ?_
  refine AO.val (RV.move rfl) (.none rfl) rfl ?_
  refine AO.val (RV.lenS rfl) (.none rfl) rfl ?_
  refine AO.val (RV.neq rfl rfl) (.none rfl) rfl ?_
  refine AO.nil ?_
  refine AK.cond rfl ?_ ?_
  · intro hc1
    try simp only [decide_eq_true_eq, decide_eq_false_iff_not, Bool.not_eq_true', Bool.not_eq_false', beq_iff_eq] at hc1
    refine AK.seq ?_
    refine AK.region ?_
    refine AO.val (RV.loadArr (l := zeroC) (f := Value.int .u32) rfl (by rfl) (by simp)) (.none rfl) rfl ?_
    refine AO.effN (EF.storeArr (l := zeroC) (f := Value.int .u32) rfl rfl (by rfl) (fun _ => rfl) (by rw [List.length_map]; rfl)) (.none rfl) ?_
    rintro _ _ rfl
    refine AO.val (RV.assign rfl) (.none rfl) rfl ?_
    refine AO.nil ?_
    -- at T
    refine AK.ret (h' := h) Try.func18 (.arr rfl (by rfl) (.tmp rfl .nil)) ?_ (by first | exact SubO.sub | exact List.Sublist.refl _ | exact .cons _ (List.Sublist.refl _) | exact .cons _ (.cons _ (List.Sublist.refl _)) | exact .cons _ (.cons _ (.cons _ (List.Sublist.refl _))))
    refine ⟨rfl, ?_⟩
    rw [ofC, if_neg (by omega)]; rfl
  · intro hc1
    try simp only [decide_eq_true_eq, decide_eq_false_iff_not, Bool.not_eq_true', Bool.not_eq_false', beq_iff_eq] at hc1
    have h148 : l.length = 148 := by omega
    have hvc := vals_cnt h148 hb
    refine AK.skip ?_
    refine AK.seq ?_
    refine AK.seq ?_
    refine AK.region ?_
    refine AO.val (RV.move rfl) (.none rfl) rfl ?_
    refine AO.nil ?_
    refine AK.block ?_
    refine AK.loop (α := Int × List Int) (E := fun (i, x) => [(0, .slice A l.length cap), (2, .pointer (some ⟨b2, 0, none⟩)), (4, .pointer (some ⟨b4, 0, none⟩)), (10, .int .i64 i)]) (H := fun (i, x) => (b4, Blk.cells (x.map (Value.int .u32)) 24 (0, 0)) :: (b2, Blk.cells (zeroC.map (Value.int .u32)) 24 (0, 0)) :: h) (Inv := fun (i, x) => 0 ≤ i ∧ i ≤ 37 ∧ Cnt x ∧ ∀ j : Int, 0 ≤ j → j < i → lget x j = lget (valsB l) j) (μ := fun (i, x) => (37 - i).toNat) (0, zeroC) ?_ (.cons (by exact rfl) (.cons (by exact rfl) (.cons (by exact rfl) (.cons (by exact rfl) .nil)))) ?_ ?_
    · exact ⟨by omega, by omega, zero_cnt, fun j h0 h1 => by omega⟩
    · exact (by first | exact SubO.sub | exact List.Sublist.refl _ | exact .cons _ (List.Sublist.refl _) | exact .cons _ (.cons _ (List.Sublist.refl _)) | exact .cons _ (.cons _ (.cons _ (List.Sublist.refl _))))
    rintro ⟨i, x⟩ ⟨hi0, hi1, hx, hdone⟩ hih0
    try dsimp only at hih0 ⊢
    have hxl := hx.len
    refine AK.seq ?_
    refine AK.region ?_
    refine AO.val (RV.lss rfl rfl) (.none rfl) rfl ?_
    refine AO.nil ?_
    refine AK.seq ?_
    refine AK.cond rfl ?_ ?_
    · intro hc2
      try simp only [decide_eq_true_eq, decide_eq_false_iff_not, Bool.not_eq_true', Bool.not_eq_false', beq_iff_eq] at hc2
      have hth : thereB l (4 * i) 4 = true := by simp [thereB]; omega
      have hvi : lget (valsB l) i = beV (cutL l (4 * i) 4) := by
        have h1 : i.toNat < 37 := by omega
        simp [valsB, lget, List.getD, h1, List.getElem?_range, show ((i.toNat : Nat) : Int) = i by omega]
      refine AK.skip ?_
      refine AK.seq ?_
      refine AK.block ?_
      refine AK.seq ?_
      refine AK.region ?_
      refine AO.val (RV.move rfl) (.none rfl) rfl ?_
      refine AO.val (RV.assign rfl) (.none rfl) rfl ?_
      refine AO.nil ?_
      refine AK.region ?_
      refine AO.val (RV.move rfl) (.none rfl) rfl ?_
      refine AO.val (RV.move rfl) (.none rfl) rfl ?_
      refine AO.val (RV.move rfl) (.none rfl) rfl ?_
      refine AO.val (RV.mulIn rfl rfl (by omega)) (.none rfl) rfl ?_
      refine AO.eff (EF.callF rfl (get32_spec B _ l (hl.mono fun x hx => by simp [hx]) hcap (by omega) hb (4 * i) (by omega))) (.none rfl) rfl ?_
      rintro _ _ ⟨rfl, rfl⟩
      rw [hth]
      simp only [if_true]
      refine AO.val (RV.move rfl) (.none rfl) rfl ?_
      refine AO.val (RV.extract rfl rfl) (.none rfl) rfl ?_
      refine AO.val (RV.extract rfl rfl) (.none rfl) rfl ?_
      refine AO.val (RV.indexAddrL rfl rfl (by omega)) (.none rfl) rfl ?_
      refine AO.effN (EF.storeAt (f := Value.int .u32) (l := x) (beV (cutL l (4 * i) 4)) rfl rfl (by omega) rfl rfl) (.none rfl) ?_
      rintro _ _ rfl
      refine AO.nil ?_
      refine AK.inBlock ?_
      refine AK.region ?_
      refine AO.val (by first | exact RV.addIn rfl rfl (by omega) | exact RV.add rfl rfl) (.none rfl) rfl ?_
      refine AO.val (RV.move rfl) (.none rfl) rfl ?_
      refine AO.nil ?_
      -- round ends at FL0T
      refine AK.weak (.cons (by exact rfl) (.cons (by exact rfl) (.cons (by exact rfl) (.cons (by exact rfl) .nil)))) (by first | exact SubO.sub | exact List.Sublist.refl _ | exact .cons _ (List.Sublist.refl _) | exact .cons _ (.cons _ (List.Sublist.refl _)) | exact .cons _ (.cons _ (.cons _ (List.Sublist.refl _)))) (hih0 (i + 1, lset x i (beV (cutL l (4 * i) 4))) ?_ ?_)
      · try dsimp only
        refine ⟨by omega, by omega, cnt_set hx i _ ?_, fun j h0 h1 => ?_⟩
        · rw [← hvi]; exact hvc.at_ hi0 (by omega)
        · rw [lget_lset _ _ _ _ ⟨hi0, by omega⟩ h0]
          by_cases hj : j = i
          · subst hj; rw [if_pos rfl, hvi]
          · rw [if_neg hj]; exact hdone j h0 (by omega)
      · try dsimp only
        omega
    · intro hc2
      try simp only [decide_eq_true_eq, decide_eq_false_iff_not, Bool.not_eq_true', Bool.not_eq_false', beq_iff_eq] at hc2
      refine AK.exit rfl ?_
      refine AK.seq ?_
      refine AK.region ?_
      refine AO.val (RV.loadArr (l := x) (f := Value.int .u32) rfl hx.len (by simp)) (.none rfl) rfl ?_
      refine AO.effN (EF.storeArr (l := x) (f := Value.int .u32) rfl rfl hx.len (fun _ => rfl) (by rw [List.length_map]; rfl)) (.none rfl) ?_
      rintro _ _ rfl
      refine AO.val (RV.assign rfl) (.none rfl) rfl ?_
      refine AO.nil ?_
      -- at FL0F
      clear hih0
      have hi37 : i = 37 := by omega
      subst hi37
      have hxe : x = valsB l := cnt_eq hx hvc hdone
      refine AK.ret (h' := h) Try.func18 (.arr rfl hx.len (.tmp rfl .nil)) ?_ (by first | exact SubO.sub | exact List.Sublist.refl _ | exact .cons _ (List.Sublist.refl _) | exact .cons _ (.cons _ (List.Sublist.refl _)) | exact .cons _ (.cons _ (.cons _ (List.Sublist.refl _))))
      refine ⟨rfl, ?_⟩
      rw [ofC, if_pos h148, hxe]; rfl

end Go.Proofs.Ytefpiiknjnekeaa
