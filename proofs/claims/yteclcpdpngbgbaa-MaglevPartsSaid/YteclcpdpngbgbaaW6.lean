/- Walks through the code: what each function that is named here gives back, from any memory that holds its arguments. Written by a program of the claim's author, out of the program's form in Lean. -/
import Derived.Test.YteclcpdpngbgbaaW5
set_option linter.unusedSimpArgs false
set_option linter.unusedVariables false
namespace Go.Proofs.Yteclcpdpngbgbaa
open Go.Sep Go.Sep.Sip Go.Sep.Perm Go.Sep.Maglev Go.RowKit Go.WideShapes Go.ChangeShapes
theorem own_ : ownKnob Try.prog.godebug = none := by kernel_rfl
theorem laidOut_ : laidOutB Try.prog = true := by kernel_rfl

theorem flat_take6 (xs : List Bk) (n : Nat) : (flat encK xs).take (n * 6) = flat encK (xs.take n) := by
  induction xs generalizing n with
  | nil => simp [flat]
  | cons x r ih =>
    cases n with
    | zero => simp [flat]
    | succ n =>
      have e : (n + 1) * 6 = n * 6 + 1 + 1 + 1 + 1 + 1 + 1 := by omega
      simp only [flat, List.flatMap_cons, List.take_succ_cons, e] at ih ⊢
      rw [show encK x = [.int .i64 x.1, .int .i64 x.2.1, .int .u32 x.2.2.1, .int .i64 x.2.2.2.1, .int .i64 x.2.2.2.2.1, .bool x.2.2.2.2.2.1] from rfl]
      simp only [List.cons_append, List.nil_append, List.take_succ_cons]
      rw [ih n]
theorem ksrc_take {B : World} {h : Own} {A : Option Addr} {l : List Bk} (hl : Src B h A l.length 6 (flat encK l)) (n : Nat) : Src B h A (l.take n).length 6 (flat encK (l.take n)) := by
  have := hl.take (min n l.length) (by omega)
  rw [flat_take6] at this
  rw [List.length_take, List.take_eq_take_min]
  exact this
theorem sum_snoc (ps : List PL) (f : PL → Nat) (i : Int) (h0 : 0 ≤ i) (h1 : i < ps.length) : ((ps.take (i + 1).toNat).map f).sum = ((ps.take i.toNat).map f).sum + f (lget ps i) := by
  rw [take_one f ps i h0 h1, List.sum_append]; simp

theorem lives19_spec (B : World) (h : Own)  : Tri Try.prog B 12 [] h fun v h' => h = h' ∧ v = .bool true := by
  have hlf := lives_fill
  refine Tri.enter (n := 28) Try.func12 rfl rfl rfl ?_
  try dsimp only [argsE]
  refine AK.seq ?_
  refine AK.region ?_
  refine AO.val (RV.assign rfl) (.none rfl) rfl ?_
  refine AO.nil ?_
  refine AK.seq ?_
  refine AK.region ?_
  refine AO.val (RV.build rfl .nil) (.none rfl) rfl ?_
  refine AO.val (RV.build rfl (.cons rfl rfl rfl rfl (.cons rfl rfl rfl rfl .nil))) (.none rfl) rfl ?_
  refine AO.eff (EF.buildSlice rfl rfl rfl (.cons rfl rfl rfl rfl .nil)) (.none rfl) rfl ?_
  rintro _ _ ⟨b6, hf6, rfl, rfl⟩
  refine AO.eff (EF.callF rfl (mfill_spec (cap := 1) B _ 0 0 7 ([(4, 0, 0, 1, 0, false, ())] : List Bk) (Src.of_new (el := 39) (cs := encK (4, 0, 0, 1, 0, false, ())) List.mem_cons_self 1 6 (Nat.le_refl _)) (by intro b hb; rw [List.mem_singleton.1 hb]; exact ⟨⟨by show (-9223372036854775808 : Int) ≤ 4; omega, by show (4 : Int) ≤ 9223372036854775807; omega⟩, ⟨by show (-9223372036854775808 : Int) ≤ 1; omega, by show (1 : Int) ≤ 9223372036854775807; omega⟩⟩) (by simp) (by simp))) (.none rfl) rfl ?_
  rintro _ _ ⟨A7, c7, p7, rfl, hr7, hc7, rfl⟩
  rw [show ([(4, 0, 0, 1, 0, false, ())] : List Bk).map prK = [(4, 1)] from rfl] at *
  refine AO.val (RV.assign rfl) (.none rfl) rfl ?_
  refine AO.nil ?_
  refine AK.seq ?_
  refine AK.region ?_
  refine AO.val (RV.move rfl) (.none rfl) rfl ?_
  refine AO.eff (EF.callF rfl (pick_spec (cap := c7) B _ (fillS 0 0 7 [(4, 1)]) (hr7.src (B := B) (h := p7) (fun x hx => hx)).sub (by omega) 30 (by decide))) (.none rfl) rfl ?_
  rintro _ _ ⟨rfl, rfl⟩
  rw [if_neg (by omega), show (30 : Int) % ((fillS 0 0 7 [(4, 1)]).length : Int) = 2 by rw [hlf.1]; decide, hlf.2.2, show decide ((fillS 0 0 7 [(4, 1)]).length ≠ 0) = true from decide_eq_true (by omega)]
  refine AO.val (RV.move rfl) (.none rfl) rfl ?_
  refine AO.val (RV.extract rfl rfl) (.none rfl) rfl ?_
  refine AO.val (RV.extract rfl rfl) (.none rfl) rfl ?_
  refine AO.val (RV.assign rfl) (.none rfl) rfl ?_
  refine AO.val (RV.assign rfl) (.none rfl) rfl ?_
  refine AO.nil ?_
  refine AK.seq ?_
  refine AK.region ?_
  refine AO.val (RV.move rfl) (.none rfl) rfl ?_
  refine AO.val (RV.lenS rfl) (.none rfl) rfl ?_
  refine AO.val ((RV.eql rfl rfl).to (v' := .bool true) (by rw [hlf.1]; rfl)) (.none rfl) rfl ?_
  refine AO.val (RV.move rfl) (.none rfl) rfl ?_
  refine AO.val (RV.move rfl) (.some rfl rfl rfl rfl) rfl ?_
  refine AO.eff (EF.callF rfl (mcount_spec (cap := c7) B _ (fillS 0 0 7 [(4, 1)]) (hr7.src (B := B) (h := p7) (fun x hx => hx)).sub (by omega) 4)) (.some rfl rfl rfl rfl) rfl ?_
  rintro _ _ ⟨rfl, rfl⟩
  rw [hlf.2.1]
  refine AO.val ((RV.eql rfl rfl).to (v' := .bool true) (by rfl)) (.some rfl rfl rfl rfl) rfl ?_
  refine AO.val (RV.pickT rfl rfl) (.none rfl) rfl ?_
  refine AO.val (RV.move rfl) (.none rfl) rfl ?_
  refine AO.val (RV.move rfl) (.some rfl rfl rfl rfl) rfl ?_
  refine AO.val ((RV.eql rfl rfl).to (v' := .bool true) (by rfl)) (.some rfl rfl rfl rfl) rfl ?_
  refine AO.val (RV.pickT rfl rfl) (.none rfl) rfl ?_
  refine AO.val (RV.move rfl) (.none rfl) rfl ?_
  refine AO.val (RV.move rfl) (.some rfl rfl rfl rfl) rfl ?_
  refine AO.val (RV.pickT rfl rfl) (.none rfl) rfl ?_
  refine AO.val (RV.assign rfl) (.none rfl) rfl ?_
  refine AO.nil ?_
  -- at 
  refine AK.ret (h' := h) Try.func12 (.tmp rfl .nil) ?_ (by exact SubO.sub)
  exact ⟨rfl, rfl⟩

set_option maxHeartbeats 800000 in
theorem fills_law (B : World) (h : Own) (lo hi m : Int) {A : Option Addr} {cap : Nat} (l : List Bk) (hl : Src B h A l.length 6 (flat encK l)) (hid : ∀ b ∈ l, BkOk b) (hcap : l.length ≤ cap) (n id : Int) (hn : 0 ≤ n ∧ n ≤ 18446744073709551615) : Tri Try.prog B 3 [.agg #[.int .u64 lo, .int .u64 hi], .int .i64 m, .slice A l.length cap, .int .u64 n, .int .i64 id] h fun v h' => v = .bool true := by
  have htk : Src B h A (l.take (20 : Int).toNat).length 6 (flat encK (l.take (20 : Int).toNat)) := ksrc_take hl _
  have htn : (l.take (20 : Int).toNat).length ≤ 20 := by rw [List.length_take]; exact Nat.min_le_left _ _
  have htc : (l.take (20 : Int).toNat).length ≤ cap := by rw [List.length_take]; omega
  have hti : ∀ b ∈ (l.take (20 : Int).toNat), BkOk b := fun b hb => hid b (List.mem_of_mem_take hb)
  have hfl := fillS_len lo hi m ((l.take (20 : Int).toNat).map prK)
  refine Tri.enter (n := 93) Try.func3 rfl rfl rfl ?_
  simp only [argsE, Nat.reduceAdd]
  try dsimp only [argsE]
  refine AK.seq ?_
  refine AK.region ?_
  refine AO.eff (EF.box rfl rfl) (.none rfl) rfl ?_
  rintro _ _ ⟨b5, hf5, rfl, rfl⟩
  refine AO.val (RV.assign rfl) (.none rfl) rfl ?_
  refine AO.nil ?_
  refine AK.seq ?_
  refine AK.region ?_
  refine AO.val (RV.move rfl) (.none rfl) rfl ?_
  refine AO.eff (EF.callF rfl (kfew_spec B _ l 20 (by decide) hcap)) (.none rfl) rfl ?_
  rintro _ _ ⟨rfl, rfl⟩
  refine AO.val (RV.assign rfl) (.none rfl) rfl ?_
  refine AO.nil ?_
  refine AK.seq ?_
  refine AK.draw [] [] mixed ?_
  refine AD.take 0 rfl (by kernel_rfl) (by first | exact RV.loadAggO rfl rfl (by first | simp | assumption) | exact RV.loadAggP rfl rfl rfl (by first | simp | assumption)) (.none rfl) rfl ?_
  refine AD.takeP 1 rfl (by kernel_rfl) (RV.move rfl) (.none rfl) rfl ?_
  refine AD.takeP 2 rfl (by kernel_rfl) (RV.move rfl) (.none rfl) rfl ?_
  refine AD.take 4 rfl (by kernel_rfl) (by first | exact RV.loadAggO rfl rfl (by first | simp | assumption) | exact RV.loadAggP rfl rfl rfl (by first | simp | assumption)) (.none rfl) rfl ?_
  refine AD.takeP 5 rfl (by kernel_rfl) (RV.move rfl) (.none rfl) rfl ?_
  refine AD.takeP 6 rfl (by kernel_rfl) (RV.move rfl) (.none rfl) rfl ?_
  refine AD.one 3 (by kernel_rfl) (AE.eff rfl (EF.callF rfl (mfill_spec (cap := cap) B _ lo hi m (l.take (20 : Int).toNat) htk.sub hti htc (by omega))) (.none rfl) rfl ?_)
  rintro _ _ ⟨A22, c22, p22, rfl, hr22, hc22, rfl⟩
  refine ⟨(by first | exact .inr fun x hx hM => hx | exact .inr fun x hx hM => List.mem_cons_of_mem _ hx | exact .inr fun x hx hM => List.mem_append_right _ hx), ?_⟩
  refine AD.one 7 (by kernel_rfl) (AE.eff rfl (EF.callF rfl (rfill_spec (cap := cap) B _ lo hi m (l.take (20 : Int).toNat) htk.sub hti htc (by omega))) (.none rfl) rfl ?_)
  rintro _ _ ⟨A26, c26, p26, rfl, hr26, hc26, rfl⟩
  have hs26 := hr26.src (B := B) (h := p26) (fun x hx => hx)
  refine ⟨(by first | exact .inr fun x hx hM => hx | exact .inr fun x hx hM => List.mem_cons_of_mem _ hx | exact .inr fun x hx hM => List.mem_append_right _ hx), ?_⟩
  refine AD.takeP 8 rfl (by kernel_rfl) (RV.assign rfl) (.none rfl) rfl ?_
  refine AD.takeP 9 rfl (by kernel_rfl) (RV.assign rfl) (.none rfl) rfl ?_
  refine AD.done (by kernel_rfl) ?_
  refine AK.seq ?_
  refine AK.seq ?_
  refine AK.region ?_
  refine AO.val (RV.move rfl) (.none rfl) rfl ?_
  refine AO.val (RV.move rfl) (.none rfl) rfl ?_
  refine AO.eff (EF.callF rfl (psame_spec (cap := c22) (cap2 := c26) B _ (fillS lo hi m ((l.take (20 : Int).toNat).map prK)) (hr22.src (B := B) (h := p22) (fun x hx => hx)).sub (hr26.src (B := B) (h := p26) (fun x hx => hx)).sub (by omega))) (.none rfl) rfl ?_
  rintro _ _ ⟨rfl, rfl⟩
  refine AO.val (RV.not rfl) (.none rfl) rfl ?_
  refine AO.nil ?_
  refine AK.condF rfl ?_
  refine AK.skip ?_
  refine AK.seq ?_
  refine AK.region ?_
  refine AO.val (RV.assign rfl) (.none rfl) rfl ?_
  refine AO.nil ?_
  refine AK.seq ?_
  refine AK.seq ?_
  refine AK.region ?_
  refine AO.val (RV.assign rfl) (.none rfl) rfl ?_
  refine AO.nil ?_
  refine AK.block ?_
  refine AK.loop (α := Int) (E := fun i => [(3, .int .u64 n), (4, .int .i64 id), (11, .slice A22 (fillS lo hi m ((l.take (20 : Int).toNat).map prK)).length c22), (12, .slice A26 (fillS lo hi m ((l.take (20 : Int).toNat).map prK)).length c26), (13, .int .i64 (((fillS lo hi m ((l.take (20 : Int).toNat).map prK)).take i.toNat).count id : Nat)), (14, .int .i64 i)]) (H := fun i => p26 ++ (p22 ++ h)) (Inv := fun i => 0 ≤ i ∧ i ≤ (fillS lo hi m ((l.take (20 : Int).toNat).map prK)).length) (μ := fun i => ((fillS lo hi m ((l.take (20 : Int).toNat).map prK)).length - i).toNat) 0 ?_ (.cons (by exact rfl) (.cons (by exact rfl) (.cons (by exact rfl) (.cons (by exact rfl) (.cons (by exact rfl) (.cons (by exact rfl) .nil)))))) ?_ ?_
  · exact ⟨by omega, by omega⟩
  · exact List.Sublist.append_left (List.Sublist.append_left SubO.sub _) _
  rintro i ⟨hi0, hi1⟩ hih0
  try dsimp only at hih0 ⊢
  have hcl := List.count_le_length (a := id) (l := (fillS lo hi m ((l.take (20 : Int).toNat).map prK)).take i.toNat)
  rw [List.length_take] at hcl
  refine AK.seq ?_
  refine AK.seq ?_
  refine AK.region ?_
  refine AO.val (RV.move rfl) (.none rfl) rfl ?_
  refine AO.val (RV.move rfl) (.none rfl) rfl ?_
  refine AO.val (RV.lenS rfl) (.none rfl) rfl ?_
  refine AO.val (RV.lss rfl rfl) (.none rfl) rfl ?_
  refine AO.nil ?_
  refine AK.cond rfl ?_ ?_
  · intro hc1
    try simp only [decide_eq_true_eq, decide_eq_false_iff_not, Bool.not_eq_true', Bool.not_eq_false', beq_iff_eq] at hc1
    refine AK.skip ?_
    refine AK.seq ?_
    refine AK.block ?_
    refine AK.seq ?_
    refine AK.region ?_
    refine AO.val (RV.move rfl) (.none rfl) rfl ?_
    refine AO.val (RV.move rfl) (.none rfl) rfl ?_
    refine AO.val (by first | exact RV.indexS rfl rfl (by assumption) (by omega) rfl | exact RV.indexAddr rfl rfl (by omega)) (.none rfl) rfl ?_
    refine AO.val (RV.loadS (enc := Value.int .i64) (l := (fillS lo hi m ((l.take (20 : Int).toNat).map prK))) (i := i) rfl hs26 (by omega) (by simp)) (.none rfl) rfl ?_
    refine AO.val (RV.move rfl) (.none rfl) rfl ?_
    refine AO.val (RV.eql rfl rfl) (.none rfl) rfl ?_
    refine AO.nil ?_
    refine AK.cond rfl ?_ ?_
    · intro hc2
      try simp only [decide_eq_true_eq, decide_eq_false_iff_not, Bool.not_eq_true', Bool.not_eq_false', beq_iff_eq] at hc2
      have hct := hc2
      refine AK.region ?_
      refine AO.val (RV.move rfl) (.none rfl) rfl ?_
      refine AO.val (by first | exact RV.addIn rfl rfl (by omega) | exact RV.add rfl rfl) (.none rfl) rfl ?_
      refine AO.val (RV.assign rfl) (.none rfl) rfl ?_
      refine AO.nil ?_
      refine AK.inBlock ?_
      refine AK.region ?_
      refine AO.val (RV.move rfl) (.none rfl) rfl ?_
      refine AO.val (by first | exact RV.addIn rfl rfl (by omega) | exact RV.add rfl rfl) (.none rfl) rfl ?_
      refine AO.val (RV.assign rfl) (.none rfl) rfl ?_
      refine AO.nil ?_
      -- round ends at L0TT
      have hts := take_snoc (fillS lo hi m ((l.take (20 : Int).toNat).map prK)) i hi0 (by omega)
      refine AK.weak (.cons (by exact rfl) (.cons (by exact rfl) (.cons (by exact rfl) (.cons (by exact rfl) (.cons (by rw [hts, List.count_append, List.count_singleton]; rw [if_pos (by simpa using hct)]; exact rfl) (.cons (by exact rfl) .nil)))))) (by first | exact SubO.sub | exact List.Sublist.refl _ | exact .cons _ (List.Sublist.refl _) | exact .cons _ (.cons _ (List.Sublist.refl _)) | exact .cons _ (.cons _ (.cons _ (List.Sublist.refl _)))) (hih0 (i + 1) ?_ ?_)
      · try dsimp only
        exact ⟨by omega, by omega⟩
      · try dsimp only
        omega
    · intro hc2
      try simp only [decide_eq_true_eq, decide_eq_false_iff_not, Bool.not_eq_true', Bool.not_eq_false', beq_iff_eq] at hc2
      have hct := hc2
      refine AK.skip ?_
      refine AK.inBlock ?_
      refine AK.region ?_
      refine AO.val (RV.move rfl) (.none rfl) rfl ?_
      refine AO.val (by first | exact RV.addIn rfl rfl (by omega) | exact RV.add rfl rfl) (.none rfl) rfl ?_
      refine AO.val (RV.assign rfl) (.none rfl) rfl ?_
      refine AO.nil ?_
      -- round ends at L0TF
      have hts := take_snoc (fillS lo hi m ((l.take (20 : Int).toNat).map prK)) i hi0 (by omega)
      refine AK.weak (.cons (by exact rfl) (.cons (by exact rfl) (.cons (by exact rfl) (.cons (by exact rfl) (.cons (by rw [hts, List.count_append, List.count_singleton]; rw [if_neg (by simpa using hct)]; exact rfl) (.cons (by exact rfl) .nil)))))) (by first | exact SubO.sub | exact List.Sublist.refl _ | exact .cons _ (List.Sublist.refl _) | exact .cons _ (.cons _ (List.Sublist.refl _)) | exact .cons _ (.cons _ (.cons _ (List.Sublist.refl _)))) (hih0 (i + 1) ?_ ?_)
      · try dsimp only
        exact ⟨by omega, by omega⟩
      · try dsimp only
        omega
  · intro hc1
    try simp only [decide_eq_true_eq, decide_eq_false_iff_not, Bool.not_eq_true', Bool.not_eq_false', beq_iff_eq] at hc1
    have hfi : (fillS lo hi m ((l.take (20 : Int).toNat).map prK)).take i.toNat = (fillS lo hi m ((l.take (20 : Int).toNat).map prK)) := List.take_of_length_le (by omega)
    rw [hfi]
    refine AK.exit rfl ?_
    refine AK.seq ?_
    refine AK.region ?_
    refine AO.val (RV.move rfl) (.none rfl) rfl ?_
    refine AO.val (RV.move rfl) (.none rfl) rfl ?_
    refine AO.eff (EF.callF rfl (pick_spec (cap := c22) B _ (fillS lo hi m ((l.take (20 : Int).toNat).map prK)) (hr22.src (B := B) (h := p22) (fun x hx => hx)).sub (by omega) n hn)) (.none rfl) rfl ?_
    rintro _ _ ⟨rfl, rfl⟩
    refine AO.val (RV.move rfl) (.none rfl) rfl ?_
    refine AO.val (RV.extract rfl rfl) (.none rfl) rfl ?_
    refine AO.val (RV.extract rfl rfl) (.none rfl) rfl ?_
    refine AO.val (RV.assign rfl) (.none rfl) rfl ?_
    refine AO.val (RV.assign rfl) (.none rfl) rfl ?_
    refine AO.nil ?_
    refine AK.seq ?_
    refine AK.seq ?_
    refine AK.region ?_
    refine AO.val (RV.move rfl) (.none rfl) rfl ?_
    refine AO.val (RV.lenS rfl) (.none rfl) rfl ?_
    refine AO.val (RV.eql rfl rfl) (.none rfl) rfl ?_
    refine AO.nil ?_
    refine AK.cond rfl ?_ ?_
    · intro hc3
      try simp only [decide_eq_true_eq, decide_eq_false_iff_not, Bool.not_eq_true', Bool.not_eq_false', beq_iff_eq] at hc3
      have hz : (fillS lo hi m ((l.take (20 : Int).toNat).map prK)) = [] := List.eq_nil_of_length_eq_zero (by omega)
      refine AK.seq ?_
      refine AK.region ?_
      refine AO.val (RV.move rfl) (.none rfl) rfl ?_
      refine AO.val ((RV.eql rfl rfl).to (v' := .bool true) (by rw [if_pos (by omega)]; rfl)) (.none rfl) rfl ?_
      refine AO.val (RV.move rfl) (.none rfl) rfl ?_
      refine AO.val (RV.move rfl) (.some rfl rfl rfl rfl) rfl ?_
      refine AO.val ((RV.not rfl).to (v' := .bool true) (by rw [decide_eq_false (by omega)]; rfl)) (.some rfl rfl rfl rfl) rfl ?_
      refine AO.val (RV.pickT rfl rfl) (.none rfl) rfl ?_
      refine AO.val (RV.move rfl) (.none rfl) rfl ?_
      refine AO.val (RV.move rfl) (.some rfl rfl rfl rfl) rfl ?_
      refine AO.val (RV.move rfl) (.some rfl rfl rfl rfl) rfl ?_
      refine AO.eff (EF.callF rfl (mcount_spec (cap := c22) B _ (fillS lo hi m ((l.take (20 : Int).toNat).map prK)) (hr22.src (B := B) (h := p22) (fun x hx => hx)).sub (by omega) id)) (.some rfl rfl rfl rfl) rfl ?_
      rintro _ _ ⟨rfl, rfl⟩
      refine AO.val ((RV.eql rfl rfl).to (v' := .bool true) (by rw [hz]; rfl)) (.some rfl rfl rfl rfl) rfl ?_
      refine AO.val (RV.pickT rfl rfl) (.none rfl) rfl ?_
      refine AO.val (RV.move rfl) (.none rfl) rfl ?_
      refine AO.eff (EF.callF rfl (lives19_spec B _)) (.some rfl rfl rfl rfl) rfl ?_
      rintro _ _ ⟨rfl, rfl⟩
      refine AO.val (RV.pickT rfl rfl) (.none rfl) rfl ?_
      refine AO.val (RV.assign rfl) (.none rfl) rfl ?_
      refine AO.nil ?_
      -- at L0FT
      clear hih0
      refine AK.ret (h' := []) Try.func3 (.tmp rfl .nil) ?_ (List.nil_sublist _)
      rfl
    · intro hc3
      try simp only [decide_eq_true_eq, decide_eq_false_iff_not, Bool.not_eq_true', Bool.not_eq_false', beq_iff_eq] at hc3
      have hr0 := Int.emod_nonneg n (show ((fillS lo hi m ((l.take (20 : Int).toNat).map prK)).length : Int) ≠ 0 by omega)
      have hr1 := Int.emod_lt_of_pos n (show 0 < ((fillS lo hi m ((l.take (20 : Int).toNat).map prK)).length : Int) by omega)
      refine AK.skip ?_
      refine AK.seq ?_
      refine AK.region ?_
      refine AO.val ((RV.move rfl).to (v' := .bool true) (by rw [decide_eq_true (by omega)])) (.none rfl) rfl ?_
      refine AO.val (RV.move rfl) (.none rfl) rfl ?_
      refine AO.val (RV.move rfl) (.some rfl rfl rfl rfl) rfl ?_
      refine AO.val (RV.move rfl) (.some rfl rfl rfl rfl) rfl ?_
      refine AO.val (RV.move rfl) (.some rfl rfl rfl rfl) rfl ?_
      refine AO.val (RV.move rfl) (.some rfl rfl rfl rfl) rfl ?_
      refine AO.val (RV.lenS rfl) (.some rfl rfl rfl rfl) rfl ?_
      refine AO.val (RV.convIn rfl (by simp only [kb]; omega)) (.some rfl rfl rfl rfl) rfl ?_
      refine AO.val (RV.remIn rfl rfl (by omega)) (.some rfl rfl rfl rfl) rfl ?_
      refine AO.val (RV.convIn rfl (by simp only [kb]; omega)) (.some rfl rfl rfl rfl) rfl ?_
      refine AO.val (RV.indexS rfl rfl hs26 (by omega) rfl) (.some rfl rfl rfl rfl) rfl ?_
      refine AO.val (RV.loadS (enc := Value.int .i64) (l := (fillS lo hi m ((l.take (20 : Int).toNat).map prK))) (i := n % (fillS lo hi m ((l.take (20 : Int).toNat).map prK)).length) rfl hs26 (by omega) (by simp)) (.some rfl rfl rfl rfl) rfl ?_
      refine AO.val ((RV.eql rfl rfl).to (v' := .bool true) (by rw [if_neg (by omega)]; simp)) (.some rfl rfl rfl rfl) rfl ?_
      refine AO.val (RV.pickT rfl rfl) (.none rfl) rfl ?_
      refine AO.val (RV.move rfl) (.none rfl) rfl ?_
      refine AO.val (RV.move rfl) (.some rfl rfl rfl rfl) rfl ?_
      refine AO.val (RV.move rfl) (.some rfl rfl rfl rfl) rfl ?_
      refine AO.eff (EF.callF rfl (mcount_spec (cap := c22) B _ (fillS lo hi m ((l.take (20 : Int).toNat).map prK)) (hr22.src (B := B) (h := p22) (fun x hx => hx)).sub (by omega) id)) (.some rfl rfl rfl rfl) rfl ?_
      rintro _ _ ⟨rfl, rfl⟩
      refine AO.val (RV.move rfl) (.some rfl rfl rfl rfl) rfl ?_
      refine AO.val ((RV.eql rfl rfl).to (v' := .bool true) (by simp)) (.some rfl rfl rfl rfl) rfl ?_
      refine AO.val (RV.pickT rfl rfl) (.none rfl) rfl ?_
      refine AO.val (RV.move rfl) (.none rfl) rfl ?_
      refine AO.eff (EF.callF rfl (lives19_spec B _)) (.some rfl rfl rfl rfl) rfl ?_
      rintro _ _ ⟨rfl, rfl⟩
      refine AO.val (RV.pickT rfl rfl) (.none rfl) rfl ?_
      refine AO.val (RV.assign rfl) (.none rfl) rfl ?_
      refine AO.nil ?_
      -- at L0FF
      clear hih0
      refine AK.ret (h' := []) Try.func3 (.tmp rfl .nil) ?_ (List.nil_sublist _)
      rfl

theorem parts_law (B : World) (h : Own) (lo hi m : Int) {A : Option Addr} {cap : Nat} (l : List Bk) (hl : Src B h A l.length 6 (flat encK l)) (hid : ∀ b ∈ l, BkOk b) (hcap : l.length ≤ cap) : Tri Try.prog B 5 [.agg #[.int .u64 lo, .int .u64 hi], .int .i64 m, .slice A l.length cap] h fun v h' => v = .bool true := by
  have htk : Src B h A (l.take (20 : Int).toNat).length 6 (flat encK (l.take (20 : Int).toNat)) := ksrc_take hl _
  have htn : (l.take (20 : Int).toNat).length ≤ 20 := by rw [List.length_take]; exact Nat.min_le_left _ _
  have htc : (l.take (20 : Int).toNat).length ≤ cap := by rw [List.length_take]; omega
  have hti : ∀ b ∈ (l.take (20 : Int).toNat), BkOk b := fun b hb => hid b (List.mem_of_mem_take hb)
  have hfl := fillS_len lo hi m ((l.take (20 : Int).toNat).map prK)
  refine Tri.enter (n := 22) Try.func5 rfl rfl rfl ?_
  simp only [argsE, Nat.reduceAdd]
  try dsimp only [argsE]
  refine AK.seq ?_
  refine AK.region ?_
  refine AO.eff (EF.box rfl rfl) (.none rfl) rfl ?_
  rintro _ _ ⟨b3, hf3, rfl, rfl⟩
  refine AO.val (RV.assign rfl) (.none rfl) rfl ?_
  refine AO.nil ?_
  refine AK.seq ?_
  refine AK.region ?_
  refine AO.val (RV.move rfl) (.none rfl) rfl ?_
  refine AO.eff (EF.callF rfl (kfew_spec B _ l 20 (by decide) hcap)) (.none rfl) rfl ?_
  rintro _ _ ⟨rfl, rfl⟩
  refine AO.val (RV.assign rfl) (.none rfl) rfl ?_
  refine AO.nil ?_
  refine AK.seq ?_
  refine AK.draw [] [] mixed ?_
  refine AD.take 0 rfl (by kernel_rfl) (by first | exact RV.loadAggO rfl rfl (by first | simp | assumption) | exact RV.loadAggP rfl rfl rfl (by first | simp | assumption)) (.none rfl) rfl ?_
  refine AD.takeP 1 rfl (by kernel_rfl) (RV.move rfl) (.none rfl) rfl ?_
  refine AD.takeP 2 rfl (by kernel_rfl) (RV.move rfl) (.none rfl) rfl ?_
  refine AD.take 4 rfl (by kernel_rfl) (by first | exact RV.loadAggO rfl rfl (by first | simp | assumption) | exact RV.loadAggP rfl rfl rfl (by first | simp | assumption)) (.none rfl) rfl ?_
  refine AD.takeP 5 rfl (by kernel_rfl) (RV.move rfl) (.none rfl) rfl ?_
  refine AD.takeP 6 rfl (by kernel_rfl) (RV.move rfl) (.none rfl) rfl ?_
  refine AD.one 3 (by kernel_rfl) (AE.eff rfl (EF.callF rfl (mfill_spec (cap := cap) B _ lo hi m (l.take (20 : Int).toNat) htk.sub hti htc (by omega))) (.none rfl) rfl ?_)
  rintro _ _ ⟨A12, c12, p12, rfl, hr12, hc12, rfl⟩
  refine ⟨(by first | exact .inr fun x hx hM => hx | exact .inr fun x hx hM => List.mem_cons_of_mem _ hx | exact .inr fun x hx hM => List.mem_append_right _ hx), ?_⟩
  refine AD.one 7 (by kernel_rfl) (AE.eff rfl (EF.callF rfl (rparts_spec (cap := cap) B _ (l.take (20 : Int).toNat) htk.sub hti htc (by omega))) (.none rfl) rfl ?_)
  rintro _ _ ⟨A16, c16, pb, bs, rfl, hrb, hcb, hbp, hsub, rfl⟩
  refine ⟨(by first | exact .inr fun x hx hM => hx | exact .inr fun x hx hM => List.mem_cons_of_mem _ hx | exact .inr fun x hx hM => List.mem_append_right _ hx), ?_⟩
  refine AD.one 8 (by kernel_rfl) (AE.eff rfl (EF.callF rfl (mfill_spec (cap := c16) B _ lo hi m bs (hrb.src (B := B) (h := pb) (fun x hx => hx)).sub (fun b hb => hti b (hsub b hb)) hcb (by have := parts_len ((l.take (20 : Int).toNat).map prK); rw [← hbp, List.length_map, List.length_map] at this; omega))) (.none rfl) rfl ?_)
  rintro _ _ ⟨A17, c17, p17, rfl, hr17, hc17, rfl⟩
  rw [hbp, fillS_parts] at hr17 hc17 ⊢
  refine ⟨(by first | exact .inr fun x hx hM => hx | exact .inr fun x hx hM => List.mem_cons_of_mem _ hx | exact .inr fun x hx hM => List.mem_append_right _ hx), ?_⟩
  refine AD.one 9 (by kernel_rfl) (AE.eff rfl (EF.callF rfl (psame_spec (cap := c12) (cap2 := c17) B _ (fillS lo hi m ((l.take (20 : Int).toNat).map prK)) (hr12.src (B := B) (h := p12) (fun x hx => hx)).sub (hr17.src (B := B) (h := p17) (fun x hx => hx)).sub (by omega))) (.none rfl) rfl ?_)
  rintro _ _ ⟨rfl, rfl⟩
  refine ⟨(by first | exact .inr fun x hx hM => hx | exact .inr fun x hx hM => List.mem_cons_of_mem _ hx | exact .inr fun x hx hM => List.mem_append_right _ hx), ?_⟩
  refine AD.takeP 10 rfl (by kernel_rfl) (RV.move rfl) (.none rfl) rfl ?_
  refine AD.one 11 (by kernel_rfl) (AE.eff rfl (EF.callF rfl (lives19_spec B _)) (.some rfl rfl rfl rfl) rfl ?_)
  rintro _ _ ⟨rfl, rfl⟩
  refine ⟨(by first | exact .inr fun x hx hM => hx | exact .inr fun x hx hM => List.mem_cons_of_mem _ hx | exact .inr fun x hx hM => List.mem_append_right _ hx), ?_⟩
  refine AD.takeP 12 rfl (by kernel_rfl) (RV.pickT rfl rfl) (.none rfl) rfl ?_
  refine AD.takeP 13 rfl (by kernel_rfl) (RV.assign rfl) (.none rfl) rfl ?_
  refine AD.done (by kernel_rfl) ?_
  -- at 
  refine AK.ret (h' := []) Try.func5 (.tmp rfl .nil) ?_ (List.nil_sublist _)
  rfl

set_option maxHeartbeats 800000 in
theorem shares_law (B : World) (h : Own) (lo hi m : Int) {A : Option Addr} {cap : Nat} (l : List Bk) (hl : Src B h A l.length 6 (flat encK l)) (hid : ∀ b ∈ l, BkOk b) (hcap : l.length ≤ cap) : Tri Try.prog B 4 [.agg #[.int .u64 lo, .int .u64 hi], .int .i64 m, .slice A l.length cap] h fun v h' => v = .bool true := by
  have htk : Src B h A (l.take (20 : Int).toNat).length 6 (flat encK (l.take (20 : Int).toNat)) := ksrc_take hl _
  have htn : (l.take (20 : Int).toNat).length ≤ 20 := by rw [List.length_take]; exact Nat.min_le_left _ _
  have htc : (l.take (20 : Int).toNat).length ≤ cap := by rw [List.length_take]; omega
  have hti : ∀ b ∈ (l.take (20 : Int).toNat), BkOk b := fun b hb => hid b (List.mem_of_mem_take hb)
  have hfl := fillS_len lo hi m ((l.take (20 : Int).toNat).map prK)
  refine Tri.enter (n := 91) Try.func4 rfl rfl rfl ?_
  simp only [argsE, Nat.reduceAdd]
  try dsimp only [argsE]
  refine AK.seq ?_
  refine AK.region ?_
  refine AO.eff (EF.box rfl rfl) (.none rfl) rfl ?_
  rintro _ _ ⟨b3, hf3, rfl, rfl⟩
  refine AO.val (RV.assign rfl) (.none rfl) rfl ?_
  refine AO.nil ?_
  refine AK.seq ?_
  refine AK.region ?_
  refine AO.val (RV.move rfl) (.none rfl) rfl ?_
  refine AO.eff (EF.callF rfl (kfew_spec B _ l 20 (by decide) hcap)) (.none rfl) rfl ?_
  rintro _ _ ⟨rfl, rfl⟩
  refine AO.val (RV.assign rfl) (.none rfl) rfl ?_
  refine AO.nil ?_
  refine AK.seq ?_
  refine AK.region ?_
  refine AO.val (RV.move rfl) (.none rfl) rfl ?_
  refine AO.eff (EF.callF rfl (rparts_spec (cap := cap) B _ (l.take (20 : Int).toNat) htk.sub hti htc (by omega))) (.none rfl) rfl ?_
  rintro _ _ ⟨A15, c15, pb, bs, rfl, hrb, hcb, hbp, hsub, rfl⟩
  refine AO.val (RV.assign rfl) (.none rfl) rfl ?_
  refine AO.nil ?_
  refine AK.seq ?_
  refine AK.seq ?_
  refine AK.region ?_
  refine AO.val (RV.move rfl) (.none rfl) rfl ?_
  refine AO.eff (EF.callF rfl (rprime_spec B _ _)) (.none rfl) rfl ?_
  rintro _ _ ⟨rfl, rfl⟩
  refine AO.val (RV.not rfl) (.none rfl) rfl ?_
  refine AO.val (RV.move rfl) (.none rfl) rfl ?_
  refine AO.caseG rfl rfl rfl ?_ ?_
  · intro hg1
    try simp only [decide_eq_true_eq, decide_eq_false_iff_not, Bool.not_eq_true', Bool.not_eq_false', beq_iff_eq] at hg1
    refine AO.pass (.some rfl rfl rfl rfl) rfl ?_
    refine AO.pass (.some rfl rfl rfl rfl) rfl ?_
    refine AO.pass (.some rfl rfl rfl rfl) rfl ?_
    refine AO.val (RV.pickT rfl rfl) (.none rfl) rfl ?_
    refine AO.nil ?_
    refine AK.condT rfl ?_
    refine AK.seq ?_
    refine AK.region ?_
    refine AO.val (by first | exact RV.loadAggO rfl rfl (by first | simp | assumption) | exact RV.loadAggP rfl rfl rfl (by first | simp | assumption)) (.none rfl) rfl ?_
    refine AO.val (RV.move rfl) (.none rfl) rfl ?_
    refine AO.val (RV.move rfl) (.none rfl) rfl ?_
    refine AO.eff (EF.callF rfl (mfill_spec (cap := cap) B _ lo hi m (l.take (20 : Int).toNat) htk.sub hti htc (by omega))) (.none rfl) rfl ?_
    rintro _ _ ⟨A38, c38, p38, rfl, hr38, hc38, rfl⟩
    refine AO.val (RV.lenS rfl) (.none rfl) rfl ?_
    refine AO.val ((RV.eql rfl rfl).to (v' := .bool true) (by first | (rw [show (fillS lo hi m ((l.take (20 : Int).toNat).map prK)) = [] from by rw [fillS, if_neg (fun h => by simp_all)]]; rfl) | (rw [show (fillS lo hi m ((l.take (20 : Int).toNat).map prK)) = [] from by rw [fillS, if_neg (fun h => h.2 (by rw [← hbp]; exact List.map_eq_nil_iff.2 (List.eq_nil_of_length_eq_zero (by omega))))]]; rfl))) (.none rfl) rfl ?_
    refine AO.val (RV.move rfl) (.none rfl) rfl ?_
    refine AO.eff (EF.callF rfl (lives19_spec B _)) (.some rfl rfl rfl rfl) rfl ?_
    rintro _ _ ⟨rfl, rfl⟩
    refine AO.val (RV.pickT rfl rfl) (.none rfl) rfl ?_
    refine AO.val (RV.assign rfl) (.none rfl) rfl ?_
    refine AO.nil ?_
    -- at t
    refine AK.ret (h' := []) Try.func4 (.tmp rfl .nil) ?_ (List.nil_sublist _)
    rfl
  · intro hg1
    try simp only [decide_eq_true_eq, decide_eq_false_iff_not, Bool.not_eq_true', Bool.not_eq_false', beq_iff_eq] at hg1
    have hpr : prB m = true := by simpa using hg1
    have hm := prB_in hpr
    refine AO.val (RV.move rfl) (.some rfl rfl rfl rfl) rfl ?_
    refine AO.val (RV.lenS rfl) (.some rfl rfl rfl rfl) rfl ?_
    refine AO.val (RV.eql rfl rfl) (.some rfl rfl rfl rfl) rfl ?_
    refine AO.val (RV.pickF rfl rfl) (.none rfl) rfl ?_
    refine AO.nil ?_
    refine AK.cond rfl ?_ ?_
    · intro hc2
      try simp only [decide_eq_true_eq, decide_eq_false_iff_not, Bool.not_eq_true', Bool.not_eq_false', beq_iff_eq] at hc2
      refine AK.seq ?_
      refine AK.region ?_
      refine AO.val (by first | exact RV.loadAggO rfl rfl (by first | simp | assumption) | exact RV.loadAggP rfl rfl rfl (by first | simp | assumption)) (.none rfl) rfl ?_
      refine AO.val (RV.move rfl) (.none rfl) rfl ?_
      refine AO.val (RV.move rfl) (.none rfl) rfl ?_
      refine AO.eff (EF.callF rfl (mfill_spec (cap := cap) B _ lo hi m (l.take (20 : Int).toNat) htk.sub hti htc (by omega))) (.none rfl) rfl ?_
      rintro _ _ ⟨A38, c38, p38, rfl, hr38, hc38, rfl⟩
      refine AO.val (RV.lenS rfl) (.none rfl) rfl ?_
      refine AO.val ((RV.eql rfl rfl).to (v' := .bool true) (by first | (rw [show (fillS lo hi m ((l.take (20 : Int).toNat).map prK)) = [] from by rw [fillS, if_neg (fun h => by simp_all)]]; rfl) | (rw [show (fillS lo hi m ((l.take (20 : Int).toNat).map prK)) = [] from by rw [fillS, if_neg (fun h => h.2 (by rw [← hbp]; exact List.map_eq_nil_iff.2 (List.eq_nil_of_length_eq_zero (by omega))))]]; rfl))) (.none rfl) rfl ?_
      refine AO.val (RV.move rfl) (.none rfl) rfl ?_
      refine AO.eff (EF.callF rfl (lives19_spec B _)) (.some rfl rfl rfl rfl) rfl ?_
      rintro _ _ ⟨rfl, rfl⟩
      refine AO.val (RV.pickT rfl rfl) (.none rfl) rfl ?_
      refine AO.val (RV.assign rfl) (.none rfl) rfl ?_
      refine AO.nil ?_
      -- at fT
      refine AK.ret (h' := []) Try.func4 (.tmp rfl .nil) ?_ (List.nil_sublist _)
      rfl
    · intro hc2
      try simp only [decide_eq_true_eq, decide_eq_false_iff_not, Bool.not_eq_true', Bool.not_eq_false', beq_iff_eq] at hc2
      have hne : partsS ((l.take (20 : Int).toNat).map prK) ≠ [] := by rw [← hbp]; intro e; have := List.map_eq_nil_iff.1 e; subst this; exact absurd hc2 (by simp)
      have hpl1 : bs.length = (partsS ((l.take (20 : Int).toNat).map prK)).length := by rw [← hbp, List.length_map]
      have hsb := hrb.src (B := B) (h := pb) (fun x hx => hx)
      have hpos : 0 < (partsS ((l.take (20 : Int).toNat).map prK)).length := List.length_pos_iff.2 hne
      have hpln := parts_len ((l.take (20 : Int).toNat).map prK)
      rw [List.length_map] at hpln
      have hrl := rounds_le m ((l.take (20 : Int).toNat).map prK)
      refine AK.skip ?_
      refine AK.seq ?_
      refine AK.region ?_
      refine AO.val (by first | exact RV.loadAggO rfl rfl (by first | simp | assumption) | exact RV.loadAggP rfl rfl rfl (by first | simp | assumption)) (.none rfl) rfl ?_
      refine AO.val (RV.move rfl) (.none rfl) rfl ?_
      refine AO.val (RV.move rfl) (.none rfl) rfl ?_
      refine AO.eff (EF.callF rfl (mfill_spec (cap := cap) B _ lo hi m (l.take (20 : Int).toNat) htk.sub hti htc (by omega))) (.none rfl) rfl ?_
      rintro _ _ ⟨A38, c38, p38, rfl, hr38, hc38, rfl⟩
      refine AO.val (RV.assign rfl) (.none rfl) rfl ?_
      refine AO.nil ?_
      refine AK.seq ?_
      refine AK.seq ?_
      refine AK.region ?_
      refine AO.val (RV.assign rfl) (.none rfl) rfl ?_
      refine AO.nil ?_
      refine AK.block ?_
      refine AK.loop (α := Int) (E := fun rounds => [(1, .int .i64 m), (7, .slice A15 bs.length c15), (8, .slice A38 (fillS lo hi m ((l.take (20 : Int).toNat).map prK)).length c38), (9, .int .i64 rounds)]) (H := fun rounds => p38 ++ (pb ++ h)) (Inv := fun rounds => 0 ≤ rounds ∧ rounds ≤ (roundsS m ((l.take (20 : Int).toNat).map prK) : Int)) (μ := fun rounds => ((roundsS m ((l.take (20 : Int).toNat).map prK) : Int) + 1 - rounds).toNat) 0 ?_ (.cons (by exact rfl) (.cons (by exact rfl) (.cons (by exact rfl) (.cons (by exact rfl) .nil)))) ?_ ?_
      · exact ⟨by omega, by omega⟩
      · exact List.Sublist.append_left SubO.sub _
      rintro rounds ⟨hr0, hr1⟩ hih0
      try dsimp only at hih0 ⊢
      refine AK.seq ?_
      refine AK.seq ?_
      refine AK.region ?_
      refine AO.val (RV.move rfl) (.none rfl) rfl ?_
      refine AO.val (RV.move rfl) (.none rfl) rfl ?_
      refine AO.val (RV.leq rfl rfl) (.none rfl) rfl ?_
      refine AO.nil ?_
      refine AK.cond rfl ?_ ?_
      · intro hc3
        try simp only [decide_eq_true_eq, decide_eq_false_iff_not, Bool.not_eq_true', Bool.not_eq_false', beq_iff_eq] at hc3
        refine AK.skip ?_
        refine AK.seq ?_
        refine AK.block ?_
        refine AK.seq ?_
        refine AK.region ?_
        refine AO.val (RV.assign rfl) (.none rfl) rfl ?_
        refine AO.val (RV.assign rfl) (.none rfl) rfl ?_
        refine AO.nil ?_
        refine AK.seq ?_
        refine AK.seq ?_
        refine AK.region ?_
        refine AO.val (RV.assign rfl) (.none rfl) rfl ?_
        refine AO.nil ?_
        refine AK.block ?_
        refine AK.loop (α := Int × Bool × Int) (E := fun (i, fits, all) => [(1, .int .i64 m), (7, .slice A15 bs.length c15), (8, .slice A38 (fillS lo hi m ((l.take (20 : Int).toNat).map prK)).length c38), (9, .int .i64 rounds), (10, .bool fits), (11, .int .i64 all), (12, .int .i64 i)]) (H := fun (i, fits, all) => p38 ++ (pb ++ h)) (Inv := fun (i, fits, all) => 0 ≤ i ∧ i ≤ bs.length ∧ (rounds = (roundsS m ((l.take (20 : Int).toNat).map prK) : Int) → fits = true) ∧ all = ((((partsS ((l.take (20 : Int).toNat).map prK)).take (i).toNat).map fun p => (fillS lo hi m ((l.take (20 : Int).toNat).map prK)).count p.1).sum : Nat)) (μ := fun (i, fits, all) => (bs.length - i).toNat) (0, true, 0) ?_ (.cons (by exact rfl) (.cons (by exact rfl) (.cons (by exact rfl) (.cons (by exact rfl) (.cons (by exact rfl) (.cons (by exact rfl) (.cons (by exact rfl) .nil))))))) ?_ ?_
        · exact ⟨by omega, by omega, fun _ => rfl, rfl⟩
        · exact (by first | exact SubO.sub | exact List.Sublist.refl _ | exact .cons _ (List.Sublist.refl _) | exact .cons _ (.cons _ (List.Sublist.refl _)) | exact .cons _ (.cons _ (.cons _ (List.Sublist.refl _))))
        rintro ⟨i, fits, all⟩ ⟨hi0, hi1, hft, hall⟩ hih1
        try dsimp only at hih1 ⊢
        have hsl := sum_le_m (lo := lo) (hi := hi) hpr hne i
        refine AK.seq ?_
        refine AK.seq ?_
        refine AK.region ?_
        refine AO.val (RV.move rfl) (.none rfl) rfl ?_
        refine AO.val (RV.move rfl) (.none rfl) rfl ?_
        refine AO.val (RV.lenS rfl) (.none rfl) rfl ?_
        refine AO.val (RV.lss rfl rfl) (.none rfl) rfl ?_
        refine AO.nil ?_
        refine AK.cond rfl ?_ ?_
        · intro hc4
          try simp only [decide_eq_true_eq, decide_eq_false_iff_not, Bool.not_eq_true', Bool.not_eq_false', beq_iff_eq] at hc4
          have hpg : lget (partsS ((l.take (20 : Int).toNat).map prK)) i = prK (lget bs i) := by
            obtain ⟨h2, e⟩ := lget_at (l := bs) (i := i) ⟨hi0, by omega⟩
            rw [e, ← hbp]; simp [lget, List.getD, h2]
          have hpm : prK (lget bs i) ∈ partsS ((l.take (20 : Int).toNat).map prK) := by rw [← hpg]; exact lget_mem ⟨hi0, by omega⟩
          have hwt := weight_in ((parts_good ((l.take (20 : Int).toNat).map prK)).2 _ hpm)
          have hsh := share_in (lo := lo) (hi := hi) hpr hne hpm
          simp only [prK] at hwt hsh
          have hcl := List.count_le_length (a := (lget bs i).1) (l := (fillS lo hi m ((l.take (20 : Int).toNat).map prK)))
          have hss := sum_snoc (partsS ((l.take (20 : Int).toNat).map prK)) (fun p => (fillS lo hi m ((l.take (20 : Int).toNat).map prK)).count p.1) i hi0 (by omega)
          rw [hpg] at hss
          have hmb1 := mul_in (j := rounds) (b := (lget bs i).2.2.2.1) ⟨by omega, by omega⟩ ⟨by omega, by omega⟩
          have hmb2 : 0 ≤ (rounds + 1) * (lget bs i).2.2.2.1 ∧ (rounds + 1) * (lget bs i).2.2.2.1 ≤ 70000 := by rw [Int.add_mul, Int.one_mul]; omega
          refine AK.skip ?_
          refine AK.seq ?_
          refine AK.block ?_
          refine AK.seq ?_
          refine AK.region ?_
          refine AO.val (RV.move rfl) (.none rfl) rfl ?_
          refine AO.val (RV.move rfl) (.none rfl) rfl ?_
          refine AO.val (RV.move rfl) (.none rfl) rfl ?_
          refine AO.val (by first | exact RV.indexS rfl rfl (by assumption) (by omega) rfl | exact RV.indexAddr rfl rfl (by omega)) (.none rfl) rfl ?_
          refine AO.val (by first | exact RV.fieldAddr rfl | exact RV.fieldAddrA rfl) (.none rfl) rfl ?_
          refine AO.val (RV.loadSF (enc := encK) (l := bs) (i := i) (fo := 0) rfl hsb (fun _ => rfl) (by omega) rfl rfl (by simp)) (.none rfl) rfl ?_
          refine AO.eff (EF.callF rfl (mcount_spec (cap := c38) B _ (fillS lo hi m ((l.take (20 : Int).toNat).map prK)) (hr38.src (B := B) (h := p38) (fun x hx => hx)).sub (by omega) (lget bs i).1)) (.none rfl) rfl ?_
          rintro _ _ ⟨rfl, rfl⟩
          refine AO.val (RV.assign rfl) (.none rfl) rfl ?_
          refine AO.nil ?_
          refine AK.seq ?_
          refine AK.region ?_
          refine AO.val (RV.move rfl) (.none rfl) rfl ?_
          refine AO.val (RV.move rfl) (.none rfl) rfl ?_
          refine AO.val (RV.addIn rfl rfl (by omega)) (.none rfl) rfl ?_
          refine AO.val (RV.assign rfl) (.none rfl) rfl ?_
          refine AO.nil ?_
          refine AK.region ?_
          refine AO.val (RV.move rfl) (.none rfl) rfl ?_
          refine AO.val (RV.move rfl) (.none rfl) rfl ?_
          refine AO.caseG rfl rfl rfl ?_ ?_
          · intro hg5
            try simp only [decide_eq_true_eq, decide_eq_false_iff_not, Bool.not_eq_true', Bool.not_eq_false', beq_iff_eq] at hg5
            refine AO.val (RV.move rfl) (.some rfl rfl rfl rfl) rfl ?_
            refine AO.val (RV.move rfl) (.some rfl rfl rfl rfl) rfl ?_
            refine AO.val (RV.move rfl) (.some rfl rfl rfl rfl) rfl ?_
            refine AO.val (RV.move rfl) (.some rfl rfl rfl rfl) rfl ?_
            refine AO.val (by first | exact RV.indexS rfl rfl (by assumption) (by omega) rfl | exact RV.indexAddr rfl rfl (by omega)) (.some rfl rfl rfl rfl) rfl ?_
            refine AO.val (by first | exact RV.fieldAddr rfl | exact RV.fieldAddrA rfl) (.some rfl rfl rfl rfl) rfl ?_
            refine AO.val (RV.loadSF (enc := encK) (l := bs) (i := i) (fo := 3) rfl hsb (fun _ => rfl) (by omega) rfl rfl (by simp)) (.some rfl rfl rfl rfl) rfl ?_
            refine AO.val (RV.mulIn rfl rfl (by omega)) (.some rfl rfl rfl rfl) rfl ?_
            refine AO.val (RV.geq rfl rfl) (.some rfl rfl rfl rfl) rfl ?_
            refine AO.val (RV.pickT rfl rfl) (.none rfl) rfl ?_
            refine AO.val (RV.move rfl) (.none rfl) rfl ?_
            refine AO.caseG rfl rfl rfl ?_ ?_
            · intro hg6
              try simp only [decide_eq_true_eq, decide_eq_false_iff_not, Bool.not_eq_true', Bool.not_eq_false', beq_iff_eq] at hg6
              refine AO.val (RV.move rfl) (.some rfl rfl rfl rfl) rfl ?_
              refine AO.val (RV.move rfl) (.some rfl rfl rfl rfl) rfl ?_
              refine AO.val (by first | exact RV.addIn rfl rfl (by omega) | exact RV.add rfl rfl) (.some rfl rfl rfl rfl) rfl ?_
              refine AO.val (RV.move rfl) (.some rfl rfl rfl rfl) rfl ?_
              refine AO.val (RV.move rfl) (.some rfl rfl rfl rfl) rfl ?_
              refine AO.val (by first | exact RV.indexS rfl rfl (by assumption) (by omega) rfl | exact RV.indexAddr rfl rfl (by omega)) (.some rfl rfl rfl rfl) rfl ?_
              refine AO.val (by first | exact RV.fieldAddr rfl | exact RV.fieldAddrA rfl) (.some rfl rfl rfl rfl) rfl ?_
              refine AO.val (RV.loadSF (enc := encK) (l := bs) (i := i) (fo := 3) rfl hsb (fun _ => rfl) (by omega) rfl rfl (by simp)) (.some rfl rfl rfl rfl) rfl ?_
              refine AO.val (RV.mulIn rfl rfl (by omega)) (.some rfl rfl rfl rfl) rfl ?_
              refine AO.val (RV.leq rfl rfl) (.some rfl rfl rfl rfl) rfl ?_
              refine AO.val (RV.pickT rfl rfl) (.none rfl) rfl ?_
              refine AO.val (RV.assign rfl) (.none rfl) rfl ?_
              refine AO.nil ?_
              refine AK.inBlock ?_
              refine AK.region ?_
              refine AO.val (RV.move rfl) (.none rfl) rfl ?_
              refine AO.val (by first | exact RV.addIn rfl rfl (by omega) | exact RV.add rfl rfl) (.none rfl) rfl ?_
              refine AO.val (RV.assign rfl) (.none rfl) rfl ?_
              refine AO.nil ?_
              -- round ends at fFL0TL1Ttt
              refine AK.weak (.cons (by exact rfl) (.cons (by exact rfl) (.cons (by exact rfl) (.cons (by exact rfl) (.cons (by exact rfl) (.cons (by exact rfl) (.cons (by exact rfl) .nil))))))) (by first | exact SubO.sub | exact List.Sublist.refl _ | exact .cons _ (List.Sublist.refl _) | exact .cons _ (.cons _ (List.Sublist.refl _)) | exact .cons _ (.cons _ (.cons _ (List.Sublist.refl _)))) (hih1 (i + 1, (decide (((fillS lo hi m ((l.take (20 : Int).toNat).map prK)).count (lget bs i).1 : Nat) ≤ (rounds + 1) * (lget bs i).2.2.2.1)), all + ((fillS lo hi m ((l.take (20 : Int).toNat).map prK)).count (lget bs i).1 : Nat)) ?_ ?_)
              · try dsimp only
                refine ⟨by omega, by omega, (fun h => by subst h; exact decide_eq_true hsh.2), ?_⟩
                rw [hss, hall]; exact (Int.natCast_add _ _).symm
              · try dsimp only
                omega
            · intro hg6
              try simp only [decide_eq_true_eq, decide_eq_false_iff_not, Bool.not_eq_true', Bool.not_eq_false', beq_iff_eq] at hg6
              have hgf := hg6
              refine AO.pass (.some rfl rfl rfl rfl) rfl ?_
              refine AO.pass (.some rfl rfl rfl rfl) rfl ?_
              refine AO.pass (.some rfl rfl rfl rfl) rfl ?_
              refine AO.pass (.some rfl rfl rfl rfl) rfl ?_
              refine AO.pass (.some rfl rfl rfl rfl) rfl ?_
              refine AO.pass (.some rfl rfl rfl rfl) rfl ?_
              refine AO.pass (.some rfl rfl rfl rfl) rfl ?_
              refine AO.pass (.some rfl rfl rfl rfl) rfl ?_
              refine AO.pass (.some rfl rfl rfl rfl) rfl ?_
              refine AO.pass (.some rfl rfl rfl rfl) rfl ?_
              refine AO.val (RV.pickF rfl rfl) (.none rfl) rfl ?_
              refine AO.val (RV.assign rfl) (.none rfl) rfl ?_
              refine AO.nil ?_
              refine AK.inBlock ?_
              refine AK.region ?_
              refine AO.val (RV.move rfl) (.none rfl) rfl ?_
              refine AO.val (by first | exact RV.addIn rfl rfl (by omega) | exact RV.add rfl rfl) (.none rfl) rfl ?_
              refine AO.val (RV.assign rfl) (.none rfl) rfl ?_
              refine AO.nil ?_
              -- round ends at fFL0TL1Ttf
              refine AK.weak (.cons (by exact rfl) (.cons (by exact rfl) (.cons (by exact rfl) (.cons (by exact rfl) (.cons (by exact rfl) (.cons (by exact rfl) (.cons (by exact rfl) .nil))))))) (by first | exact SubO.sub | exact List.Sublist.refl _ | exact .cons _ (List.Sublist.refl _) | exact .cons _ (.cons _ (List.Sublist.refl _)) | exact .cons _ (.cons _ (.cons _ (List.Sublist.refl _)))) (hih1 (i + 1, false, all + ((fillS lo hi m ((l.take (20 : Int).toNat).map prK)).count (lget bs i).1 : Nat)) ?_ ?_)
              · try dsimp only
                refine ⟨by omega, by omega, (fun h => by subst h; exact absurd hsh.1 (by simpa using hgf)), ?_⟩
                rw [hss, hall]; exact (Int.natCast_add _ _).symm
              · try dsimp only
                omega
          · intro hg5
            try simp only [decide_eq_true_eq, decide_eq_false_iff_not, Bool.not_eq_true', Bool.not_eq_false', beq_iff_eq] at hg5
            have hgf := hg5
            refine AO.pass (.some rfl rfl rfl rfl) rfl ?_
            refine AO.pass (.some rfl rfl rfl rfl) rfl ?_
            refine AO.pass (.some rfl rfl rfl rfl) rfl ?_
            refine AO.pass (.some rfl rfl rfl rfl) rfl ?_
            refine AO.pass (.some rfl rfl rfl rfl) rfl ?_
            refine AO.pass (.some rfl rfl rfl rfl) rfl ?_
            refine AO.pass (.some rfl rfl rfl rfl) rfl ?_
            refine AO.pass (.some rfl rfl rfl rfl) rfl ?_
            refine AO.pass (.some rfl rfl rfl rfl) rfl ?_
            refine AO.val (RV.pickF rfl rfl) (.none rfl) rfl ?_
            refine AO.val (RV.move rfl) (.none rfl) rfl ?_
            refine AO.pass (.some rfl rfl rfl rfl) rfl ?_
            refine AO.pass (.some rfl rfl rfl rfl) rfl ?_
            refine AO.pass (.some rfl rfl rfl rfl) rfl ?_
            refine AO.pass (.some rfl rfl rfl rfl) rfl ?_
            refine AO.pass (.some rfl rfl rfl rfl) rfl ?_
            refine AO.pass (.some rfl rfl rfl rfl) rfl ?_
            refine AO.pass (.some rfl rfl rfl rfl) rfl ?_
            refine AO.pass (.some rfl rfl rfl rfl) rfl ?_
            refine AO.pass (.some rfl rfl rfl rfl) rfl ?_
            refine AO.pass (.some rfl rfl rfl rfl) rfl ?_
            refine AO.val (RV.pickF rfl rfl) (.none rfl) rfl ?_
            refine AO.val (RV.assign rfl) (.none rfl) rfl ?_
            refine AO.nil ?_
            refine AK.inBlock ?_
            refine AK.region ?_
            refine AO.val (RV.move rfl) (.none rfl) rfl ?_
            refine AO.val (by first | exact RV.addIn rfl rfl (by omega) | exact RV.add rfl rfl) (.none rfl) rfl ?_
            refine AO.val (RV.assign rfl) (.none rfl) rfl ?_
            refine AO.nil ?_
            -- round ends at fFL0TL1Tf
            refine AK.weak (.cons (by exact rfl) (.cons (by exact rfl) (.cons (by exact rfl) (.cons (by exact rfl) (.cons (by exact rfl) (.cons (by exact rfl) (.cons (by exact rfl) .nil))))))) (by first | exact SubO.sub | exact List.Sublist.refl _ | exact .cons _ (List.Sublist.refl _) | exact .cons _ (.cons _ (List.Sublist.refl _)) | exact .cons _ (.cons _ (.cons _ (List.Sublist.refl _)))) (hih1 (i + 1, false, all + ((fillS lo hi m ((l.take (20 : Int).toNat).map prK)).count (lget bs i).1 : Nat)) ?_ ?_)
            · try dsimp only
              refine ⟨by omega, by omega, (fun h => by rw [hft h] at hgf; cases hgf), ?_⟩
              rw [hss, hall]; exact (Int.natCast_add _ _).symm
            · try dsimp only
              omega
        · intro hc4
          try simp only [decide_eq_true_eq, decide_eq_false_iff_not, Bool.not_eq_true', Bool.not_eq_false', beq_iff_eq] at hc4
          have hfi : (partsS ((l.take (20 : Int).toNat).map prK)).take i.toNat = partsS ((l.take (20 : Int).toNat).map prK) := List.take_of_length_le (by omega)
          rw [hfi, share_sum hpr hne] at hall
          refine AK.exit rfl ?_
          refine AK.seq ?_
          refine AK.region ?_
          refine AO.val (RV.move rfl) (.none rfl) rfl ?_
          refine AO.val (RV.move rfl) (.none rfl) rfl ?_
          refine AO.caseG rfl rfl rfl ?_ ?_
          · intro hg7
            try simp only [decide_eq_true_eq, decide_eq_false_iff_not, Bool.not_eq_true', Bool.not_eq_false', beq_iff_eq] at hg7
            refine AO.val (RV.move rfl) (.some rfl rfl rfl rfl) rfl ?_
            refine AO.val (RV.move rfl) (.some rfl rfl rfl rfl) rfl ?_
            refine AO.val (RV.eql rfl rfl) (.some rfl rfl rfl rfl) rfl ?_
            refine AO.val (RV.pickT rfl rfl) (.none rfl) rfl ?_
            refine AO.nil ?_
            refine AK.cond rfl ?_ ?_
            · intro hc8
              try simp only [decide_eq_true_eq, decide_eq_false_iff_not, Bool.not_eq_true', Bool.not_eq_false', beq_iff_eq] at hc8
              refine AK.seq ?_
              refine AK.region ?_
              refine AO.eff (EF.callF rfl (lives19_spec B _)) (.none rfl) rfl ?_
              rintro _ _ ⟨rfl, rfl⟩
              refine AO.val (RV.assign rfl) (.none rfl) rfl ?_
              refine AO.nil ?_
              -- at fFL0TL1FtT
              clear hih0
              clear hih1
              refine AK.ret (h' := []) Try.func4 (.tmp rfl .nil) ?_ (List.nil_sublist _)
              rfl
            · intro hc8
              try simp only [decide_eq_true_eq, decide_eq_false_iff_not, Bool.not_eq_true', Bool.not_eq_false', beq_iff_eq] at hc8
              have hcx := hc8
              refine AK.skip ?_
              refine AK.inBlock ?_
              refine AK.region ?_
              refine AO.val (RV.move rfl) (.none rfl) rfl ?_
              refine AO.val (by first | exact RV.addIn rfl rfl (by omega) | exact RV.add rfl rfl) (.none rfl) rfl ?_
              refine AO.val (RV.assign rfl) (.none rfl) rfl ?_
              refine AO.nil ?_
              -- round ends at fFL0TL1FtF
              have hnr : rounds ≠ (roundsS m ((l.take (20 : Int).toNat).map prK) : Int) := by
                intro h
                have h5 := hft h
                omega
              refine AK.weak (.cons (by exact rfl) (.cons (by exact rfl) (.cons (by exact rfl) (.cons (by exact rfl) .nil)))) (by first | exact SubO.sub | exact List.Sublist.refl _ | exact .cons _ (List.Sublist.refl _) | exact .cons _ (.cons _ (List.Sublist.refl _)) | exact .cons _ (.cons _ (.cons _ (List.Sublist.refl _)))) (hih0 (rounds + 1) ?_ ?_)
              · try dsimp only
                exact ⟨by omega, by omega⟩
              · try dsimp only
                omega
          · intro hg7
            try simp only [decide_eq_true_eq, decide_eq_false_iff_not, Bool.not_eq_true', Bool.not_eq_false', beq_iff_eq] at hg7
            have hcx := hg7
            refine AO.pass (.some rfl rfl rfl rfl) rfl ?_
            refine AO.pass (.some rfl rfl rfl rfl) rfl ?_
            refine AO.pass (.some rfl rfl rfl rfl) rfl ?_
            refine AO.val (RV.pickF rfl rfl) (.none rfl) rfl ?_
            refine AO.nil ?_
            refine AK.condF rfl ?_
            refine AK.skip ?_
            refine AK.inBlock ?_
            refine AK.region ?_
            refine AO.val (RV.move rfl) (.none rfl) rfl ?_
            refine AO.val (by first | exact RV.addIn rfl rfl (by omega) | exact RV.add rfl rfl) (.none rfl) rfl ?_
            refine AO.val (RV.assign rfl) (.none rfl) rfl ?_
            refine AO.nil ?_
            -- round ends at fFL0TL1Ff
            have hnr : rounds ≠ (roundsS m ((l.take (20 : Int).toNat).map prK) : Int) := by
              intro h
              have h5 := hft h
              rw [h5] at hcx; cases hcx
            refine AK.weak (.cons (by exact rfl) (.cons (by exact rfl) (.cons (by exact rfl) (.cons (by exact rfl) .nil)))) (by first | exact SubO.sub | exact List.Sublist.refl _ | exact .cons _ (List.Sublist.refl _) | exact .cons _ (.cons _ (List.Sublist.refl _)) | exact .cons _ (.cons _ (.cons _ (List.Sublist.refl _)))) (hih0 (rounds + 1) ?_ ?_)
            · try dsimp only
              exact ⟨by omega, by omega⟩
            · try dsimp only
              omega
      · intro hc3
        try simp only [decide_eq_true_eq, decide_eq_false_iff_not, Bool.not_eq_true', Bool.not_eq_false', beq_iff_eq] at hc3
        exfalso; omega

set_option maxRecDepth 100000 in
theorem maglevFills_lifted (os : Os) (started : os.Started) (H : Type) (enc : TypeId × Value → H) :
    ReturnsInHanded {} Try.checked os 3 .any (Rows.maglevFillsSpec.pre6 enc Try.prog Try.f3 Rows.maglevFillsRow.domain false) (Rows.maglevFillsSpec.post enc Try.prog Try.f3 false true false false) := by
  refine returnsInHanded_of_change (C := Try.checked) own_ started (by kernel_rfl) Try.func3
    (ChangeSpec.witness6 (enc := enc) (C := Try.checked) false ⟨#[], #[(Value.agg #[(Value.int IntKind.u64 0), (Value.int IntKind.u64 0)]), (Value.int IntKind.i64 0), (Value.slice none 0 0), (Value.int IntKind.u64 0), (Value.int IntKind.i64 0)], []⟩ 8 (by kernel_rfl) (by kernel_rfl) (by kernel_rfl) (by kernel_rfl)) ?_
  intro W base args ds gs before hval0 hW hcnd _
  have hval : ∀ (j : Nat) t v, Try.f3.params[j]? = some t → args[j]? = some v → Value.okWide Try.prog W .any base t v := hval0
  have hW' := hW
  obtain ⟨p, q, hA0, hV, rfl, hfz, hnd⟩ := hW
  have hA : DataW.TrodAll enc Try.prog W 0 (fun _ => true) true Try.f3.params.toList args.toList ds p := hA0
  rw [Try.params3] at hA hval
  obtain ⟨args⟩ := args
  simp only at hA
  obtain ⟨v0, vs0, d0, ds0, p0, q0, e0a, e0b, e0c, t0, r0⟩ := trodAll_cons hA
  obtain ⟨v1, vs1, d1, ds1, p1, q1, e1a, e1b, e1c, t1, r1⟩ := trodAll_cons r0
  obtain ⟨v2, vs2, d2, ds2, p2, q2, e2a, e2b, e2c, t2, r2⟩ := trodAll_cons r1
  obtain ⟨v3, vs3, d3, ds3, p3, q3, e3a, e3b, e3c, t3, r3⟩ := trodAll_cons r2
  obtain ⟨v4, vs4, d4, ds4, p4, q4, e4a, e4b, e4c, t4, r4⟩ := trodAll_cons r3
  subst e0a e0b e0c
  subst e1a e1b e1c
  subst e2a e2b e2c
  subst e3a e3b e3c
  subst e4a e4b e4c
  obtain ⟨rfl, rfl, rfl⟩ := trodAll_nil r4
  obtain ⟨rfl, rfl⟩ := trodVars_none hV
  have hlt := hW'.lt
  have k0 : Value.okWide Try.prog W .any base 24 v0 := hval 0 _ v0 rfl rfl
  obtain ⟨k, w0, hk⟩ := Dec.argA k0 t0 ((.cons (off := 0) (sz := 1) (by rfl) (by kernel_rfl) (Dec.int (t := 22) (k := .u64)) (.cons (off := 1) (sz := 1) (by rfl) (by kernel_rfl) (Dec.int (t := 22) (k := .u64)) .nil))) (by kernel_rfl)
  have k1 : Value.okWide Try.prog W .any base 3 v1 := hval 1 _ v1 rfl rfl
  obtain ⟨m, w1, m_lo, m_hi⟩ := Dec.argI k1 t1
  have k2 : Value.okWide Try.prog W .any base 25 v2 := hval 2 _ v2 rfl rfl
  obtain ⟨l, w2, hl⟩ := Dec.argS k2 t2 ((Dec.struct (t := 39) (.cons (off := 0) (sz := 1) (by rfl) (by kernel_rfl) (Dec.int (t := 3) (k := .i64)) (.cons (off := 1) (sz := 1) (by rfl) (by kernel_rfl) (Dec.int (t := 3) (k := .i64)) (.cons (off := 2) (sz := 1) (by rfl) (by kernel_rfl) (Dec.int (t := 37) (k := .u32)) (.cons (off := 3) (sz := 1) (by rfl) (by kernel_rfl) (Dec.int (t := 3) (k := .i64)) (.cons (off := 4) (sz := 1) (by rfl) (by kernel_rfl) (Dec.int (t := 3) (k := .i64)) (.cons (off := 5) (sz := 1) (by rfl) (by kernel_rfl) (Dec.bool (t := 4)) .nil)))))) (by kernel_rfl))) (by decide)
  have k3 : Value.okWide Try.prog W .any base 22 v3 := hval 3 _ v3 rfl rfl
  obtain ⟨n, w3, n_lo, n_hi⟩ := Dec.argI k3 t3
  have k4 : Value.okWide Try.prog W .any base 3 v4 := hval 4 _ v4 rfl rfl
  obtain ⟨id, w4, id_lo, id_hi⟩ := Dec.argI k4 t4
  have htri : Tri Try.prog W 3 [v0, v1, v2, v3, v4] [] (fun v _ => v = .bool true) := by
    subst w0 w1 w2 w3 w4
    exact fills_law W [] k.1 k.2.1 m l.l hl.1 (fun b hb => ⟨(hl.2.2.2.1 b hb).1, (hl.2.2.2.1 b hb).2.2.2.1⟩) hl.2.1 n id ⟨n_lo, n_hi⟩
  clear w0 w1 w2 w3 w4
  refine (htri.run W (Models.start W)).mono fun e W' ⟨v, h2, he, m2, hv⟩ => ?_
  subst he; subst hv
  have hb := m2.below
  refine ⟨_, rfl, post_of_below (pa := (p0 ++ (p1 ++ (p2 ++ (p3 ++ (p4 ++ ([]))))))) (pv := []) hW' (fun _ _ _ => trodAll_mk1 (shut_bool (Try.underlying4) true)) (fun sp hsp => ?_) (fun _ _ => rfl) rfl hb (ok_one (t := 4) (by kernel_rfl) rfl ?_)⟩
  · refine TAcons (WideElems.Trod_stays laidOut_ (by kernel_rfl) (of_decide_eq_true (by kernel_rfl)) t0 (fun x hx => hb.same (hlt x (by simp [hx]))) (fun x hx => hsp x (by simp [hx]))) ?_
    refine TAcons (WideElems.Trod_stays laidOut_ (by kernel_rfl) (of_decide_eq_true (by kernel_rfl)) t1 (fun x hx => hb.same (hlt x (by simp [hx]))) (fun x hx => hsp x (by simp [hx]))) ?_
    refine TAcons (WideElems.Trod_stays laidOut_ (by kernel_rfl) (of_decide_eq_true (by kernel_rfl)) t2 (fun x hx => hb.same (hlt x (by simp [hx]))) (fun x hx => hsp x (by simp [hx]))) ?_
    refine TAcons (WideElems.Trod_stays laidOut_ (by kernel_rfl) (of_decide_eq_true (by kernel_rfl)) t3 (fun x hx => hb.same (hlt x (by simp [hx]))) (fun x hx => hsp x (by simp [hx]))) ?_
    refine TAcons (WideElems.Trod_stays laidOut_ (by kernel_rfl) (of_decide_eq_true (by kernel_rfl)) t4 (fun x hx => hb.same (hlt x (by simp [hx]))) (fun x hx => hsp x (by simp [hx]))) ?_
    rfl
  · exact okBool Try.underlying4

theorem maglevFills_holds : Rows.MaglevFillsSaid :=
  OpenClaim.holds_of_wide 3 Try.f3 rfl rfl rfl rfl rfl rfl rfl ⟨rfl, rfl, rfl, rfl, rfl⟩ rfl rfl rfl rfl rfl (by kernel_rfl) Try.func3 (by kernel_rfl)
    (of_decide_eq_true (by kernel_rfl)) (by unfold Func.isWrapper; first | (rw [if_pos (by decide +kernel)]; kernel_rfl) | (rw [if_neg (by decide +kernel)]; exact ⟨rfl, rfl⟩))
    (fun os started H enc _ => maglevFills_lifted os started H enc)

set_option maxRecDepth 100000 in
theorem maglevShares_lifted (os : Os) (started : os.Started) (H : Type) (enc : TypeId × Value → H) :
    ReturnsInHanded {} Try.checked os 4 .any (Rows.maglevSharesSpec.pre6 enc Try.prog Try.f4 Rows.maglevSharesRow.domain false) (Rows.maglevSharesSpec.post enc Try.prog Try.f4 false true false false) := by
  refine returnsInHanded_of_change (C := Try.checked) own_ started (by kernel_rfl) Try.func4
    (ChangeSpec.witness6 (enc := enc) (C := Try.checked) false ⟨#[], #[(Value.agg #[(Value.int IntKind.u64 0), (Value.int IntKind.u64 0)]), (Value.int IntKind.i64 0), (Value.slice none 0 0)], []⟩ 8 (by kernel_rfl) (by kernel_rfl) (by kernel_rfl) (by kernel_rfl)) ?_
  intro W base args ds gs before hval0 hW hcnd _
  have hval : ∀ (j : Nat) t v, Try.f4.params[j]? = some t → args[j]? = some v → Value.okWide Try.prog W .any base t v := hval0
  have hW' := hW
  obtain ⟨p, q, hA0, hV, rfl, hfz, hnd⟩ := hW
  have hA : DataW.TrodAll enc Try.prog W 0 (fun _ => true) true Try.f4.params.toList args.toList ds p := hA0
  rw [Try.params4] at hA hval
  obtain ⟨args⟩ := args
  simp only at hA
  obtain ⟨v0, vs0, d0, ds0, p0, q0, e0a, e0b, e0c, t0, r0⟩ := trodAll_cons hA
  obtain ⟨v1, vs1, d1, ds1, p1, q1, e1a, e1b, e1c, t1, r1⟩ := trodAll_cons r0
  obtain ⟨v2, vs2, d2, ds2, p2, q2, e2a, e2b, e2c, t2, r2⟩ := trodAll_cons r1
  subst e0a e0b e0c
  subst e1a e1b e1c
  subst e2a e2b e2c
  obtain ⟨rfl, rfl, rfl⟩ := trodAll_nil r2
  obtain ⟨rfl, rfl⟩ := trodVars_none hV
  have hlt := hW'.lt
  have k0 : Value.okWide Try.prog W .any base 24 v0 := hval 0 _ v0 rfl rfl
  obtain ⟨k, w0, hk⟩ := Dec.argA k0 t0 ((.cons (off := 0) (sz := 1) (by rfl) (by kernel_rfl) (Dec.int (t := 22) (k := .u64)) (.cons (off := 1) (sz := 1) (by rfl) (by kernel_rfl) (Dec.int (t := 22) (k := .u64)) .nil))) (by kernel_rfl)
  have k1 : Value.okWide Try.prog W .any base 3 v1 := hval 1 _ v1 rfl rfl
  obtain ⟨m, w1, m_lo, m_hi⟩ := Dec.argI k1 t1
  have k2 : Value.okWide Try.prog W .any base 25 v2 := hval 2 _ v2 rfl rfl
  obtain ⟨l, w2, hl⟩ := Dec.argS k2 t2 ((Dec.struct (t := 39) (.cons (off := 0) (sz := 1) (by rfl) (by kernel_rfl) (Dec.int (t := 3) (k := .i64)) (.cons (off := 1) (sz := 1) (by rfl) (by kernel_rfl) (Dec.int (t := 3) (k := .i64)) (.cons (off := 2) (sz := 1) (by rfl) (by kernel_rfl) (Dec.int (t := 37) (k := .u32)) (.cons (off := 3) (sz := 1) (by rfl) (by kernel_rfl) (Dec.int (t := 3) (k := .i64)) (.cons (off := 4) (sz := 1) (by rfl) (by kernel_rfl) (Dec.int (t := 3) (k := .i64)) (.cons (off := 5) (sz := 1) (by rfl) (by kernel_rfl) (Dec.bool (t := 4)) .nil)))))) (by kernel_rfl))) (by decide)
  have htri : Tri Try.prog W 4 [v0, v1, v2] [] (fun v _ => v = .bool true) := by
    subst w0 w1 w2
    exact shares_law W [] k.1 k.2.1 m l.l hl.1 (fun b hb => ⟨(hl.2.2.2.1 b hb).1, (hl.2.2.2.1 b hb).2.2.2.1⟩) hl.2.1
  clear w0 w1 w2
  refine (htri.run W (Models.start W)).mono fun e W' ⟨v, h2, he, m2, hv⟩ => ?_
  subst he; subst hv
  have hb := m2.below
  refine ⟨_, rfl, post_of_below (pa := (p0 ++ (p1 ++ (p2 ++ ([]))))) (pv := []) hW' (fun _ _ _ => trodAll_mk1 (shut_bool (Try.underlying4) true)) (fun sp hsp => ?_) (fun _ _ => rfl) rfl hb (ok_one (t := 4) (by kernel_rfl) rfl ?_)⟩
  · refine TAcons (WideElems.Trod_stays laidOut_ (by kernel_rfl) (of_decide_eq_true (by kernel_rfl)) t0 (fun x hx => hb.same (hlt x (by simp [hx]))) (fun x hx => hsp x (by simp [hx]))) ?_
    refine TAcons (WideElems.Trod_stays laidOut_ (by kernel_rfl) (of_decide_eq_true (by kernel_rfl)) t1 (fun x hx => hb.same (hlt x (by simp [hx]))) (fun x hx => hsp x (by simp [hx]))) ?_
    refine TAcons (WideElems.Trod_stays laidOut_ (by kernel_rfl) (of_decide_eq_true (by kernel_rfl)) t2 (fun x hx => hb.same (hlt x (by simp [hx]))) (fun x hx => hsp x (by simp [hx]))) ?_
    rfl
  · exact okBool Try.underlying4

theorem maglevShares_holds : Rows.MaglevSharesSaid :=
  OpenClaim.holds_of_wide 4 Try.f4 rfl rfl rfl rfl rfl rfl rfl ⟨rfl, rfl, rfl, rfl, rfl⟩ rfl rfl rfl rfl rfl (by kernel_rfl) Try.func4 (by kernel_rfl)
    (of_decide_eq_true (by kernel_rfl)) (by unfold Func.isWrapper; first | (rw [if_pos (by decide +kernel)]; kernel_rfl) | (rw [if_neg (by decide +kernel)]; exact ⟨rfl, rfl⟩))
    (fun os started H enc _ => maglevShares_lifted os started H enc)

set_option maxRecDepth 100000 in
theorem maglevParts_lifted (os : Os) (started : os.Started) (H : Type) (enc : TypeId × Value → H) :
    ReturnsInHanded {} Try.checked os 5 .any (Rows.maglevPartsSpec.pre6 enc Try.prog Try.f5 Rows.maglevPartsRow.domain false) (Rows.maglevPartsSpec.post enc Try.prog Try.f5 false true false false) := by
  refine returnsInHanded_of_change (C := Try.checked) own_ started (by kernel_rfl) Try.func5
    (ChangeSpec.witness6 (enc := enc) (C := Try.checked) false ⟨#[], #[(Value.agg #[(Value.int IntKind.u64 0), (Value.int IntKind.u64 0)]), (Value.int IntKind.i64 0), (Value.slice none 0 0)], []⟩ 8 (by kernel_rfl) (by kernel_rfl) (by kernel_rfl) (by kernel_rfl)) ?_
  intro W base args ds gs before hval0 hW hcnd _
  have hval : ∀ (j : Nat) t v, Try.f5.params[j]? = some t → args[j]? = some v → Value.okWide Try.prog W .any base t v := hval0
  have hW' := hW
  obtain ⟨p, q, hA0, hV, rfl, hfz, hnd⟩ := hW
  have hA : DataW.TrodAll enc Try.prog W 0 (fun _ => true) true Try.f5.params.toList args.toList ds p := hA0
  rw [Try.params5] at hA hval
  obtain ⟨args⟩ := args
  simp only at hA
  obtain ⟨v0, vs0, d0, ds0, p0, q0, e0a, e0b, e0c, t0, r0⟩ := trodAll_cons hA
  obtain ⟨v1, vs1, d1, ds1, p1, q1, e1a, e1b, e1c, t1, r1⟩ := trodAll_cons r0
  obtain ⟨v2, vs2, d2, ds2, p2, q2, e2a, e2b, e2c, t2, r2⟩ := trodAll_cons r1
  subst e0a e0b e0c
  subst e1a e1b e1c
  subst e2a e2b e2c
  obtain ⟨rfl, rfl, rfl⟩ := trodAll_nil r2
  obtain ⟨rfl, rfl⟩ := trodVars_none hV
  have hlt := hW'.lt
  have k0 : Value.okWide Try.prog W .any base 24 v0 := hval 0 _ v0 rfl rfl
  obtain ⟨k, w0, hk⟩ := Dec.argA k0 t0 ((.cons (off := 0) (sz := 1) (by rfl) (by kernel_rfl) (Dec.int (t := 22) (k := .u64)) (.cons (off := 1) (sz := 1) (by rfl) (by kernel_rfl) (Dec.int (t := 22) (k := .u64)) .nil))) (by kernel_rfl)
  have k1 : Value.okWide Try.prog W .any base 3 v1 := hval 1 _ v1 rfl rfl
  obtain ⟨m, w1, m_lo, m_hi⟩ := Dec.argI k1 t1
  have k2 : Value.okWide Try.prog W .any base 25 v2 := hval 2 _ v2 rfl rfl
  obtain ⟨l, w2, hl⟩ := Dec.argS k2 t2 ((Dec.struct (t := 39) (.cons (off := 0) (sz := 1) (by rfl) (by kernel_rfl) (Dec.int (t := 3) (k := .i64)) (.cons (off := 1) (sz := 1) (by rfl) (by kernel_rfl) (Dec.int (t := 3) (k := .i64)) (.cons (off := 2) (sz := 1) (by rfl) (by kernel_rfl) (Dec.int (t := 37) (k := .u32)) (.cons (off := 3) (sz := 1) (by rfl) (by kernel_rfl) (Dec.int (t := 3) (k := .i64)) (.cons (off := 4) (sz := 1) (by rfl) (by kernel_rfl) (Dec.int (t := 3) (k := .i64)) (.cons (off := 5) (sz := 1) (by rfl) (by kernel_rfl) (Dec.bool (t := 4)) .nil)))))) (by kernel_rfl))) (by decide)
  have htri : Tri Try.prog W 5 [v0, v1, v2] [] (fun v _ => v = .bool true) := by
    subst w0 w1 w2
    exact parts_law W [] k.1 k.2.1 m l.l hl.1 (fun b hb => ⟨(hl.2.2.2.1 b hb).1, (hl.2.2.2.1 b hb).2.2.2.1⟩) hl.2.1
  clear w0 w1 w2
  refine (htri.run W (Models.start W)).mono fun e W' ⟨v, h2, he, m2, hv⟩ => ?_
  subst he; subst hv
  have hb := m2.below
  refine ⟨_, rfl, post_of_below (pa := (p0 ++ (p1 ++ (p2 ++ ([]))))) (pv := []) hW' (fun _ _ _ => trodAll_mk1 (shut_bool (Try.underlying4) true)) (fun sp hsp => ?_) (fun _ _ => rfl) rfl hb (ok_one (t := 4) (by kernel_rfl) rfl ?_)⟩
  · refine TAcons (WideElems.Trod_stays laidOut_ (by kernel_rfl) (of_decide_eq_true (by kernel_rfl)) t0 (fun x hx => hb.same (hlt x (by simp [hx]))) (fun x hx => hsp x (by simp [hx]))) ?_
    refine TAcons (WideElems.Trod_stays laidOut_ (by kernel_rfl) (of_decide_eq_true (by kernel_rfl)) t1 (fun x hx => hb.same (hlt x (by simp [hx]))) (fun x hx => hsp x (by simp [hx]))) ?_
    refine TAcons (WideElems.Trod_stays laidOut_ (by kernel_rfl) (of_decide_eq_true (by kernel_rfl)) t2 (fun x hx => hb.same (hlt x (by simp [hx]))) (fun x hx => hsp x (by simp [hx]))) ?_
    rfl
  · exact okBool Try.underlying4

theorem maglevParts_holds : Rows.MaglevPartsSaid :=
  OpenClaim.holds_of_wide 5 Try.f5 rfl rfl rfl rfl rfl rfl rfl ⟨rfl, rfl, rfl, rfl, rfl⟩ rfl rfl rfl rfl rfl (by kernel_rfl) Try.func5 (by kernel_rfl)
    (of_decide_eq_true (by kernel_rfl)) (by unfold Func.isWrapper; first | (rw [if_pos (by decide +kernel)]; kernel_rfl) | (rw [if_neg (by decide +kernel)]; exact ⟨rfl, rfl⟩))
    (fun os started H enc _ => maglevParts_lifted os started H enc)

end Go.Proofs.Yteclcpdpngbgbaa
