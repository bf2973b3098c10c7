/- Walks through the code: what each function that is named here gives back, from any memory that holds its arguments. Written by a program of the claim's author, out of the program's form in Lean. -/
import Derived.Test.YtbdlohjmifgcaaaW1
import Derived.Test.YtbdlohjmifgcaaaPlainQ32
set_option linter.unusedSimpArgs false
set_option linter.unusedVariables false
namespace Go.Proofs.Ytbdlohjmifgcaaa
open Go.Sep Go.Sep.Sip Go.Sep.Perm Go.Sep.Maglev Go.Sep.Board
theorem share_eq (x y : PL) (w : World) : (Op.eqFields 9999 (encSh x).toArray (encSh y).toArray (Try.prog.fieldsOf 74).toList).run Try.prog w = .ok (decide (x = y)) w := by
  obtain ⟨f1, f2, e1, n1, t1, o1, n2, t2, o2⟩ := twoF_of (a := Try.prog.fieldsOf 74) (t := 3) (by kernel_rfl)
  rw [e1]
  have hu := UndIs.eq (P := Try.prog) (t := 3)
  obtain ⟨a, b⟩ := x
  obtain ⟨c, d⟩ := y
  by_cases h1 : a = c <;> by_cases h2 : b = d <;> simp [Op.eqFields, part, UndIs.run, AggIs.run, SizeIs.run, run_equalIn_int, n1, t1, o1, n2, t2, o2, hu, h1, h2]
theorem perm_new (p64 p31 p29 X h : Own) (x11 x8 n f b mm : Nat × Blk) : (p64 ++ (x11 :: (p31 ++ (p29 ++ (x8 :: n :: f :: b :: mm :: (X ++ h)))))).Perm (x11 :: (p29 ++ (x8 :: n :: f :: b :: mm :: ((p64 ++ (p31 ++ X)) ++ h)))) :=
  perm_count fun y => by simp only [List.count_append, List.count_cons]; omega
theorem perm_end (it n f b mm : Nat × Blk) (r : Own) : (it :: n :: f :: b :: mm :: r).Perm (it :: f :: b :: n :: mm :: r) :=
  perm_count fun y => by simp only [List.count_cons]; omega
theorem sh_one (l : List PL) : (flat encSh l).all (·.oneCell') = true := by
  simp only [flat, List.all_flatMap]
  exact List.all_eq_true.2 fun x _ => rfl

theorem shares_spec (B : World) (h : Own) {A : Option Addr} {cap : Nat} (l : List Bk) (hl : Src B h A l.length 6 (flat encK l)) (hln : l.length ≤ 1000) : Tri Try.prog B 25 [.slice A l.length cap] h fun v h' => NewS 74 2 (l.map partF).length (flat encSh (l.map partF)) h v h' := by
  refine Tri.enter (n := 22) Try.func25 rfl rfl rfl ?_
  simp only [argsE, Nat.reduceAdd]
  try dsimp only [argsE]
  refine AK.seq ?_
  refine AK.region ?_
  refine AO.val (RV.assign rfl) (.none rfl) rfl ?_
  refine AO.nil ?_
  refine AK.seq ?_
  refine AK.region ?_
  refine AO.val (RV.assign rfl) (.none rfl) rfl ?_
  refine AO.nil ?_
  refine AK.seq ?_
  refine AK.seq ?_
  refine AK.region ?_
  refine AO.val (RV.move rfl) (.none rfl) rfl ?_
  refine AO.val (RV.lenS rfl) (.none rfl) rfl ?_
  refine AO.val (RV.move rfl) (.none rfl) rfl ?_
  refine AO.nil ?_
  refine AK.block ?_
  refine AK.loop (α := Int × Option Addr × Nat × Own × List PL) (E := fun (i, Ao, co, po, out) => [(3, .slice Ao out.length co), (6, .slice A l.length cap), (7, .int .i64 l.length), (8, .int .i64 i)]) (H := fun (i, Ao, co, po, out) => po ++ h) (Inv := fun (i, Ao, co, po, out) => 0 ≤ i ∧ i ≤ l.length ∧ out.length ≤ i.toNat ∧ Row 74 2 (.slice Ao out.length co) out.length (flat encSh out) po ∧ out.length ≤ co ∧ out = (l.take i.toNat).map partF) (μ := fun (i, Ao, co, po, out) => (l.length - i).toNat) (0, none, 0, [], []) ?_ (.cons (by exact rfl) (.cons (by exact rfl) (.cons (by exact rfl) (.cons (by exact rfl) .nil)))) ?_ ?_
  · exact ⟨by omega, by omega, by simp, .nil, Nat.le_refl _, rfl⟩
  · exact (by first | exact SubO.sub | exact List.Sublist.refl _ | exact .cons _ (List.Sublist.refl _) | exact .cons _ (.cons _ (List.Sublist.refl _)) | exact .cons _ (.cons _ (.cons _ (List.Sublist.refl _))))
  rintro ⟨i, Ao, co, po, out⟩ ⟨hi0, hi1, hol, hro, hco, hou⟩ hih0
  try dsimp only at hih0 ⊢
  refine AK.seq ?_
  refine AK.region ?_
  refine AO.val (RV.lss rfl rfl) (.none rfl) rfl ?_
  refine AO.nil ?_
  refine AK.seq ?_
  refine AK.cond rfl ?_ ?_
  · intro hc1
    try simp only [decide_eq_true_eq, decide_eq_false_iff_not, Bool.not_eq_true', Bool.not_eq_false', beq_iff_eq] at hc1
    refine AK.skip ?_
    refine AK.seq ?_
    refine AK.block ?_
    refine AK.seq ?_
    refine AK.region ?_
    refine AO.val (by first | exact RV.indexS rfl rfl (by assumption) (by omega) rfl | exact RV.indexAddr rfl rfl (by omega)) (.none rfl) rfl ?_
    refine AO.val (RV.loadSA (enc := encK) rfl hl (fun _ => rfl) (by omega) (by simp)) (.none rfl) rfl ?_
    refine AO.eff (EF.alloc) (.none rfl) rfl ?_
    rintro _ _ ⟨b5, hf5, rfl, rfl⟩
    refine AO.effN (EF.storeO rfl rfl rfl rfl rfl rfl) (.none rfl) ?_
    rintro _ _ rfl
    refine AO.nil ?_
    refine AK.region ?_
    refine AO.val (RV.move rfl) (.none rfl) rfl ?_
    refine AO.val (RV.fieldAddr rfl) (.none rfl) rfl ?_
    refine AO.val (by first | exact RV.loadO rfl rfl (by first | simp | assumption) | exact RV.loadS rfl (by assumption) (by omega) (by first | simp | assumption)) (.none rfl) rfl ?_
    refine AO.val (RV.fieldAddr rfl) (.none rfl) rfl ?_
    refine AO.val (by first | exact RV.loadO rfl rfl (by first | simp | assumption) | exact RV.loadS rfl (by assumption) (by omega) (by first | simp | assumption)) (.none rfl) rfl ?_
    refine AO.val (RV.build rfl (.cons rfl rfl rfl rfl (.cons rfl rfl rfl rfl .nil))) (.none rfl) rfl ?_
    refine AO.eff (EF.buildSlice rfl rfl rfl (.cons rfl rfl rfl rfl .nil)) (.none rfl) rfl ?_
    rintro _ _ ⟨b18, hf18, rfl, rfl⟩
    refine AO.eff (EF.appendS (n' := (out ++ [partF (lget l i)]).length) (ys := flat encSh (out ++ [partF (lget l i)])) rfl rfl hro (Src.of_new (el := 74) (cs := encSh (partF (lget l i))) List.mem_cons_self 1 2 (Nat.le_refl _)) (by simp) (flat_snoc encSh out _) rfl (by decide) rfl (by omega) (by omega)) (.none rfl) rfl ?_
    rintro _ _ ⟨A19, c19, p19, rfl, hr19, hc19, rfl⟩
    refine AO.val (RV.assign rfl) (.none rfl) rfl ?_
    refine AO.nil ?_
    refine AK.inBlock ?_
    refine AK.region ?_
    refine AO.val (by first | exact RV.addIn rfl rfl (by omega) | exact RV.add rfl rfl) (.none rfl) rfl ?_
    refine AO.val (RV.move rfl) (.none rfl) rfl ?_
    refine AO.nil ?_
    -- round ends at L0T
    refine AK.weak (.cons (by exact rfl) (.cons (by exact rfl) (.cons (by exact rfl) (.cons (by exact rfl) .nil)))) (by exact List.Sublist.append_left (.cons _ (.cons _ (List.Sublist.refl _))) _) (hih0 (i + 1, A19, c19, p19, (out ++ [partF (lget l i)])) ?_ ?_)
    · try dsimp only
      refine ⟨by omega, by omega, by simp; omega, hr19, hc19, ?_⟩
      rw [take_one partF l i hi0 (by omega), ← hou]
    · try dsimp only
      omega
  · intro hc1
    try simp only [decide_eq_true_eq, decide_eq_false_iff_not, Bool.not_eq_true', Bool.not_eq_false', beq_iff_eq] at hc1
    refine AK.exit rfl ?_
    refine AK.seq ?_
    refine AK.region ?_
    refine AO.val (RV.move rfl) (.none rfl) rfl ?_
    refine AO.val (RV.assign rfl) (.none rfl) rfl ?_
    refine AO.nil ?_
    -- at L0F
    clear hih0
    refine AK.ret (h' := po ++ h) Try.func25 (.tmp rfl .nil) ?_ (List.Sublist.refl _)
    rw [List.take_of_length_le (by omega)] at hou
    subst hou
    exact ⟨Ao, co, po, rfl, hro, hco, rfl⟩

theorem equal_spec (B : World) (h : Own) {A1 A2 : Option Addr} {c1 c2 : Nat} (l1 l2 : List PL) (h1 : Src B h A1 l1.length 2 (flat encSh l1)) (h2 : Src B h A2 l2.length 2 (flat encSh l2)) (hln : l1.length ≤ 1000) : Tri Try.prog B 26 [.slice A1 l1.length c1, .slice A2 l2.length c2] h fun v h' => h = h' ∧ v = .bool (decide (l1 = l2)) := by
  refine Tri.enter (n := 26) Try.func26 rfl rfl rfl ?_
  simp only [argsE, Nat.reduceAdd]
  try dsimp only [argsE]
  refine AK.seq ?_
  refine AK.region ?_
  refine AO.val (RV.assign rfl) (.none rfl) rfl ?_
  refine AO.nil ?_
  refine AK.seq ?_
  refine AK.seq ?_
  refine AK.region ?_
  refine AO.val (RV.move rfl) (.none rfl) rfl ?_
  refine AO.val (RV.lenS rfl) (.none rfl) rfl ?_
  refine AO.val (RV.move rfl) (.none rfl) rfl ?_
  refine AO.val (RV.lenS rfl) (.none rfl) rfl ?_
  refine AO.val (RV.neq rfl rfl) (.none rfl) rfl ?_
  refine AO.nil ?_
  refine AK.cond rfl ?_ ?_
  · intro hc1
    try simp only [decide_eq_true_eq, decide_eq_false_iff_not, Bool.not_eq_true', Bool.not_eq_false', beq_iff_eq] at hc1
    refine AK.seq ?_
    refine AK.region ?_
    refine AO.val (RV.assign rfl) (.none rfl) rfl ?_
    refine AO.nil ?_
    -- at T
    refine AK.ret (h' := h) Try.func26 (.tmp rfl .nil) ?_ (by first | exact SubO.sub | exact List.Sublist.refl _ | exact .cons _ (List.Sublist.refl _) | exact .cons _ (.cons _ (List.Sublist.refl _)) | exact .cons _ (.cons _ (.cons _ (List.Sublist.refl _))))
    refine ⟨rfl, ?_⟩
    rw [decide_eq_false (fun e => by subst e; omega)]; rfl
  · intro hc1
    try simp only [decide_eq_true_eq, decide_eq_false_iff_not, Bool.not_eq_true', Bool.not_eq_false', beq_iff_eq] at hc1
    refine AK.skip ?_
    refine AK.seq ?_
    refine AK.seq ?_
    refine AK.region ?_
    refine AO.val (RV.move rfl) (.none rfl) rfl ?_
    refine AO.val (RV.lenS rfl) (.none rfl) rfl ?_
    refine AO.val (RV.move rfl) (.none rfl) rfl ?_
    refine AO.nil ?_
    refine AK.block ?_
    refine AK.loop (α := Int) (E := fun i => [(0, .slice A1 l1.length c1), (1, .slice A2 l2.length c2), (12, .int .i64 l1.length), (13, .int .i64 i)]) (H := fun i => h) (Inv := fun i => 0 ≤ i ∧ i ≤ l1.length ∧ l1.take i.toNat = l2.take i.toNat) (μ := fun i => (l1.length - i).toNat) 0 ?_ (.cons (by exact rfl) (.cons (by exact rfl) (.cons (by exact rfl) (.cons (by exact rfl) .nil)))) ?_ ?_
    · exact ⟨by omega, by omega, rfl⟩
    · exact (by first | exact SubO.sub | exact List.Sublist.refl _ | exact .cons _ (List.Sublist.refl _) | exact .cons _ (.cons _ (List.Sublist.refl _)) | exact .cons _ (.cons _ (.cons _ (List.Sublist.refl _))))
    rintro i ⟨hi0, hi1, heq⟩ hih0
    try dsimp only at hih0 ⊢
    have hll : l1.length = l2.length := by omega
    refine AK.seq ?_
    refine AK.region ?_
    refine AO.val (RV.lss rfl rfl) (.none rfl) rfl ?_
    refine AO.nil ?_
    refine AK.seq ?_
    refine AK.cond rfl ?_ ?_
    · intro hc2
      try simp only [decide_eq_true_eq, decide_eq_false_iff_not, Bool.not_eq_true', Bool.not_eq_false', beq_iff_eq] at hc2
      refine AK.skip ?_
      refine AK.seq ?_
      refine AK.block ?_
      refine AK.seq ?_
      refine AK.region ?_
      refine AO.val (RV.move rfl) (.none rfl) rfl ?_
      refine AO.val (RV.assign rfl) (.none rfl) rfl ?_
      refine AO.nil ?_
      refine AK.seq ?_
      refine AK.draw [] [] mixed ?_
      refine AD.takeP 0 rfl (by kernel_rfl) (RV.move rfl) (.none rfl) rfl ?_
      refine AD.takeP 1 rfl (by kernel_rfl) (RV.move rfl) (.none rfl) rfl ?_
      refine AD.takeP 2 rfl (by kernel_rfl) (by first | exact RV.indexS rfl rfl (by assumption) (by omega) rfl | exact RV.indexAddr rfl rfl (by omega)) (.none rfl) rfl ?_
      refine AD.take 3 rfl (by kernel_rfl) (RV.loadSA (enc := encSh) rfl h1 (fun _ => rfl) (by omega) (by simp)) (.none rfl) rfl ?_
      refine AD.takeP 4 rfl (by kernel_rfl) (RV.move rfl) (.none rfl) rfl ?_
      refine AD.takeP 5 rfl (by kernel_rfl) (RV.move rfl) (.none rfl) rfl ?_
      refine AD.takeP 6 rfl (by kernel_rfl) (by first | exact RV.indexS rfl rfl (by assumption) (by omega) rfl | exact RV.indexAddr rfl rfl (by omega)) (.none rfl) rfl ?_
      refine AD.take 7 rfl (by kernel_rfl) (RV.loadSA (enc := encSh) rfl h2 (fun _ => rfl) (by omega) (by simp)) (.none rfl) rfl ?_
      refine AD.takeP 8 rfl (by kernel_rfl) (RV.neqAgg (xs := encSh (lget l1 i)) (ys := encSh (lget l2 i)) (b := decide (lget l1 i = lget l2 i)) rfl rfl (by kernel_rfl) (by kernel_rfl) (by kernel_rfl) (share_eq _ _)) (.none rfl) rfl ?_
      refine AD.done (by kernel_rfl) ?_
      refine AK.cond rfl ?_ ?_
      · intro hc3
        try simp only [decide_eq_true_eq, decide_eq_false_iff_not, Bool.not_eq_true', Bool.not_eq_false', beq_iff_eq] at hc3
        have hne := hc3
        refine AK.seq ?_
        refine AK.region ?_
        refine AO.val (RV.assign rfl) (.none rfl) rfl ?_
        refine AO.nil ?_
        -- at FL0TT
        clear hih0
        refine AK.ret (h' := h) Try.func26 (.tmp rfl .nil) ?_ (by first | exact SubO.sub | exact List.Sublist.refl _ | exact .cons _ (List.Sublist.refl _) | exact .cons _ (.cons _ (List.Sublist.refl _)) | exact .cons _ (.cons _ (.cons _ (List.Sublist.refl _))))
        refine ⟨rfl, ?_⟩
        rw [decide_eq_false (fun e => by subst e; simp at hne)]; rfl
      · intro hc3
        try simp only [decide_eq_true_eq, decide_eq_false_iff_not, Bool.not_eq_true', Bool.not_eq_false', beq_iff_eq] at hc3
        refine AK.skip ?_
        refine AK.inBlock ?_
        refine AK.region ?_
        refine AO.val (by first | exact RV.addIn rfl rfl (by omega) | exact RV.add rfl rfl) (.none rfl) rfl ?_
        refine AO.val (RV.move rfl) (.none rfl) rfl ?_
        refine AO.nil ?_
        -- round ends at FL0TF
        refine AK.weak (.cons (by exact rfl) (.cons (by exact rfl) (.cons (by exact rfl) (.cons (by exact rfl) .nil)))) (by first | exact SubO.sub | exact List.Sublist.refl _ | exact .cons _ (List.Sublist.refl _) | exact .cons _ (.cons _ (List.Sublist.refl _)) | exact .cons _ (.cons _ (.cons _ (List.Sublist.refl _)))) (hih0 (i + 1) ?_ ?_)
        · try dsimp only
          refine ⟨by omega, by omega, ?_⟩
          have e1 := take_one id l1 i hi0 (by omega)
          have e2 := take_one id l2 i hi0 (by omega)
          simp only [List.map_id, id] at e1 e2
          rw [e1, e2, heq]
          simp_all
        · try dsimp only
          omega
    · intro hc2
      try simp only [decide_eq_true_eq, decide_eq_false_iff_not, Bool.not_eq_true', Bool.not_eq_false', beq_iff_eq] at hc2
      refine AK.exit rfl ?_
      refine AK.seq ?_
      refine AK.region ?_
      refine AO.val (RV.assign rfl) (.none rfl) rfl ?_
      refine AO.nil ?_
      -- at FL0F
      clear hih0
      refine AK.ret (h' := h) Try.func26 (.tmp rfl .nil) ?_ (by first | exact SubO.sub | exact List.Sublist.refl _ | exact .cons _ (List.Sublist.refl _) | exact .cons _ (.cons _ (List.Sublist.refl _)) | exact .cons _ (.cons _ (.cons _ (List.Sublist.refl _))))
      refine ⟨rfl, ?_⟩
      rw [List.take_of_length_le (by omega), List.take_of_length_le (by omega)] at heq
      rw [decide_eq_true heq]; rfl

set_option maxHeartbeats 4000000 in
theorem refresh_spec (B : World) (h : Own) (lo hi m : Int) (b mr : Nat) (ver : Int) (ml : List (Ent TB)) (mc : Nat) (hks : KeysOk ml) (hst : StampT ml mc) (T : Int → List PL) (D : Own) (hD : ∀ x ∈ D, x ∈ h) (bm : BM (fillS lo hi m) B D ml T) (vs : List VpT) {Av : Option Addr} {cv : Nat} (hv : Src B h Av vs.length 5 (flat encV vs)) (hvn : vs.length ≤ 1000) {A : Option Addr} {cap : Nat} (l : List Bk) (hl : Src B h A l.length 6 (flat encK l)) (hcap : l.length ≤ cap) (hid : ∀ b ∈ l, BkOk b) (hln : l.length ≤ 1000) (hver : 0 ≤ ver ∧ ver ≤ 1000000) : Tri Try.prog B 11 [.pointer (some ⟨b, 0, none⟩), .agg #[.slice Av vs.length cv, .slice A l.length cap]] ((b, Blk.cells [.int .u64 lo, .int .u64 hi, .int .i64 m, .map (some mr), .int .i64 ver] 61 (0, 0)) :: ((mr, mapB .i64 evT ml mc) :: h)) fun v h' => ∃ (mr' : Nat) (ml' : List (Ent TB)) (mc' : Nat) (X : Own) (tb : Bool), h' = (b, Blk.cells [.int .u64 lo, .int .u64 hi, .int .i64 m, .map (some mr'), .int .i64 (ver + if tb = true then 1 else 0)] 61 (0, 0)) :: ((mr', mapB .i64 evT ml' mc') :: (X ++ h)) ∧ v = .bool tb ∧ (tb = true ↔ ∃ k, T k ≠ tabV vs l k) ∧ KeysOk ml' ∧ StampT ml' mc' ∧ BM (fillS lo hi m) B (X ++ D) ml' (tabV vs l) := by
  refine Tri.enter (n := 101) Try.func11 rfl rfl rfl ?_
  simp only [argsE, Nat.reduceAdd]
  try dsimp only [argsE]
  refine AK.seq ?_
  refine AK.region ?_
  refine AO.eff (EF.box rfl rfl) (.none rfl) rfl ?_
  rintro _ _ ⟨b3, hf3, rfl, rfl⟩
  refine AO.val (RV.assign rfl) (.none rfl) rfl ?_
  refine AO.nil ?_
  refine AK.seq ?_
  refine AK.seq ?_
  refine AK.region ?_
  refine AO.val (RV.move rfl) (.none rfl) rfl ?_
  refine AO.val (RV.eqlP rfl rfl) (.none rfl) rfl ?_
  refine AO.nil ?_
  refine AK.condF rfl ?_
  refine AK.skip ?_
  refine AK.seq ?_
  refine AK.region ?_
  refine AO.eff (EF.makeMap (α := TB) .i64 (evT)) (.none rfl) rfl ?_
  rintro _ _ ⟨b18, hf18, rfl, rfl⟩
  refine AO.val (RV.assign rfl) (.none rfl) rfl ?_
  refine AO.nil ?_
  refine AK.seq ?_
  refine AK.region ?_
  refine AO.val (RV.assign rfl) (.none rfl) rfl ?_
  refine AO.nil ?_
  refine AK.seq ?_
  refine AK.seq ?_
  refine AK.region ?_
  refine AO.val (by first | exact RV.fieldAddr rfl | exact RV.fieldAddrA rfl) (.none rfl) rfl ?_
  refine AO.val (by first | exact RV.loadO rfl rfl (by first | simp | assumption) | exact RV.loadSF rfl (by assumption) (fun _ => rfl) (by omega) rfl rfl (by first | simp | assumption) | exact RV.loadS rfl (by assumption) (by omega) (by first | simp | assumption)) (.none rfl) rfl ?_
  refine AO.val (RV.lenS rfl) (.none rfl) rfl ?_
  refine AO.val (RV.move rfl) (.none rfl) rfl ?_
  refine AO.nil ?_
  refine AK.block ?_
  refine AK.loop (α := Int × Nat × List (Ent TB) × Nat × Own × Bool) (E := fun (i, nr, ln, cn, X, tb) => [(0, .pointer (some ⟨b, 0, none⟩)), (3, .pointer (some ⟨b3, 0, none⟩)), (5, .map (some nr)), (6, .bool tb), (20, .slice Av vs.length cv), (21, .int .i64 vs.length), (22, .int .i64 i)]) (H := fun (i, nr, ln, cn, X, tb) => (nr, mapB .i64 evT ln cn) :: ((b3, Blk.cells [.slice Av vs.length cv, .slice A l.length cap] 37 (0, 0)) :: ((b, Blk.cells [.int .u64 lo, .int .u64 hi, .int .i64 m, .map (some mr), .int .i64 ver] 61 (0, 0)) :: ((mr, mapB .i64 evT ml mc) :: (X ++ h))))) (Inv := fun (i, nr, ln, cn, X, tb) => 0 ≤ i ∧ i ≤ vs.length ∧ KeysOk ln ∧ StampT ln cn ∧ BM (fillS lo hi m) B (X ++ D) ln (tabV (vs.take i.toNat) l) ∧ (tb = true ↔ Other T (vs.take i.toNat) l)) (μ := fun (i, nr, ln, cn, X, tb) => (vs.length - i).toNat) (0, b18, [], 0, [], false) ?_ (.cons (by exact rfl) (.cons (by exact rfl) (.cons (by exact rfl) (.cons (by exact rfl) (.cons (by exact rfl) (.cons (by exact rfl) (.cons (by exact rfl) .nil))))))) ?_ ?_
  · refine ⟨by omega, by omega, .nil, ⟨by simp, by simp⟩, BM.nil.congr fun k => rfl, ?_⟩
    constructor
    · intro h0; cases h0
    · intro h0; exact absurd h0 (other_nil T l)
  · exact List.Sublist.refl _
  rintro ⟨i, nr, ln, cn, X, tb⟩ ⟨hi0, hi1, hkn, hsn, bn, htb⟩ hih0
  try dsimp only at hih0 ⊢
  refine AK.seq ?_
  refine AK.region ?_
  refine AO.val (RV.lss rfl rfl) (.none rfl) rfl ?_
  refine AO.nil ?_
  refine AK.seq ?_
  refine AK.cond rfl ?_ ?_
  · intro hc1
    try simp only [decide_eq_true_eq, decide_eq_false_iff_not, Bool.not_eq_true', Bool.not_eq_false', beq_iff_eq] at hc1
    refine AK.skip ?_
    refine AK.seq ?_
    refine AK.block ?_
    refine AK.seq ?_
    refine AK.region ?_
    refine AO.val (by first | exact RV.indexS rfl rfl (by assumption) (by omega) rfl | exact RV.indexAddr rfl rfl (by omega)) (.none rfl) rfl ?_
    refine AO.val (RV.loadSA (enc := encV) rfl hv (fun _ => rfl) (by omega) (by simp)) (.none rfl) rfl ?_
    refine AO.eff (EF.alloc) (.none rfl) rfl ?_
    rintro _ _ ⟨b8, hf8, rfl, rfl⟩
    refine AO.effN (EF.storeO rfl rfl rfl rfl rfl rfl) (.none rfl) ?_
    rintro _ _ rfl
    refine AO.nil ?_
    refine AK.seq ?_
    refine AK.region ?_
    refine AO.val (by first | exact RV.loadAggO rfl rfl (by first | simp | assumption) | exact RV.loadAggP rfl rfl rfl (by first | simp | assumption)) (.none rfl) rfl ?_
    refine AO.val (by first | exact RV.fieldAddr rfl | exact RV.fieldAddrA rfl) (.none rfl) rfl ?_
    refine AO.val (by first | exact RV.loadO rfl rfl (by first | simp | assumption) | exact RV.loadSF rfl (by assumption) (fun _ => rfl) (by omega) rfl rfl (by first | simp | assumption) | exact RV.loadS rfl (by assumption) (by omega) (by first | simp | assumption)) (.none rfl) rfl ?_
    refine AO.eff (EF.callF rfl (fit_spec B _ (lget vs i).1 l hl.sub hln hcap)) (.none rfl) rfl ?_
    rintro _ _ ⟨A29, c29, p29, rfl, hr29, hc29, rfl⟩
    have hfl := fit_len l (lget vs i).1
    refine AO.val (RV.assign rfl) (.none rfl) rfl ?_
    refine AO.nil ?_
    refine AK.seq ?_
    refine AK.region ?_
    refine AO.val (RV.move rfl) (.none rfl) rfl ?_
    refine AO.eff (EF.callF rfl (shares_spec B _ (fitL l (lget vs i).1) (hr29.src fun x hx => by simp [hx]) (by omega))) (.none rfl) rfl ?_
    rintro _ _ ⟨A31, c31, p31, rfl, hr31, hc31, rfl⟩
    have hpsl : (fitP l (lget vs i).1).length = ((fitL l (lget vs i).1).map partF).length := rfl
    refine AO.val (RV.assign rfl) (.none rfl) rfl ?_
    refine AO.nil ?_
    refine AK.seq ?_
    refine AK.seq ?_
    refine AK.region ?_
    refine AO.val (RV.move rfl) (.none rfl) rfl ?_
    refine AO.val (RV.lenS rfl) (.none rfl) rfl ?_
    refine AO.val (RV.eql rfl rfl) (.none rfl) rfl ?_
    refine AO.nil ?_
    refine AK.cond rfl ?_ ?_
    · intro hc2
      try simp only [decide_eq_true_eq, decide_eq_false_iff_not, Bool.not_eq_true', Bool.not_eq_false', beq_iff_eq] at hc2
      have hp0 : (fitP l (lget vs i).1) = [] := List.eq_nil_of_length_eq_zero (by have h0 := hc2; rw [← hpsl] at h0; omega)
      refine AK.exit rfl ?_
      refine AK.region ?_
      refine AO.val (by first | exact RV.addIn rfl rfl (by omega) | exact RV.add rfl rfl) (.none rfl) rfl ?_
      refine AO.val (RV.move rfl) (.none rfl) rfl ?_
      refine AO.nil ?_
      -- round ends at L0TT
      refine AK.weak (.cons (by exact rfl) (.cons (by exact rfl) (.cons (by exact rfl) (.cons (by exact rfl) (.cons (by exact rfl) (.cons (by exact rfl) (.cons (by exact rfl) .nil))))))) (by exact SubO.sub) (hih0 (i + 1, nr, ln, cn, X, tb) ?_ ?_)
      · try dsimp only
        refine ⟨by omega, by omega, hkn, hsn, bn.congr fun k => ?_, ?_⟩
        · rw [take_vs hi0 (by omega)]; exact tabV_skip hp0 k
        · rw [take_vs hi0 (by omega), other_snoc, htb]; simp [hp0]
      · try dsimp only
        omega
    · intro hc2
      try simp only [decide_eq_true_eq, decide_eq_false_iff_not, Bool.not_eq_true', Bool.not_eq_false', beq_iff_eq] at hc2
      have hp0 : (fitP l (lget vs i).1) ≠ [] := by intro e0; have h0 := hc2; rw [← hpsl, e0] at h0; simp at h0
      refine AK.skip ?_
      refine AK.seq ?_
      refine AK.draw [] [11] mixed ?_
      refine AD.takeP 0 rfl (by kernel_rfl) (RV.move rfl) (.none rfl) rfl ?_
      refine AD.takeP 1 rfl (by kernel_rfl) (RV.nilCheck rfl) (.none rfl) rfl ?_
      refine AD.takeP 2 rfl (by kernel_rfl) (by first | exact RV.fieldAddr rfl | exact RV.fieldAddrA rfl) (.none rfl) rfl ?_
      refine AD.take 3 rfl (by kernel_rfl) (by first | exact RV.loadO rfl rfl (by first | simp | assumption) | exact RV.loadSF rfl (by assumption) (fun _ => rfl) (by omega) rfl rfl (by first | simp | assumption) | exact RV.loadS rfl (by assumption) (by omega) (by first | simp | assumption)) (.none rfl) rfl ?_
      refine AD.takeP 4 rfl (by kernel_rfl) (by first | exact RV.fieldAddr rfl | exact RV.fieldAddrA rfl) (.none rfl) rfl ?_
      refine AD.take 5 rfl (by kernel_rfl) (by first | exact RV.loadO rfl rfl (by first | simp | assumption) | exact RV.loadSF rfl (by assumption) (fun _ => rfl) (by omega) rfl rfl (by first | simp | assumption) | exact RV.loadS rfl (by assumption) (by omega) (by first | simp | assumption)) (.none rfl) rfl ?_
      refine AD.take 6 rfl (by kernel_rfl) (RV.lookupOk zeroT rfl rfl rfl (by simp)) (.none rfl) rfl ?_
      refine AD.takeP 7 rfl (by kernel_rfl) (RV.move rfl) (.none rfl) rfl ?_
      refine AD.takeP 8 rfl (by kernel_rfl) (RV.extract rfl rfl) (.none rfl) rfl ?_
      refine AD.takeP 9 rfl (by kernel_rfl) (RV.extract rfl rfl) (.none rfl) rfl ?_
      refine AD.one 10 (by kernel_rfl) (AE.eff rfl (EF.alloc) (.none rfl) rfl ?_)
      rintro _ _ ⟨b11, hf11, rfl, rfl⟩
      refine ⟨(by first | exact .inr fun x hx hM => hx | exact .inr fun x hx hM => List.mem_cons_of_mem _ hx | exact .inr fun x hx hM => List.mem_append_right _ hx), ?_⟩
      refine AD.one 11 (by kernel_rfl) (AE.effN rfl (EF.storeO rfl rfl rfl rfl rfl rfl) (.none rfl) ?_)
      rintro _ _ rfl
      refine ⟨.inl (by kernel_rfl), ?_⟩
      refine AD.takeP 12 rfl (by kernel_rfl) (RV.assign rfl) (.none rfl) rfl ?_
      refine AD.done (by kernel_rfl) ?_
      refine AK.seq ?_
      refine AK.seq ?_
      refine AK.region ?_
      refine AO.val (RV.move rfl) (.none rfl) rfl ?_
      refine AO.val (RV.not rfl) (.none rfl) rfl ?_
      refine AO.val (RV.move rfl) (.none rfl) rfl ?_
      refine AO.caseG rfl rfl rfl ?_ ?_
      · intro hg3
        try simp only [decide_eq_true_eq, decide_eq_false_iff_not, Bool.not_eq_true', Bool.not_eq_false', beq_iff_eq] at hg3
        have his : findT ml (lget vs i).1 = none := by cases hf : findT ml (lget vs i).1 with
                                                              | none => rfl
                                                              | some t => rw [hf] at hg3; simp at hg3
        have hT0 : T (lget vs i).1 ≠ (fitP l (lget vs i).1) := by rw [bm.none_ _ his]; exact fun e0 => hp0 e0.symm
        refine AO.pass (.some rfl rfl rfl rfl) rfl ?_
        refine AO.pass (.some rfl rfl rfl rfl) rfl ?_
        refine AO.pass (.some rfl rfl rfl rfl) rfl ?_
        refine AO.pass (.some rfl rfl rfl rfl) rfl ?_
        refine AO.pass (.some rfl rfl rfl rfl) rfl ?_
        refine AO.val (RV.pickT rfl rfl) (.none rfl) rfl ?_
        refine AO.nil ?_
        refine AK.condT rfl ?_
        refine AK.draw [] [10, 12] mixed ?_
        refine AD.takeP 0 rfl (by kernel_rfl) (RV.move rfl) (.none rfl) rfl ?_
        refine AD.takeP 1 rfl (by kernel_rfl) (RV.move rfl) (.none rfl) rfl ?_
        refine AD.takeP 2 rfl (by kernel_rfl) (RV.nilCheck rfl) (.none rfl) rfl ?_
        refine AD.takeP 3 rfl (by kernel_rfl) (by first | exact RV.fieldAddr rfl | exact RV.fieldAddrA rfl) (.none rfl) rfl ?_
        refine AD.take 4 rfl (by kernel_rfl) (by first | exact RV.loadAggO rfl rfl (by first | simp | assumption) | exact RV.loadAggP rfl rfl rfl (by first | simp | assumption)) (.none rfl) rfl ?_
        refine AD.takeP 5 rfl (by kernel_rfl) (RV.move rfl) (.none rfl) rfl ?_
        refine AD.takeP 6 rfl (by kernel_rfl) (RV.nilCheck rfl) (.none rfl) rfl ?_
        refine AD.takeP 7 rfl (by kernel_rfl) (by first | exact RV.fieldAddr rfl | exact RV.fieldAddrA rfl) (.none rfl) rfl ?_
        refine AD.take 8 rfl (by kernel_rfl) (by first | exact RV.loadO rfl rfl (by first | simp | assumption) | exact RV.loadSF rfl (by assumption) (fun _ => rfl) (by omega) rfl rfl (by first | simp | assumption) | exact RV.loadS rfl (by assumption) (by omega) (by first | simp | assumption)) (.none rfl) rfl ?_
        refine AD.takeP 9 rfl (by kernel_rfl) (RV.move rfl) (.none rfl) rfl ?_
        refine AD.one 10 (by kernel_rfl) (AE.eff rfl (EF.callF rfl (mfill_spec B _ lo hi m (fitL l (lget vs i).1) (hr29.src fun x hx => by simp [hx]) (fun b0 hb0 => hid b0 (List.mem_filter.1 hb0).1) hc29 (by omega))) (.none rfl) rfl ?_)
        rintro _ _ ⟨A64, c64, p64, rfl, hr64, hc64, rfl⟩
        refine ⟨.inl (by kernel_rfl), ?_⟩
        refine AD.takeP 11 rfl (by kernel_rfl) (RV.build rfl (.cons rfl rfl rfl rfl (.cons rfl rfl rfl rfl .nil))) (.none rfl) rfl ?_
        refine AD.one 12 (by kernel_rfl) (AE.effN rfl (EF.storeO rfl rfl rfl rfl rfl rfl) (.none rfl) ?_)
        rintro _ _ rfl
        refine ⟨.inl (by kernel_rfl), ?_⟩
        refine AD.takeP 13 rfl (by kernel_rfl) (RV.assign rfl) (.none rfl) rfl ?_
        refine AD.done (by kernel_rfl) ?_
        refine AK.region ?_
        refine AO.val (RV.move rfl) (.none rfl) rfl ?_
        refine AO.val (by first | exact RV.fieldAddr rfl | exact RV.fieldAddrA rfl) (.none rfl) rfl ?_
        refine AO.val (by first | exact RV.loadO rfl rfl (by first | simp | assumption) | exact RV.loadSF rfl (by assumption) (fun _ => rfl) (by omega) rfl rfl (by first | simp | assumption) | exact RV.loadS rfl (by assumption) (by omega) (by first | simp | assumption)) (.none rfl) rfl ?_
        refine AO.val (by first | exact RV.loadAggO rfl rfl (by first | simp | assumption) | exact RV.loadAggP rfl rfl rfl (by first | simp | assumption)) (.none rfl) rfl ?_
        refine AO.effN (EF.mapUpdate (((⟨A31, c31, (fitP l (lget vs i).1)⟩, ⟨A64, c64, fillS lo hi m (fitP l (lget vs i).1)⟩) : TB)) rfl rfl rfl) (.none rfl) ?_
        rintro _ _ rfl
        refine AO.nil ?_
        refine AK.inBlock ?_
        refine AK.region ?_
        refine AO.val (by first | exact RV.addIn rfl rfl (by omega) | exact RV.add rfl rfl) (.none rfl) rfl ?_
        refine AO.val (RV.move rfl) (.none rfl) rfl ?_
        refine AO.nil ?_
        -- round ends at L0TFt
        refine AK.perm (perm_new ..) ?_
        refine AK.weak (.cons (by exact rfl) (.cons (by exact rfl) (.cons (by exact rfl) (.cons (by exact rfl) (.cons (by exact rfl) (.cons (by exact rfl) (.cons (by exact rfl) .nil))))))) (.cons _ ((List.sublist_cons_self _ _).trans (List.sublist_append_right _ _))) (hih0 (i + 1, nr, updT ln cn (lget vs i).1 ((⟨A31, c31, (fitP l (lget vs i).1)⟩, ⟨A64, c64, fillS lo hi m (fitP l (lget vs i).1)⟩) : TB), clkT ln cn (lget vs i).1, p64 ++ (p31 ++ X), true) ?_ ?_)
        · try dsimp only
          refine ⟨by omega, by omega, hkn.upd _ _ _, hsn.upd _ _, ((bn.mono fun x hx => by simp only [List.mem_append] at hx ⊢; rcases hx with hx | hx <;> simp [hx]).upd (p := (fitP l (lget vs i).1)) ⟨rfl, rfl, hp0, hr31.src fun x hx => by simp [hx], hr64.src fun x hx => by simp [hx], by have := fit_len l (lget vs i).1; simp only [fitP, List.length_map]; omega, hc64⟩ cn (lget vs i).1 (T' := tabV (vs.take (i + 1).toNat) l) fun j => ?_), ?_⟩
          · rw [take_vs hi0 (by omega), tabV_snoc]; split
            · next e0 => rw [e0]
            · rfl
          · rw [take_vs hi0 (by omega), other_snoc]; simp [hp0, hT0]
        · try dsimp only
          omega
      · intro hg3
        try simp only [decide_eq_true_eq, decide_eq_false_iff_not, Bool.not_eq_true', Bool.not_eq_false', beq_iff_eq] at hg3
        obtain ⟨t0, hft⟩ : ∃ t, findT ml (lget vs i).1 = some t := by cases hf : findT ml (lget vs i).1 with
                                                                                    | none => (exfalso; simp_all)
                                                                                    | some t => exact ⟨t, rfl⟩
        have hto := bm.some_ _ _ hft
        have hgd : ((findT ml (lget vs i).1).getD zeroT) = t0 := by rw [hft]; rfl
        refine AO.val (by first | exact RV.fieldAddr rfl | exact RV.fieldAddrA rfl) (.some rfl rfl rfl rfl) rfl ?_
        refine AO.val (by first | exact RV.loadO rfl rfl (by first | simp | assumption) | exact RV.loadSF rfl (by assumption) (fun _ => rfl) (by omega) rfl rfl (by first | simp | assumption) | exact RV.loadS rfl (by assumption) (by omega) (by first | simp | assumption)) (.some rfl rfl rfl rfl) rfl ?_
        refine AO.val (RV.move rfl) (.some rfl rfl rfl rfl) rfl ?_
        refine AO.eff (EF.callF rfl (equal_spec B _ ((findT ml (lget vs i).1).getD zeroT).1.l (fitP l (lget vs i).1) (by rw [hgd]; exact hto.s1.mono fun x hx => by simp [hD x hx]) (hr31.src fun x hx => by simp [hx]) (by rw [hgd]; exact hto.ln))) (.some rfl rfl rfl rfl) rfl ?_
        rintro _ _ ⟨rfl, rfl⟩
        refine AO.val (RV.not rfl) (.some rfl rfl rfl rfl) rfl ?_
        refine AO.val (RV.pickF rfl rfl) (.none rfl) rfl ?_
        refine AO.nil ?_
        refine AK.cond rfl ?_ ?_
        · intro hc4
          try simp only [decide_eq_true_eq, decide_eq_false_iff_not, Bool.not_eq_true', Bool.not_eq_false', beq_iff_eq] at hc4
          have hT0 : T (lget vs i).1 ≠ (fitP l (lget vs i).1) := by intro e0; rw [← hto.sh] at e0; simp [hgd, e0] at hc4
          refine AK.draw [] [10, 12] mixed ?_
          refine AD.takeP 0 rfl (by kernel_rfl) (RV.move rfl) (.none rfl) rfl ?_
          refine AD.takeP 1 rfl (by kernel_rfl) (RV.move rfl) (.none rfl) rfl ?_
          refine AD.takeP 2 rfl (by kernel_rfl) (RV.nilCheck rfl) (.none rfl) rfl ?_
          refine AD.takeP 3 rfl (by kernel_rfl) (by first | exact RV.fieldAddr rfl | exact RV.fieldAddrA rfl) (.none rfl) rfl ?_
          refine AD.take 4 rfl (by kernel_rfl) (by first | exact RV.loadAggO rfl rfl (by first | simp | assumption) | exact RV.loadAggP rfl rfl rfl (by first | simp | assumption)) (.none rfl) rfl ?_
          refine AD.takeP 5 rfl (by kernel_rfl) (RV.move rfl) (.none rfl) rfl ?_
          refine AD.takeP 6 rfl (by kernel_rfl) (RV.nilCheck rfl) (.none rfl) rfl ?_
          refine AD.takeP 7 rfl (by kernel_rfl) (by first | exact RV.fieldAddr rfl | exact RV.fieldAddrA rfl) (.none rfl) rfl ?_
          refine AD.take 8 rfl (by kernel_rfl) (by first | exact RV.loadO rfl rfl (by first | simp | assumption) | exact RV.loadSF rfl (by assumption) (fun _ => rfl) (by omega) rfl rfl (by first | simp | assumption) | exact RV.loadS rfl (by assumption) (by omega) (by first | simp | assumption)) (.none rfl) rfl ?_
          refine AD.takeP 9 rfl (by kernel_rfl) (RV.move rfl) (.none rfl) rfl ?_
          refine AD.one 10 (by kernel_rfl) (AE.eff rfl (EF.callF rfl (mfill_spec B _ lo hi m (fitL l (lget vs i).1) (hr29.src fun x hx => by simp [hx]) (fun b0 hb0 => hid b0 (List.mem_filter.1 hb0).1) hc29 (by omega))) (.none rfl) rfl ?_)
          rintro _ _ ⟨A64, c64, p64, rfl, hr64, hc64, rfl⟩
          refine ⟨.inl (by kernel_rfl), ?_⟩
          refine AD.takeP 11 rfl (by kernel_rfl) (RV.build rfl (.cons rfl rfl rfl rfl (.cons rfl rfl rfl rfl .nil))) (.none rfl) rfl ?_
          refine AD.one 12 (by kernel_rfl) (AE.effN rfl (EF.storeO rfl rfl rfl rfl rfl rfl) (.none rfl) ?_)
          rintro _ _ rfl
          refine ⟨.inl (by kernel_rfl), ?_⟩
          refine AD.takeP 13 rfl (by kernel_rfl) (RV.assign rfl) (.none rfl) rfl ?_
          refine AD.done (by kernel_rfl) ?_
          refine AK.region ?_
          refine AO.val (RV.move rfl) (.none rfl) rfl ?_
          refine AO.val (by first | exact RV.fieldAddr rfl | exact RV.fieldAddrA rfl) (.none rfl) rfl ?_
          refine AO.val (by first | exact RV.loadO rfl rfl (by first | simp | assumption) | exact RV.loadSF rfl (by assumption) (fun _ => rfl) (by omega) rfl rfl (by first | simp | assumption) | exact RV.loadS rfl (by assumption) (by omega) (by first | simp | assumption)) (.none rfl) rfl ?_
          refine AO.val (by first | exact RV.loadAggO rfl rfl (by first | simp | assumption) | exact RV.loadAggP rfl rfl rfl (by first | simp | assumption)) (.none rfl) rfl ?_
          refine AO.effN (EF.mapUpdate (((⟨A31, c31, (fitP l (lget vs i).1)⟩, ⟨A64, c64, fillS lo hi m (fitP l (lget vs i).1)⟩) : TB)) rfl rfl rfl) (.none rfl) ?_
          rintro _ _ rfl
          refine AO.nil ?_
          refine AK.inBlock ?_
          refine AK.region ?_
          refine AO.val (by first | exact RV.addIn rfl rfl (by omega) | exact RV.add rfl rfl) (.none rfl) rfl ?_
          refine AO.val (RV.move rfl) (.none rfl) rfl ?_
          refine AO.nil ?_
          -- round ends at L0TFfT
          refine AK.perm (perm_new ..) ?_
          refine AK.weak (.cons (by exact rfl) (.cons (by exact rfl) (.cons (by exact rfl) (.cons (by exact rfl) (.cons (by exact rfl) (.cons (by exact rfl) (.cons (by exact rfl) .nil))))))) (.cons _ ((List.sublist_cons_self _ _).trans (List.sublist_append_right _ _))) (hih0 (i + 1, nr, updT ln cn (lget vs i).1 ((⟨A31, c31, (fitP l (lget vs i).1)⟩, ⟨A64, c64, fillS lo hi m (fitP l (lget vs i).1)⟩) : TB), clkT ln cn (lget vs i).1, p64 ++ (p31 ++ X), true) ?_ ?_)
          · try dsimp only
            refine ⟨by omega, by omega, hkn.upd _ _ _, hsn.upd _ _, ((bn.mono fun x hx => by simp only [List.mem_append] at hx ⊢; rcases hx with hx | hx <;> simp [hx]).upd (p := (fitP l (lget vs i).1)) ⟨rfl, rfl, hp0, hr31.src fun x hx => by simp [hx], hr64.src fun x hx => by simp [hx], by have := fit_len l (lget vs i).1; simp only [fitP, List.length_map]; omega, hc64⟩ cn (lget vs i).1 (T' := tabV (vs.take (i + 1).toNat) l) fun j => ?_), ?_⟩
            · rw [take_vs hi0 (by omega), tabV_snoc]; split
              · next e0 => rw [e0]
              · rfl
            · rw [take_vs hi0 (by omega), other_snoc]; simp [hp0, hT0]
          · try dsimp only
            omega
        · intro hc4
          try simp only [decide_eq_true_eq, decide_eq_false_iff_not, Bool.not_eq_true', Bool.not_eq_false', beq_iff_eq] at hc4
          have hT1 : T (lget vs i).1 = (fitP l (lget vs i).1) := by rw [← hto.sh]; simpa [hgd] using hc4
          refine AK.skip ?_
          refine AK.region ?_
          refine AO.val (RV.move rfl) (.none rfl) rfl ?_
          refine AO.val (by first | exact RV.fieldAddr rfl | exact RV.fieldAddrA rfl) (.none rfl) rfl ?_
          refine AO.val (by first | exact RV.loadO rfl rfl (by first | simp | assumption) | exact RV.loadSF rfl (by assumption) (fun _ => rfl) (by omega) rfl rfl (by first | simp | assumption) | exact RV.loadS rfl (by assumption) (by omega) (by first | simp | assumption)) (.none rfl) rfl ?_
          refine AO.val (by first | exact RV.loadAggO rfl rfl (by first | simp | assumption) | exact RV.loadAggP rfl rfl rfl (by first | simp | assumption)) (.none rfl) rfl ?_
          refine AO.effN (EF.mapUpdate (((findT ml (lget vs i).1).getD zeroT)) rfl rfl rfl) (.none rfl) ?_
          rintro _ _ rfl
          refine AO.nil ?_
          refine AK.inBlock ?_
          refine AK.region ?_
          refine AO.val (by first | exact RV.addIn rfl rfl (by omega) | exact RV.add rfl rfl) (.none rfl) rfl ?_
          refine AO.val (RV.move rfl) (.none rfl) rfl ?_
          refine AO.nil ?_
          -- round ends at L0TFfF
          refine AK.weak (.cons (by exact rfl) (.cons (by exact rfl) (.cons (by exact rfl) (.cons (by exact rfl) (.cons (by exact rfl) (.cons (by exact rfl) (.cons (by exact rfl) .nil))))))) (.cons _ (((List.sublist_cons_self _ _).trans (List.sublist_append_right _ _)).trans (List.sublist_append_right _ _))) (hih0 (i + 1, nr, updT ln cn (lget vs i).1 ((findT ml (lget vs i).1).getD zeroT), clkT ln cn (lget vs i).1, X, tb) ?_ ?_)
          · try dsimp only
            refine ⟨by omega, by omega, hkn.upd _ _ _, hsn.upd _ _, (bn.upd (show TOk _ _ _ (T (lget vs i).1) ((findT ml (lget vs i).1).getD zeroT) by rw [hgd]; exact hto.mono (fun x hx => List.mem_append_right _ hx)) cn (lget vs i).1 (T' := tabV (vs.take (i + 1).toNat) l) fun j => ?_), ?_⟩
            · rw [take_vs hi0 (by omega), tabV_snoc]; split
              · next e0 => rw [e0, hT1]
              · rfl
            · rw [take_vs hi0 (by omega), other_snoc, htb]; simp [hT1]
          · try dsimp only
            omega
  · intro hc1
    try simp only [decide_eq_true_eq, decide_eq_false_iff_not, Bool.not_eq_true', Bool.not_eq_false', beq_iff_eq] at hc1
    refine AK.exit rfl ?_
    refine AK.seq ?_
    refine AK.seq ?_
    refine AK.region ?_
    refine AO.val (RV.move rfl) (.none rfl) rfl ?_
    refine AO.val (RV.nilCheck rfl) (.none rfl) rfl ?_
    refine AO.val (by first | exact RV.fieldAddr rfl | exact RV.fieldAddrA rfl) (.none rfl) rfl ?_
    refine AO.val (by first | exact RV.loadO rfl rfl (by first | simp | assumption) | exact RV.loadSF rfl (by assumption) (fun _ => rfl) (by omega) rfl rfl (by first | simp | assumption) | exact RV.loadS rfl (by assumption) (by omega) (by first | simp | assumption)) (.none rfl) rfl ?_
    refine AO.eff (EF.range rfl) (.none rfl) rfl ?_
    rintro _ _ ⟨b75, hf75, rfl, rfl⟩
    refine AO.nil ?_
    refine AK.block ?_
    refine AK.loop (α := List Nat × Nat × Bool) (E := fun (VV, cc, t2) => [(0, .pointer (some ⟨b, 0, none⟩)), (5, .map (some nr)), (6, .bool t2), (75, .pointer (some ⟨b75, 0, none⟩))]) (H := fun (VV, cc, t2) => (b75, itB mr mc VV cc) :: ((nr, mapB .i64 evT ln cn) :: ((b3, Blk.cells [.slice Av vs.length cv, .slice A l.length cap] 37 (0, 0)) :: ((b, Blk.cells [.int .u64 lo, .int .u64 hi, .int .i64 m, .map (some mr), .int .i64 ver] 61 (0, 0)) :: ((mr, mapB .i64 evT ml mc) :: (X ++ h)))))) (Inv := fun (VV, cc, t2) => mc ≤ cc ∧ (t2 = true ↔ tb = true ∨ Gone ml ln VV)) (μ := fun (VV, cc, t2) => leftM ml VV) ([], mc, tb) ?_ (.cons (by exact rfl) (.cons (by exact rfl) (.cons (by exact rfl) (.cons (by exact rfl) .nil)))) ?_ ?_
    · exact ⟨Nat.le_refl _, ⟨fun h0 => .inl h0, fun h0 => h0.elim id fun h1 => absurd h1 (gone_nil _ _)⟩⟩
    · exact List.Sublist.refl _
    rintro ⟨VV, cc, t2⟩ ⟨hcc, ht2⟩ hih1
    try dsimp only at hih1 ⊢
    refine AK.seq ?_
    refine AK.region ?_
    refine AO.eff (EF.next rfl hst hcc) (.none rfl) rfl ?_
    rintro _ _ (⟨hall, rfl, rfl⟩ | ⟨yy, hyl, hyn, rfl, rfl⟩)
    · try dsimp only
      refine AO.val (RV.extract rfl rfl) (.none rfl) rfl ?_
      refine AO.nil ?_
      refine AK.seq ?_
      refine AK.condF rfl ?_
      refine AK.exit rfl ?_
      refine AK.seq ?_
      refine AK.region ?_
      refine AO.val (RV.move rfl) (.none rfl) rfl ?_
      refine AO.val (RV.move rfl) (.none rfl) rfl ?_
      refine AO.val (RV.nilCheck rfl) (.none rfl) rfl ?_
      refine AO.val (by first | exact RV.fieldAddr rfl | exact RV.fieldAddrA rfl) (.none rfl) rfl ?_
      refine AO.effN (EF.storeO rfl rfl rfl rfl rfl rfl) (.none rfl) ?_
      rintro _ _ rfl
      refine AO.nil ?_
      refine AK.seq ?_
      refine AK.seq ?_
      refine AK.region ?_
      refine AO.val (RV.move rfl) (.none rfl) rfl ?_
      refine AO.nil ?_
      refine AK.cond rfl ?_ ?_
      · intro hc5
        try simp only [decide_eq_true_eq, decide_eq_false_iff_not, Bool.not_eq_true', Bool.not_eq_false', beq_iff_eq] at hc5
        have ht6 := hc5
        refine AK.region ?_
        refine AO.val (RV.move rfl) (.none rfl) rfl ?_
        refine AO.val (RV.nilCheck rfl) (.none rfl) rfl ?_
        refine AO.val (by first | exact RV.fieldAddr rfl | exact RV.fieldAddrA rfl) (.none rfl) rfl ?_
        refine AO.val (by first | exact RV.loadO rfl rfl (by first | simp | assumption) | exact RV.loadSF rfl (by assumption) (fun _ => rfl) (by omega) rfl rfl (by first | simp | assumption) | exact RV.loadS rfl (by assumption) (by omega) (by first | simp | assumption)) (.none rfl) rfl ?_
        refine AO.val (by first | exact RV.addIn rfl rfl (by omega) | exact RV.add rfl rfl) (.none rfl) rfl ?_
        refine AO.val (RV.nilCheck rfl) (.none rfl) rfl ?_
        refine AO.val (by first | exact RV.fieldAddr rfl | exact RV.fieldAddrA rfl) (.none rfl) rfl ?_
        refine AO.effN (EF.storeO rfl rfl rfl rfl rfl rfl) (.none rfl) ?_
        rintro _ _ rfl
        refine AO.nil ?_
        refine AK.seq ?_
        refine AK.region ?_
        refine AO.val (RV.move rfl) (.none rfl) rfl ?_
        refine AO.val (RV.assign rfl) (.none rfl) rfl ?_
        refine AO.nil ?_
        -- at L0FL1oT
        clear hih0
        clear hih1
        refine AK.perm (perm_end ..) ?_
        refine AK.ret (h' := (b, Blk.cells [.int .u64 lo, .int .u64 hi, .int .i64 m, .map (some nr), .int .i64 (ver + 1)] 61 (0, 0)) :: ((nr, mapB .i64 evT ln cn) :: (X ++ h))) Try.func11 (.tmp rfl .nil) ?_ (.cons _ (.cons _ (.cons_cons _ (.cons_cons _ (List.sublist_cons_self _ _)))))
        have hti : vs.take i.toNat = vs := List.take_of_length_le (by omega)
        rw [hti] at bn htb
        rw [gone_all hall, htb] at ht2
        have ht6b : t2 = true := by simpa using ht6
        exact ⟨nr, ln, cn, X, t2, by rw [ht6b]; simp, rfl, turned_iff bm bn ht2, hkn, hsn, bn⟩
      · intro hc5
        try simp only [decide_eq_true_eq, decide_eq_false_iff_not, Bool.not_eq_true', Bool.not_eq_false', beq_iff_eq] at hc5
        have ht6 := hc5
        refine AK.skip ?_
        refine AK.seq ?_
        refine AK.region ?_
        refine AO.val (RV.move rfl) (.none rfl) rfl ?_
        refine AO.val (RV.assign rfl) (.none rfl) rfl ?_
        refine AO.nil ?_
        -- at L0FL1oF
        clear hih0
        clear hih1
        refine AK.perm (perm_end ..) ?_
        refine AK.ret (h' := (b, Blk.cells [.int .u64 lo, .int .u64 hi, .int .i64 m, .map (some nr), .int .i64 ver] 61 (0, 0)) :: ((nr, mapB .i64 evT ln cn) :: (X ++ h))) Try.func11 (.tmp rfl .nil) ?_ (.cons _ (.cons _ (.cons_cons _ (.cons_cons _ (List.sublist_cons_self _ _)))))
        have hti : vs.take i.toNat = vs := List.take_of_length_le (by omega)
        rw [hti] at bn htb
        rw [gone_all hall, htb] at ht2
        have ht6b : t2 = false := by simpa using ht6
        exact ⟨nr, ln, cn, X, t2, by rw [ht6b]; simp, rfl, turned_iff bm bn ht2, hkn, hsn, bn⟩
    · try dsimp only
      refine AO.val (RV.extract rfl rfl) (.none rfl) rfl ?_
      refine AO.nil ?_
      refine AK.seq ?_
      refine AK.condT rfl ?_
      refine AK.skip ?_
      refine AK.block ?_
      refine AK.seq ?_
      refine AK.region ?_
      refine AO.val (RV.entry rfl hyl hst (by simp)) (.none rfl) rfl ?_
      refine AO.val (RV.extract rfl rfl) (.none rfl) rfl ?_
      refine AO.val (RV.assign rfl) (.none rfl) rfl ?_
      refine AO.nil ?_
      refine AK.seq ?_
      refine AK.region ?_
      refine AO.val (RV.move rfl) (.none rfl) rfl ?_
      refine AO.val (RV.move rfl) (.none rfl) rfl ?_
      refine AO.val (RV.lookupOk zeroT rfl rfl rfl (by simp)) (.none rfl) rfl ?_
      refine AO.val (RV.move rfl) (.none rfl) rfl ?_
      refine AO.val (RV.extract rfl rfl) (.none rfl) rfl ?_
      refine AO.val (RV.extract rfl rfl) (.none rfl) rfl ?_
      refine AO.eff (EF.alloc) (.none rfl) rfl ?_
      rintro _ _ ⟨b14, hf14, rfl, rfl⟩
      refine AO.effN (EF.storeO rfl rfl rfl rfl rfl rfl) (.none rfl) ?_
      rintro _ _ rfl
      refine AO.val (RV.assign rfl) (.none rfl) rfl ?_
      refine AO.nil ?_
      refine AK.seq ?_
      refine AK.region ?_
      refine AO.val (RV.move rfl) (.none rfl) rfl ?_
      refine AO.val (RV.not rfl) (.none rfl) rfl ?_
      refine AO.nil ?_
      refine AK.cond rfl ?_ ?_
      · intro hc6
        try simp only [decide_eq_true_eq, decide_eq_false_iff_not, Bool.not_eq_true', Bool.not_eq_false', beq_iff_eq] at hc6
        have hlk := hc6
        refine AK.region ?_
        refine AO.val (RV.assign rfl) (.none rfl) rfl ?_
        refine AO.nil ?_
        refine AK.inBlock ?_
        -- round ends at L0FL1xT
        refine AK.weak (.cons (by exact rfl) (.cons (by exact rfl) (.cons (by exact rfl) (.cons (by exact rfl) .nil)))) (by first | exact SubO.sub | exact .cons _ (List.Sublist.refl _)) (hih1 (VV ++ [yy.2.2], mc, true) ?_ ?_)
        · try dsimp only
          refine ⟨Nat.le_refl _, ?_⟩
          rw [gone_step hst hyl]
          have hno : findT ln yy.1 = none := by simpa using hlk
          simp [hno]
        · try dsimp only
          exact leftM_less hyl hyn
      · intro hc6
        try simp only [decide_eq_true_eq, decide_eq_false_iff_not, Bool.not_eq_true', Bool.not_eq_false', beq_iff_eq] at hc6
        have hlk := hc6
        refine AK.skip ?_
        refine AK.inBlock ?_
        -- round ends at L0FL1xF
        refine AK.weak (.cons (by exact rfl) (.cons (by exact rfl) (.cons (by exact rfl) (.cons (by exact rfl) .nil)))) (by first | exact SubO.sub | exact .cons _ (List.Sublist.refl _)) (hih1 (VV ++ [yy.2.2], mc, t2) ?_ ?_)
        · try dsimp only
          refine ⟨Nat.le_refl _, ?_⟩
          rw [gone_step hst hyl, ht2]
          have hno : findT ln yy.1 ≠ none := by intro h0; rw [h0] at hlk; simp at hlk
          simp [hno]
        · try dsimp only
          exact leftM_less hyl hyn

end Go.Proofs.Ytbdlohjmifgcaaa
