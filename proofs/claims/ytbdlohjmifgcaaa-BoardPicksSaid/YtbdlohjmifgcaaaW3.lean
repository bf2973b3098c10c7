/- Walks through the code: what each function that is named here gives back, from any memory that holds its arguments. Written by a program of the claim's author, out of the program's form in Lean. -/
import Derived.Test.YtbdlohjmifgcaaaW2
set_option linter.unusedSimpArgs false
set_option linter.unusedVariables false
namespace Go.Proofs.Ytbdlohjmifgcaaa
open Go.Sep Go.Sep.Sip Go.Sep.Perm Go.Sep.Maglev Go.Sep.Board Go.Sep.Cookie
theorem perm_one3 (x b m : Nat × Blk) (r : Own) : (x :: b :: m :: r).Perm (b :: m :: x :: r) := perm_count fun y => by simp only [List.count_cons]; omega
theorem perm_two3 (x y b m : Nat × Blk) (r : Own) : (x :: y :: b :: m :: r).Perm (b :: m :: x :: y :: r) := perm_count fun z => by simp only [List.count_cons]; omega

theorem bnew_spec (B : World) (h : Own) (lo hi m : Int) : Tri Try.prog B 8 [.agg #[.int .u64 lo, .int .u64 hi], .int .i64 m] h fun v h' => ∃ b mr, v = .pointer (some ⟨b, 0, none⟩) ∧ h' = (b, Blk.cells [.int .u64 lo, .int .u64 hi, .int .i64 m, .map (some mr), .int .i64 0] 61 (0, 0)) :: ((mr, mapB .i64 evT ([] : List (Ent TB)) 0) :: h) := by
  refine Tri.enter (n := 10) Try.func8 rfl rfl rfl ?_
  simp only [argsE, Nat.reduceAdd]
  try dsimp only [argsE]
  refine AK.seq ?_
  refine AK.region ?_
  refine AO.eff (EF.box rfl rfl) (.none rfl) rfl ?_
  rintro _ _ ⟨b2, hf2, rfl, rfl⟩
  refine AO.val (RV.assign rfl) (.none rfl) rfl ?_
  refine AO.nil ?_
  refine AK.seq ?_
  refine AK.region ?_
  refine AO.val (by first | exact RV.loadAggO rfl rfl (by first | simp | assumption) | exact RV.loadAggP rfl rfl rfl (by first | simp | assumption)) (.none rfl) rfl ?_
  refine AO.val (RV.move rfl) (.none rfl) rfl ?_
  refine AO.eff (EF.makeMap (α := TB) .i64 evT) (.none rfl) rfl ?_
  rintro _ _ ⟨b7, hf7, rfl, rfl⟩
  refine AO.val (RV.build rfl (.cons rfl rfl rfl rfl (.cons rfl rfl rfl rfl (.cons rfl rfl rfl rfl .nil)))) (.none rfl) rfl ?_
  refine AO.eff (EF.box rfl rfl) (.none rfl) rfl ?_
  rintro _ _ ⟨b9, hf9, rfl, rfl⟩
  refine AO.val (RV.assign rfl) (.none rfl) rfl ?_
  refine AO.nil ?_
  -- at 
  refine AK.ret (h' := (b9, Blk.cells [.int .u64 lo, .int .u64 hi, .int .i64 m, .map (some b7), .int .i64 0] 61 (0, 0)) :: ((b7, mapB .i64 evT ([] : List (Ent TB)) 0) :: h)) Try.func8 (.tmp rfl .nil) ?_ (.cons_cons _ (.cons_cons _ (List.sublist_cons_self _ _)))
  exact ⟨b9, b7, rfl, rfl⟩

theorem bversion_spec (B : World) (h : Own) (lo hi m : Int) (b mr : Nat) (ver : Int) : Tri Try.prog B 12 [.pointer (some ⟨b, 0, none⟩)] ((b, Blk.cells [.int .u64 lo, .int .u64 hi, .int .i64 m, .map (some mr), .int .i64 ver] 61 (0, 0)) :: h) fun v h' => h' = ((b, Blk.cells [.int .u64 lo, .int .u64 hi, .int .i64 m, .map (some mr), .int .i64 ver] 61 (0, 0)) :: h) ∧ v = .int .i64 ver := by
  refine Tri.enter (n := 9) Try.func12 rfl rfl rfl ?_
  simp only [argsE, Nat.reduceAdd]
  try dsimp only [argsE]
  refine AK.seq ?_
  refine AK.region ?_
  refine AO.val (RV.assign rfl) (.none rfl) rfl ?_
  refine AO.nil ?_
  refine AK.seq ?_
  refine AK.seq ?_
  refine AK.region ?_
  refine AO.val (RV.move rfl) (.none rfl) rfl ?_
  refine AO.val (RV.eqlP rfl rfl) (.none rfl) rfl ?_
  refine AO.nil ?_
  refine AK.condF rfl ?_
  refine AK.skip ?_
  refine AK.seq ?_
  refine AK.region ?_
  refine AO.val (RV.move rfl) (.none rfl) rfl ?_
  refine AO.val (RV.nilCheck rfl) (.none rfl) rfl ?_
  refine AO.val (RV.fieldAddr rfl) (.none rfl) rfl ?_
  refine AO.val (by first | exact RV.loadO rfl rfl (by first | simp | assumption) | exact RV.loadS rfl (by assumption) (by omega) (by first | simp | assumption)) (.none rfl) rfl ?_
  refine AO.val (RV.assign rfl) (.none rfl) rfl ?_
  refine AO.nil ?_
  -- at 
  refine AK.ret (h' := (b, Blk.cells [.int .u64 lo, .int .u64 hi, .int .i64 m, .map (some mr), .int .i64 ver] 61 (0, 0)) :: h) Try.func12 (.tmp rfl .nil) ?_ (by first | exact SubO.sub | exact List.Sublist.refl _ | exact .cons _ (List.Sublist.refl _) | exact .cons _ (.cons _ (List.Sublist.refl _)) | exact .cons _ (.cons _ (.cons _ (List.Sublist.refl _))))
  exact ⟨rfl, rfl⟩

theorem clonei_spec (B : World) (h : Own) {A : Option Addr} {cap : Nat} (l : List Int) (hl : Src B h A l.length 1 (l.map (fun x => Value.int .i64 x))) (hln : l.length ≤ 1000000) (hcap : l.length ≤ cap) : Tri Try.prog B 33 [.slice A l.length cap] h fun v h' => NewS 3 1 l.length (l.map (fun x => Value.int .i64 x)) h v h' := by
  refine Tri.enter (n := 8) Try.func33 rfl rfl rfl ?_
  simp only [argsE, Nat.reduceAdd]
  try dsimp only [argsE]
  refine AK.seq ?_
  refine AK.region ?_
  refine AO.val (RV.assign rfl) (.none rfl) rfl ?_
  refine AO.nil ?_
  refine AK.seq ?_
  refine AK.seq ?_
  refine AK.region ?_
  refine AO.val (RV.move rfl) (.none rfl) rfl ?_
  refine AO.val (RV.eqlSn rfl rfl) (.none rfl) rfl ?_
  refine AO.nil ?_
  refine AK.cond rfl ?_ ?_
  · intro hc1
    try simp only [decide_eq_true_eq, decide_eq_false_iff_not, Bool.not_eq_true', Bool.not_eq_false', beq_iff_eq] at hc1
    refine AK.seq ?_
    refine AK.region ?_
    refine AO.val (RV.assign rfl) (.none rfl) rfl ?_
    refine AO.nil ?_
    -- at T
    refine AK.ret (h' := h) Try.func33 (.tmp rfl .nil) ?_ (by exact SubO.sub)
    have hfl := hl.isNone (by simpa using hc1)
    have hz : l = [] := List.map_eq_nil_iff.1 hfl
    subst hz
    exact ⟨none, 0, [], rfl, .nil, Nat.le_refl _, rfl⟩
  · intro hc1
    try simp only [decide_eq_true_eq, decide_eq_false_iff_not, Bool.not_eq_true', Bool.not_eq_false', beq_iff_eq] at hc1
    refine AK.skip ?_
    refine AK.seq ?_
    refine AK.region ?_
    refine AO.eff (EF.buildSeq [] rfl rfl rfl rfl) (.none rfl) rfl ?_
    rintro _ _ ⟨b5, hf5, rfl, rfl⟩
    refine AO.val (RV.move rfl) (.none rfl) rfl ?_
    refine AO.eff (EF.appendS (n' := l.length) (ys := l.map (fun x => Value.int .i64 x)) rfl rfl (Row.new (cs := []) rfl) hl.sub (by simp) (by simp) rfl (by decide) (by simp [Value.oneCell']) (by omega) (by omega)) (.none rfl) rfl ?_
    rintro _ _ ⟨A7, c7, p7, rfl, hr7, hc7, rfl⟩
    refine AO.val (RV.assign rfl) (.none rfl) rfl ?_
    refine AO.nil ?_
    -- at F
    refine AK.ret (h' := p7 ++ h) Try.func33 (.tmp rfl .nil) ?_ (by exact SubO.sub)
    exact ⟨A7, c7, p7, rfl, hr7, hc7, rfl⟩

theorem btable_spec (B : World) (h : Own) (lo hi m : Int) (b mr : Nat) (ver : Int) (ml : List (Ent TB)) (mc : Nat) (hks : KeysOk ml) (hst : StampT ml mc) (T : Int → List PL) (D : Own) (hD : ∀ x ∈ D, x ∈ h) (bm : BM (fillS lo hi m) B D ml T) (vip : Int) : Tri Try.prog B 16 [.pointer (some ⟨b, 0, none⟩), .int .i64 vip] ((b, Blk.cells [.int .u64 lo, .int .u64 hi, .int .i64 m, .map (some mr), .int .i64 ver] 61 (0, 0)) :: ((mr, mapB .i64 evT ml mc) :: h)) fun v h' => ∃ A c p, v = .slice A (fillS lo hi m (T vip)).length c ∧ Row 3 1 (.slice A (fillS lo hi m (T vip)).length c) (fillS lo hi m (T vip)).length ((fillS lo hi m (T vip)).map (fun x => Value.int .i64 x)) p ∧ (fillS lo hi m (T vip)).length ≤ c ∧ h' = p ++ ((b, Blk.cells [.int .u64 lo, .int .u64 hi, .int .i64 m, .map (some mr), .int .i64 ver] 61 (0, 0)) :: ((mr, mapB .i64 evT ml mc) :: h)) := by
  obtain ⟨hp1, hp2, hp3, hp4⟩ := bm.places vip
  refine Tri.enter (n := 15) Try.func16 rfl rfl rfl ?_
  simp only [argsE, Nat.reduceAdd]
  try dsimp only [argsE]
  refine AK.seq ?_
  refine AK.region ?_
  refine AO.val (RV.assign rfl) (.none rfl) rfl ?_
  refine AO.nil ?_
  refine AK.seq ?_
  refine AK.seq ?_
  refine AK.region ?_
  refine AO.val (RV.move rfl) (.none rfl) rfl ?_
  refine AO.val (RV.eqlP rfl rfl) (.none rfl) rfl ?_
  refine AO.nil ?_
  refine AK.condF rfl ?_
  refine AK.skip ?_
  refine AK.seq ?_
  refine AK.region ?_
  refine AO.val (RV.move rfl) (.none rfl) rfl ?_
  refine AO.val (RV.nilCheck rfl) (.none rfl) rfl ?_
  refine AO.val (RV.fieldAddr rfl) (.none rfl) rfl ?_
  refine AO.val (by first | exact RV.loadO rfl rfl (by first | simp | assumption) | exact RV.loadS rfl (by assumption) (by omega) (by first | simp | assumption)) (.none rfl) rfl ?_
  refine AO.val (RV.move rfl) (.none rfl) rfl ?_
  refine AO.val (RV.lookup zeroT rfl rfl rfl (by simp)) (.none rfl) rfl ?_
  refine AO.val (RV.field rfl rfl) (.none rfl) rfl ?_
  refine AO.eff (EF.callF rfl (clonei_spec (cap := ((findT ml vip).getD zeroT).2.cap) B _ ((findT ml vip).getD zeroT).2.l (hp2.mono fun x hx => by simp [hD x hx]) (by omega) hp3)) (.none rfl) rfl ?_
  rintro _ _ ⟨A14, c14, p14, rfl, hr14, hc14, rfl⟩
  rw [hp1] at hr14 hc14 ⊢
  refine AO.val (RV.assign rfl) (.none rfl) rfl ?_
  refine AO.nil ?_
  -- at 
  refine AK.ret (h' := p14 ++ ((b, Blk.cells [.int .u64 lo, .int .u64 hi, .int .i64 m, .map (some mr), .int .i64 ver] 61 (0, 0)) :: ((mr, mapB .i64 evT ml mc) :: h))) Try.func16 (.tmp rfl .nil) ?_ (by first | exact SubO.sub | exact List.Sublist.refl _ | exact .cons _ (List.Sublist.refl _) | exact .cons _ (.cons _ (List.Sublist.refl _)) | exact .cons _ (.cons _ (.cons _ (List.Sublist.refl _))))
  exact ⟨A14, c14, p14, rfl, hr14, hc14, rfl⟩

theorem bpick_spec (B : World) (h : Own) (lo hi m : Int) (b mr : Nat) (ver : Int) (ml : List (Ent TB)) (mc : Nat) (hks : KeysOk ml) (hst : StampT ml mc) (T : Int → List PL) (D : Own) (hD : ∀ x ∈ D, x ∈ h) (bm : BM (fillS lo hi m) B D ml T) (vip : Int) (f : Flow) (hf : FOk f) : Tri Try.prog B 13 [.pointer (some ⟨b, 0, none⟩), .int .i64 vip, .agg (encF f).toArray] ((b, Blk.cells [.int .u64 lo, .int .u64 hi, .int .i64 m, .map (some mr), .int .i64 ver] 61 (0, 0)) :: ((mr, mapB .i64 evT ml mc) :: h)) fun v h' => h' = ((b, Blk.cells [.int .u64 lo, .int .u64 hi, .int .i64 m, .map (some mr), .int .i64 ver] 61 (0, 0)) :: ((mr, mapB .i64 evT ml mc) :: h)) ∧ v = .tuple #[.int .i64 (if (fillS lo hi m (T vip)).length = 0 then 0 else lget (fillS lo hi m (T vip)) ((sumS lo hi (FB f)) % (fillS lo hi m (T vip)).length)), .bool (decide ((fillS lo hi m (T vip)).length ≠ 0))] := by
  obtain ⟨hp1, hp2, hp3, hp4⟩ := bm.places vip
  have hsu := sumS_U lo hi (FB f)
  simp only [U] at hsu
  refine Tri.enter (n := 27) Try.func13 rfl rfl rfl ?_
  simp only [argsE, Nat.reduceAdd]
  try dsimp only [argsE]
  refine AK.seq ?_
  refine AK.region ?_
  refine AO.eff (EF.box rfl rfl) (.none rfl) rfl ?_
  rintro _ _ ⟨b5, hf5, rfl, rfl⟩
  refine AO.val (RV.assign rfl) (.none rfl) rfl ?_
  refine AO.val (RV.assign rfl) (.none rfl) rfl ?_
  refine AO.nil ?_
  refine AK.seq ?_
  refine AK.seq ?_
  refine AK.region ?_
  refine AO.val (RV.move rfl) (.none rfl) rfl ?_
  refine AO.val (RV.eqlP rfl rfl) (.none rfl) rfl ?_
  refine AO.nil ?_
  refine AK.condF rfl ?_
  refine AK.skip ?_
  refine AK.seq ?_
  refine AK.draw [] [] mixed ?_
  refine AD.takeP 0 rfl (by kernel_rfl) (RV.move rfl) (.none rfl) rfl ?_
  refine AD.takeP 1 rfl (by kernel_rfl) (RV.nilCheck rfl) (.none rfl) rfl ?_
  refine AD.takeP 2 rfl (by kernel_rfl) (RV.fieldAddr rfl) (.none rfl) rfl ?_
  refine AD.take 3 rfl (by kernel_rfl) (by first | exact RV.loadO rfl rfl (by first | simp | assumption) | exact RV.loadS rfl (by assumption) (by omega) (by first | simp | assumption)) (.none rfl) rfl ?_
  refine AD.takeP 4 rfl (by kernel_rfl) (RV.move rfl) (.none rfl) rfl ?_
  refine AD.take 5 rfl (by kernel_rfl) (RV.lookup zeroT rfl rfl rfl (by simp)) (.none rfl) rfl ?_
  refine AD.takeP 6 rfl (by kernel_rfl) (RV.field rfl rfl) (.none rfl) rfl ?_
  refine AD.takeP 7 rfl (by kernel_rfl) (RV.move rfl) (.none rfl) rfl ?_
  refine AD.takeP 8 rfl (by kernel_rfl) (RV.nilCheck rfl) (.none rfl) rfl ?_
  refine AD.takeP 9 rfl (by kernel_rfl) (RV.fieldAddr rfl) (.none rfl) rfl ?_
  refine AD.take 10 rfl (by kernel_rfl) (RV.loadAggP rfl rfl rfl (by simp)) (.none rfl) rfl ?_
  refine AD.take 11 rfl (by kernel_rfl) (by first | exact RV.loadAggO rfl rfl (by first | simp | assumption) | exact RV.loadAggP rfl rfl rfl (by first | simp | assumption)) (.none rfl) rfl ?_
  refine AD.one 12 (by kernel_rfl) (AE.eff rfl (EF.callF rfl (fbytes_spec B _ f)) (.none rfl) rfl ?_)
  rintro _ _ ⟨A22, c22, p22, rfl, hr22, hc22, rfl⟩
  refine ⟨(by first | exact .inr fun x hx hM => hx | exact .inr fun x hx hM => List.mem_cons_of_mem _ hx | exact .inr fun x hx hM => List.mem_append_right _ hx), ?_⟩
  refine AD.one 13 (by kernel_rfl) (AE.eff rfl (EF.callF rfl (sum_spec (cap := c22) B _ lo hi (FB f) (hr22.src fun x hx => by simp [hx]) (FB_bytes hf) hc22 (by rw [FB_len]; omega))) (.none rfl) rfl ?_)
  rintro _ _ ⟨rfl, rfl⟩
  refine ⟨(by first | exact .inr fun x hx hM => hx | exact .inr fun x hx hM => List.mem_cons_of_mem _ hx | exact .inr fun x hx hM => List.mem_append_right _ hx), ?_⟩
  refine AD.one 14 (by kernel_rfl) (AE.eff rfl (EF.callF rfl (pick_spec (cap := ((findT ml vip).getD zeroT).2.cap) B _ ((findT ml vip).getD zeroT).2.l (hp2.mono fun x hx => by simp [hD x hx]) (by omega) (sumS lo hi (FB f)) (by omega))) (.none rfl) rfl ?_)
  rintro _ _ ⟨rfl, rfl⟩
  rw [hp1]
  refine ⟨(by first | exact .inr fun x hx hM => hx | exact .inr fun x hx hM => List.mem_cons_of_mem _ hx | exact .inr fun x hx hM => List.mem_append_right _ hx), ?_⟩
  refine AD.takeP 15 rfl (by kernel_rfl) (RV.extract rfl rfl) (.none rfl) rfl ?_
  refine AD.takeP 16 rfl (by kernel_rfl) (RV.extract rfl rfl) (.none rfl) rfl ?_
  refine AD.takeP 17 rfl (by kernel_rfl) (RV.assign rfl) (.none rfl) rfl ?_
  refine AD.takeP 18 rfl (by kernel_rfl) (RV.assign rfl) (.none rfl) rfl ?_
  refine AD.done (by kernel_rfl) ?_
  -- at 
  refine AK.ret (h' := ((b, Blk.cells [.int .u64 lo, .int .u64 hi, .int .i64 m, .map (some mr), .int .i64 ver] 61 (0, 0)) :: ((mr, mapB .i64 evT ml mc) :: h))) Try.func13 (.tmp rfl (.tmp rfl .nil)) ?_ ((List.sublist_cons_self _ _).trans (List.sublist_append_right _ _))
  exact ⟨rfl, rfl⟩

theorem nrefresh_spec (B : World) (h : Own) (a c : Value) : Tri Try.prog B 11 [.pointer none, .agg #[a, c]] h fun v h' => h = h' ∧ v = .bool false := by
  refine Tri.enter (n := 101) Try.func11 rfl rfl rfl ?_
  simp only [argsE, Nat.reduceAdd]
  try dsimp only [argsE]
  refine AK.seq ?_
  refine AK.region ?_
  refine AO.eff (EF.box rfl rfl) (.none rfl) rfl ?_
  rintro _ _ ⟨b3, hf3, rfl, rfl⟩
  refine AO.val (RV.assign rfl) (.none rfl) rfl ?_
  refine AO.nil ?_
  refine AK.seq ?_
  refine AK.seq ?_
  refine AK.region ?_
  refine AO.val (RV.move rfl) (.none rfl) rfl ?_
  refine AO.val (RV.eqlP rfl rfl) (.none rfl) rfl ?_
  refine AO.nil ?_
  refine AK.condT rfl ?_
  refine AK.seq ?_
  refine AK.region ?_
  refine AO.val (RV.assign rfl) (.none rfl) rfl ?_
  refine AO.nil ?_
  -- at 
  refine AK.ret (h' := h) Try.func11 (.tmp rfl .nil) ?_ (by first | exact SubO.sub | exact List.Sublist.refl _ | exact .cons _ (List.Sublist.refl _) | exact .cons _ (.cons _ (List.Sublist.refl _)) | exact .cons _ (.cons _ (.cons _ (List.Sublist.refl _))))
  exact ⟨rfl, rfl⟩

theorem nversion_spec (B : World) (h : Own)  : Tri Try.prog B 12 [.pointer none] h fun v h' => h = h' ∧ v = .int .i64 0 := by
  refine Tri.enter (n := 9) Try.func12 rfl rfl rfl ?_
  simp only [argsE, Nat.reduceAdd]
  try dsimp only [argsE]
  refine AK.seq ?_
  refine AK.region ?_
  refine AO.val (RV.assign rfl) (.none rfl) rfl ?_
  refine AO.nil ?_
  refine AK.seq ?_
  refine AK.seq ?_
  refine AK.region ?_
  refine AO.val (RV.move rfl) (.none rfl) rfl ?_
  refine AO.val (RV.eqlP rfl rfl) (.none rfl) rfl ?_
  refine AO.nil ?_
  refine AK.condT rfl ?_
  refine AK.seq ?_
  refine AK.region ?_
  refine AO.val (RV.assign rfl) (.none rfl) rfl ?_
  refine AO.nil ?_
  -- at 
  refine AK.ret (h' := h) Try.func12 (.tmp rfl .nil) ?_ (by first | exact SubO.sub | exact List.Sublist.refl _ | exact .cons _ (List.Sublist.refl _) | exact .cons _ (.cons _ (List.Sublist.refl _)) | exact .cons _ (.cons _ (.cons _ (List.Sublist.refl _))))
  exact ⟨rfl, rfl⟩

theorem ntable_spec (B : World) (h : Own) (vip : Int) : Tri Try.prog B 16 [.pointer none, .int .i64 vip] h fun v h' => h = h' ∧ v = .slice none 0 0 := by
  refine Tri.enter (n := 15) Try.func16 rfl rfl rfl ?_
  simp only [argsE, Nat.reduceAdd]
  try dsimp only [argsE]
  refine AK.seq ?_
  refine AK.region ?_
  refine AO.val (RV.assign rfl) (.none rfl) rfl ?_
  refine AO.nil ?_
  refine AK.seq ?_
  refine AK.seq ?_
  refine AK.region ?_
  refine AO.val (RV.move rfl) (.none rfl) rfl ?_
  refine AO.val (RV.eqlP rfl rfl) (.none rfl) rfl ?_
  refine AO.nil ?_
  refine AK.condT rfl ?_
  refine AK.seq ?_
  refine AK.region ?_
  refine AO.val (RV.assign rfl) (.none rfl) rfl ?_
  refine AO.nil ?_
  -- at 
  refine AK.ret (h' := h) Try.func16 (.tmp rfl .nil) ?_ (by first | exact SubO.sub | exact List.Sublist.refl _ | exact .cons _ (List.Sublist.refl _) | exact .cons _ (.cons _ (List.Sublist.refl _)) | exact .cons _ (.cons _ (.cons _ (List.Sublist.refl _))))
  exact ⟨rfl, rfl⟩

theorem npick_spec (B : World) (h : Own) (vip : Int) (f : Flow) : Tri Try.prog B 13 [.pointer none, .int .i64 vip, .agg (encF f).toArray] h fun v h' => h = h' ∧ v = .tuple #[.int .i64 0, .bool false] := by
  refine Tri.enter (n := 27) Try.func13 rfl rfl rfl ?_
  simp only [argsE, Nat.reduceAdd]
  try dsimp only [argsE]
  refine AK.seq ?_
  refine AK.region ?_
  refine AO.eff (EF.box rfl rfl) (.none rfl) rfl ?_
  rintro _ _ ⟨b5, hf5, rfl, rfl⟩
  refine AO.val (RV.assign rfl) (.none rfl) rfl ?_
  refine AO.val (RV.assign rfl) (.none rfl) rfl ?_
  refine AO.nil ?_
  refine AK.seq ?_
  refine AK.seq ?_
  refine AK.region ?_
  refine AO.val (RV.move rfl) (.none rfl) rfl ?_
  refine AO.val (RV.eqlP rfl rfl) (.none rfl) rfl ?_
  refine AO.nil ?_
  refine AK.condT rfl ?_
  refine AK.seq ?_
  refine AK.region ?_
  refine AO.val (RV.assign rfl) (.none rfl) rfl ?_
  refine AO.val (RV.assign rfl) (.none rfl) rfl ?_
  refine AO.nil ?_
  -- at 
  refine AK.ret (h' := h) Try.func13 (.tmp rfl (.tmp rfl .nil)) ?_ (by first | exact SubO.sub | exact List.Sublist.refl _ | exact .cons _ (List.Sublist.refl _) | exact .cons _ (.cons _ (List.Sublist.refl _)) | exact .cons _ (.cons _ (.cons _ (List.Sublist.refl _))))
  exact ⟨rfl, rfl⟩

end Go.Proofs.Ytbdlohjmifgcaaa
