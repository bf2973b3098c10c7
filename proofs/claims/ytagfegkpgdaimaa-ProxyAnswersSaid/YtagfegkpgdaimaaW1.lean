/- Walks through the code: what each function that is named here gives back, from any memory that holds its arguments. Written by a program of the claim's author, out of the program's form in Lean. -/
import Derived.Test.YtagfegkpgdaimaaS27W2
import Derived.Test.YtagfegkpgdaimaaS10W5
import Derived.Test.YtagfegkpgdaimaaPlain
set_option linter.unusedSimpArgs false
set_option linter.unusedVariables false
namespace Go.Proofs.Ytagfegkpgdaimaa
open Go.Sep Go.Sep.Sip Go.Sep.Cookie Go.Sep.Topt Go.Sep.Proxy

theorem plain_spec (B : World) (h : Own) (a b c d e : Int) : Tri Try.prog B 32 [.int .u16 a, .int .u16 b, .int .u32 c, .int .u32 d, .int .u8 e] h fun v h' => h = h' ∧ v = .agg #[.int .u16 a, .int .u16 b, .int .u32 c, .int .u32 d, .int .u8 0, .int .u8 e, .int .u16 65535, .int .u16 0, .slice none 0 0, .slice none 0 0] := by
  refine Tri.enter (n := 17) Try.func32 rfl rfl rfl ?_
  simp only [argsE, Nat.reduceAdd]
  try dsimp only [argsE]
  refine AK.seq ?_
  refine AK.region ?_
  refine AO.eff (EF.alloc) (.none rfl) rfl ?_
  rintro _ _ ⟨b10, hf10, rfl, rfl⟩
  refine AO.nil ?_
  refine AK.seq ?_
  refine AK.region ?_
  refine AO.val (RV.move rfl) (.none rfl) rfl ?_
  refine AO.val (RV.move rfl) (.none rfl) rfl ?_
  refine AO.val (RV.move rfl) (.none rfl) rfl ?_
  refine AO.val (RV.move rfl) (.none rfl) rfl ?_
  refine AO.val (RV.move rfl) (.none rfl) rfl ?_
  refine AO.val (RV.build rfl (.cons rfl rfl rfl rfl (.cons rfl rfl rfl rfl (.cons rfl rfl rfl rfl (.cons rfl rfl rfl rfl (.cons rfl rfl rfl rfl (.cons rfl rfl rfl rfl .nil))))))) (.none rfl) rfl ?_
  refine AO.effN (EF.storeO rfl rfl rfl rfl rfl rfl) (.none rfl) ?_
  rintro _ _ rfl
  refine AO.nil ?_
  -- at 
  refine AK.ret (h' := h) Try.func32 (.aggO rfl rfl .nil) ?_ (by first | exact SubO.sub | exact List.Sublist.refl _ | exact .cons _ (List.Sublist.refl _) | exact .cons _ (.cons _ (List.Sublist.refl _)) | exact .cons _ (.cons _ (.cons _ (List.Sublist.refl _))))
  exact ⟨rfl, rfl⟩

theorem rplain_spec (B : World) (h : Own) (a b c d e : Int) : Tri Try.prog B 19 [.int .u16 a, .int .u16 b, .int .u32 c, .int .u32 d, .int .u8 e] h fun v h' => h = h' ∧ v = .agg #[.int .u16 a, .int .u16 b, .int .u32 c, .int .u32 d, .int .u8 0, .int .u8 e, .int .u16 65535, .int .u16 0, .slice none 0 0, .slice none 0 0] := by
  refine Tri.enter (n := 17) Try.func19 rfl rfl rfl ?_
  simp only [argsE, Nat.reduceAdd]
  try dsimp only [argsE]
  refine AK.seq ?_
  refine AK.region ?_
  refine AO.eff (EF.alloc) (.none rfl) rfl ?_
  rintro _ _ ⟨b10, hf10, rfl, rfl⟩
  refine AO.nil ?_
  refine AK.seq ?_
  refine AK.region ?_
  refine AO.val (RV.move rfl) (.none rfl) rfl ?_
  refine AO.val (RV.move rfl) (.none rfl) rfl ?_
  refine AO.val (RV.move rfl) (.none rfl) rfl ?_
  refine AO.val (RV.move rfl) (.none rfl) rfl ?_
  refine AO.val (RV.move rfl) (.none rfl) rfl ?_
  refine AO.val (RV.build rfl (.cons rfl rfl rfl rfl (.cons rfl rfl rfl rfl (.cons rfl rfl rfl rfl (.cons rfl rfl rfl rfl (.cons rfl rfl rfl rfl (.cons rfl rfl rfl rfl .nil))))))) (.none rfl) rfl ?_
  refine AO.effN (EF.storeO rfl rfl rfl rfl rfl rfl) (.none rfl) ?_
  rintro _ _ rfl
  refine AO.nil ?_
  -- at 
  refine AK.ret (h' := h) Try.func19 (.aggO rfl rfl .nil) ?_ (by first | exact SubO.sub | exact List.Sublist.refl _ | exact .cons _ (List.Sublist.refl _) | exact .cons _ (.cons _ (List.Sublist.refl _)) | exact .cons _ (.cons _ (.cons _ (List.Sublist.refl _))))
  exact ⟨rfl, rfl⟩

theorem has_spec (B : World) (h : Own) (s : Seg) (k : Int) : Tri Try.prog B 24 [.agg (encG s).toArray, .int .u8 k] h fun v h' => h = h' ∧ v = .bool (hasS (fl s) k) := by
  refine Tri.enter (n := 11) Try.func24 rfl rfl rfl ?_
  simp only [argsE, Nat.reduceAdd]
  try dsimp only [argsE]
  refine AK.seq ?_
  refine AK.region ?_
  refine AO.eff (EF.box rfl rfl) (.none rfl) rfl ?_
  rintro _ _ ⟨b2, hf2, rfl, rfl⟩
  refine AO.val (RV.assign rfl) (.none rfl) rfl ?_
  refine AO.nil ?_
  refine AK.seq ?_
  refine AK.region ?_
  refine AO.val (RV.fieldAddr rfl) (.none rfl) rfl ?_
  refine AO.val (by first | exact RV.loadO rfl rfl (by first | simp | assumption) | exact RV.loadS rfl (by assumption) (by omega) (by first | simp | assumption)) (.none rfl) rfl ?_
  refine AO.val (RV.move rfl) (.none rfl) rfl ?_
  refine AO.val (RV.and rfl rfl) (.none rfl) rfl ?_
  refine AO.val (RV.move rfl) (.none rfl) rfl ?_
  refine AO.val (RV.eql rfl rfl) (.none rfl) rfl ?_
  refine AO.val (RV.assign rfl) (.none rfl) rfl ?_
  refine AO.nil ?_
  -- at 
  refine AK.ret (h' := h) Try.func24 (.tmp rfl .nil) ?_ (by first | exact SubO.sub | exact List.Sublist.refl _ | exact .cons _ (List.Sublist.refl _) | exact .cons _ (.cons _ (List.Sublist.refl _)) | exact .cons _ (.cons _ (.cons _ (List.Sublist.refl _))))
  exact ⟨rfl, rfl⟩

theorem bit_spec (B : World) (h : Own) (x k : Int) (hx : 0 ≤ x ∧ x ≤ 255) (hk : 0 < k) : Tri Try.prog B 27 [.int .u8 x, .int .i64 k] h fun v h' => h = h' ∧ v = .bool (bitS x k) := by
  refine Tri.enter (n := 11) Try.func27 rfl rfl rfl ?_
  simp only [argsE, Nat.reduceAdd]
  try dsimp only [argsE]
  refine AK.seq ?_
  refine AK.region ?_
  refine AO.val (RV.assign rfl) (.none rfl) rfl ?_
  refine AO.nil ?_
  refine AK.seq ?_
  refine AK.region ?_
  refine AO.val (RV.move rfl) (.none rfl) rfl ?_
  refine AO.val (RV.convIn rfl (by simp only [kb]; omega)) (.none rfl) rfl ?_
  refine AO.val (RV.move rfl) (.none rfl) rfl ?_
  refine AO.val (RV.quoIn rfl rfl (by simp only [kb]; omega)) (.none rfl) rfl ?_
  refine AO.val (RV.remIn rfl rfl (by have := Int.ediv_nonneg hx.1 (Int.le_of_lt hk); omega)) (.none rfl) rfl ?_
  refine AO.val (RV.eql rfl rfl) (.none rfl) rfl ?_
  refine AO.val (RV.assign rfl) (.none rfl) rfl ?_
  refine AO.nil ?_
  -- at 
  refine AK.ret (h' := h) Try.func27 (.tmp rfl .nil) ?_ (by first | exact SubO.sub | exact List.Sublist.refl _ | exact .cons _ (List.Sublist.refl _) | exact .cons _ (.cons _ (List.Sublist.refl _)) | exact .cons _ (.cons _ (.cons _ (List.Sublist.refl _))))
  exact ⟨rfl, rfl⟩

theorem rmss38_spec (B : World) (h : Own) (n : Int) (hn : 0 ≤ n ∧ n ≤ 65535) : Tri Try.prog B 39 [.int .u16 n] h fun v h' => NewS 5 1 4 ((pmB n).map (fun x => Value.int .u8 x)) h v h' := by
  refine Tri.enter (n := 10) Try.func39 rfl rfl rfl ?_
  simp only [argsE, Nat.reduceAdd]
  try dsimp only [argsE]
  refine AK.seq ?_
  refine AK.region ?_
  refine AO.val (RV.assign rfl) (.none rfl) rfl ?_
  refine AO.nil ?_
  refine AK.seq ?_
  refine AK.region ?_
  refine AO.val (RV.move rfl) (.none rfl) rfl ?_
  refine AO.val (RV.quoIn rfl rfl (by simp only [kb]; omega)) (.none rfl) rfl ?_
  refine AO.val (RV.convIn rfl (by simp only [kb]; omega)) (.none rfl) rfl ?_
  refine AO.val (RV.move rfl) (.none rfl) rfl ?_
  refine AO.val (RV.remIn rfl rfl (by omega)) (.none rfl) rfl ?_
  refine AO.val (RV.convIn rfl (by simp only [kb]; omega)) (.none rfl) rfl ?_
  refine AO.eff (EF.buildSeq [.int .u8 2, .int .u8 4, .int .u8 (n / 256), .int .u8 (n % 256)] rfl rfl rfl rfl) (.none rfl) rfl ?_
  rintro _ _ ⟨b9, hf9, rfl, rfl⟩
  refine AO.val (RV.assign rfl) (.none rfl) rfl ?_
  refine AO.nil ?_
  -- at 
  refine AK.ret (h' := [(b9, Blk.cells [.int .u8 2, .int .u8 4, .int .u8 (n / 256), .int .u8 (n % 256)] 5 (0, 0))] ++ h) Try.func39 (.tmp rfl .nil) ?_ (List.Sublist.refl _)
  rw [pmB_size hn]
  exact ⟨some ⟨b9, 0, none⟩, 4, _, rfl, Row.new rfl, Nat.le_refl _, rfl⟩

set_option maxHeartbeats 1000000 in
theorem offer_spec (B : World) (h : Own) (lo hi lo2 hi2 ep : Int) (f : Flow) (hf : FOk f) (s : Seg) (hs : SegIn B h s) (hep : -9223372036854775808 ≤ ep ∧ ep ≤ 9223372036854775807) : Tri Try.prog B 10 [.agg #[.int .u64 lo, .int .u64 hi, .int .u64 lo2, .int .u64 hi2, .int .i64 ep], .agg (encF f).toArray, .agg (encG s).toArray] h fun v h' => ∃ A c p, v = .agg #[.int .u16 f.2.2.2.1, .int .u16 f.2.2.1, .int .u32 (makeC lo hi f (sq s) ep (offI (op s).l)), .int .u32 (w32 (sq s + 1)), .int .u8 0, .int .u8 18, .int .u16 65535, .int .u16 0, .slice A 4 c, .slice none 0 0] ∧ Row 5 1 (.slice A 4 c) 4 ((pmB (sizeS (offI (op s).l))).map (fun x => Value.int .u8 x)) p ∧ 4 ≤ c ∧ h' = p ++ h := by
  have hoi := offI_in (op s).l
  have hsi := sizeS_in (offI (op s).l)
  refine Tri.enter (n := 40) Try.func10 rfl rfl rfl ?_
  simp only [argsE, Nat.reduceAdd]
  try dsimp only [argsE]
  refine AK.seq ?_
  refine AK.region ?_
  refine AO.eff (EF.box rfl rfl) (.none rfl) rfl ?_
  rintro _ _ ⟨b3, hf3, rfl, rfl⟩
  refine AO.eff (EF.box rfl rfl) (.none rfl) rfl ?_
  rintro _ _ ⟨b4, hf4, rfl, rfl⟩
  refine AO.eff (EF.box rfl rfl) (.none rfl) rfl ?_
  rintro _ _ ⟨b5, hf5, rfl, rfl⟩
  refine AO.eff (EF.alloc) (.none rfl) rfl ?_
  rintro _ _ ⟨b6, hf6, rfl, rfl⟩
  refine AO.nil ?_
  refine AK.seq ?_
  refine AK.region ?_
  refine AO.val (RV.fieldAddr rfl) (.none rfl) rfl ?_
  refine AO.val (by first | exact RV.loadO rfl rfl (by first | simp | assumption) | exact RV.loadS rfl (by assumption) (by omega) (by first | simp | assumption)) (.none rfl) rfl ?_
  refine AO.eff (EF.callF rfl (mss_spec (cap := (op s).cap) B _ (op s).l hs.src.sub hs.byt hs.cap hs.len)) (.none rfl) rfl ?_
  rintro _ _ ⟨rfl, rfl⟩
  refine AO.val (RV.move rfl) (.none rfl) rfl ?_
  refine AO.val (RV.extract rfl rfl) (.none rfl) rfl ?_
  refine AO.val (RV.extract rfl rfl) (.none rfl) rfl ?_
  refine AO.val (RV.assign rfl) (.none rfl) rfl ?_
  refine AO.val (RV.assign rfl) (.none rfl) rfl ?_
  refine AO.nil ?_
  refine AK.seq ?_
  refine AK.seq ?_
  refine AK.region ?_
  refine AO.val (RV.move rfl) (.none rfl) rfl ?_
  refine AO.val (RV.not rfl) (.none rfl) rfl ?_
  refine AO.nil ?_
  refine AK.cond rfl ?_ ?_
  · intro hc1
    try simp only [decide_eq_true_eq, decide_eq_false_iff_not, Bool.not_eq_true', Bool.not_eq_false', beq_iff_eq] at hc1
    have hix : idxTo 536 8 = offI (op s).l := by unfold offI mssN; rw [if_neg (by simpa using hc1)]
    refine AK.region ?_
    refine AO.val (RV.assign rfl) (.none rfl) rfl ?_
    refine AO.nil ?_
    refine AK.seq ?_
    refine AK.region ?_
    refine AO.val (RV.move rfl) (.none rfl) rfl ?_
    refine AO.eff (EF.callF rfl (index_spec B _ _)) (.none rfl) rfl ?_
    rintro _ _ ⟨rfl, rfl⟩
    rw [hix]
    refine AO.val (RV.assign rfl) (.none rfl) rfl ?_
    refine AO.nil ?_
    refine AK.seq ?_
    refine AK.draw [] [13, 15] mixed ?_
    refine AD.takeP 0 rfl (by kernel_rfl) (RV.fieldAddr rfl) (.none rfl) rfl ?_
    refine AD.take 1 rfl (by kernel_rfl) (by first | exact RV.loadO rfl rfl (by first | simp | assumption) | exact RV.loadS rfl (by assumption) (by omega) (by first | simp | assumption)) (.none rfl) rfl ?_
    refine AD.takeP 2 rfl (by kernel_rfl) (RV.fieldAddr rfl) (.none rfl) rfl ?_
    refine AD.take 3 rfl (by kernel_rfl) (by first | exact RV.loadO rfl rfl (by first | simp | assumption) | exact RV.loadS rfl (by assumption) (by omega) (by first | simp | assumption)) (.none rfl) rfl ?_
    refine AD.take 4 rfl (by kernel_rfl) (by first | exact RV.loadAggO rfl rfl (by first | simp | assumption) | exact RV.loadAggP rfl rfl rfl (by first | simp | assumption)) (.none rfl) rfl ?_
    refine AD.take 5 rfl (by kernel_rfl) (by first | exact RV.loadAggO rfl rfl (by first | simp | assumption) | exact RV.loadAggP rfl rfl rfl (by first | simp | assumption)) (.none rfl) rfl ?_
    refine AD.takeP 6 rfl (by kernel_rfl) (RV.fieldAddr rfl) (.none rfl) rfl ?_
    refine AD.take 7 rfl (by kernel_rfl) (by first | exact RV.loadO rfl rfl (by first | simp | assumption) | exact RV.loadS rfl (by assumption) (by omega) (by first | simp | assumption)) (.none rfl) rfl ?_
    refine AD.takeP 8 rfl (by kernel_rfl) (RV.move rfl) (.none rfl) rfl ?_
    refine AD.takeP 10 rfl (by kernel_rfl) (RV.fieldAddr rfl) (.none rfl) rfl ?_
    refine AD.take 11 rfl (by kernel_rfl) (by first | exact RV.loadO rfl rfl (by first | simp | assumption) | exact RV.loadS rfl (by assumption) (by omega) (by first | simp | assumption)) (.none rfl) rfl ?_
    refine AD.takeP 12 rfl (by kernel_rfl) (by first | exact RV.addK rfl rfl (by simp only [kb]; omega) | exact RV.add rfl rfl) (.none rfl) rfl ?_
    refine AD.many (i := 9) (l := [14]) (by kernel_rfl) (.cons ?_ (.cons ?_ (.nil)))
    · skip
      refine AE.eff rfl (EF.callF rfl (issue_spec B _ lo hi lo2 hi2 ep f hf (sq s) hs.seq hep _ (by omega))) (.none rfl) rfl ?_
      rintro _ _ ⟨rfl, rfl⟩
      refine ⟨(by first | exact .inr fun x hx hM => hx | exact .inr fun x hx hM => List.mem_cons_of_mem _ hx | exact .inr fun x hx hM => List.mem_append_right _ hx), ?_⟩
      refine AD.many (i := 13) (l := [14]) (by kernel_rfl) (.cons ?_ (.cons ?_ (.nil)))
      · skip
        refine AE.eff rfl (EF.callF rfl (plain_spec B _ _ _ _ _ _)) (.none rfl) rfl ?_
        rintro _ _ ⟨rfl, rfl⟩
        refine ⟨.inl (by kernel_rfl), ?_⟩
        refine AD.one 14 (by kernel_rfl) (AE.eff rfl (EF.alloc) (.none rfl) rfl ?_)
        rintro _ _ ⟨b10, hf10, rfl, rfl⟩
        refine ⟨.inl (by kernel_rfl), ?_⟩
        refine AD.one 15 (by kernel_rfl) (AE.effN rfl (EF.storeO rfl rfl rfl rfl rfl rfl) (.none rfl) ?_)
        rintro _ _ rfl
        refine ⟨.inl (by kernel_rfl), ?_⟩
        refine AD.done (by kernel_rfl) ?_
        refine AK.seq ?_
        refine AK.region ?_
        refine AO.val (RV.move rfl) (.none rfl) rfl ?_
        refine AO.eff (EF.callF rfl (size_spec B _ _)) (.none rfl) rfl ?_
        rintro _ _ ⟨rfl, rfl⟩
        refine AO.eff (EF.callF rfl (pmss_spec B _ _ hsi)) (.none rfl) rfl ?_
        rintro _ _ ⟨A37, c37, p37, rfl, hr37, hc37, rfl⟩
        refine AO.val (RV.fieldAddr rfl) (.none rfl) rfl ?_
        refine AO.effN (EF.storeO rfl rfl rfl rfl rfl rfl) (.none rfl) ?_
        rintro _ _ rfl
        refine AO.nil ?_
        refine AK.seq ?_
        refine AK.region ?_
        refine AO.val (by first | exact RV.loadAggO rfl rfl (by first | simp | assumption) | exact RV.loadAggP rfl rfl rfl (by first | simp | assumption)) (.none rfl) rfl ?_
        refine AO.effN (EF.storeO rfl rfl rfl rfl rfl rfl) (.none rfl) ?_
        rintro _ _ rfl
        refine AO.nil ?_
        -- at T
        refine AK.ret (h' := p37 ++ h) Try.func10 (.aggO rfl rfl .nil) ?_ (by exact SubO.sub)
        exact ⟨A37, c37, p37, rfl, hr37, hc37, rfl⟩
      · skip
        refine AE.eff rfl (EF.alloc) (.none rfl) rfl ?_
        rintro _ _ ⟨b10, hf10, rfl, rfl⟩
        refine ⟨(by first | exact .inr fun x hx hM => hx | exact .inr fun x hx hM => List.mem_cons_of_mem _ hx | exact .inr fun x hx hM => List.mem_append_right _ hx), ?_⟩
        refine AD.one 13 (by kernel_rfl) (AE.eff rfl (EF.callF rfl (plain_spec B _ _ _ _ _ _)) (.none rfl) rfl ?_)
        rintro _ _ ⟨rfl, rfl⟩
        refine ⟨.inl (by kernel_rfl), ?_⟩
        refine AD.one 15 (by kernel_rfl) (AE.effN rfl (EF.storeO rfl rfl rfl rfl rfl rfl) (.none rfl) ?_)
        rintro _ _ rfl
        refine ⟨.inl (by kernel_rfl), ?_⟩
        refine AD.done (by kernel_rfl) ?_
        refine AK.seq ?_
        refine AK.region ?_
        refine AO.val (RV.move rfl) (.none rfl) rfl ?_
        refine AO.eff (EF.callF rfl (size_spec B _ _)) (.none rfl) rfl ?_
        rintro _ _ ⟨rfl, rfl⟩
        refine AO.eff (EF.callF rfl (pmss_spec B _ _ hsi)) (.none rfl) rfl ?_
        rintro _ _ ⟨A37, c37, p37, rfl, hr37, hc37, rfl⟩
        refine AO.val (RV.fieldAddr rfl) (.none rfl) rfl ?_
        refine AO.effN (EF.storeO rfl rfl rfl rfl rfl rfl) (.none rfl) ?_
        rintro _ _ rfl
        refine AO.nil ?_
        refine AK.seq ?_
        refine AK.region ?_
        refine AO.val (by first | exact RV.loadAggO rfl rfl (by first | simp | assumption) | exact RV.loadAggP rfl rfl rfl (by first | simp | assumption)) (.none rfl) rfl ?_
        refine AO.effN (EF.storeO rfl rfl rfl rfl rfl rfl) (.none rfl) ?_
        rintro _ _ rfl
        refine AO.nil ?_
        -- at T
        refine AK.ret (h' := p37 ++ h) Try.func10 (.aggO rfl rfl .nil) ?_ (by exact SubO.sub)
        exact ⟨A37, c37, p37, rfl, hr37, hc37, rfl⟩
    · skip
      refine AE.eff rfl (EF.alloc) (.none rfl) rfl ?_
      rintro _ _ ⟨b10, hf10, rfl, rfl⟩
      refine ⟨(by first | exact .inr fun x hx hM => hx | exact .inr fun x hx hM => List.mem_cons_of_mem _ hx | exact .inr fun x hx hM => List.mem_append_right _ hx), ?_⟩
      refine AD.one 9 (by kernel_rfl) (AE.eff rfl (EF.callF rfl (issue_spec B _ lo hi lo2 hi2 ep f hf (sq s) hs.seq hep _ (by omega))) (.none rfl) rfl ?_)
      rintro _ _ ⟨rfl, rfl⟩
      refine ⟨(by first | exact .inr fun x hx hM => hx | exact .inr fun x hx hM => List.mem_cons_of_mem _ hx | exact .inr fun x hx hM => List.mem_append_right _ hx), ?_⟩
      refine AD.one 13 (by kernel_rfl) (AE.eff rfl (EF.callF rfl (plain_spec B _ _ _ _ _ _)) (.none rfl) rfl ?_)
      rintro _ _ ⟨rfl, rfl⟩
      refine ⟨.inl (by kernel_rfl), ?_⟩
      refine AD.one 15 (by kernel_rfl) (AE.effN rfl (EF.storeO rfl rfl rfl rfl rfl rfl) (.none rfl) ?_)
      rintro _ _ rfl
      refine ⟨.inl (by kernel_rfl), ?_⟩
      refine AD.done (by kernel_rfl) ?_
      refine AK.seq ?_
      refine AK.region ?_
      refine AO.val (RV.move rfl) (.none rfl) rfl ?_
      refine AO.eff (EF.callF rfl (size_spec B _ _)) (.none rfl) rfl ?_
      rintro _ _ ⟨rfl, rfl⟩
      refine AO.eff (EF.callF rfl (pmss_spec B _ _ hsi)) (.none rfl) rfl ?_
      rintro _ _ ⟨A37, c37, p37, rfl, hr37, hc37, rfl⟩
      refine AO.val (RV.fieldAddr rfl) (.none rfl) rfl ?_
      refine AO.effN (EF.storeO rfl rfl rfl rfl rfl rfl) (.none rfl) ?_
      rintro _ _ rfl
      refine AO.nil ?_
      refine AK.seq ?_
      refine AK.region ?_
      refine AO.val (by first | exact RV.loadAggO rfl rfl (by first | simp | assumption) | exact RV.loadAggP rfl rfl rfl (by first | simp | assumption)) (.none rfl) rfl ?_
      refine AO.effN (EF.storeO rfl rfl rfl rfl rfl rfl) (.none rfl) ?_
      rintro _ _ rfl
      refine AO.nil ?_
      -- at T
      refine AK.ret (h' := p37 ++ h) Try.func10 (.aggO rfl rfl .nil) ?_ (by exact SubO.sub)
      exact ⟨A37, c37, p37, rfl, hr37, hc37, rfl⟩
  · intro hc1
    try simp only [decide_eq_true_eq, decide_eq_false_iff_not, Bool.not_eq_true', Bool.not_eq_false', beq_iff_eq] at hc1
    have hix : idxTo (mssS (op s).l).1 8 = offI (op s).l := by unfold offI mssN; rw [if_pos (by simpa using hc1)]
    refine AK.skip ?_
    refine AK.seq ?_
    refine AK.region ?_
    refine AO.val (RV.move rfl) (.none rfl) rfl ?_
    refine AO.eff (EF.callF rfl (index_spec B _ _)) (.none rfl) rfl ?_
    rintro _ _ ⟨rfl, rfl⟩
    rw [hix]
    refine AO.val (RV.assign rfl) (.none rfl) rfl ?_
    refine AO.nil ?_
    refine AK.seq ?_
    refine AK.draw [] [13, 15] mixed ?_
    refine AD.takeP 0 rfl (by kernel_rfl) (RV.fieldAddr rfl) (.none rfl) rfl ?_
    refine AD.take 1 rfl (by kernel_rfl) (by first | exact RV.loadO rfl rfl (by first | simp | assumption) | exact RV.loadS rfl (by assumption) (by omega) (by first | simp | assumption)) (.none rfl) rfl ?_
    refine AD.takeP 2 rfl (by kernel_rfl) (RV.fieldAddr rfl) (.none rfl) rfl ?_
    refine AD.take 3 rfl (by kernel_rfl) (by first | exact RV.loadO rfl rfl (by first | simp | assumption) | exact RV.loadS rfl (by assumption) (by omega) (by first | simp | assumption)) (.none rfl) rfl ?_
    refine AD.take 4 rfl (by kernel_rfl) (by first | exact RV.loadAggO rfl rfl (by first | simp | assumption) | exact RV.loadAggP rfl rfl rfl (by first | simp | assumption)) (.none rfl) rfl ?_
    refine AD.take 5 rfl (by kernel_rfl) (by first | exact RV.loadAggO rfl rfl (by first | simp | assumption) | exact RV.loadAggP rfl rfl rfl (by first | simp | assumption)) (.none rfl) rfl ?_
    refine AD.takeP 6 rfl (by kernel_rfl) (RV.fieldAddr rfl) (.none rfl) rfl ?_
    refine AD.take 7 rfl (by kernel_rfl) (by first | exact RV.loadO rfl rfl (by first | simp | assumption) | exact RV.loadS rfl (by assumption) (by omega) (by first | simp | assumption)) (.none rfl) rfl ?_
    refine AD.takeP 8 rfl (by kernel_rfl) (RV.move rfl) (.none rfl) rfl ?_
    refine AD.takeP 10 rfl (by kernel_rfl) (RV.fieldAddr rfl) (.none rfl) rfl ?_
    refine AD.take 11 rfl (by kernel_rfl) (by first | exact RV.loadO rfl rfl (by first | simp | assumption) | exact RV.loadS rfl (by assumption) (by omega) (by first | simp | assumption)) (.none rfl) rfl ?_
    refine AD.takeP 12 rfl (by kernel_rfl) (by first | exact RV.addK rfl rfl (by simp only [kb]; omega) | exact RV.add rfl rfl) (.none rfl) rfl ?_
    refine AD.many (i := 9) (l := [14]) (by kernel_rfl) (.cons ?_ (.cons ?_ (.nil)))
    · skip
      refine AE.eff rfl (EF.callF rfl (issue_spec B _ lo hi lo2 hi2 ep f hf (sq s) hs.seq hep _ (by omega))) (.none rfl) rfl ?_
      rintro _ _ ⟨rfl, rfl⟩
      refine ⟨(by first | exact .inr fun x hx hM => hx | exact .inr fun x hx hM => List.mem_cons_of_mem _ hx | exact .inr fun x hx hM => List.mem_append_right _ hx), ?_⟩
      refine AD.many (i := 13) (l := [14]) (by kernel_rfl) (.cons ?_ (.cons ?_ (.nil)))
      · skip
        refine AE.eff rfl (EF.callF rfl (plain_spec B _ _ _ _ _ _)) (.none rfl) rfl ?_
        rintro _ _ ⟨rfl, rfl⟩
        refine ⟨.inl (by kernel_rfl), ?_⟩
        refine AD.one 14 (by kernel_rfl) (AE.eff rfl (EF.alloc) (.none rfl) rfl ?_)
        rintro _ _ ⟨b10, hf10, rfl, rfl⟩
        refine ⟨.inl (by kernel_rfl), ?_⟩
        refine AD.one 15 (by kernel_rfl) (AE.effN rfl (EF.storeO rfl rfl rfl rfl rfl rfl) (.none rfl) ?_)
        rintro _ _ rfl
        refine ⟨.inl (by kernel_rfl), ?_⟩
        refine AD.done (by kernel_rfl) ?_
        refine AK.seq ?_
        refine AK.region ?_
        refine AO.val (RV.move rfl) (.none rfl) rfl ?_
        refine AO.eff (EF.callF rfl (size_spec B _ _)) (.none rfl) rfl ?_
        rintro _ _ ⟨rfl, rfl⟩
        refine AO.eff (EF.callF rfl (pmss_spec B _ _ hsi)) (.none rfl) rfl ?_
        rintro _ _ ⟨A37, c37, p37, rfl, hr37, hc37, rfl⟩
        refine AO.val (RV.fieldAddr rfl) (.none rfl) rfl ?_
        refine AO.effN (EF.storeO rfl rfl rfl rfl rfl rfl) (.none rfl) ?_
        rintro _ _ rfl
        refine AO.nil ?_
        refine AK.seq ?_
        refine AK.region ?_
        refine AO.val (by first | exact RV.loadAggO rfl rfl (by first | simp | assumption) | exact RV.loadAggP rfl rfl rfl (by first | simp | assumption)) (.none rfl) rfl ?_
        refine AO.effN (EF.storeO rfl rfl rfl rfl rfl rfl) (.none rfl) ?_
        rintro _ _ rfl
        refine AO.nil ?_
        -- at F
        refine AK.ret (h' := p37 ++ h) Try.func10 (.aggO rfl rfl .nil) ?_ (by exact SubO.sub)
        exact ⟨A37, c37, p37, rfl, hr37, hc37, rfl⟩
      · skip
        refine AE.eff rfl (EF.alloc) (.none rfl) rfl ?_
        rintro _ _ ⟨b10, hf10, rfl, rfl⟩
        refine ⟨(by first | exact .inr fun x hx hM => hx | exact .inr fun x hx hM => List.mem_cons_of_mem _ hx | exact .inr fun x hx hM => List.mem_append_right _ hx), ?_⟩
        refine AD.one 13 (by kernel_rfl) (AE.eff rfl (EF.callF rfl (plain_spec B _ _ _ _ _ _)) (.none rfl) rfl ?_)
        rintro _ _ ⟨rfl, rfl⟩
        refine ⟨.inl (by kernel_rfl), ?_⟩
        refine AD.one 15 (by kernel_rfl) (AE.effN rfl (EF.storeO rfl rfl rfl rfl rfl rfl) (.none rfl) ?_)
        rintro _ _ rfl
        refine ⟨.inl (by kernel_rfl), ?_⟩
        refine AD.done (by kernel_rfl) ?_
        refine AK.seq ?_
        refine AK.region ?_
        refine AO.val (RV.move rfl) (.none rfl) rfl ?_
        refine AO.eff (EF.callF rfl (size_spec B _ _)) (.none rfl) rfl ?_
        rintro _ _ ⟨rfl, rfl⟩
        refine AO.eff (EF.callF rfl (pmss_spec B _ _ hsi)) (.none rfl) rfl ?_
        rintro _ _ ⟨A37, c37, p37, rfl, hr37, hc37, rfl⟩
        refine AO.val (RV.fieldAddr rfl) (.none rfl) rfl ?_
        refine AO.effN (EF.storeO rfl rfl rfl rfl rfl rfl) (.none rfl) ?_
        rintro _ _ rfl
        refine AO.nil ?_
        refine AK.seq ?_
        refine AK.region ?_
        refine AO.val (by first | exact RV.loadAggO rfl rfl (by first | simp | assumption) | exact RV.loadAggP rfl rfl rfl (by first | simp | assumption)) (.none rfl) rfl ?_
        refine AO.effN (EF.storeO rfl rfl rfl rfl rfl rfl) (.none rfl) ?_
        rintro _ _ rfl
        refine AO.nil ?_
        -- at F
        refine AK.ret (h' := p37 ++ h) Try.func10 (.aggO rfl rfl .nil) ?_ (by exact SubO.sub)
        exact ⟨A37, c37, p37, rfl, hr37, hc37, rfl⟩
    · skip
      refine AE.eff rfl (EF.alloc) (.none rfl) rfl ?_
      rintro _ _ ⟨b10, hf10, rfl, rfl⟩
      refine ⟨(by first | exact .inr fun x hx hM => hx | exact .inr fun x hx hM => List.mem_cons_of_mem _ hx | exact .inr fun x hx hM => List.mem_append_right _ hx), ?_⟩
      refine AD.one 9 (by kernel_rfl) (AE.eff rfl (EF.callF rfl (issue_spec B _ lo hi lo2 hi2 ep f hf (sq s) hs.seq hep _ (by omega))) (.none rfl) rfl ?_)
      rintro _ _ ⟨rfl, rfl⟩
      refine ⟨(by first | exact .inr fun x hx hM => hx | exact .inr fun x hx hM => List.mem_cons_of_mem _ hx | exact .inr fun x hx hM => List.mem_append_right _ hx), ?_⟩
      refine AD.one 13 (by kernel_rfl) (AE.eff rfl (EF.callF rfl (plain_spec B _ _ _ _ _ _)) (.none rfl) rfl ?_)
      rintro _ _ ⟨rfl, rfl⟩
      refine ⟨.inl (by kernel_rfl), ?_⟩
      refine AD.one 15 (by kernel_rfl) (AE.effN rfl (EF.storeO rfl rfl rfl rfl rfl rfl) (.none rfl) ?_)
      rintro _ _ rfl
      refine ⟨.inl (by kernel_rfl), ?_⟩
      refine AD.done (by kernel_rfl) ?_
      refine AK.seq ?_
      refine AK.region ?_
      refine AO.val (RV.move rfl) (.none rfl) rfl ?_
      refine AO.eff (EF.callF rfl (size_spec B _ _)) (.none rfl) rfl ?_
      rintro _ _ ⟨rfl, rfl⟩
      refine AO.eff (EF.callF rfl (pmss_spec B _ _ hsi)) (.none rfl) rfl ?_
      rintro _ _ ⟨A37, c37, p37, rfl, hr37, hc37, rfl⟩
      refine AO.val (RV.fieldAddr rfl) (.none rfl) rfl ?_
      refine AO.effN (EF.storeO rfl rfl rfl rfl rfl rfl) (.none rfl) ?_
      rintro _ _ rfl
      refine AO.nil ?_
      refine AK.seq ?_
      refine AK.region ?_
      refine AO.val (by first | exact RV.loadAggO rfl rfl (by first | simp | assumption) | exact RV.loadAggP rfl rfl rfl (by first | simp | assumption)) (.none rfl) rfl ?_
      refine AO.effN (EF.storeO rfl rfl rfl rfl rfl rfl) (.none rfl) ?_
      rintro _ _ rfl
      refine AO.nil ?_
      -- at F
      refine AK.ret (h' := p37 ++ h) Try.func10 (.aggO rfl rfl .nil) ?_ (by exact SubO.sub)
      exact ⟨A37, c37, p37, rfl, hr37, hc37, rfl⟩

set_option maxHeartbeats 1000000 in
theorem roffer_spec (B : World) (h : Own) (lo hi lo2 hi2 ep : Int) (f : Flow) (hf : FOk f) (s : Seg) (hs : SegIn B h s) (hep : -9223372036854775808 ≤ ep ∧ ep ≤ 9223372036854775807) : Tri Try.prog B 11 [.agg #[.int .u64 lo, .int .u64 hi, .int .u64 lo2, .int .u64 hi2, .int .i64 ep], .agg (encF f).toArray, .agg (encG s).toArray] h fun v h' => ∃ A c p, v = .agg #[.int .u16 f.2.2.2.1, .int .u16 f.2.2.1, .int .u32 (makeC lo hi f (sq s) ep (offI (op s).l)), .int .u32 (w32 (sq s + 1)), .int .u8 0, .int .u8 18, .int .u16 65535, .int .u16 0, .slice A 4 c, .slice none 0 0] ∧ Row 5 1 (.slice A 4 c) 4 ((pmB (sizeS (offI (op s).l))).map (fun x => Value.int .u8 x)) p ∧ 4 ≤ c ∧ h' = p ++ h := by
  have hoi := offI_in (op s).l
  have hsi := sizeS_in (offI (op s).l)
  refine Tri.enter (n := 43) Try.func11 rfl rfl rfl ?_
  simp only [argsE, Nat.reduceAdd]
  try dsimp only [argsE]
  refine AK.seq ?_
  refine AK.region ?_
  refine AO.eff (EF.box rfl rfl) (.none rfl) rfl ?_
  rintro _ _ ⟨b3, hf3, rfl, rfl⟩
  refine AO.eff (EF.box rfl rfl) (.none rfl) rfl ?_
  rintro _ _ ⟨b4, hf4, rfl, rfl⟩
  refine AO.eff (EF.box rfl rfl) (.none rfl) rfl ?_
  rintro _ _ ⟨b5, hf5, rfl, rfl⟩
  refine AO.eff (EF.alloc) (.none rfl) rfl ?_
  rintro _ _ ⟨b6, hf6, rfl, rfl⟩
  refine AO.nil ?_
  refine AK.seq ?_
  refine AK.region ?_
  refine AO.val (RV.fieldAddr rfl) (.none rfl) rfl ?_
  refine AO.val (by first | exact RV.loadO rfl rfl (by first | simp | assumption) | exact RV.loadS rfl (by assumption) (by omega) (by first | simp | assumption)) (.none rfl) rfl ?_
  refine AO.eff (EF.callF rfl (rmss_spec (cap := (op s).cap) B _ (op s).l hs.src.sub hs.byt hs.cap hs.len)) (.none rfl) rfl ?_
  rintro _ _ ⟨rfl, rfl⟩
  refine AO.val (RV.move rfl) (.none rfl) rfl ?_
  refine AO.val (RV.extract rfl rfl) (.none rfl) rfl ?_
  refine AO.val (RV.extract rfl rfl) (.none rfl) rfl ?_
  refine AO.val (RV.assign rfl) (.none rfl) rfl ?_
  refine AO.val (RV.assign rfl) (.none rfl) rfl ?_
  refine AO.nil ?_
  refine AK.seq ?_
  refine AK.seq ?_
  refine AK.region ?_
  refine AO.val (RV.move rfl) (.none rfl) rfl ?_
  refine AO.val (RV.not rfl) (.none rfl) rfl ?_
  refine AO.nil ?_
  refine AK.cond rfl ?_ ?_
  · intro hc1
    try simp only [decide_eq_true_eq, decide_eq_false_iff_not, Bool.not_eq_true', Bool.not_eq_false', beq_iff_eq] at hc1
    have hix : idxTo 536 8 = offI (op s).l := by unfold offI mssN; rw [if_neg (by simpa using hc1)]
    refine AK.region ?_
    refine AO.val (RV.assign rfl) (.none rfl) rfl ?_
    refine AO.nil ?_
    refine AK.seq ?_
    refine AK.region ?_
    refine AO.val (RV.move rfl) (.none rfl) rfl ?_
    refine AO.eff (EF.callF rfl (rindex_spec B _ _)) (.none rfl) rfl ?_
    rintro _ _ ⟨rfl, rfl⟩
    rw [hix]
    refine AO.val (RV.assign rfl) (.none rfl) rfl ?_
    refine AO.nil ?_
    refine AK.seq ?_
    refine AK.draw [] [16, 18] mixed ?_
    refine AD.takeP 0 rfl (by kernel_rfl) (RV.fieldAddr rfl) (.none rfl) rfl ?_
    refine AD.take 1 rfl (by kernel_rfl) (by first | exact RV.loadO rfl rfl (by first | simp | assumption) | exact RV.loadS rfl (by assumption) (by omega) (by first | simp | assumption)) (.none rfl) rfl ?_
    refine AD.takeP 2 rfl (by kernel_rfl) (RV.fieldAddr rfl) (.none rfl) rfl ?_
    refine AD.take 3 rfl (by kernel_rfl) (by first | exact RV.loadO rfl rfl (by first | simp | assumption) | exact RV.loadS rfl (by assumption) (by omega) (by first | simp | assumption)) (.none rfl) rfl ?_
    refine AD.takeP 4 rfl (by kernel_rfl) (RV.fieldAddr rfl) (.none rfl) rfl ?_
    refine AD.take 5 rfl (by kernel_rfl) (by first | exact RV.loadAggO rfl rfl (by first | simp | assumption) | exact RV.loadAggP rfl rfl rfl (by first | simp | assumption)) (.none rfl) rfl ?_
    refine AD.take 6 rfl (by kernel_rfl) (by first | exact RV.loadAggO rfl rfl (by first | simp | assumption) | exact RV.loadAggP rfl rfl rfl (by first | simp | assumption)) (.none rfl) rfl ?_
    refine AD.takeP 7 rfl (by kernel_rfl) (RV.fieldAddr rfl) (.none rfl) rfl ?_
    refine AD.take 8 rfl (by kernel_rfl) (by first | exact RV.loadO rfl rfl (by first | simp | assumption) | exact RV.loadS rfl (by assumption) (by omega) (by first | simp | assumption)) (.none rfl) rfl ?_
    refine AD.takeP 9 rfl (by kernel_rfl) (RV.fieldAddr rfl) (.none rfl) rfl ?_
    refine AD.take 10 rfl (by kernel_rfl) (by first | exact RV.loadO rfl rfl (by first | simp | assumption) | exact RV.loadS rfl (by assumption) (by omega) (by first | simp | assumption)) (.none rfl) rfl ?_
    refine AD.takeP 11 rfl (by kernel_rfl) (RV.move rfl) (.none rfl) rfl ?_
    refine AD.takeP 13 rfl (by kernel_rfl) (RV.fieldAddr rfl) (.none rfl) rfl ?_
    refine AD.take 14 rfl (by kernel_rfl) (by first | exact RV.loadO rfl rfl (by first | simp | assumption) | exact RV.loadS rfl (by assumption) (by omega) (by first | simp | assumption)) (.none rfl) rfl ?_
    refine AD.takeP 15 rfl (by kernel_rfl) (by first | exact RV.addK rfl rfl (by simp only [kb]; omega) | exact RV.add rfl rfl) (.none rfl) rfl ?_
    refine AD.many (i := 12) (l := [17]) (by kernel_rfl) (.cons ?_ (.cons ?_ (.nil)))
    · skip
      refine AE.eff rfl (EF.callF rfl (rmake_spec B _ lo hi f hf (sq s) ep _ hs.seq hep.2 (by omega))) (.none rfl) rfl ?_
      rintro _ _ ⟨rfl, rfl⟩
      refine ⟨(by first | exact .inr fun x hx hM => hx | exact .inr fun x hx hM => List.mem_cons_of_mem _ hx | exact .inr fun x hx hM => List.mem_append_right _ hx), ?_⟩
      refine AD.many (i := 16) (l := [17]) (by kernel_rfl) (.cons ?_ (.cons ?_ (.nil)))
      · skip
        refine AE.eff rfl (EF.callF rfl (rplain_spec B _ _ _ _ _ _)) (.none rfl) rfl ?_
        rintro _ _ ⟨rfl, rfl⟩
        refine ⟨.inl (by kernel_rfl), ?_⟩
        refine AD.one 17 (by kernel_rfl) (AE.eff rfl (EF.alloc) (.none rfl) rfl ?_)
        rintro _ _ ⟨b10, hf10, rfl, rfl⟩
        refine ⟨.inl (by kernel_rfl), ?_⟩
        refine AD.one 18 (by kernel_rfl) (AE.effN rfl (EF.storeO rfl rfl rfl rfl rfl rfl) (.none rfl) ?_)
        rintro _ _ rfl
        refine ⟨.inl (by kernel_rfl), ?_⟩
        refine AD.done (by kernel_rfl) ?_
        refine AK.seq ?_
        refine AK.region ?_
        refine AO.val (RV.move rfl) (.none rfl) rfl ?_
        refine AO.eff (EF.callF rfl (rsize_spec B _ _)) (.none rfl) rfl ?_
        rintro _ _ ⟨rfl, rfl⟩
        refine AO.eff (EF.callF rfl (rmss38_spec B _ _ hsi)) (.none rfl) rfl ?_
        rintro _ _ ⟨A40, c40, p40, rfl, hr40, hc40, rfl⟩
        refine AO.val (RV.fieldAddr rfl) (.none rfl) rfl ?_
        refine AO.effN (EF.storeO rfl rfl rfl rfl rfl rfl) (.none rfl) ?_
        rintro _ _ rfl
        refine AO.nil ?_
        refine AK.seq ?_
        refine AK.region ?_
        refine AO.val (by first | exact RV.loadAggO rfl rfl (by first | simp | assumption) | exact RV.loadAggP rfl rfl rfl (by first | simp | assumption)) (.none rfl) rfl ?_
        refine AO.effN (EF.storeO rfl rfl rfl rfl rfl rfl) (.none rfl) ?_
        rintro _ _ rfl
        refine AO.nil ?_
        -- at T
        refine AK.ret (h' := p40 ++ h) Try.func11 (.aggO rfl rfl .nil) ?_ (by exact SubO.sub)
        exact ⟨A40, c40, p40, rfl, hr40, hc40, rfl⟩
      · skip
        refine AE.eff rfl (EF.alloc) (.none rfl) rfl ?_
        rintro _ _ ⟨b10, hf10, rfl, rfl⟩
        refine ⟨(by first | exact .inr fun x hx hM => hx | exact .inr fun x hx hM => List.mem_cons_of_mem _ hx | exact .inr fun x hx hM => List.mem_append_right _ hx), ?_⟩
        refine AD.one 16 (by kernel_rfl) (AE.eff rfl (EF.callF rfl (rplain_spec B _ _ _ _ _ _)) (.none rfl) rfl ?_)
        rintro _ _ ⟨rfl, rfl⟩
        refine ⟨.inl (by kernel_rfl), ?_⟩
        refine AD.one 18 (by kernel_rfl) (AE.effN rfl (EF.storeO rfl rfl rfl rfl rfl rfl) (.none rfl) ?_)
        rintro _ _ rfl
        refine ⟨.inl (by kernel_rfl), ?_⟩
        refine AD.done (by kernel_rfl) ?_
        refine AK.seq ?_
        refine AK.region ?_
        refine AO.val (RV.move rfl) (.none rfl) rfl ?_
        refine AO.eff (EF.callF rfl (rsize_spec B _ _)) (.none rfl) rfl ?_
        rintro _ _ ⟨rfl, rfl⟩
        refine AO.eff (EF.callF rfl (rmss38_spec B _ _ hsi)) (.none rfl) rfl ?_
        rintro _ _ ⟨A40, c40, p40, rfl, hr40, hc40, rfl⟩
        refine AO.val (RV.fieldAddr rfl) (.none rfl) rfl ?_
        refine AO.effN (EF.storeO rfl rfl rfl rfl rfl rfl) (.none rfl) ?_
        rintro _ _ rfl
        refine AO.nil ?_
        refine AK.seq ?_
        refine AK.region ?_
        refine AO.val (by first | exact RV.loadAggO rfl rfl (by first | simp | assumption) | exact RV.loadAggP rfl rfl rfl (by first | simp | assumption)) (.none rfl) rfl ?_
        refine AO.effN (EF.storeO rfl rfl rfl rfl rfl rfl) (.none rfl) ?_
        rintro _ _ rfl
        refine AO.nil ?_
        -- at T
        refine AK.ret (h' := p40 ++ h) Try.func11 (.aggO rfl rfl .nil) ?_ (by exact SubO.sub)
        exact ⟨A40, c40, p40, rfl, hr40, hc40, rfl⟩
    · skip
      refine AE.eff rfl (EF.alloc) (.none rfl) rfl ?_
      rintro _ _ ⟨b10, hf10, rfl, rfl⟩
      refine ⟨(by first | exact .inr fun x hx hM => hx | exact .inr fun x hx hM => List.mem_cons_of_mem _ hx | exact .inr fun x hx hM => List.mem_append_right _ hx), ?_⟩
      refine AD.one 12 (by kernel_rfl) (AE.eff rfl (EF.callF rfl (rmake_spec B _ lo hi f hf (sq s) ep _ hs.seq hep.2 (by omega))) (.none rfl) rfl ?_)
      rintro _ _ ⟨rfl, rfl⟩
      refine ⟨(by first | exact .inr fun x hx hM => hx | exact .inr fun x hx hM => List.mem_cons_of_mem _ hx | exact .inr fun x hx hM => List.mem_append_right _ hx), ?_⟩
      refine AD.one 16 (by kernel_rfl) (AE.eff rfl (EF.callF rfl (rplain_spec B _ _ _ _ _ _)) (.none rfl) rfl ?_)
      rintro _ _ ⟨rfl, rfl⟩
      refine ⟨.inl (by kernel_rfl), ?_⟩
      refine AD.one 18 (by kernel_rfl) (AE.effN rfl (EF.storeO rfl rfl rfl rfl rfl rfl) (.none rfl) ?_)
      rintro _ _ rfl
      refine ⟨.inl (by kernel_rfl), ?_⟩
      refine AD.done (by kernel_rfl) ?_
      refine AK.seq ?_
      refine AK.region ?_
      refine AO.val (RV.move rfl) (.none rfl) rfl ?_
      refine AO.eff (EF.callF rfl (rsize_spec B _ _)) (.none rfl) rfl ?_
      rintro _ _ ⟨rfl, rfl⟩
      refine AO.eff (EF.callF rfl (rmss38_spec B _ _ hsi)) (.none rfl) rfl ?_
      rintro _ _ ⟨A40, c40, p40, rfl, hr40, hc40, rfl⟩
      refine AO.val (RV.fieldAddr rfl) (.none rfl) rfl ?_
      refine AO.effN (EF.storeO rfl rfl rfl rfl rfl rfl) (.none rfl) ?_
      rintro _ _ rfl
      refine AO.nil ?_
      refine AK.seq ?_
      refine AK.region ?_
      refine AO.val (by first | exact RV.loadAggO rfl rfl (by first | simp | assumption) | exact RV.loadAggP rfl rfl rfl (by first | simp | assumption)) (.none rfl) rfl ?_
      refine AO.effN (EF.storeO rfl rfl rfl rfl rfl rfl) (.none rfl) ?_
      rintro _ _ rfl
      refine AO.nil ?_
      -- at T
      refine AK.ret (h' := p40 ++ h) Try.func11 (.aggO rfl rfl .nil) ?_ (by exact SubO.sub)
      exact ⟨A40, c40, p40, rfl, hr40, hc40, rfl⟩
  · intro hc1
    try simp only [decide_eq_true_eq, decide_eq_false_iff_not, Bool.not_eq_true', Bool.not_eq_false', beq_iff_eq] at hc1
    have hix : idxTo (mssS (op s).l).1 8 = offI (op s).l := by unfold offI mssN; rw [if_pos (by simpa using hc1)]
    refine AK.skip ?_
    refine AK.seq ?_
    refine AK.region ?_
    refine AO.val (RV.move rfl) (.none rfl) rfl ?_
    refine AO.eff (EF.callF rfl (rindex_spec B _ _)) (.none rfl) rfl ?_
    rintro _ _ ⟨rfl, rfl⟩
    rw [hix]
    refine AO.val (RV.assign rfl) (.none rfl) rfl ?_
    refine AO.nil ?_
    refine AK.seq ?_
    refine AK.draw [] [16, 18] mixed ?_
    refine AD.takeP 0 rfl (by kernel_rfl) (RV.fieldAddr rfl) (.none rfl) rfl ?_
    refine AD.take 1 rfl (by kernel_rfl) (by first | exact RV.loadO rfl rfl (by first | simp | assumption) | exact RV.loadS rfl (by assumption) (by omega) (by first | simp | assumption)) (.none rfl) rfl ?_
    refine AD.takeP 2 rfl (by kernel_rfl) (RV.fieldAddr rfl) (.none rfl) rfl ?_
    refine AD.take 3 rfl (by kernel_rfl) (by first | exact RV.loadO rfl rfl (by first | simp | assumption) | exact RV.loadS rfl (by assumption) (by omega) (by first | simp | assumption)) (.none rfl) rfl ?_
    refine AD.takeP 4 rfl (by kernel_rfl) (RV.fieldAddr rfl) (.none rfl) rfl ?_
    refine AD.take 5 rfl (by kernel_rfl) (by first | exact RV.loadAggO rfl rfl (by first | simp | assumption) | exact RV.loadAggP rfl rfl rfl (by first | simp | assumption)) (.none rfl) rfl ?_
    refine AD.take 6 rfl (by kernel_rfl) (by first | exact RV.loadAggO rfl rfl (by first | simp | assumption) | exact RV.loadAggP rfl rfl rfl (by first | simp | assumption)) (.none rfl) rfl ?_
    refine AD.takeP 7 rfl (by kernel_rfl) (RV.fieldAddr rfl) (.none rfl) rfl ?_
    refine AD.take 8 rfl (by kernel_rfl) (by first | exact RV.loadO rfl rfl (by first | simp | assumption) | exact RV.loadS rfl (by assumption) (by omega) (by first | simp | assumption)) (.none rfl) rfl ?_
    refine AD.takeP 9 rfl (by kernel_rfl) (RV.fieldAddr rfl) (.none rfl) rfl ?_
    refine AD.take 10 rfl (by kernel_rfl) (by first | exact RV.loadO rfl rfl (by first | simp | assumption) | exact RV.loadS rfl (by assumption) (by omega) (by first | simp | assumption)) (.none rfl) rfl ?_
    refine AD.takeP 11 rfl (by kernel_rfl) (RV.move rfl) (.none rfl) rfl ?_
    refine AD.takeP 13 rfl (by kernel_rfl) (RV.fieldAddr rfl) (.none rfl) rfl ?_
    refine AD.take 14 rfl (by kernel_rfl) (by first | exact RV.loadO rfl rfl (by first | simp | assumption) | exact RV.loadS rfl (by assumption) (by omega) (by first | simp | assumption)) (.none rfl) rfl ?_
    refine AD.takeP 15 rfl (by kernel_rfl) (by first | exact RV.addK rfl rfl (by simp only [kb]; omega) | exact RV.add rfl rfl) (.none rfl) rfl ?_
    refine AD.many (i := 12) (l := [17]) (by kernel_rfl) (.cons ?_ (.cons ?_ (.nil)))
    · skip
      refine AE.eff rfl (EF.callF rfl (rmake_spec B _ lo hi f hf (sq s) ep _ hs.seq hep.2 (by omega))) (.none rfl) rfl ?_
      rintro _ _ ⟨rfl, rfl⟩
      refine ⟨(by first | exact .inr fun x hx hM => hx | exact .inr fun x hx hM => List.mem_cons_of_mem _ hx | exact .inr fun x hx hM => List.mem_append_right _ hx), ?_⟩
      refine AD.many (i := 16) (l := [17]) (by kernel_rfl) (.cons ?_ (.cons ?_ (.nil)))
      · skip
        refine AE.eff rfl (EF.callF rfl (rplain_spec B _ _ _ _ _ _)) (.none rfl) rfl ?_
        rintro _ _ ⟨rfl, rfl⟩
        refine ⟨.inl (by kernel_rfl), ?_⟩
        refine AD.one 17 (by kernel_rfl) (AE.eff rfl (EF.alloc) (.none rfl) rfl ?_)
        rintro _ _ ⟨b10, hf10, rfl, rfl⟩
        refine ⟨.inl (by kernel_rfl), ?_⟩
        refine AD.one 18 (by kernel_rfl) (AE.effN rfl (EF.storeO rfl rfl rfl rfl rfl rfl) (.none rfl) ?_)
        rintro _ _ rfl
        refine ⟨.inl (by kernel_rfl), ?_⟩
        refine AD.done (by kernel_rfl) ?_
        refine AK.seq ?_
        refine AK.region ?_
        refine AO.val (RV.move rfl) (.none rfl) rfl ?_
        refine AO.eff (EF.callF rfl (rsize_spec B _ _)) (.none rfl) rfl ?_
        rintro _ _ ⟨rfl, rfl⟩
        refine AO.eff (EF.callF rfl (rmss38_spec B _ _ hsi)) (.none rfl) rfl ?_
        rintro _ _ ⟨A40, c40, p40, rfl, hr40, hc40, rfl⟩
        refine AO.val (RV.fieldAddr rfl) (.none rfl) rfl ?_
        refine AO.effN (EF.storeO rfl rfl rfl rfl rfl rfl) (.none rfl) ?_
        rintro _ _ rfl
        refine AO.nil ?_
        refine AK.seq ?_
        refine AK.region ?_
        refine AO.val (by first | exact RV.loadAggO rfl rfl (by first | simp | assumption) | exact RV.loadAggP rfl rfl rfl (by first | simp | assumption)) (.none rfl) rfl ?_
        refine AO.effN (EF.storeO rfl rfl rfl rfl rfl rfl) (.none rfl) ?_
        rintro _ _ rfl
        refine AO.nil ?_
        -- at F
        refine AK.ret (h' := p40 ++ h) Try.func11 (.aggO rfl rfl .nil) ?_ (by exact SubO.sub)
        exact ⟨A40, c40, p40, rfl, hr40, hc40, rfl⟩
      · skip
        refine AE.eff rfl (EF.alloc) (.none rfl) rfl ?_
        rintro _ _ ⟨b10, hf10, rfl, rfl⟩
        refine ⟨(by first | exact .inr fun x hx hM => hx | exact .inr fun x hx hM => List.mem_cons_of_mem _ hx | exact .inr fun x hx hM => List.mem_append_right _ hx), ?_⟩
        refine AD.one 16 (by kernel_rfl) (AE.eff rfl (EF.callF rfl (rplain_spec B _ _ _ _ _ _)) (.none rfl) rfl ?_)
        rintro _ _ ⟨rfl, rfl⟩
        refine ⟨.inl (by kernel_rfl), ?_⟩
        refine AD.one 18 (by kernel_rfl) (AE.effN rfl (EF.storeO rfl rfl rfl rfl rfl rfl) (.none rfl) ?_)
        rintro _ _ rfl
        refine ⟨.inl (by kernel_rfl), ?_⟩
        refine AD.done (by kernel_rfl) ?_
        refine AK.seq ?_
        refine AK.region ?_
        refine AO.val (RV.move rfl) (.none rfl) rfl ?_
        refine AO.eff (EF.callF rfl (rsize_spec B _ _)) (.none rfl) rfl ?_
        rintro _ _ ⟨rfl, rfl⟩
        refine AO.eff (EF.callF rfl (rmss38_spec B _ _ hsi)) (.none rfl) rfl ?_
        rintro _ _ ⟨A40, c40, p40, rfl, hr40, hc40, rfl⟩
        refine AO.val (RV.fieldAddr rfl) (.none rfl) rfl ?_
        refine AO.effN (EF.storeO rfl rfl rfl rfl rfl rfl) (.none rfl) ?_
        rintro _ _ rfl
        refine AO.nil ?_
        refine AK.seq ?_
        refine AK.region ?_
        refine AO.val (by first | exact RV.loadAggO rfl rfl (by first | simp | assumption) | exact RV.loadAggP rfl rfl rfl (by first | simp | assumption)) (.none rfl) rfl ?_
        refine AO.effN (EF.storeO rfl rfl rfl rfl rfl rfl) (.none rfl) ?_
        rintro _ _ rfl
        refine AO.nil ?_
        -- at F
        refine AK.ret (h' := p40 ++ h) Try.func11 (.aggO rfl rfl .nil) ?_ (by exact SubO.sub)
        exact ⟨A40, c40, p40, rfl, hr40, hc40, rfl⟩
    · skip
      refine AE.eff rfl (EF.alloc) (.none rfl) rfl ?_
      rintro _ _ ⟨b10, hf10, rfl, rfl⟩
      refine ⟨(by first | exact .inr fun x hx hM => hx | exact .inr fun x hx hM => List.mem_cons_of_mem _ hx | exact .inr fun x hx hM => List.mem_append_right _ hx), ?_⟩
      refine AD.one 12 (by kernel_rfl) (AE.eff rfl (EF.callF rfl (rmake_spec B _ lo hi f hf (sq s) ep _ hs.seq hep.2 (by omega))) (.none rfl) rfl ?_)
      rintro _ _ ⟨rfl, rfl⟩
      refine ⟨(by first | exact .inr fun x hx hM => hx | exact .inr fun x hx hM => List.mem_cons_of_mem _ hx | exact .inr fun x hx hM => List.mem_append_right _ hx), ?_⟩
      refine AD.one 16 (by kernel_rfl) (AE.eff rfl (EF.callF rfl (rplain_spec B _ _ _ _ _ _)) (.none rfl) rfl ?_)
      rintro _ _ ⟨rfl, rfl⟩
      refine ⟨.inl (by kernel_rfl), ?_⟩
      refine AD.one 18 (by kernel_rfl) (AE.effN rfl (EF.storeO rfl rfl rfl rfl rfl rfl) (.none rfl) ?_)
      rintro _ _ rfl
      refine ⟨.inl (by kernel_rfl), ?_⟩
      refine AD.done (by kernel_rfl) ?_
      refine AK.seq ?_
      refine AK.region ?_
      refine AO.val (RV.move rfl) (.none rfl) rfl ?_
      refine AO.eff (EF.callF rfl (rsize_spec B _ _)) (.none rfl) rfl ?_
      rintro _ _ ⟨rfl, rfl⟩
      refine AO.eff (EF.callF rfl (rmss38_spec B _ _ hsi)) (.none rfl) rfl ?_
      rintro _ _ ⟨A40, c40, p40, rfl, hr40, hc40, rfl⟩
      refine AO.val (RV.fieldAddr rfl) (.none rfl) rfl ?_
      refine AO.effN (EF.storeO rfl rfl rfl rfl rfl rfl) (.none rfl) ?_
      rintro _ _ rfl
      refine AO.nil ?_
      refine AK.seq ?_
      refine AK.region ?_
      refine AO.val (by first | exact RV.loadAggO rfl rfl (by first | simp | assumption) | exact RV.loadAggP rfl rfl rfl (by first | simp | assumption)) (.none rfl) rfl ?_
      refine AO.effN (EF.storeO rfl rfl rfl rfl rfl rfl) (.none rfl) ?_
      rintro _ _ rfl
      refine AO.nil ?_
      -- at F
      refine AK.ret (h' := p40 ++ h) Try.func11 (.aggO rfl rfl .nil) ?_ (by exact SubO.sub)
      exact ⟨A40, c40, p40, rfl, hr40, hc40, rfl⟩

theorem accept_spec (B : World) (h : Own) (lo hi lo2 hi2 ep : Int) (f : Flow) (hf : FOk f) (s : Seg) (hs : SegIn B h s) (hep : -9223372036854775808 ≤ ep ∧ ep ≤ 9223372036854775807) : Tri Try.prog B 7 [.agg #[.int .u64 lo, .int .u64 hi, .int .u64 lo2, .int .u64 hi2, .int .i64 ep], .agg (encF f).toArray, .agg (encG s).toArray] h fun v h' => h = h' ∧ v = .tuple #[.int .i64 (acceptS lo hi lo2 hi2 ep f (fl s) (sq s) (ak s)).1, .bool (acceptS lo hi lo2 hi2 ep f (fl s) (sq s) (ak s)).2] := by
  have hb16 := (has_bit hs.flg).1
  have hb2 := (has_bit hs.flg).2.1
  have hb4 := (has_bit hs.flg).2.2.1
  have hb18 := (has_bit hs.flg).2.2.2
  have hwi : 0 ≤ IntKind.u32.wrap (s.2.2.2.1 - 1) ∧ IntKind.u32.wrap (s.2.2.2.1 - 1) ≤ 4294967295 := w32_in _
  refine Tri.enter (n := 39) Try.func7 rfl rfl rfl ?_
  simp only [argsE, Nat.reduceAdd]
  try dsimp only [argsE]
  refine AK.seq ?_
  refine AK.region ?_
  refine AO.eff (EF.box rfl rfl) (.none rfl) rfl ?_
  rintro _ _ ⟨b3, hf3, rfl, rfl⟩
  refine AO.eff (EF.box rfl rfl) (.none rfl) rfl ?_
  rintro _ _ ⟨b4, hf4, rfl, rfl⟩
  refine AO.eff (EF.box rfl rfl) (.none rfl) rfl ?_
  rintro _ _ ⟨b5, hf5, rfl, rfl⟩
  refine AO.val (RV.assign rfl) (.none rfl) rfl ?_
  refine AO.val (RV.assign rfl) (.none rfl) rfl ?_
  refine AO.nil ?_
  refine AK.seq ?_
  refine AK.region ?_
  refine AO.val (by first | exact RV.loadAggO rfl rfl (by first | simp | assumption) | exact RV.loadAggP rfl rfl rfl (by first | simp | assumption)) (.none rfl) rfl ?_
  refine AO.eff (EF.callF rfl (has_spec B _ s _)) (.none rfl) rfl ?_
  rintro _ _ ⟨rfl, rfl⟩
  first | rw [hb16] | rw [hb2] | rw [hb4] | rw [hb18]
  refine AO.val (RV.move rfl) (.none rfl) rfl ?_
  refine AO.caseG rfl rfl rfl ?_ ?_
  · intro hg1
    try simp only [decide_eq_true_eq, decide_eq_false_iff_not, Bool.not_eq_true', Bool.not_eq_false', beq_iff_eq] at hg1
    refine AO.val (by first | exact RV.loadAggO rfl rfl (by first | simp | assumption) | exact RV.loadAggP rfl rfl rfl (by first | simp | assumption)) (.some rfl rfl rfl rfl) rfl ?_
    refine AO.eff (EF.callF rfl (has_spec B _ s _)) (.some rfl rfl rfl rfl) rfl ?_
    rintro _ _ ⟨rfl, rfl⟩
    first | rw [hb16] | rw [hb2] | rw [hb4] | rw [hb18]
    refine AO.val (RV.not rfl) (.some rfl rfl rfl rfl) rfl ?_
    refine AO.val (RV.pickT rfl rfl) (.none rfl) rfl ?_
    refine AO.val (RV.move rfl) (.none rfl) rfl ?_
    refine AO.caseG rfl rfl rfl ?_ ?_
    · intro hg2
      try simp only [decide_eq_true_eq, decide_eq_false_iff_not, Bool.not_eq_true', Bool.not_eq_false', beq_iff_eq] at hg2
      refine AO.val (by first | exact RV.loadAggO rfl rfl (by first | simp | assumption) | exact RV.loadAggP rfl rfl rfl (by first | simp | assumption)) (.some rfl rfl rfl rfl) rfl ?_
      refine AO.eff (EF.callF rfl (has_spec B _ s _)) (.some rfl rfl rfl rfl) rfl ?_
      rintro _ _ ⟨rfl, rfl⟩
      first | rw [hb16] | rw [hb2] | rw [hb4] | rw [hb18]
      refine AO.val (RV.not rfl) (.some rfl rfl rfl rfl) rfl ?_
      refine AO.val (RV.pickT rfl rfl) (.none rfl) rfl ?_
      refine AO.val (RV.assign rfl) (.none rfl) rfl ?_
      refine AO.nil ?_
      refine AK.seq ?_
      refine AK.seq ?_
      refine AK.region ?_
      refine AO.val (RV.move rfl) (.none rfl) rfl ?_
      refine AO.val (RV.not rfl) (.none rfl) rfl ?_
      refine AO.val (RV.move rfl) (.none rfl) rfl ?_
      refine AO.caseG rfl rfl rfl ?_ ?_
      · intro hg3
        try simp only [decide_eq_true_eq, decide_eq_false_iff_not, Bool.not_eq_true', Bool.not_eq_false', beq_iff_eq] at hg3
        refine AO.pass (.some rfl rfl rfl rfl) rfl ?_
        refine AO.pass (.some rfl rfl rfl rfl) rfl ?_
        refine AO.pass (.some rfl rfl rfl rfl) rfl ?_
        refine AO.pass (.some rfl rfl rfl rfl) rfl ?_
        refine AO.pass (.some rfl rfl rfl rfl) rfl ?_
        refine AO.pass (.some rfl rfl rfl rfl) rfl ?_
        refine AO.pass (.some rfl rfl rfl rfl) rfl ?_
        refine AO.pass (.some rfl rfl rfl rfl) rfl ?_
        refine AO.pass (.some rfl rfl rfl rfl) rfl ?_
        refine AO.pass (.some rfl rfl rfl rfl) rfl ?_
        refine AO.val (RV.pickT rfl rfl) (.none rfl) rfl ?_
        refine AO.nil ?_
        refine AK.condT rfl ?_
        refine AK.seq ?_
        refine AK.region ?_
        refine AO.val (RV.assign rfl) (.none rfl) rfl ?_
        refine AO.val (RV.assign rfl) (.none rfl) rfl ?_
        refine AO.nil ?_
        -- at ttt
        refine AK.ret (h' := h) Try.func7 (.tmp rfl (.tmp rfl .nil)) ?_ (by first | exact SubO.sub | exact List.Sublist.refl _ | exact .cons _ (List.Sublist.refl _) | exact .cons _ (.cons _ (List.Sublist.refl _)) | exact .cons _ (.cons _ (.cons _ (List.Sublist.refl _))))
        refine ⟨rfl, ?_⟩
        simp_all [acceptS, oneOr]
      · intro hg3
        try simp only [decide_eq_true_eq, decide_eq_false_iff_not, Bool.not_eq_true', Bool.not_eq_false', beq_iff_eq] at hg3
        refine AO.val (by first | exact RV.loadAggO rfl rfl (by first | simp | assumption) | exact RV.loadAggP rfl rfl rfl (by first | simp | assumption)) (.some rfl rfl rfl rfl) rfl ?_
        refine AO.val (by first | exact RV.loadAggO rfl rfl (by first | simp | assumption) | exact RV.loadAggP rfl rfl rfl (by first | simp | assumption)) (.some rfl rfl rfl rfl) rfl ?_
        refine AO.val (RV.fieldAddr rfl) (.some rfl rfl rfl rfl) rfl ?_
        refine AO.val (by first | exact RV.loadO rfl rfl (by first | simp | assumption) | exact RV.loadS rfl (by assumption) (by omega) (by first | simp | assumption)) (.some rfl rfl rfl rfl) rfl ?_
        refine AO.val (by first | exact RV.subK rfl rfl (by simp only [kb]; omega) | exact RV.sub rfl rfl) (.some rfl rfl rfl rfl) rfl ?_
        refine AO.val (RV.fieldAddr rfl) (.some rfl rfl rfl rfl) rfl ?_
        refine AO.val (by first | exact RV.loadO rfl rfl (by first | simp | assumption) | exact RV.loadS rfl (by assumption) (by omega) (by first | simp | assumption)) (.some rfl rfl rfl rfl) rfl ?_
        refine AO.val (by first | exact RV.subK rfl rfl (by simp only [kb]; omega) | exact RV.sub rfl rfl) (.some rfl rfl rfl rfl) rfl ?_
        refine AO.eff (EF.callF rfl (right_spec B _ lo hi lo2 hi2 ep f hf _ (w32_in _) hep _ (w32_in _))) (.some rfl rfl rfl rfl) rfl ?_
        rintro _ _ ⟨rfl, rfl⟩
        refine AO.val (RV.not rfl) (.some rfl rfl rfl rfl) rfl ?_
        refine AO.val (RV.pickF rfl rfl) (.none rfl) rfl ?_
        refine AO.nil ?_
        refine AK.cond rfl ?_ ?_
        · intro hc4
          try simp only [decide_eq_true_eq, decide_eq_false_iff_not, Bool.not_eq_true', Bool.not_eq_false', beq_iff_eq] at hc4
          refine AK.seq ?_
          refine AK.region ?_
          refine AO.val (RV.assign rfl) (.none rfl) rfl ?_
          refine AO.val (RV.assign rfl) (.none rfl) rfl ?_
          refine AO.nil ?_
          -- at ttfT
          refine AK.ret (h' := h) Try.func7 (.tmp rfl (.tmp rfl .nil)) ?_ (by first | exact SubO.sub | exact List.Sublist.refl _ | exact .cons _ (List.Sublist.refl _) | exact .cons _ (.cons _ (List.Sublist.refl _)) | exact .cons _ (.cons _ (.cons _ (List.Sublist.refl _))))
          refine ⟨rfl, ?_⟩
          simp_all [acceptS, oneOr]
        · intro hc4
          try simp only [decide_eq_true_eq, decide_eq_false_iff_not, Bool.not_eq_true', Bool.not_eq_false', beq_iff_eq] at hc4
          refine AK.skip ?_
          refine AK.seq ?_
          refine AK.region ?_
          refine AO.val (RV.fieldAddr rfl) (.none rfl) rfl ?_
          refine AO.val (by first | exact RV.loadO rfl rfl (by first | simp | assumption) | exact RV.loadS rfl (by assumption) (by omega) (by first | simp | assumption)) (.none rfl) rfl ?_
          refine AO.val (by first | exact RV.subK rfl rfl (by simp only [kb]; omega) | exact RV.sub rfl rfl) (.none rfl) rfl ?_
          refine AO.eff (EF.callF rfl (place_spec B _ _ (w32_in _))) (.none rfl) rfl ?_
          rintro _ _ ⟨rfl, rfl⟩
          refine AO.val (RV.assign rfl) (.none rfl) rfl ?_
          refine AO.val (RV.assign rfl) (.none rfl) rfl ?_
          refine AO.nil ?_
          -- at ttfF
          refine AK.ret (h' := h) Try.func7 (.tmp rfl (.tmp rfl .nil)) ?_ (by first | exact SubO.sub | exact List.Sublist.refl _ | exact .cons _ (List.Sublist.refl _) | exact .cons _ (.cons _ (List.Sublist.refl _)) | exact .cons _ (.cons _ (.cons _ (List.Sublist.refl _))))
          refine ⟨rfl, ?_⟩
          simp_all [acceptS, oneOr]
    · intro hg2
      try simp only [decide_eq_true_eq, decide_eq_false_iff_not, Bool.not_eq_true', Bool.not_eq_false', beq_iff_eq] at hg2
      refine AO.pass (.some rfl rfl rfl rfl) rfl ?_
      refine AO.pass (.some rfl rfl rfl rfl) rfl ?_
      refine AO.pass (.some rfl rfl rfl rfl) rfl ?_
      refine AO.val (RV.pickF rfl rfl) (.none rfl) rfl ?_
      refine AO.val (RV.assign rfl) (.none rfl) rfl ?_
      refine AO.nil ?_
      refine AK.seq ?_
      refine AK.seq ?_
      refine AK.region ?_
      refine AO.val (RV.move rfl) (.none rfl) rfl ?_
      refine AO.val (RV.not rfl) (.none rfl) rfl ?_
      refine AO.val (RV.move rfl) (.none rfl) rfl ?_
      refine AO.pass (.some rfl rfl rfl rfl) rfl ?_
      refine AO.pass (.some rfl rfl rfl rfl) rfl ?_
      refine AO.pass (.some rfl rfl rfl rfl) rfl ?_
      refine AO.pass (.some rfl rfl rfl rfl) rfl ?_
      refine AO.pass (.some rfl rfl rfl rfl) rfl ?_
      refine AO.pass (.some rfl rfl rfl rfl) rfl ?_
      refine AO.pass (.some rfl rfl rfl rfl) rfl ?_
      refine AO.pass (.some rfl rfl rfl rfl) rfl ?_
      refine AO.pass (.some rfl rfl rfl rfl) rfl ?_
      refine AO.pass (.some rfl rfl rfl rfl) rfl ?_
      refine AO.val (RV.pickT rfl rfl) (.none rfl) rfl ?_
      refine AO.nil ?_
      refine AK.condT rfl ?_
      refine AK.seq ?_
      refine AK.region ?_
      refine AO.val (RV.assign rfl) (.none rfl) rfl ?_
      refine AO.val (RV.assign rfl) (.none rfl) rfl ?_
      refine AO.nil ?_
      -- at tf
      refine AK.ret (h' := h) Try.func7 (.tmp rfl (.tmp rfl .nil)) ?_ (by first | exact SubO.sub | exact List.Sublist.refl _ | exact .cons _ (List.Sublist.refl _) | exact .cons _ (.cons _ (List.Sublist.refl _)) | exact .cons _ (.cons _ (.cons _ (List.Sublist.refl _))))
      refine ⟨rfl, ?_⟩
      simp_all [acceptS, oneOr]
  · intro hg1
    try simp only [decide_eq_true_eq, decide_eq_false_iff_not, Bool.not_eq_true', Bool.not_eq_false', beq_iff_eq] at hg1
    refine AO.pass (.some rfl rfl rfl rfl) rfl ?_
    refine AO.pass (.some rfl rfl rfl rfl) rfl ?_
    refine AO.pass (.some rfl rfl rfl rfl) rfl ?_
    refine AO.val (RV.pickF rfl rfl) (.none rfl) rfl ?_
    refine AO.val (RV.move rfl) (.none rfl) rfl ?_
    refine AO.pass (.some rfl rfl rfl rfl) rfl ?_
    refine AO.pass (.some rfl rfl rfl rfl) rfl ?_
    refine AO.pass (.some rfl rfl rfl rfl) rfl ?_
    refine AO.val (RV.pickF rfl rfl) (.none rfl) rfl ?_
    refine AO.val (RV.assign rfl) (.none rfl) rfl ?_
    refine AO.nil ?_
    refine AK.seq ?_
    refine AK.seq ?_
    refine AK.region ?_
    refine AO.val (RV.move rfl) (.none rfl) rfl ?_
    refine AO.val (RV.not rfl) (.none rfl) rfl ?_
    refine AO.val (RV.move rfl) (.none rfl) rfl ?_
    refine AO.pass (.some rfl rfl rfl rfl) rfl ?_
    refine AO.pass (.some rfl rfl rfl rfl) rfl ?_
    refine AO.pass (.some rfl rfl rfl rfl) rfl ?_
    refine AO.pass (.some rfl rfl rfl rfl) rfl ?_
    refine AO.pass (.some rfl rfl rfl rfl) rfl ?_
    refine AO.pass (.some rfl rfl rfl rfl) rfl ?_
    refine AO.pass (.some rfl rfl rfl rfl) rfl ?_
    refine AO.pass (.some rfl rfl rfl rfl) rfl ?_
    refine AO.pass (.some rfl rfl rfl rfl) rfl ?_
    refine AO.pass (.some rfl rfl rfl rfl) rfl ?_
    refine AO.val (RV.pickT rfl rfl) (.none rfl) rfl ?_
    refine AO.nil ?_
    refine AK.condT rfl ?_
    refine AK.seq ?_
    refine AK.region ?_
    refine AO.val (RV.assign rfl) (.none rfl) rfl ?_
    refine AO.val (RV.assign rfl) (.none rfl) rfl ?_
    refine AO.nil ?_
    -- at f
    refine AK.ret (h' := h) Try.func7 (.tmp rfl (.tmp rfl .nil)) ?_ (by first | exact SubO.sub | exact List.Sublist.refl _ | exact .cons _ (List.Sublist.refl _) | exact .cons _ (.cons _ (List.Sublist.refl _)) | exact .cons _ (.cons _ (.cons _ (List.Sublist.refl _))))
    refine ⟨rfl, ?_⟩
    simp_all [acceptS, oneOr]

theorem raccept_spec (B : World) (h : Own) (lo hi lo2 hi2 ep : Int) (f : Flow) (hf : FOk f) (s : Seg) (hs : SegIn B h s) (hep : -9223372036854775808 ≤ ep ∧ ep ≤ 9223372036854775807) : Tri Try.prog B 8 [.agg #[.int .u64 lo, .int .u64 hi, .int .u64 lo2, .int .u64 hi2, .int .i64 ep], .agg (encF f).toArray, .agg (encG s).toArray] h fun v h' => h = h' ∧ v = .tuple #[.int .i64 (acceptS lo hi lo2 hi2 ep f (fl s) (sq s) (ak s)).1, .bool (acceptS lo hi lo2 hi2 ep f (fl s) (sq s) (ak s)).2] := by
  have hwi : 0 ≤ IntKind.u32.wrap (s.2.2.2.1 - 1) ∧ IntKind.u32.wrap (s.2.2.2.1 - 1) ≤ 4294967295 := w32_in _
  refine Tri.enter (n := 43) Try.func8 rfl rfl rfl ?_
  simp only [argsE, Nat.reduceAdd]
  try dsimp only [argsE]
  refine AK.seq ?_
  refine AK.region ?_
  refine AO.eff (EF.box rfl rfl) (.none rfl) rfl ?_
  rintro _ _ ⟨b3, hf3, rfl, rfl⟩
  refine AO.eff (EF.box rfl rfl) (.none rfl) rfl ?_
  rintro _ _ ⟨b4, hf4, rfl, rfl⟩
  refine AO.eff (EF.box rfl rfl) (.none rfl) rfl ?_
  rintro _ _ ⟨b5, hf5, rfl, rfl⟩
  refine AO.val (RV.assign rfl) (.none rfl) rfl ?_
  refine AO.val (RV.assign rfl) (.none rfl) rfl ?_
  refine AO.nil ?_
  refine AK.seq ?_
  refine AK.seq ?_
  refine AK.region ?_
  refine AO.val (RV.fieldAddr rfl) (.none rfl) rfl ?_
  refine AO.val (by first | exact RV.loadO rfl rfl (by first | simp | assumption) | exact RV.loadS rfl (by assumption) (by omega) (by first | simp | assumption)) (.none rfl) rfl ?_
  refine AO.eff (EF.callF rfl (bit_spec B _ _ _ hs.flg (by decide))) (.none rfl) rfl ?_
  rintro _ _ ⟨rfl, rfl⟩
  refine AO.val (RV.not rfl) (.none rfl) rfl ?_
  refine AO.val (RV.move rfl) (.none rfl) rfl ?_
  refine AO.caseG rfl rfl rfl ?_ ?_
  · intro hg1
    try simp only [decide_eq_true_eq, decide_eq_false_iff_not, Bool.not_eq_true', Bool.not_eq_false', beq_iff_eq] at hg1
    refine AO.pass (.some rfl rfl rfl rfl) rfl ?_
    refine AO.pass (.some rfl rfl rfl rfl) rfl ?_
    refine AO.pass (.some rfl rfl rfl rfl) rfl ?_
    refine AO.val (RV.pickT rfl rfl) (.none rfl) rfl ?_
    refine AO.val (RV.move rfl) (.none rfl) rfl ?_
    refine AO.pass (.some rfl rfl rfl rfl) rfl ?_
    refine AO.pass (.some rfl rfl rfl rfl) rfl ?_
    refine AO.pass (.some rfl rfl rfl rfl) rfl ?_
    refine AO.val (RV.pickT rfl rfl) (.none rfl) rfl ?_
    refine AO.nil ?_
    refine AK.condT rfl ?_
    refine AK.seq ?_
    refine AK.region ?_
    refine AO.val (RV.assign rfl) (.none rfl) rfl ?_
    refine AO.val (RV.assign rfl) (.none rfl) rfl ?_
    refine AO.nil ?_
    -- at t
    refine AK.ret (h' := h) Try.func8 (.tmp rfl (.tmp rfl .nil)) ?_ (by first | exact SubO.sub | exact List.Sublist.refl _ | exact .cons _ (List.Sublist.refl _) | exact .cons _ (.cons _ (List.Sublist.refl _)) | exact .cons _ (.cons _ (.cons _ (List.Sublist.refl _))))
    refine ⟨rfl, ?_⟩
    simp_all [acceptS, oneOr]
  · intro hg1
    try simp only [decide_eq_true_eq, decide_eq_false_iff_not, Bool.not_eq_true', Bool.not_eq_false', beq_iff_eq] at hg1
    refine AO.val (RV.fieldAddr rfl) (.some rfl rfl rfl rfl) rfl ?_
    refine AO.val (by first | exact RV.loadO rfl rfl (by first | simp | assumption) | exact RV.loadS rfl (by assumption) (by omega) (by first | simp | assumption)) (.some rfl rfl rfl rfl) rfl ?_
    refine AO.eff (EF.callF rfl (bit_spec B _ _ _ hs.flg (by decide))) (.some rfl rfl rfl rfl) rfl ?_
    rintro _ _ ⟨rfl, rfl⟩
    refine AO.val (RV.pickF rfl rfl) (.none rfl) rfl ?_
    refine AO.val (RV.move rfl) (.none rfl) rfl ?_
    refine AO.caseG rfl rfl rfl ?_ ?_
    · intro hg2
      try simp only [decide_eq_true_eq, decide_eq_false_iff_not, Bool.not_eq_true', Bool.not_eq_false', beq_iff_eq] at hg2
      refine AO.pass (.some rfl rfl rfl rfl) rfl ?_
      refine AO.pass (.some rfl rfl rfl rfl) rfl ?_
      refine AO.pass (.some rfl rfl rfl rfl) rfl ?_
      refine AO.val (RV.pickT rfl rfl) (.none rfl) rfl ?_
      refine AO.nil ?_
      refine AK.condT rfl ?_
      refine AK.seq ?_
      refine AK.region ?_
      refine AO.val (RV.assign rfl) (.none rfl) rfl ?_
      refine AO.val (RV.assign rfl) (.none rfl) rfl ?_
      refine AO.nil ?_
      -- at ft
      refine AK.ret (h' := h) Try.func8 (.tmp rfl (.tmp rfl .nil)) ?_ (by first | exact SubO.sub | exact List.Sublist.refl _ | exact .cons _ (List.Sublist.refl _) | exact .cons _ (.cons _ (List.Sublist.refl _)) | exact .cons _ (.cons _ (.cons _ (List.Sublist.refl _))))
      refine ⟨rfl, ?_⟩
      simp_all [acceptS, oneOr]
    · intro hg2
      try simp only [decide_eq_true_eq, decide_eq_false_iff_not, Bool.not_eq_true', Bool.not_eq_false', beq_iff_eq] at hg2
      refine AO.val (RV.fieldAddr rfl) (.some rfl rfl rfl rfl) rfl ?_
      refine AO.val (by first | exact RV.loadO rfl rfl (by first | simp | assumption) | exact RV.loadS rfl (by assumption) (by omega) (by first | simp | assumption)) (.some rfl rfl rfl rfl) rfl ?_
      refine AO.eff (EF.callF rfl (bit_spec B _ _ _ hs.flg (by decide))) (.some rfl rfl rfl rfl) rfl ?_
      rintro _ _ ⟨rfl, rfl⟩
      refine AO.val (RV.pickF rfl rfl) (.none rfl) rfl ?_
      refine AO.nil ?_
      refine AK.cond rfl ?_ ?_
      · intro hc3
        try simp only [decide_eq_true_eq, decide_eq_false_iff_not, Bool.not_eq_true', Bool.not_eq_false', beq_iff_eq] at hc3
        refine AK.seq ?_
        refine AK.region ?_
        refine AO.val (RV.assign rfl) (.none rfl) rfl ?_
        refine AO.val (RV.assign rfl) (.none rfl) rfl ?_
        refine AO.nil ?_
        -- at ffT
        refine AK.ret (h' := h) Try.func8 (.tmp rfl (.tmp rfl .nil)) ?_ (by first | exact SubO.sub | exact List.Sublist.refl _ | exact .cons _ (List.Sublist.refl _) | exact .cons _ (.cons _ (List.Sublist.refl _)) | exact .cons _ (.cons _ (.cons _ (List.Sublist.refl _))))
        refine ⟨rfl, ?_⟩
        simp_all [acceptS, oneOr]
      · intro hc3
        try simp only [decide_eq_true_eq, decide_eq_false_iff_not, Bool.not_eq_true', Bool.not_eq_false', beq_iff_eq] at hc3
        refine AK.skip ?_
        refine AK.seq ?_
        refine AK.region ?_
        refine AO.val (RV.fieldAddr rfl) (.none rfl) rfl ?_
        refine AO.val (by first | exact RV.loadO rfl rfl (by first | simp | assumption) | exact RV.loadS rfl (by assumption) (by omega) (by first | simp | assumption)) (.none rfl) rfl ?_
        refine AO.val (by first | exact RV.subK rfl rfl (by simp only [kb]; omega) | exact RV.sub rfl rfl) (.none rfl) rfl ?_
        refine AO.val (RV.assign rfl) (.none rfl) rfl ?_
        refine AO.nil ?_
        refine AK.seq ?_
        refine AK.seq ?_
        refine AK.region ?_
        refine AO.val (RV.fieldAddr rfl) (.none rfl) rfl ?_
        refine AO.val (by first | exact RV.loadAggO rfl rfl (by first | simp | assumption) | exact RV.loadAggP rfl rfl rfl (by first | simp | assumption)) (.none rfl) rfl ?_
        refine AO.val (RV.fieldAddr rfl) (.none rfl) rfl ?_
        refine AO.val (by first | exact RV.loadAggO rfl rfl (by first | simp | assumption) | exact RV.loadAggP rfl rfl rfl (by first | simp | assumption)) (.none rfl) rfl ?_
        refine AO.val (RV.fieldAddr rfl) (.none rfl) rfl ?_
        refine AO.val (by first | exact RV.loadO rfl rfl (by first | simp | assumption) | exact RV.loadS rfl (by assumption) (by omega) (by first | simp | assumption)) (.none rfl) rfl ?_
        refine AO.val (by first | exact RV.loadAggO rfl rfl (by first | simp | assumption) | exact RV.loadAggP rfl rfl rfl (by first | simp | assumption)) (.none rfl) rfl ?_
        refine AO.val (RV.fieldAddr rfl) (.none rfl) rfl ?_
        refine AO.val (by first | exact RV.loadO rfl rfl (by first | simp | assumption) | exact RV.loadS rfl (by assumption) (by omega) (by first | simp | assumption)) (.none rfl) rfl ?_
        refine AO.val (by first | exact RV.subK rfl rfl (by simp only [kb]; omega) | exact RV.sub rfl rfl) (.none rfl) rfl ?_
        refine AO.val (RV.move rfl) (.none rfl) rfl ?_
        refine AO.eff (EF.callF rfl (rright_spec B _ lo hi lo2 hi2 ep f hf _ (w32_in _) hep _ (w32_in _))) (.none rfl) rfl ?_
        rintro _ _ ⟨rfl, rfl⟩
        refine AO.val (RV.not rfl) (.none rfl) rfl ?_
        refine AO.nil ?_
        refine AK.cond rfl ?_ ?_
        · intro hc4
          try simp only [decide_eq_true_eq, decide_eq_false_iff_not, Bool.not_eq_true', Bool.not_eq_false', beq_iff_eq] at hc4
          refine AK.seq ?_
          refine AK.region ?_
          refine AO.val (RV.assign rfl) (.none rfl) rfl ?_
          refine AO.val (RV.assign rfl) (.none rfl) rfl ?_
          refine AO.nil ?_
          -- at ffFT
          refine AK.ret (h' := h) Try.func8 (.tmp rfl (.tmp rfl .nil)) ?_ (by first | exact SubO.sub | exact List.Sublist.refl _ | exact .cons _ (List.Sublist.refl _) | exact .cons _ (.cons _ (List.Sublist.refl _)) | exact .cons _ (.cons _ (.cons _ (List.Sublist.refl _))))
          refine ⟨rfl, ?_⟩
          simp_all [acceptS, oneOr]
        · intro hc4
          try simp only [decide_eq_true_eq, decide_eq_false_iff_not, Bool.not_eq_true', Bool.not_eq_false', beq_iff_eq] at hc4
          refine AK.skip ?_
          refine AK.seq ?_
          refine AK.region ?_
          refine AO.val (RV.move rfl) (.none rfl) rfl ?_
          refine AO.val (RV.quoIn rfl rfl (by simp only [kb]; omega)) (.none rfl) rfl ?_
          refine AO.val (RV.remIn rfl rfl (by omega)) (.none rfl) rfl ?_
          refine AO.val (RV.convIn rfl (by simp only [kb]; omega)) (.none rfl) rfl ?_
          refine AO.val (RV.assign rfl) (.none rfl) rfl ?_
          refine AO.val (RV.assign rfl) (.none rfl) rfl ?_
          refine AO.nil ?_
          -- at ffFF
          refine AK.ret (h' := h) Try.func8 (.tmp rfl (.tmp rfl .nil)) ?_ (by first | exact SubO.sub | exact List.Sublist.refl _ | exact .cons _ (List.Sublist.refl _) | exact .cons _ (.cons _ (List.Sublist.refl _)) | exact .cons _ (.cons _ (.cons _ (List.Sublist.refl _))))
          refine ⟨rfl, ?_⟩
          simp_all [acceptS, oneOr]

end Go.Proofs.Ytagfegkpgdaimaa
