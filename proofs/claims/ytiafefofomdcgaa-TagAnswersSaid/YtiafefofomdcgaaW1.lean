/- Walks through the code: what each function that is named here gives back, from any memory that holds its arguments. Written by a program of the claim's author, out of the program's form in Lean. -/
import Derived.Test.YtiafefofomdcgaaS01R3
import Derived.Test.YtiafefofomdcgaaS13W2
import Derived.Test.YtiafefofomdcgaaPlain
set_option linter.unusedSimpArgs false
set_option linter.unusedVariables false
namespace Go.Proofs.Ytiafefofomdcgaa
open Go.Sep Go.Sep.Sip Go.Sep.Tag

theorem long_spec (B : World) (h : Own) (n : Int) (hn : 0 ≤ n ∧ n ≤ 18446744073709551615) : Tri Try.prog B 18 [.int .u64 n] h fun v h' => NewS 5 1 (longB n).length ((longB n).map (fun x => Value.int .u8 x)) h v h' := by
  refine Tri.enter (n := 10) Try.func18 rfl rfl rfl ?_
  simp only [argsE, Nat.reduceAdd]
  try dsimp only [argsE]
  refine AK.seq ?_
  refine AK.region ?_
  refine AO.val (RV.assign rfl) (.none rfl) rfl ?_
  refine AO.nil ?_
  refine AK.seq ?_
  refine AK.region ?_
  refine AO.val (RV.move rfl) (.none rfl) rfl ?_
  refine AO.val ((RV.shr rfl rfl (by omega)).to (v' := .int .u64 (n / 4294967296)) (by rw [show n.fdiv (2 ^ (min (32 : Int).toNat IntKind.u64.bits)) = n / 4294967296 from Int.fdiv_eq_ediv_of_nonneg _ (by decide)])) (.none rfl) rfl ?_
  refine AO.val (RV.convIn rfl (by simp only [kb]; omega)) (.none rfl) rfl ?_
  refine AO.val (RV.move rfl) (.none rfl) rfl ?_
  refine AO.val ((RV.conv rfl).to (v' := .int .u32 (n % 4294967296)) (by simp only [IntKind.wrap, IntKind.bits, IntKind.signed]; rfl)) (.none rfl) rfl ?_
  refine AO.eff (EF.buildSeq [.int .u32 (n / 4294967296), .int .u32 (n % 4294967296)] rfl rfl rfl rfl) (.none rfl) rfl ?_
  rintro _ _ ⟨b8, hf8, rfl, rfl⟩
  refine AO.eff (EF.callF rfl ((put32_spec (A := none) (cap := 0) (A2 := some ⟨b8, 0, none⟩) (cap2 := 2) B _ [] [n / 4294967296, n % 4294967296] ⟨rfl, by simp⟩ (by decide) (Src.of_new (el := 25) (cs := [.int .u32 (n / 4294967296), .int .u32 (n % 4294967296)]) (by simp) 2 1 (Nat.le_refl _)) (by simp)).mono fun v h2 r => r.to (n' := (longB n).length) (ys := (longB n).map (fun x => Value.int .u8 x)) (by simp [longB_len]) (by simp [longB]))) (.none rfl) rfl ?_
  rintro _ _ ⟨A9, c9, p9, rfl, hr9, hc9, rfl⟩
  refine AO.val (RV.assign rfl) (.none rfl) rfl ?_
  refine AO.nil ?_
  -- at 
  refine AK.ret (h' := p9 ++ h) Try.func18 (.tmp rfl .nil) ?_ (by first | exact SubO.sub | exact List.Sublist.refl _ | exact .cons _ (List.Sublist.refl _) | exact .cons _ (.cons _ (List.Sublist.refl _)) | exact .cons _ (.cons _ (.cons _ (List.Sublist.refl _))))
  exact ⟨A9, c9, p9, rfl, hr9, hc9, rfl⟩

theorem rlong_spec (B : World) (h : Own) (n : Int) (hn : 0 ≤ n ∧ n ≤ 18446744073709551615) : Tri Try.prog B 23 [.int .u64 n] h fun v h' => NewS 5 1 (longB n).length ((longB n).map (fun x => Value.int .u8 x)) h v h' := by
  refine Tri.enter (n := 12) Try.func23 rfl rfl rfl ?_
  simp only [argsE, Nat.reduceAdd]
  try dsimp only [argsE]
  refine AK.seq ?_
  refine AK.region ?_
  refine AO.val (RV.assign rfl) (.none rfl) rfl ?_
  refine AO.nil ?_
  refine AK.seq ?_
  refine AK.region ?_
  refine AO.val (RV.move rfl) (.none rfl) rfl ?_
  refine AO.val (RV.quoIn rfl rfl (by simp only [kb]; omega)) (.none rfl) rfl ?_
  refine AO.val (RV.convIn rfl (by simp only [kb]; omega)) (.none rfl) rfl ?_
  refine AO.eff (EF.callF rfl ((put_spec B _ (n / 4294967296) 4 (by omega) (by decide)).mono fun v h2 r => r.to (n' := (beR 4 (n / 4294967296)).length) (ys := (beR 4 (n / 4294967296)).map (fun x => Value.int .u8 x)) (by rw [beR_len]; rfl) rfl)) (.none rfl) rfl ?_
  rintro _ _ ⟨A6, c6, p6, rfl, hr6, hc6, rfl⟩
  refine AO.val (RV.move rfl) (.none rfl) rfl ?_
  refine AO.val (RV.remIn rfl rfl (by omega)) (.none rfl) rfl ?_
  refine AO.val (RV.convIn rfl (by simp only [kb]; omega)) (.none rfl) rfl ?_
  refine AO.eff (EF.callF rfl ((put_spec B _ (n % 4294967296) 4 (by omega) (by decide)).mono fun v h2 r => r.to (n' := (beR 4 (n % 4294967296)).length) (ys := (beR 4 (n % 4294967296)).map (fun x => Value.int .u8 x)) (by rw [beR_len]; rfl) rfl)) (.none rfl) rfl ?_
  rintro _ _ ⟨A10, c10, p10, rfl, hr10, hc10, rfl⟩
  refine AO.eff (EF.callF rfl (add_spec B _ (beR 4 (n / 4294967296)) (beR 4 (n % 4294967296)) ((hr6.src (h := p6) (fun x hx => hx)).mono fun x hx => by simp [hx]) ((hr10.src (h := p10) (fun x hx => hx)).mono fun x hx => by simp [hx]) (by simp [beR_len]))) (.none rfl) rfl ?_
  rintro _ _ ⟨A11, c11, p11, rfl, hr11, hc11, rfl⟩
  refine AO.val (RV.assign rfl) (.none rfl) rfl ?_
  refine AO.nil ?_
  -- at 
  refine AK.ret (h' := p11 ++ h) Try.func23 (.tmp rfl .nil) ?_ (by first | exact SubO.sub | exact List.Sublist.refl _ | exact .cons _ (List.Sublist.refl _) | exact .cons _ (.cons _ (List.Sublist.refl _)) | exact .cons _ (.cons _ (.cons _ (List.Sublist.refl _))))
  exact ⟨A11, c11, p11, rfl, hr11, hc11, rfl⟩

theorem signed_spec (B : World) (h : Own) (lo hi : Int) {A : Option Addr} {cap : Nat} (l : List Int) (hl : Src B h A l.length 1 (l.map (fun x => Value.int .u8 x))) (hb : Bytes l) (hcap : l.length ≤ cap) (hln : l.length ≤ 100000) : Tri Try.prog B 21 [.agg #[.int .u64 lo, .int .u64 hi], .slice A l.length cap] h fun v h' => NewS 5 1 (signB lo hi l).length ((signB lo hi l).map (fun x => Value.int .u8 x)) h v h' := by
  have hsu := sumS_U lo hi l
  simp only [U] at hsu
  refine Tri.enter (n := 12) Try.func21 rfl rfl rfl ?_
  simp only [argsE, Nat.reduceAdd]
  try dsimp only [argsE]
  refine AK.seq ?_
  refine AK.region ?_
  refine AO.eff (EF.box rfl rfl) (.none rfl) rfl ?_
  rintro _ _ ⟨b2, hf2, rfl, rfl⟩
  refine AO.val (RV.assign rfl) (.none rfl) rfl ?_
  refine AO.nil ?_
  refine AK.seq ?_
  refine AK.region ?_
  refine AO.val (RV.move rfl) (.none rfl) rfl ?_
  refine AO.val (by first | exact RV.loadAggO rfl rfl (by simp) | exact RV.loadAggP rfl rfl rfl (by simp)) (.none rfl) rfl ?_
  refine AO.val (RV.move rfl) (.none rfl) rfl ?_
  refine AO.eff (EF.callF rfl (sum_spec (cap := cap) B _ lo hi l hl.sub hb hcap (by omega))) (.none rfl) rfl ?_
  rintro _ _ ⟨rfl, rfl⟩
  refine AO.eff (EF.callF rfl (long_spec B _ (sumS lo hi l) hsu)) (.none rfl) rfl ?_
  rintro _ _ ⟨A9, c9, p9, rfl, hr9, hc9, rfl⟩
  refine AO.eff (EF.buildSeq [.slice A l.length cap, .slice A9 (longB (sumS lo hi l)).length c9] rfl rfl rfl rfl) (.none rfl) rfl ?_
  rintro _ _ ⟨b10, hf10, rfl, rfl⟩
  refine AO.eff (EF.callF rfl ((join_spec (A := some ⟨b10, 0, none⟩) (cap := 2) B _ ([⟨A, cap, l⟩, ⟨A9, c9, longB (sumS lo hi l)⟩] : List (InS Int)) (Src.of_new (el := 29) (cs := [.slice A l.length cap, .slice A9 (longB (sumS lo hi l)).length c9]) (by simp) 2 1 (Nat.le_refl _)) (by intro x hx; simp only [List.mem_cons, List.not_mem_nil, or_false] at hx; rcases hx with rfl | rfl <;> first | exact hl.mono fun x hx => by simp [hx] | exact (hr9.src (h := p9) (fun x hx => hx)).mono fun x hx => by simp [hx]) (by simp [signB, longB_len]; omega) (by simp)).mono fun v h2 r => r.to (n' := (signB lo hi l).length) (ys := (signB lo hi l).map (fun x => Value.int .u8 x)) (by simp [signB, longB_len]) (by simp [signB, longB_len]))) (.none rfl) rfl ?_
  rintro _ _ ⟨A11, c11, p11, rfl, hr11, hc11, rfl⟩
  refine AO.val (RV.assign rfl) (.none rfl) rfl ?_
  refine AO.nil ?_
  -- at 
  refine AK.ret (h' := p11 ++ h) Try.func21 (.tmp rfl .nil) ?_ (by first | exact SubO.sub | exact List.Sublist.refl _ | exact .cons _ (List.Sublist.refl _) | exact .cons _ (.cons _ (List.Sublist.refl _)) | exact .cons _ (.cons _ (.cons _ (List.Sublist.refl _))))
  exact ⟨A11, c11, p11, rfl, hr11, hc11, rfl⟩

theorem rsigned_spec (B : World) (h : Own) (lo hi : Int) {A : Option Addr} {cap : Nat} (l : List Int) (hl : Src B h A l.length 1 (l.map (fun x => Value.int .u8 x))) (hb : Bytes l) (hcap : l.length ≤ cap) (hln : l.length ≤ 100000) : Tri Try.prog B 25 [.agg #[.int .u64 lo, .int .u64 hi], .slice A l.length cap] h fun v h' => NewS 5 1 (signB lo hi l).length ((signB lo hi l).map (fun x => Value.int .u8 x)) h v h' := by
  have hsu := sumS_U lo hi l
  simp only [U] at hsu
  refine Tri.enter (n := 11) Try.func25 rfl rfl rfl ?_
  simp only [argsE, Nat.reduceAdd]
  try dsimp only [argsE]
  refine AK.seq ?_
  refine AK.region ?_
  refine AO.eff (EF.box rfl rfl) (.none rfl) rfl ?_
  rintro _ _ ⟨b2, hf2, rfl, rfl⟩
  refine AO.val (RV.assign rfl) (.none rfl) rfl ?_
  refine AO.nil ?_
  refine AK.seq ?_
  refine AK.region ?_
  refine AO.val (RV.move rfl) (.none rfl) rfl ?_
  refine AO.val (by first | exact RV.loadAggO rfl rfl (by simp) | exact RV.loadAggP rfl rfl rfl (by simp)) (.none rfl) rfl ?_
  refine AO.val (RV.move rfl) (.none rfl) rfl ?_
  refine AO.eff (EF.callF rfl (rsum_spec (cap := cap) B _ lo hi l hl.sub hb hcap (by omega))) (.none rfl) rfl ?_
  rintro _ _ ⟨rfl, rfl⟩
  refine AO.eff (EF.callF rfl (rlong_spec B _ (sumS lo hi l) hsu)) (.none rfl) rfl ?_
  rintro _ _ ⟨A9, c9, p9, rfl, hr9, hc9, rfl⟩
  refine AO.eff (EF.callF rfl (add_spec B _ l (longB (sumS lo hi l)) (hl.mono fun x hx => by simp [hx]) ((hr9.src (h := p9) (fun x hx => hx)).mono fun x hx => by simp [hx]) (by rw [longB_len]; omega))) (.none rfl) rfl ?_
  rintro _ _ ⟨A10, c10, p10, rfl, hr10, hc10, rfl⟩
  refine AO.val (RV.assign rfl) (.none rfl) rfl ?_
  refine AO.nil ?_
  -- at 
  refine AK.ret (h' := p10 ++ h) Try.func25 (.tmp rfl .nil) ?_ (by first | exact SubO.sub | exact List.Sublist.refl _ | exact .cons _ (List.Sublist.refl _) | exact .cons _ (.cons _ (List.Sublist.refl _)) | exact .cons _ (.cons _ (.cons _ (List.Sublist.refl _))))
  exact ⟨A10, c10, p10, rfl, hr10, hc10, rfl⟩

theorem right_spec (B : World) (h : Own) (lo hi : Int) {A : Option Addr} {cap : Nat} (l : List Int) (hl : Src B h A l.length 1 (l.map (fun x => Value.int .u8 x))) (hb : Bytes l) (hcap : l.length ≤ cap) (hln : l.length ≤ 100000) (h8 : 8 ≤ l.length) : Tri Try.prog B 26 [.agg #[.int .u64 lo, .int .u64 hi], .slice A l.length cap] h fun v h' => h = h' ∧ v = .bool (decide (signB lo hi (l.take (l.length - 8)) = l)) := by
  have htk : Src B h A (l.take (l.length - 8)).length 1 ((l.take (l.length - 8)).map (fun x => Value.int .u8 x)) := by
    have := hl.take (l.length - 8) (by omega)
    rw [Nat.mul_one, ← List.map_take] at this
    rw [List.length_take, show min (l.length - 8) l.length = l.length - 8 by omega]; exact this
  have htl : (l.take (l.length - 8)).length = l.length - 8 := by rw [List.length_take]; omega
  refine Tri.enter (n := 16) Try.func26 rfl rfl rfl ?_
  simp only [argsE, Nat.reduceAdd]
  try dsimp only [argsE]
  refine AK.seq ?_
  refine AK.region ?_
  refine AO.eff (EF.box rfl rfl) (.none rfl) rfl ?_
  rintro _ _ ⟨b2, hf2, rfl, rfl⟩
  refine AO.val (RV.assign rfl) (.none rfl) rfl ?_
  refine AO.nil ?_
  refine AK.seq ?_
  refine AK.region ?_
  refine AO.val (RV.move rfl) (.none rfl) rfl ?_
  refine AO.val (RV.lenS rfl) (.none rfl) rfl ?_
  refine AO.val (by first | exact RV.subIn rfl rfl (by omega) | exact RV.sub rfl rfl) (.none rfl) rfl ?_
  refine AO.val (RV.assign rfl) (.none rfl) rfl ?_
  refine AO.nil ?_
  refine AK.seq ?_
  refine AK.draw [] [4, 6] mixed ?_
  refine AD.take 0 rfl (by kernel_rfl) (by first | exact RV.loadAggO rfl rfl (by simp) | exact RV.loadAggP rfl rfl rfl (by simp)) (.none rfl) rfl ?_
  refine AD.takeP 1 rfl (by kernel_rfl) (RV.move rfl) (.none rfl) rfl ?_
  refine AD.takeP 2 rfl (by kernel_rfl) (RV.move rfl) (.none rfl) rfl ?_
  refine AD.takeP 3 rfl (by kernel_rfl) ((RV.sliceHi rfl rfl (by omega)).to (v' := .slice A (l.take (l.length - 8)).length cap) (by rw [htl]; congr 1; omega)) (.none rfl) rfl ?_
  refine AD.takeP 5 rfl (by kernel_rfl) (RV.move rfl) (.none rfl) rfl ?_
  refine AD.one 4 (by kernel_rfl) (AE.eff rfl (EF.callF rfl (signed_spec (cap := cap) B _ lo hi (l.take (l.length - 8)) (htk.mono fun x hx => by simp [hx]) (bytes_take hb _) (by omega) (by omega))) (.none rfl) rfl ?_)
  rintro _ _ ⟨A13, c13, p13, rfl, hr13, hc13, rfl⟩
  refine ⟨.inl (by kernel_rfl), ?_⟩
  refine AD.one 6 (by kernel_rfl) (AE.eff rfl (EF.callF rfl (osame_spec (cap := c13) (cap2 := cap) B _ (signB lo hi (l.take (l.length - 8))) l ((hr13.src (h := p13) (fun x hx => hx)).mono fun x hx => by simp [hx]) (hl.mono fun x hx => by simp [hx]) (signB_bytes (bytes_take hb _)) hb)) (.none rfl) rfl ?_)
  rintro _ _ ⟨rfl, rfl⟩
  refine ⟨.inl (by kernel_rfl), ?_⟩
  refine AD.takeP 7 rfl (by kernel_rfl) (RV.assign rfl) (.none rfl) rfl ?_
  refine AD.done (by kernel_rfl) ?_
  -- at 
  refine AK.ret (h' := h) Try.func26 (.tmp rfl .nil) ?_ (by exact SubO.sub)
  exact ⟨rfl, rfl⟩

theorem within_spec (B : World) (h : Own) (x m : Int) : Tri Try.prog B 17 [.int .i64 x, .int .i64 m] h fun v h' => h = h' ∧ v = .bool (decide (0 ≤ x ∧ x ≤ m)) := by
  refine Tri.enter (n := 12) Try.func17 rfl rfl rfl ?_
  simp only [argsE, Nat.reduceAdd]
  try dsimp only [argsE]
  refine AK.seq ?_
  refine AK.region ?_
  refine AO.val (RV.assign rfl) (.none rfl) rfl ?_
  refine AO.nil ?_
  refine AK.seq ?_
  refine AK.region ?_
  refine AO.val (RV.move rfl) (.none rfl) rfl ?_
  refine AO.val (RV.geq rfl rfl) (.none rfl) rfl ?_
  refine AO.val (RV.move rfl) (.none rfl) rfl ?_
  refine AO.caseG rfl rfl rfl ?_ ?_
  · intro hg1
    try simp only [decide_eq_true_eq, decide_eq_false_iff_not, Bool.not_eq_true', Bool.not_eq_false', beq_iff_eq] at hg1
    refine AO.val (RV.move rfl) (.some rfl rfl rfl rfl) rfl ?_
    refine AO.val (RV.move rfl) (.some rfl rfl rfl rfl) rfl ?_
    refine AO.val (RV.leq rfl rfl) (.some rfl rfl rfl rfl) rfl ?_
    refine AO.val (RV.pickT rfl rfl) (.none rfl) rfl ?_
    refine AO.val (RV.assign rfl) (.none rfl) rfl ?_
    refine AO.nil ?_
    -- at t
    refine AK.ret (h' := h) Try.func17 (.tmp rfl .nil) ?_ (by first | exact SubO.sub | exact List.Sublist.refl _ | exact .cons _ (List.Sublist.refl _) | exact .cons _ (.cons _ (List.Sublist.refl _)) | exact .cons _ (.cons _ (.cons _ (List.Sublist.refl _))))
    refine ⟨rfl, ?_⟩
    simp [oneOr, *]
  · intro hg1
    try simp only [decide_eq_true_eq, decide_eq_false_iff_not, Bool.not_eq_true', Bool.not_eq_false', beq_iff_eq] at hg1
    refine AO.pass (.some rfl rfl rfl rfl) rfl ?_
    refine AO.pass (.some rfl rfl rfl rfl) rfl ?_
    refine AO.pass (.some rfl rfl rfl rfl) rfl ?_
    refine AO.val (RV.pickF rfl rfl) (.none rfl) rfl ?_
    refine AO.val (RV.assign rfl) (.none rfl) rfl ?_
    refine AO.nil ?_
    -- at f
    refine AK.ret (h' := h) Try.func17 (.tmp rfl .nil) ?_ (by first | exact SubO.sub | exact List.Sublist.refl _ | exact .cons _ (List.Sublist.refl _) | exact .cons _ (.cons _ (List.Sublist.refl _)) | exact .cons _ (.cons _ (.cons _ (List.Sublist.refl _))))
    refine ⟨rfl, ?_⟩
    simp [oneOr, *]

end Go.Proofs.Ytiafefofomdcgaa
