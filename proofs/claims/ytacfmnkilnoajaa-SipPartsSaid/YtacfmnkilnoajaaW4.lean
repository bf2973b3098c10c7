/- Walks through the code: what each function that is named here gives back, from any memory that holds its arguments. Written by a program of the claim's author, out of the program's form in Lean. -/
import Derived.Test.YtacfmnkilnoajaaW3
set_option linter.unusedSimpArgs false
set_option linter.unusedVariables false
namespace Go.Proofs.Ytacfmnkilnoajaa
open Go.Sep Go.Sep.Sip Go.RowKit Go.WideShapes Go.ChangeShapes
theorem own_ : ownKnob Try.prog.godebug = none := by kernel_rfl
theorem laidOut_ : laidOutB Try.prog = true := by kernel_rfl

theorem known_sum : sumS 506097522914230528 1084818905618843912 [0, 1, 2, 3, 4, 5, 6, 7, 8, 9, 10, 11, 12, 13, 14] = 11613035633349379557 := by kernel_rfl

theorem lives_spec (B : World) (h : Own)  : Tri Try.prog B 10 [] h fun v h' => h = h' ∧ v = .bool true := by
  refine Tri.enter (n := 7) Try.func10 rfl rfl rfl ?_
  try dsimp only [argsE]
  refine AK.seq ?_
  refine AK.region ?_
  refine AO.val (RV.assign rfl) (.none rfl) rfl ?_
  refine AO.nil ?_
  refine AK.seq ?_
  refine AK.region ?_
  refine AO.val (RV.build rfl (.cons rfl rfl rfl rfl (.cons rfl rfl rfl rfl .nil))) (.none rfl) rfl ?_
  refine AO.eff (EF.alloc) (.none rfl) rfl ?_
  rintro _ _ ⟨b1, hf1, rfl, rfl⟩
  refine AO.effN (EF.storeO rfl rfl rfl rfl rfl rfl) (.none rfl) ?_
  rintro _ _ rfl
  refine AO.nil ?_
  refine AK.seq ?_
  refine AK.region ?_
  refine AO.val (RV.loadAggO rfl rfl (by simp)) (.none rfl) rfl ?_
  refine AO.eff (EF.buildSeq [(Value.int IntKind.u8 0), (Value.int IntKind.u8 1), (Value.int IntKind.u8 2), (Value.int IntKind.u8 3), (Value.int IntKind.u8 4), (Value.int IntKind.u8 5), (Value.int IntKind.u8 6), (Value.int IntKind.u8 7), (Value.int IntKind.u8 8), (Value.int IntKind.u8 9), (Value.int IntKind.u8 10), (Value.int IntKind.u8 11), (Value.int IntKind.u8 12), (Value.int IntKind.u8 13), (Value.int IntKind.u8 14)] rfl rfl rfl rfl) (.none rfl) rfl ?_
  rintro _ _ ⟨b4, hf4, rfl, rfl⟩
  refine AO.eff (EF.callF rfl (sum_spec (cap := 15) B _ 506097522914230528 1084818905618843912 [0, 1, 2, 3, 4, 5, 6, 7, 8, 9, 10, 11, 12, 13, 14] (Src.of_new List.mem_cons_self _ 1 (by decide)) (by decide) (by decide) (by decide))) (.none rfl) rfl ?_
  rintro _ _ ⟨rfl, hv⟩
  rw [known_sum] at hv
  subst hv
  refine AO.val (RV.eql rfl rfl) (.none rfl) rfl ?_
  refine AO.val (RV.assign rfl) (.none rfl) rfl ?_
  refine AO.nil ?_
  -- at 
  refine AK.ret (h' := h) Try.func10 (.tmp rfl .nil) ?_ (by first | exact SubO.sub | exact List.Sublist.refl _ | exact .cons _ (List.Sublist.refl _) | exact .cons _ (.cons _ (List.Sublist.refl _)) | exact .cons _ (.cons _ (.cons _ (List.Sublist.refl _))))
  exact ⟨rfl, rfl⟩

theorem sums_law (B : World) (h : Own) (lo hi n : Int) (hn : n ≤ 9223372036854775807) {A : Option Addr} {cap : Nat} (l : List Int) (hcap : l.length ≤ cap) (hl : Src B h A l.length 1 (l.map (fun x => Value.int .u8 x))) (hlby : Bytes l) : Tri Try.prog B 4 [.agg #[.int .u64 lo, .int .u64 hi], .slice A l.length cap, .int .i64 n] h fun v h' => h = h' ∧ v = .bool true := by
  have hl2 : Src B h A (l.take (300 : Int).toNat).length 1 ((l.take (300 : Int).toNat).map (fun x => Value.int .u8 x)) := by
    have := hl.take (min 300 l.length) (by omega)
    rw [Nat.mul_one, ← List.map_take] at this
    rw [List.length_take, show (300 : Int).toNat = 300 from rfl]
    have e : l.take 300 = l.take (min 300 l.length) := by rw [List.take_eq_take_min]
    rw [e]; exact this
  have hln : (l.take (300 : Int).toNat).length ≤ 300 := by rw [List.length_take]; exact Nat.min_le_left _ _
  have hlc : (l.take (300 : Int).toNat).length ≤ cap := by rw [List.length_take]; omega
  have hlb : Bytes (l.take (300 : Int).toNat) := fun x hx => hlby x (List.mem_of_mem_take hx)
  refine Tri.enter (n := 45) Try.func4 rfl rfl rfl ?_
  simp only [argsE, Nat.reduceAdd]
  try dsimp only [argsE]
  refine AK.seq ?_
  refine AK.region ?_
  refine AO.eff (EF.box rfl rfl) (.none rfl) rfl ?_
  rintro _ _ ⟨b3, hf3, rfl, rfl⟩
  refine AO.val (RV.assign rfl) (.none rfl) rfl ?_
  refine AO.nil ?_
  refine AK.seq ?_
  refine AK.region ?_
  refine AO.val (RV.move rfl) (.none rfl) rfl ?_
  refine AO.eff (EF.callF rfl (few_spec B _ l _ (by omega) hcap)) (.none rfl) rfl ?_
  rintro _ _ ⟨rfl, rfl⟩
  clear hl
  revert hl2 hln hlc hlb
  generalize l.take (300 : Int).toNat = l2
  intro hl2 hln hlc hlb
  refine AO.val (RV.assign rfl) (.none rfl) rfl ?_
  refine AO.nil ?_
  refine AK.seq ?_
  refine AK.region ?_
  refine AO.val (RV.loadAggO rfl rfl (by simp)) (.none rfl) rfl ?_
  refine AO.val (RV.move rfl) (.none rfl) rfl ?_
  refine AO.val (RV.move rfl) (.none rfl) rfl ?_
  refine AO.eff (EF.callF rfl (punder_spec B _ lo hi n hn l2 hl2.sub hlb hlc (by omega))) (.none rfl) rfl ?_
  rintro _ _ ⟨rfl, rfl⟩
  refine AO.val (RV.assign rfl) (.none rfl) rfl ?_
  refine AO.nil ?_
  refine AK.seq ?_
  refine AK.draw [] [] mixed ?_
  refine AD.take 0 rfl (by kernel_rfl) (RV.loadAggO rfl rfl (by simp)) (.none rfl) rfl ?_
  refine AD.takeP 1 rfl (by kernel_rfl) (RV.move rfl) (.none rfl) rfl ?_
  refine AD.take 3 rfl (by kernel_rfl) (RV.loadAggO rfl rfl (by simp)) (.none rfl) rfl ?_
  refine AD.takeP 4 rfl (by kernel_rfl) (RV.move rfl) (.none rfl) rfl ?_
  refine AD.one 2 (by kernel_rfl) (AE.eff rfl (EF.callF rfl (sum_spec B _ lo hi l2 hl2.sub hlb hlc (by omega))) (.none rfl) rfl ?_)
  rintro _ _ ⟨rfl, rfl⟩
  refine ⟨(by first | exact .inr fun x hx hM => hx | exact .inr fun x hx hM => List.mem_cons_of_mem _ hx | exact .inr fun x hx hM => List.mem_append_right _ hx), ?_⟩
  refine AD.one 5 (by kernel_rfl) (AE.eff rfl (EF.callF rfl (rsum_spec B _ lo hi l2 hl2.sub hlb hlc (by omega))) (.none rfl) rfl ?_)
  rintro _ _ ⟨rfl, rfl⟩
  refine ⟨(by first | exact .inr fun x hx hM => hx | exact .inr fun x hx hM => List.mem_cons_of_mem _ hx | exact .inr fun x hx hM => List.mem_append_right _ hx), ?_⟩
  refine AD.takeP 6 rfl (by kernel_rfl) ((RV.eql rfl rfl).to (v' := .bool true) (by simp)) (.none rfl) rfl ?_
  refine AD.takeP 7 rfl (by kernel_rfl) (RV.move rfl) (.none rfl) rfl ?_
  refine AD.takeP 8 rfl (by kernel_rfl) (RV.move rfl) (.some rfl rfl rfl rfl) rfl ?_
  refine AD.take 9 rfl (by kernel_rfl) (RV.loadAggO rfl rfl (by simp)) (.some rfl rfl rfl rfl) rfl ?_
  refine AD.takeP 10 rfl (by kernel_rfl) (RV.move rfl) (.some rfl rfl rfl rfl) rfl ?_
  refine AD.takeP 11 rfl (by kernel_rfl) (RV.move rfl) (.some rfl rfl rfl rfl) rfl ?_
  refine AD.one 12 (by kernel_rfl) (AE.eff rfl (EF.callF rfl (runder_spec B _ lo hi n hn l2 hl2.sub hlb hlc (by omega))) (.some rfl rfl rfl rfl) rfl ?_)
  rintro _ _ ⟨rfl, rfl⟩
  refine ⟨(by first | exact .inr fun x hx hM => hx | exact .inr fun x hx hM => List.mem_cons_of_mem _ hx | exact .inr fun x hx hM => List.mem_append_right _ hx), ?_⟩
  refine AD.takeP 13 rfl (by kernel_rfl) ((RV.eql rfl rfl).to (v' := .bool true) (by simp)) (.some rfl rfl rfl rfl) rfl ?_
  refine AD.takeP 14 rfl (by kernel_rfl) (RV.pickT rfl rfl) (.none rfl) rfl ?_
  refine AD.takeP 15 rfl (by kernel_rfl) (RV.move rfl) (.none rfl) rfl ?_
  refine AD.takeP 16 rfl (by kernel_rfl) (RV.move rfl) (.some rfl rfl rfl rfl) rfl ?_
  refine AD.takeP 17 rfl (by kernel_rfl) (RV.lss rfl rfl) (.some rfl rfl rfl rfl) rfl ?_
  refine AD.takeP 18 rfl (by kernel_rfl) (RV.move rfl) (.some rfl rfl rfl rfl) rfl ?_
  refine AD.caseG (d := 32) (j := 18) rfl rfl ?_ ?_
  · intro hg1
    try simp only [decide_eq_true_eq, decide_eq_false_iff_not, Bool.not_eq_true', Bool.not_eq_false', beq_iff_eq] at hg1
    refine AD.pass 19 rfl (by kernel_rfl) (.some rfl rfl rfl rfl) rfl ?_
    refine AD.pass 20 rfl (by kernel_rfl) (.some rfl rfl rfl rfl) rfl ?_
    refine AD.pass 21 rfl (by kernel_rfl) (.some rfl rfl rfl rfl) rfl ?_
    refine AD.pass 22 rfl (by kernel_rfl) (.undef rfl rfl rfl) rfl ?_
    refine AD.pass 23 rfl (by kernel_rfl) (.undef rfl rfl rfl) rfl ?_
    refine AD.pass 24 rfl (by kernel_rfl) (.undef rfl rfl rfl) rfl ?_
    refine AD.pass 25 rfl (by kernel_rfl) (.some rfl rfl rfl rfl) rfl ?_
    refine AD.takeP 26 rfl (by kernel_rfl) (RV.pickT rfl rfl) (.some rfl rfl rfl rfl) rfl ?_
    refine AD.takeP 27 rfl (by kernel_rfl) (RV.pickT rfl rfl) (.none rfl) rfl ?_
    refine AD.takeP 28 rfl (by kernel_rfl) (RV.move rfl) (.none rfl) rfl ?_
    refine AD.one 29 (by kernel_rfl) (AE.eff rfl (EF.callF rfl (lives_spec B _)) (.some rfl rfl rfl rfl) rfl ?_)
    rintro _ _ ⟨rfl, rfl⟩
    refine ⟨(by first | exact .inr fun x hx hM => hx | exact .inr fun x hx hM => List.mem_cons_of_mem _ hx | exact .inr fun x hx hM => List.mem_append_right _ hx), ?_⟩
    refine AD.takeP 30 rfl (by kernel_rfl) (RV.pickT rfl rfl) (.none rfl) rfl ?_
    refine AD.takeP 31 rfl (by kernel_rfl) (RV.assign rfl) (.none rfl) rfl ?_
    refine AD.done (by kernel_rfl) ?_
    -- at t
    refine AK.ret (h' := h) Try.func4 (.tmp rfl .nil) ?_ (by first | exact SubO.sub | exact List.Sublist.refl _ | exact .cons _ (List.Sublist.refl _) | exact .cons _ (.cons _ (List.Sublist.refl _)) | exact .cons _ (.cons _ (.cons _ (List.Sublist.refl _))))
    exact ⟨rfl, rfl⟩
  · intro hg1
    try simp only [decide_eq_true_eq, decide_eq_false_iff_not, Bool.not_eq_true', Bool.not_eq_false', beq_iff_eq] at hg1
    refine AD.takeP 19 rfl (by kernel_rfl) (RV.move rfl) (.some rfl rfl rfl rfl) rfl ?_
    refine AD.takeP 20 rfl (by kernel_rfl) ((RV.geq rfl rfl).to (v' := .bool true) (by have := underS_in lo hi l2 n (by simpa using hg1); simp; omega)) (.some rfl rfl rfl rfl) rfl ?_
    refine AD.takeP 21 rfl (by kernel_rfl) (RV.move rfl) (.some rfl rfl rfl rfl) rfl ?_
    refine AD.takeP 22 rfl (by kernel_rfl) (RV.move rfl) (.some rfl rfl rfl rfl) rfl ?_
    refine AD.takeP 23 rfl (by kernel_rfl) (RV.move rfl) (.some rfl rfl rfl rfl) rfl ?_
    refine AD.takeP 24 rfl (by kernel_rfl) ((RV.lss rfl rfl).to (v' := .bool true) (by have := underS_in lo hi l2 n (by simpa using hg1); simp; omega)) (.some rfl rfl rfl rfl) rfl ?_
    refine AD.takeP 25 rfl (by kernel_rfl) (RV.pickT rfl rfl) (.some rfl rfl rfl rfl) rfl ?_
    refine AD.takeP 26 rfl (by kernel_rfl) (RV.pickF rfl rfl) (.some rfl rfl rfl rfl) rfl ?_
    refine AD.takeP 27 rfl (by kernel_rfl) (RV.pickT rfl rfl) (.none rfl) rfl ?_
    refine AD.takeP 28 rfl (by kernel_rfl) (RV.move rfl) (.none rfl) rfl ?_
    refine AD.one 29 (by kernel_rfl) (AE.eff rfl (EF.callF rfl (lives_spec B _)) (.some rfl rfl rfl rfl) rfl ?_)
    rintro _ _ ⟨rfl, rfl⟩
    refine ⟨(by first | exact .inr fun x hx hM => hx | exact .inr fun x hx hM => List.mem_cons_of_mem _ hx | exact .inr fun x hx hM => List.mem_append_right _ hx), ?_⟩
    refine AD.takeP 30 rfl (by kernel_rfl) (RV.pickT rfl rfl) (.none rfl) rfl ?_
    refine AD.takeP 31 rfl (by kernel_rfl) (RV.assign rfl) (.none rfl) rfl ?_
    refine AD.done (by kernel_rfl) ?_
    -- at f
    refine AK.ret (h' := h) Try.func4 (.tmp rfl .nil) ?_ (by first | exact SubO.sub | exact List.Sublist.refl _ | exact .cons _ (List.Sublist.refl _) | exact .cons _ (.cons _ (List.Sublist.refl _)) | exact .cons _ (.cons _ (.cons _ (List.Sublist.refl _))))
    exact ⟨rfl, rfl⟩

theorem parts_law (B : World) (h : Own) (lo hi : Int) {A A2 : Option Addr} {cap cap2 : Nat} (l m : List Int) (hcap : l.length ≤ cap) (hcap2 : m.length ≤ cap2) (hl : Src B h A l.length 1 (l.map (fun x => Value.int .u8 x))) (hm : Src B h A2 m.length 1 (m.map (fun x => Value.int .u8 x))) (hlby : Bytes l) (hmby : Bytes m) : Tri Try.prog B 3 [.agg #[.int .u64 lo, .int .u64 hi], .slice A l.length cap, .slice A2 m.length cap2] h fun v h' => h = h' ∧ v = .bool true := by
  have hl2 : Src B h A (l.take (100 : Int).toNat).length 1 ((l.take (100 : Int).toNat).map (fun x => Value.int .u8 x)) := by
    have := hl.take (min 100 l.length) (by omega)
    rw [Nat.mul_one, ← List.map_take] at this
    rw [List.length_take, show (100 : Int).toNat = 100 from rfl]
    have e : l.take 100 = l.take (min 100 l.length) := by rw [List.take_eq_take_min]
    rw [e]; exact this
  have hln : (l.take (100 : Int).toNat).length ≤ 100 := by rw [List.length_take]; exact Nat.min_le_left _ _
  have hlc : (l.take (100 : Int).toNat).length ≤ cap := by rw [List.length_take]; omega
  have hlb : Bytes (l.take (100 : Int).toNat) := fun x hx => hlby x (List.mem_of_mem_take hx)
  have hm2 : Src B h A2 (m.take (100 : Int).toNat).length 1 ((m.take (100 : Int).toNat).map (fun x => Value.int .u8 x)) := by
    have := hm.take (min 100 m.length) (by omega)
    rw [Nat.mul_one, ← List.map_take] at this
    rw [List.length_take, show (100 : Int).toNat = 100 from rfl]
    have e : m.take 100 = m.take (min 100 m.length) := by rw [List.take_eq_take_min]
    rw [e]; exact this
  have hmn : (m.take (100 : Int).toNat).length ≤ 100 := by rw [List.length_take]; exact Nat.min_le_left _ _
  have hmc : (m.take (100 : Int).toNat).length ≤ cap2 := by rw [List.length_take]; omega
  have hmb : Bytes (m.take (100 : Int).toNat) := fun x hx => hmby x (List.mem_of_mem_take hx)
  refine Tri.enter (n := 51) Try.func3 rfl rfl rfl ?_
  simp only [argsE, Nat.reduceAdd]
  try dsimp only [argsE]
  refine AK.seq ?_
  refine AK.region ?_
  refine AO.eff (EF.box rfl rfl) (.none rfl) rfl ?_
  rintro _ _ ⟨b3, hf3, rfl, rfl⟩
  refine AO.val (RV.assign rfl) (.none rfl) rfl ?_
  refine AO.nil ?_
  refine AK.seq ?_
  refine AK.region ?_
  refine AO.val (RV.move rfl) (.none rfl) rfl ?_
  refine AO.eff (EF.callF rfl (few_spec B _ l _ (by omega) hcap)) (.none rfl) rfl ?_
  rintro _ _ ⟨rfl, rfl⟩
  clear hl
  revert hl2 hln hlc hlb
  generalize l.take (100 : Int).toNat = l2
  intro hl2 hln hlc hlb
  refine AO.val (RV.move rfl) (.none rfl) rfl ?_
  refine AO.eff (EF.callF rfl (few_spec B _ m _ (by omega) hcap2)) (.none rfl) rfl ?_
  rintro _ _ ⟨rfl, rfl⟩
  clear hm
  revert hm2 hmn hmc hmb
  generalize m.take (100 : Int).toNat = m2
  intro hm2 hmn hmc hmb
  refine AO.val (RV.assign rfl) (.none rfl) rfl ?_
  refine AO.val (RV.assign rfl) (.none rfl) rfl ?_
  refine AO.nil ?_
  refine AK.seq ?_
  refine AK.region ?_
  refine AO.val (RV.move rfl) (.none rfl) rfl ?_
  refine AO.val (RV.move rfl) (.none rfl) rfl ?_
  refine AO.eff (EF.callF rfl (add_spec B _ l2 m2 hl2.sub hm2.sub (by omega))) (.none rfl) rfl ?_
  rintro _ _ ⟨p1, A3, c3, rfl, hc3, hall, rfl⟩
  have ha1 := hall B _ (fun x hx => hx)
  have hf := ha1.take l2.length (by rw [List.length_append]; omega)
  have hd := ha1.drop (cap := c3) l2.length ⟨by omega, by rw [List.length_append]; omega⟩ hc3
  rw [Nat.mul_one, ← List.map_take, List.take_left] at hf
  rw [show (((l2 ++ m2).length : Int) - l2.length).toNat = m2.length by simp; omega, Int.toNat_natCast, Nat.mul_one, ← List.map_drop, List.drop_left] at hd
  have hc4 : m2.length ≤ ((c3 : Int) - l2.length).toNat := by simp at hc3; omega
  have hc5 : l2.length ≤ c3 := by simp at hc3; omega
  refine AO.val (RV.assign rfl) (.none rfl) rfl ?_
  refine AO.nil ?_
  refine AK.seq ?_
  refine AK.draw [] [5] mixed ?_
  refine AD.take 0 rfl (by kernel_rfl) (RV.loadAggO rfl rfl (by simp)) (.none rfl) rfl ?_
  refine AD.takeP 1 rfl (by kernel_rfl) (RV.move rfl) (.none rfl) rfl ?_
  refine AD.takeP 2 rfl (by kernel_rfl) (RV.move rfl) (.none rfl) rfl ?_
  refine AD.takeP 3 rfl (by kernel_rfl) (RV.lenS rfl) (.none rfl) rfl ?_
  refine AD.takeP 4 rfl (by kernel_rfl) ((RV.sliceHi rfl rfl (by omega)).to (v' := .slice A3 l2.length c3) (by rw [Int.toNat_natCast])) (.none rfl) rfl ?_
  refine AD.one 5 (by kernel_rfl) (AE.eff rfl (EF.callF rfl (sum_spec B _ lo hi l2 (hf.mono fun x hx => List.mem_append_left _ hx) hlb hc5 (by omega))) (.none rfl) rfl ?_)
  rintro _ _ ⟨rfl, rfl⟩
  refine ⟨.inl (by kernel_rfl), ?_⟩
  refine AD.takeP 6 rfl (by kernel_rfl) (RV.assign rfl) (.none rfl) rfl ?_
  refine AD.done (by kernel_rfl) ?_
  refine AK.seq ?_
  refine AK.draw [] [5] mixed ?_
  refine AD.take 0 rfl (by kernel_rfl) (RV.loadAggO rfl rfl (by simp)) (.none rfl) rfl ?_
  refine AD.takeP 1 rfl (by kernel_rfl) (RV.move rfl) (.none rfl) rfl ?_
  refine AD.takeP 2 rfl (by kernel_rfl) (RV.move rfl) (.none rfl) rfl ?_
  refine AD.takeP 3 rfl (by kernel_rfl) (RV.lenS rfl) (.none rfl) rfl ?_
  refine AD.takeP 4 rfl (by kernel_rfl) ((RV.sliceL rfl rfl (by rw [List.length_append]; omega) (by omega)).to (v' := .slice (if (c3 : Int) = l2.length then A3 else cutA A3 l2.length) m2.length ((c3 : Int) - l2.length).toNat) (by rw [show (((l2 ++ m2).length : Int) - l2.length).toNat = m2.length by simp; omega, Int.toNat_natCast, Nat.mul_one])) (.none rfl) rfl ?_
  refine AD.one 5 (by kernel_rfl) (AE.eff rfl (EF.callF rfl (sum_spec B _ lo hi m2 (hd.mono fun x hx => List.mem_append_left _ hx) hmb hc4 (by omega))) (.none rfl) rfl ?_)
  rintro _ _ ⟨rfl, rfl⟩
  refine ⟨.inl (by kernel_rfl), ?_⟩
  refine AD.takeP 6 rfl (by kernel_rfl) (RV.assign rfl) (.none rfl) rfl ?_
  refine AD.done (by kernel_rfl) ?_
  refine AK.seq ?_
  refine AK.region ?_
  refine AO.val (RV.move rfl) (.none rfl) rfl ?_
  refine AO.val (RV.loadAggO rfl rfl (by simp)) (.none rfl) rfl ?_
  refine AO.val (RV.move rfl) (.none rfl) rfl ?_
  refine AO.eff (EF.callF rfl (rsum_spec B _ lo hi l2 hl2.sub hlb hlc (by omega))) (.none rfl) rfl ?_
  rintro _ _ ⟨rfl, rfl⟩
  refine AO.val ((RV.eql rfl rfl).to (v' := .bool true) (by simp)) (.none rfl) rfl ?_
  refine AO.val (RV.move rfl) (.none rfl) rfl ?_
  refine AO.val (RV.move rfl) (.some rfl rfl rfl rfl) rfl ?_
  refine AO.val (RV.loadAggO rfl rfl (by simp)) (.some rfl rfl rfl rfl) rfl ?_
  refine AO.val (RV.move rfl) (.some rfl rfl rfl rfl) rfl ?_
  refine AO.eff (EF.callF rfl (rsum_spec B _ lo hi m2 hm2.sub hmb hmc (by omega))) (.some rfl rfl rfl rfl) rfl ?_
  rintro _ _ ⟨rfl, rfl⟩
  refine AO.val ((RV.eql rfl rfl).to (v' := .bool true) (by simp)) (.some rfl rfl rfl rfl) rfl ?_
  refine AO.val (RV.pickT rfl rfl) (.none rfl) rfl ?_
  refine AO.val (RV.move rfl) (.none rfl) rfl ?_
  refine AO.val (RV.move rfl) (.some rfl rfl rfl rfl) rfl ?_
  refine AO.val (RV.move rfl) (.some rfl rfl rfl rfl) rfl ?_
  refine AO.val (RV.move rfl) (.some rfl rfl rfl rfl) rfl ?_
  refine AO.eff (EF.callF rfl (add_spec B _ l2 m2 hl2.sub hm2.sub (by omega))) (.some rfl rfl rfl rfl) rfl ?_
  rintro _ _ ⟨p2, A5, c5, rfl, hc5, hall2, rfl⟩
  refine AO.eff (EF.callF rfl (same_spec B _ (l2 ++ m2) (l2 ++ m2) (hall B _ (fun x hx => List.mem_append_right _ (List.mem_append_left _ hx))) (hall2 B _ (fun x hx => List.mem_append_left _ hx)) (by simp; omega))) (.some rfl rfl rfl rfl) rfl ?_
  rintro _ _ ⟨rfl, bS, rfl, hS⟩
  have hS2 := hS.2 rfl
  subst hS2
  refine AO.val (RV.pickT rfl rfl) (.none rfl) rfl ?_
  refine AO.val (RV.move rfl) (.none rfl) rfl ?_
  refine AO.eff (EF.callF rfl (lives_spec B _)) (.some rfl rfl rfl rfl) rfl ?_
  rintro _ _ ⟨rfl, rfl⟩
  refine AO.val (RV.pickT rfl rfl) (.none rfl) rfl ?_
  refine AO.val (RV.assign rfl) (.none rfl) rfl ?_
  refine AO.nil ?_
  -- at 
  refine AK.ret (h' := h) Try.func3 (.tmp rfl .nil) ?_ (by first | exact SubO.sub | simp)
  exact ⟨rfl, rfl⟩

set_option maxRecDepth 100000 in
theorem sipSums_lifted (os : Os) (started : os.Started) (H : Type) (enc : TypeId × Value → H) :
    ReturnsInHanded {} Try.checked os 4 .any (Rows.sipSumsSpec.pre6 enc Try.prog Try.f4 Rows.sipSumsRow.domain false) (Rows.sipSumsSpec.post enc Try.prog Try.f4 false true false false) := by
  refine returnsInHanded_of_change (C := Try.checked) own_ started (by kernel_rfl) Try.func4
    (ChangeSpec.witness6 (enc := enc) (C := Try.checked) false ⟨#[], #[(Value.agg #[(Value.int IntKind.u64 0), (Value.int IntKind.u64 0)]), (Value.slice none 0 0), (Value.int IntKind.i64 0)], []⟩ 8 (by kernel_rfl) (by kernel_rfl) (by kernel_rfl) (by kernel_rfl)) ?_
  intro W base args ds gs before hval0 hW hcnd _
  have hval : ∀ (j : Nat) t v, Try.f4.params[j]? = some t → args[j]? = some v → Value.okWide Try.prog W .any base t v := hval0
  have hW' := hW
  obtain ⟨p, q, hA0, hV, rfl, hfz, hnd⟩ := hW
  have hA : DataW.TrodAll enc Try.prog W 0 (fun _ => true) true Try.f4.params.toList args.toList ds p := hA0
  rw [Try.params4] at hA hval
  obtain ⟨args⟩ := args
  simp only at hA
  obtain ⟨v0, vs0, d0, ds0, p0, q0, e0a, e0b, e0c, t0, r0⟩ := trodAll_cons hA
  obtain ⟨v1, vs1, d1, ds1, p1, q1, e1a, e1b, e1c, t1, r1⟩ := trodAll_cons r0
  obtain ⟨v2, vs2, d2, ds2, p2, q2, e2a, e2b, e2c, t2, r2⟩ := trodAll_cons r1
  subst e0a e0b e0c
  subst e1a e1b e1c
  subst e2a e2b e2c
  obtain ⟨rfl, rfl, rfl⟩ := trodAll_nil r2
  obtain ⟨rfl, rfl⟩ := trodVars_none hV
  have hlt := hW'.lt
  have k0 : Value.okWide Try.prog W .any base 24 v0 := hval 0 _ v0 rfl rfl
  obtain ⟨k, w0, hk⟩ := Dec.argA k0 t0 ((.cons (off := 0) (sz := 1) (by rfl) (by kernel_rfl) (Dec.int (t := 22) (k := .u64)) (.cons (off := 1) (sz := 1) (by rfl) (by kernel_rfl) (Dec.int (t := 22) (k := .u64)) .nil))) (by kernel_rfl)
  have k1 : Value.okWide Try.prog W .any base 25 v1 := hval 1 _ v1 rfl rfl
  obtain ⟨l, w1, hl⟩ := Dec.argS k1 t1 ((Dec.int (t := 5) (k := .u8))) (by decide)
  have k2 : Value.okWide Try.prog W .any base 3 v2 := hval 2 _ v2 rfl rfl
  obtain ⟨n, w2, n_lo, n_hi⟩ := Dec.argI k2 t2
  have htri : Tri Try.prog W 4 [v0, v1, v2] [] (fun v _ => v = .bool true) := by
    subst w0 w1 w2
    exact (sums_law W [] k.1 k.2.1 n n_hi l.l hl.2.1 hl.src1 hl.2.2.2.1).mono fun v h2 hh => hh.2
  clear w0 w1 w2
  refine (htri.run W (Models.start W)).mono fun e W' ⟨v, h2, he, m2, hv⟩ => ?_
  subst he; subst hv
  have hb := m2.below
  refine ⟨_, rfl, post_of_below (pa := (p0 ++ (p1 ++ (p2 ++ ([]))))) (pv := []) hW' (fun _ _ _ => trodAll_mk1 (shut_bool (Try.underlying4) true)) (fun sp hsp => ?_) (fun _ _ => rfl) rfl hb (ok_one (t := 4) (by kernel_rfl) rfl ?_)⟩
  · refine TAcons (WideElems.Trod_stays laidOut_ (by kernel_rfl) (of_decide_eq_true (by kernel_rfl)) t0 (fun x hx => hb.same (hlt x (by simp [hx]))) (fun x hx => hsp x (by simp [hx]))) ?_
    refine TAcons (WideElems.Trod_stays laidOut_ (by kernel_rfl) (of_decide_eq_true (by kernel_rfl)) t1 (fun x hx => hb.same (hlt x (by simp [hx]))) (fun x hx => hsp x (by simp [hx]))) ?_
    refine TAcons (WideElems.Trod_stays laidOut_ (by kernel_rfl) (of_decide_eq_true (by kernel_rfl)) t2 (fun x hx => hb.same (hlt x (by simp [hx]))) (fun x hx => hsp x (by simp [hx]))) ?_
    rfl
  · exact okBool Try.underlying4

theorem sipSums_holds : Rows.SipSumsSaid :=
  OpenClaim.holds_of_wide 4 Try.f4 rfl rfl rfl rfl rfl rfl rfl ⟨rfl, rfl, rfl, rfl, rfl⟩ rfl rfl rfl rfl rfl (by kernel_rfl) Try.func4 (by kernel_rfl)
    (of_decide_eq_true (by kernel_rfl)) (by unfold Func.isWrapper; first | (rw [if_pos (by decide +kernel)]; kernel_rfl) | (rw [if_neg (by decide +kernel)]; exact ⟨rfl, rfl⟩))
    (fun os started H enc _ => sipSums_lifted os started H enc)

set_option maxRecDepth 100000 in
theorem sipParts_lifted (os : Os) (started : os.Started) (H : Type) (enc : TypeId × Value → H) :
    ReturnsInHanded {} Try.checked os 3 .any (Rows.sipPartsSpec.pre6 enc Try.prog Try.f3 Rows.sipPartsRow.domain false) (Rows.sipPartsSpec.post enc Try.prog Try.f3 false true false false) := by
  refine returnsInHanded_of_change (C := Try.checked) own_ started (by kernel_rfl) Try.func3
    (ChangeSpec.witness6 (enc := enc) (C := Try.checked) false ⟨#[], #[(Value.agg #[(Value.int IntKind.u64 0), (Value.int IntKind.u64 0)]), (Value.slice none 0 0), (Value.slice none 0 0)], []⟩ 8 (by kernel_rfl) (by kernel_rfl) (by kernel_rfl) (by kernel_rfl)) ?_
  intro W base args ds gs before hval0 hW hcnd _
  have hval : ∀ (j : Nat) t v, Try.f3.params[j]? = some t → args[j]? = some v → Value.okWide Try.prog W .any base t v := hval0
  have hW' := hW
  obtain ⟨p, q, hA0, hV, rfl, hfz, hnd⟩ := hW
  have hA : DataW.TrodAll enc Try.prog W 0 (fun _ => true) true Try.f3.params.toList args.toList ds p := hA0
  rw [Try.params3] at hA hval
  obtain ⟨args⟩ := args
  simp only at hA
  obtain ⟨v0, vs0, d0, ds0, p0, q0, e0a, e0b, e0c, t0, r0⟩ := trodAll_cons hA
  obtain ⟨v1, vs1, d1, ds1, p1, q1, e1a, e1b, e1c, t1, r1⟩ := trodAll_cons r0
  obtain ⟨v2, vs2, d2, ds2, p2, q2, e2a, e2b, e2c, t2, r2⟩ := trodAll_cons r1
  subst e0a e0b e0c
  subst e1a e1b e1c
  subst e2a e2b e2c
  obtain ⟨rfl, rfl, rfl⟩ := trodAll_nil r2
  obtain ⟨rfl, rfl⟩ := trodVars_none hV
  have hlt := hW'.lt
  have k0 : Value.okWide Try.prog W .any base 24 v0 := hval 0 _ v0 rfl rfl
  obtain ⟨k, w0, hk⟩ := Dec.argA k0 t0 ((.cons (off := 0) (sz := 1) (by rfl) (by kernel_rfl) (Dec.int (t := 22) (k := .u64)) (.cons (off := 1) (sz := 1) (by rfl) (by kernel_rfl) (Dec.int (t := 22) (k := .u64)) .nil))) (by kernel_rfl)
  have k1 : Value.okWide Try.prog W .any base 25 v1 := hval 1 _ v1 rfl rfl
  obtain ⟨l, w1, hl⟩ := Dec.argS k1 t1 ((Dec.int (t := 5) (k := .u8))) (by decide)
  have k2 : Value.okWide Try.prog W .any base 25 v2 := hval 2 _ v2 rfl rfl
  obtain ⟨m, w2, hm⟩ := Dec.argS k2 t2 ((Dec.int (t := 5) (k := .u8))) (by decide)
  have htri : Tri Try.prog W 3 [v0, v1, v2] [] (fun v _ => v = .bool true) := by
    subst w0 w1 w2
    exact (parts_law W [] k.1 k.2.1 l.l m.l hl.2.1 hm.2.1 hl.src1 hm.src1 hl.2.2.2.1 hm.2.2.2.1).mono fun v h2 hh => hh.2
  clear w0 w1 w2
  refine (htri.run W (Models.start W)).mono fun e W' ⟨v, h2, he, m2, hv⟩ => ?_
  subst he; subst hv
  have hb := m2.below
  refine ⟨_, rfl, post_of_below (pa := (p0 ++ (p1 ++ (p2 ++ ([]))))) (pv := []) hW' (fun _ _ _ => trodAll_mk1 (shut_bool (Try.underlying4) true)) (fun sp hsp => ?_) (fun _ _ => rfl) rfl hb (ok_one (t := 4) (by kernel_rfl) rfl ?_)⟩
  · refine TAcons (WideElems.Trod_stays laidOut_ (by kernel_rfl) (of_decide_eq_true (by kernel_rfl)) t0 (fun x hx => hb.same (hlt x (by simp [hx]))) (fun x hx => hsp x (by simp [hx]))) ?_
    refine TAcons (WideElems.Trod_stays laidOut_ (by kernel_rfl) (of_decide_eq_true (by kernel_rfl)) t1 (fun x hx => hb.same (hlt x (by simp [hx]))) (fun x hx => hsp x (by simp [hx]))) ?_
    refine TAcons (WideElems.Trod_stays laidOut_ (by kernel_rfl) (of_decide_eq_true (by kernel_rfl)) t2 (fun x hx => hb.same (hlt x (by simp [hx]))) (fun x hx => hsp x (by simp [hx]))) ?_
    rfl
  · exact okBool Try.underlying4

theorem sipParts_holds : Rows.SipPartsSaid :=
  OpenClaim.holds_of_wide 3 Try.f3 rfl rfl rfl rfl rfl rfl rfl ⟨rfl, rfl, rfl, rfl, rfl⟩ rfl rfl rfl rfl rfl (by kernel_rfl) Try.func3 (by kernel_rfl)
    (of_decide_eq_true (by kernel_rfl)) (by unfold Func.isWrapper; first | (rw [if_pos (by decide +kernel)]; kernel_rfl) | (rw [if_neg (by decide +kernel)]; exact ⟨rfl, rfl⟩))
    (fun os started H enc _ => sipParts_lifted os started H enc)

end Go.Proofs.Ytacfmnkilnoajaa
