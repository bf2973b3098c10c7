/- Walks through the code: what each function that is named here gives back, from any memory that holds its arguments. Written by a program of the claim's author, out of the program's form in Lean. -/
import Derived.Test.YtbdlohjmifgcaaaS01R1
set_option linter.unusedSimpArgs false
set_option linter.unusedVariables false
namespace Go.Proofs.Ytbdlohjmifgcaaa
open Go.Sep Go.Sep.Sip

theorem clone_spec (B : World) (h : Own) {A : Option Addr} {cap : Nat} (l : List Int) (hl : Src B h A l.length 1 (l.map (fun x => Value.int .u8 x))) (hlen : l.length ≤ 1000000) : Tri Try.prog B 63 [.slice A l.length cap] h fun v h' => NewS 5 1 l.length (l.map (fun x => Value.int .u8 x)) h v h' := by
  refine Tri.enter (n := 8) Try.func63 rfl rfl rfl ?_
  simp only [argsE, Nat.reduceAdd]
  try dsimp only [argsE]
  refine AK.seq ?_
  refine AK.region ?_
  refine AO.val (RV.assign rfl) (.none rfl) rfl ?_
  refine AO.nil ?_
  refine AK.seq ?_
  refine AK.seq ?_
  refine AK.region ?_
  refine AO.val (RV.move rfl) (.none rfl) rfl ?_
  refine AO.val (RV.eqlSn rfl rfl) (.none rfl) rfl ?_
  refine AO.nil ?_
  refine AK.cond rfl ?_ ?_
  · intro hc1
    try simp only [decide_eq_true_eq, decide_eq_false_iff_not, Bool.not_eq_true', Bool.not_eq_false', beq_iff_eq] at hc1
    have hnil := hl.isNone hc1
    have hnil : l = [] := by simpa using hnil
    subst hnil
    refine AK.seq ?_
    refine AK.region ?_
    refine AO.val (RV.assign rfl) (.none rfl) rfl ?_
    refine AO.nil ?_
    -- at T
    refine AK.ret (h' := h) Try.func63 (.tmp rfl .nil) ?_ (by first | exact SubO.sub | exact List.Sublist.refl _ | exact .cons _ (List.Sublist.refl _) | exact .cons _ (.cons _ (List.Sublist.refl _)) | exact .cons _ (.cons _ (.cons _ (List.Sublist.refl _))))
    exact ⟨none, 0, [], rfl, .nil, Nat.le_refl _, rfl⟩
  · intro hc1
    try simp only [decide_eq_true_eq, decide_eq_false_iff_not, Bool.not_eq_true', Bool.not_eq_false', beq_iff_eq] at hc1
    refine AK.skip ?_
    refine AK.seq ?_
    refine AK.region ?_
    refine AO.eff (EF.buildSeq [] rfl rfl rfl rfl) (.none rfl) rfl ?_
    rintro _ _ ⟨b5, hf5, rfl, rfl⟩
    refine AO.val (RV.move rfl) (.none rfl) rfl ?_
    refine AO.eff (EF.appendS (n' := l.length) (ys := l.map (fun x => Value.int .u8 x)) rfl rfl (Row.new (cs := []) rfl) hl.sub (Nat.zero_add _).symm rfl rfl (by decide) (by simp [Value.oneCell']) (by simp; omega) (by simp; omega)) (.none rfl) rfl ?_
    rintro v9 _ ⟨A7, c7, p7, rfl, hr7, hc7, rfl⟩
    refine AO.val (RV.assign rfl) (.none rfl) rfl ?_
    refine AO.nil ?_
    -- at F
    refine AK.ret (h' := p7 ++ h) Try.func63 (.tmp rfl .nil) ?_ (by first | exact SubO.sub | exact List.Sublist.refl _ | exact .cons _ (List.Sublist.refl _) | exact .cons _ (.cons _ (List.Sublist.refl _)) | exact .cons _ (.cons _ (.cons _ (List.Sublist.refl _))))
    exact ⟨A7, c7, p7, rfl, hr7, hc7, rfl⟩

theorem put32_spec (B : World) (h : Own) {A : Option Addr} {cap : Nat} (l : List Int) {A2 : Option Addr} {cap2 : Nat} (m : List Int) (hl : Src B h A l.length 1 (l.map (fun x => Value.int .u8 x))) (hlen : l.length ≤ 1000000) (hm : Src B h A2 m.length 1 (m.map (fun x => Value.int .u32 x))) (hml : m.length ≤ 1000) : Tri Try.prog B 51 [.slice A l.length cap, .slice A2 m.length cap2] h fun v h' => NewS 5 1 (l.length + 4 * m.length) ((l ++ m.flatMap (beR 4)).map (fun x => Value.int .u8 x)) h v h' := by
  refine Tri.enter (n := 32) Try.func51 rfl rfl rfl ?_
  simp only [argsE, Nat.reduceAdd]
  try dsimp only [argsE]
  refine AK.seq ?_
  refine AK.region ?_
  refine AO.val (RV.assign rfl) (.none rfl) rfl ?_
  refine AO.nil ?_
  refine AK.seq ?_
  refine AK.region ?_
  refine AO.val (RV.move rfl) (.none rfl) rfl ?_
  refine AO.eff (EF.callF rfl (clone_spec B _ l hl.sub hlen)) (.none rfl) rfl ?_
  rintro _ _ ⟨A9, c9, p9, rfl, hr9, hc9, rfl⟩
  refine AO.val (RV.assign rfl) (.none rfl) rfl ?_
  refine AO.nil ?_
  refine AK.seq ?_
  refine AK.seq ?_
  refine AK.region ?_
  refine AO.val (RV.move rfl) (.none rfl) rfl ?_
  refine AO.val (RV.lenS rfl) (.none rfl) rfl ?_
  refine AO.val (RV.move rfl) (.none rfl) rfl ?_
  refine AO.nil ?_
  refine AK.block ?_
  refine AK.loop (α := Int × Option Addr × Nat × Own) (E := fun (i, A', c', p) => [(5, .slice A' (l.length + 4 * i.toNat) c'), (10, .slice A2 m.length cap2), (11, .int .i64 m.length), (12, .int .i64 i)]) (H := fun (i, A', c', p) => p ++ h) (Inv := fun (i, A', c', p) => 0 ≤ i ∧ i ≤ m.length ∧ Row 5 1 (.slice A' (l.length + 4 * i.toNat) c') (l.length + 4 * i.toNat) ((l ++ (m.take i.toNat).flatMap (beR 4)).map (fun x => Value.int .u8 x)) p ∧ l.length + 4 * i.toNat ≤ c') (μ := fun (i, A', c', p) => (m.length - i).toNat) (0, A9, c9, p9) ?_ (.cons (by exact rfl) (.cons (by exact rfl) (.cons (by exact rfl) (.cons (by exact rfl) .nil)))) ?_ ?_
  · exact ⟨by omega, by omega, by simpa using hr9, by simpa using hc9⟩
  · exact (by first | exact SubO.sub | exact List.Sublist.refl _ | exact .cons _ (List.Sublist.refl _) | exact .cons _ (.cons _ (List.Sublist.refl _)) | exact .cons _ (.cons _ (.cons _ (List.Sublist.refl _))))
  rintro ⟨i, A', c', p⟩ ⟨hi0, hin, hr, hc⟩ hih0
  try dsimp only at hih0 ⊢
  refine AK.seq ?_
  refine AK.region ?_
  refine AO.val (RV.lss rfl rfl) (.none rfl) rfl ?_
  refine AO.nil ?_
  refine AK.seq ?_
  refine AK.cond rfl ?_ ?_
  · intro hc1
    try simp only [decide_eq_true_eq, decide_eq_false_iff_not, Bool.not_eq_true', Bool.not_eq_false', beq_iff_eq] at hc1
    refine AK.skip ?_
    refine AK.seq ?_
    refine AK.block ?_
    refine AK.seq ?_
    refine AK.region ?_
    refine AO.val (by first | exact RV.indexS rfl rfl (by assumption) (by omega) rfl | exact RV.indexAddr rfl rfl (by omega)) (.none rfl) rfl ?_
    refine AO.val (by first | exact RV.loadO rfl rfl (by first | simp | assumption) | exact RV.loadS rfl (by assumption) (by omega) (by first | simp | assumption)) (.none rfl) rfl ?_
    refine AO.val (RV.assign rfl) (.none rfl) rfl ?_
    refine AO.nil ?_
    refine AK.region ?_
    refine AO.val (RV.move rfl) (.none rfl) rfl ?_
    refine AO.val (RV.move rfl) (.none rfl) rfl ?_
    refine AO.val (RV.shr rfl rfl (by omega)) (.none rfl) rfl ?_
    refine AO.val ((RV.conv rfl).to (v' := .int .u8 (lget m i / 16777216 % 256)) (by rw [show (lget m i).fdiv (2 ^ (min (24 : Int).toNat IntKind.u32.bits)) = lget m i / 16777216 from Int.fdiv_eq_ediv_of_nonneg _ (by decide)]; simp only [IntKind.wrap, IntKind.bits, IntKind.signed]; rfl)) (.none rfl) rfl ?_
    refine AO.val (RV.move rfl) (.none rfl) rfl ?_
    refine AO.val (RV.shr rfl rfl (by omega)) (.none rfl) rfl ?_
    refine AO.val ((RV.conv rfl).to (v' := .int .u8 (lget m i / 65536 % 256)) (by rw [show (lget m i).fdiv (2 ^ (min (16 : Int).toNat IntKind.u32.bits)) = lget m i / 65536 from Int.fdiv_eq_ediv_of_nonneg _ (by decide)]; simp only [IntKind.wrap, IntKind.bits, IntKind.signed]; rfl)) (.none rfl) rfl ?_
    refine AO.val (RV.move rfl) (.none rfl) rfl ?_
    refine AO.val (RV.shr rfl rfl (by omega)) (.none rfl) rfl ?_
    refine AO.val ((RV.conv rfl).to (v' := .int .u8 (lget m i / 256 % 256)) (by rw [show (lget m i).fdiv (2 ^ (min (8 : Int).toNat IntKind.u32.bits)) = lget m i / 256 from Int.fdiv_eq_ediv_of_nonneg _ (by decide)]; simp only [IntKind.wrap, IntKind.bits, IntKind.signed]; rfl)) (.none rfl) rfl ?_
    refine AO.val (RV.move rfl) (.none rfl) rfl ?_
    refine AO.val ((RV.conv rfl).to (v' := .int .u8 (lget m i % 256)) (by simp only [IntKind.wrap, IntKind.bits, IntKind.signed]; rfl)) (.none rfl) rfl ?_
    refine AO.eff (EF.buildSeq [.int .u8 (lget m i / 16777216 % 256), .int .u8 (lget m i / 65536 % 256), .int .u8 (lget m i / 256 % 256), .int .u8 (lget m i % 256)] rfl rfl rfl rfl) (.none rfl) rfl ?_
    rintro _ _ ⟨b28, hf28, rfl, rfl⟩
    refine AO.eff (EF.appendS (n' := l.length + 4 * (i.toNat + 1)) (ys := (l ++ (m.take (i.toNat + 1)).flatMap (beR 4)).map (fun x => Value.int .u8 x)) rfl rfl hr (Src.of_new (cs := [.int .u8 (lget m i / 16777216 % 256), .int .u8 (lget m i / 65536 % 256), .int .u8 (lget m i / 256 % 256), .int .u8 (lget m i % 256)]) List.mem_cons_self 4 1 (Nat.le_refl _)) (by omega) ?hys rfl (by decide) rfl (by omega) (by omega)) (.none rfl) rfl ?_
    · have h2 : i.toNat < m.length := by omega
      rw [List.take_succ_eq_append_getElem h2, List.flatMap_append, ← List.append_assoc, List.map_append (l₁ := _ ++ _)]
      congr 1
      have e : lget m i = m[i.toNat] := by simp [lget, List.getD, h2]
      simp only [List.flatMap_cons, List.flatMap_nil, List.append_nil, e, be4]
      rfl
    rintro v9 _ ⟨A1, c1, p1, rfl, hr1, hc1', rfl⟩
    refine AO.val (RV.assign rfl) (.none rfl) rfl ?_
    refine AO.nil ?_
    refine AK.inBlock ?_
    refine AK.region ?_
    refine AO.val (by first | exact RV.addIn rfl rfl (by omega) | exact RV.add rfl rfl) (.none rfl) rfl ?_
    refine AO.val (RV.move rfl) (.none rfl) rfl ?_
    refine AO.nil ?_
    -- round ends at L0T
    have e1 : (i + 1).toNat = i.toNat + 1 := by omega
    refine AK.weak (.cons (by rw [e1]; exact rfl) (.cons (by exact rfl) (.cons (by exact rfl) (.cons (by exact rfl) .nil)))) (by exact List.Sublist.append_left (List.sublist_cons_self _ _) _) (hih0 (i + 1, A1, c1, p1) ?_ ?_)
    · try dsimp only
      refine ⟨by omega, by omega, ?_, ?_⟩
      · rw [e1]; exact hr1
      · rw [e1]; exact hc1' 
    · try dsimp only
      omega
  · intro hc1
    try simp only [decide_eq_true_eq, decide_eq_false_iff_not, Bool.not_eq_true', Bool.not_eq_false', beq_iff_eq] at hc1
    refine AK.exit rfl ?_
    refine AK.seq ?_
    refine AK.region ?_
    refine AO.val (RV.move rfl) (.none rfl) rfl ?_
    refine AO.val (RV.assign rfl) (.none rfl) rfl ?_
    refine AO.nil ?_
    -- at L0F
    clear hih0
    have hi2 : i.toNat = m.length := by omega
    rw [hi2] at hr hc ⊢
    rw [List.take_length] at hr
    refine AK.ret (h' := p ++ h) Try.func51 (.tmp rfl .nil) ?_ (by first | exact SubO.sub | exact List.Sublist.refl _ | exact .cons _ (List.Sublist.refl _) | exact .cons _ (.cons _ (List.Sublist.refl _)) | exact .cons _ (.cons _ (.cons _ (List.Sublist.refl _))))
    exact ⟨A', c', p, rfl, hr, hc, rfl⟩

theorem put16_spec (B : World) (h : Own) {A : Option Addr} {cap : Nat} (l : List Int) {A2 : Option Addr} {cap2 : Nat} (m : List Int) (hl : Src B h A l.length 1 (l.map (fun x => Value.int .u8 x))) (hlen : l.length ≤ 1000000) (hm : Src B h A2 m.length 1 (m.map (fun x => Value.int .u16 x))) (hml : m.length ≤ 1000) : Tri Try.prog B 50 [.slice A l.length cap, .slice A2 m.length cap2] h fun v h' => NewS 5 1 (l.length + 2 * m.length) ((l ++ m.flatMap (beR 2)).map (fun x => Value.int .u8 x)) h v h' := by
  refine Tri.enter (n := 26) Try.func50 rfl rfl rfl ?_
  simp only [argsE, Nat.reduceAdd]
  try dsimp only [argsE]
  refine AK.seq ?_
  refine AK.region ?_
  refine AO.val (RV.assign rfl) (.none rfl) rfl ?_
  refine AO.nil ?_
  refine AK.seq ?_
  refine AK.region ?_
  refine AO.val (RV.move rfl) (.none rfl) rfl ?_
  refine AO.eff (EF.callF rfl (clone_spec B _ l hl.sub hlen)) (.none rfl) rfl ?_
  rintro _ _ ⟨A9, c9, p9, rfl, hr9, hc9, rfl⟩
  refine AO.val (RV.assign rfl) (.none rfl) rfl ?_
  refine AO.nil ?_
  refine AK.seq ?_
  refine AK.seq ?_
  refine AK.region ?_
  refine AO.val (RV.move rfl) (.none rfl) rfl ?_
  refine AO.val (RV.lenS rfl) (.none rfl) rfl ?_
  refine AO.val (RV.move rfl) (.none rfl) rfl ?_
  refine AO.nil ?_
  refine AK.block ?_
  refine AK.loop (α := Int × Option Addr × Nat × Own) (E := fun (i, A', c', p) => [(5, .slice A' (l.length + 2 * i.toNat) c'), (10, .slice A2 m.length cap2), (11, .int .i64 m.length), (12, .int .i64 i)]) (H := fun (i, A', c', p) => p ++ h) (Inv := fun (i, A', c', p) => 0 ≤ i ∧ i ≤ m.length ∧ Row 5 1 (.slice A' (l.length + 2 * i.toNat) c') (l.length + 2 * i.toNat) ((l ++ (m.take i.toNat).flatMap (beR 2)).map (fun x => Value.int .u8 x)) p ∧ l.length + 2 * i.toNat ≤ c') (μ := fun (i, A', c', p) => (m.length - i).toNat) (0, A9, c9, p9) ?_ (.cons (by exact rfl) (.cons (by exact rfl) (.cons (by exact rfl) (.cons (by exact rfl) .nil)))) ?_ ?_
  · exact ⟨by omega, by omega, by simpa using hr9, by simpa using hc9⟩
  · exact (by first | exact SubO.sub | exact List.Sublist.refl _ | exact .cons _ (List.Sublist.refl _) | exact .cons _ (.cons _ (List.Sublist.refl _)) | exact .cons _ (.cons _ (.cons _ (List.Sublist.refl _))))
  rintro ⟨i, A', c', p⟩ ⟨hi0, hin, hr, hc⟩ hih0
  try dsimp only at hih0 ⊢
  refine AK.seq ?_
  refine AK.region ?_
  refine AO.val (RV.lss rfl rfl) (.none rfl) rfl ?_
  refine AO.nil ?_
  refine AK.seq ?_
  refine AK.cond rfl ?_ ?_
  · intro hc1
    try simp only [decide_eq_true_eq, decide_eq_false_iff_not, Bool.not_eq_true', Bool.not_eq_false', beq_iff_eq] at hc1
    refine AK.skip ?_
    refine AK.seq ?_
    refine AK.block ?_
    refine AK.seq ?_
    refine AK.region ?_
    refine AO.val (by first | exact RV.indexS rfl rfl (by assumption) (by omega) rfl | exact RV.indexAddr rfl rfl (by omega)) (.none rfl) rfl ?_
    refine AO.val (by first | exact RV.loadO rfl rfl (by first | simp | assumption) | exact RV.loadS rfl (by assumption) (by omega) (by first | simp | assumption)) (.none rfl) rfl ?_
    refine AO.val (RV.assign rfl) (.none rfl) rfl ?_
    refine AO.nil ?_
    refine AK.region ?_
    refine AO.val (RV.move rfl) (.none rfl) rfl ?_
    refine AO.val (RV.move rfl) (.none rfl) rfl ?_
    refine AO.val (RV.shr rfl rfl (by omega)) (.none rfl) rfl ?_
    refine AO.val ((RV.conv rfl).to (v' := .int .u8 (lget m i / 256 % 256)) (by rw [show (lget m i).fdiv (2 ^ (min (8 : Int).toNat IntKind.u16.bits)) = lget m i / 256 from Int.fdiv_eq_ediv_of_nonneg _ (by decide)]; simp only [IntKind.wrap, IntKind.bits, IntKind.signed]; rfl)) (.none rfl) rfl ?_
    refine AO.val (RV.move rfl) (.none rfl) rfl ?_
    refine AO.val ((RV.conv rfl).to (v' := .int .u8 (lget m i % 256)) (by simp only [IntKind.wrap, IntKind.bits, IntKind.signed]; rfl)) (.none rfl) rfl ?_
    refine AO.eff (EF.buildSeq [.int .u8 (lget m i / 256 % 256), .int .u8 (lget m i % 256)] rfl rfl rfl rfl) (.none rfl) rfl ?_
    rintro _ _ ⟨b28, hf28, rfl, rfl⟩
    refine AO.eff (EF.appendS (n' := l.length + 2 * (i.toNat + 1)) (ys := (l ++ (m.take (i.toNat + 1)).flatMap (beR 2)).map (fun x => Value.int .u8 x)) rfl rfl hr (Src.of_new (cs := [.int .u8 (lget m i / 256 % 256), .int .u8 (lget m i % 256)]) List.mem_cons_self 2 1 (Nat.le_refl _)) (by omega) ?hys rfl (by decide) rfl (by omega) (by omega)) (.none rfl) rfl ?_
    · have h2 : i.toNat < m.length := by omega
      rw [List.take_succ_eq_append_getElem h2, List.flatMap_append, ← List.append_assoc, List.map_append (l₁ := _ ++ _)]
      congr 1
      have e : lget m i = m[i.toNat] := by simp [lget, List.getD, h2]
      simp only [List.flatMap_cons, List.flatMap_nil, List.append_nil, e, be2]
      rfl
    rintro v9 _ ⟨A1, c1, p1, rfl, hr1, hc1', rfl⟩
    refine AO.val (RV.assign rfl) (.none rfl) rfl ?_
    refine AO.nil ?_
    refine AK.inBlock ?_
    refine AK.region ?_
    refine AO.val (by first | exact RV.addIn rfl rfl (by omega) | exact RV.add rfl rfl) (.none rfl) rfl ?_
    refine AO.val (RV.move rfl) (.none rfl) rfl ?_
    refine AO.nil ?_
    -- round ends at L0T
    have e1 : (i + 1).toNat = i.toNat + 1 := by omega
    refine AK.weak (.cons (by rw [e1]; exact rfl) (.cons (by exact rfl) (.cons (by exact rfl) (.cons (by exact rfl) .nil)))) (by exact List.Sublist.append_left (List.sublist_cons_self _ _) _) (hih0 (i + 1, A1, c1, p1) ?_ ?_)
    · try dsimp only
      refine ⟨by omega, by omega, ?_, ?_⟩
      · rw [e1]; exact hr1
      · rw [e1]; exact hc1' 
    · try dsimp only
      omega
  · intro hc1
    try simp only [decide_eq_true_eq, decide_eq_false_iff_not, Bool.not_eq_true', Bool.not_eq_false', beq_iff_eq] at hc1
    refine AK.exit rfl ?_
    refine AK.seq ?_
    refine AK.region ?_
    refine AO.val (RV.move rfl) (.none rfl) rfl ?_
    refine AO.val (RV.assign rfl) (.none rfl) rfl ?_
    refine AO.nil ?_
    -- at L0F
    clear hih0
    have hi2 : i.toNat = m.length := by omega
    rw [hi2] at hr hc ⊢
    rw [List.take_length] at hr
    refine AK.ret (h' := p ++ h) Try.func50 (.tmp rfl .nil) ?_ (by first | exact SubO.sub | exact List.Sublist.refl _ | exact .cons _ (List.Sublist.refl _) | exact .cons _ (.cons _ (List.Sublist.refl _)) | exact .cons _ (.cons _ (.cons _ (List.Sublist.refl _))))
    exact ⟨A', c', p, rfl, hr, hc, rfl⟩

end Go.Proofs.Ytbdlohjmifgcaaa
