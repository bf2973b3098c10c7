/- Walks through the code: what each function that is named here gives back, from any memory that holds its arguments. Written by a program of the claim's author, out of the program's form in Lean. -/
import Derived.Test.YtdnajbdnlcehgaaW6
set_option linter.unusedSimpArgs false
set_option linter.unusedVariables false
namespace Go.Proofs.Ytdnajbdnlcehgaa
open Go.Sep Go.Sep.Sip Go.Sep.Topt Go.RowKit Go.WideShapes Go.ChangeShapes

theorem lives_mss : mssS [1, 2, 4, 5, 180] = (1460, true) := by
  have h1 : ofS ([(1, []), (2, [5, 180])] |>.flatMap optB) = ([(1, []), (2, [5, 180])], 0) := by
    have := of_flat [(1, []), (2, [5, 180])] (by intro x hx; simp at hx; rcases hx with rfl | rfl <;> rfl) []
    rw [List.append_nil, ofS_end (b := []) (by simp)] at this
    rw [this]; rfl
  have h2 : ([(1, []), (2, [5, 180])] : List OL).flatMap optB = [1, 2, 4, 5, 180] := rfl
  rw [h2] at h1
  unfold mssS
  rw [h1]; rfl

theorem lives_spec (B : World) (h : Own)  : Tri Try.prog B 12 [] h fun v h' => v = .bool true := by
  refine Tri.enter (n := 18) Try.func12 rfl rfl rfl ?_
  try dsimp only [argsE]
  refine AK.seq ?_
  refine AK.region ?_
  refine AO.val (RV.assign rfl) (.none rfl) rfl ?_
  refine AO.nil ?_
  refine AK.seq ?_
  refine AK.region ?_
  refine AO.eff (EF.buildSeq [(Value.int IntKind.u8 1), (Value.int IntKind.u8 2), (Value.int IntKind.u8 4), (Value.int IntKind.u8 5), (Value.int IntKind.u8 180)] rfl rfl rfl rfl) (.none rfl) rfl ?_
  rintro _ _ ⟨b4, hf4, rfl, rfl⟩
  refine AO.eff (EF.callF rfl (mss_spec (A := some ⟨b4, 0, none⟩) (cap := 5) B _ [1, 2, 4, 5, 180] (Src.of_new (el := 5) (cs := [.int .u8 1, .int .u8 2, .int .u8 4, .int .u8 5, .int .u8 180]) List.mem_cons_self 5 1 (Nat.le_refl _)) (by intro x hx; simp at hx; omega) (by simp) (by simp))) (.none rfl) rfl ?_
  rintro _ _ ⟨rfl, rfl⟩
  rw [lives_mss]
  refine AO.val (RV.move rfl) (.none rfl) rfl ?_
  refine AO.val (RV.extract rfl rfl) (.none rfl) rfl ?_
  refine AO.val (RV.extract rfl rfl) (.none rfl) rfl ?_
  refine AO.val (RV.assign rfl) (.none rfl) rfl ?_
  refine AO.val (RV.assign rfl) (.none rfl) rfl ?_
  refine AO.nil ?_
  refine AK.seq ?_
  refine AK.region ?_
  refine AO.val (RV.move rfl) (.none rfl) rfl ?_
  refine AO.val ((RV.eql rfl rfl).to (v' := .bool true) (by rfl)) (.none rfl) rfl ?_
  refine AO.val (RV.move rfl) (.none rfl) rfl ?_
  refine AO.val (RV.move rfl) (.some rfl rfl rfl rfl) rfl ?_
  refine AO.val (RV.pickT rfl rfl) (.none rfl) rfl ?_
  refine AO.val (RV.move rfl) (.none rfl) rfl ?_
  refine AO.eff (EF.callF rfl (pmss_spec B _ 1460 (by decide))) (.some rfl rfl rfl rfl) rfl ?_
  rintro _ _ ⟨A14, c14, p14, rfl, hr14, hc14, rfl⟩
  refine AO.eff (EF.buildSeq [(Value.int IntKind.u8 2), (Value.int IntKind.u8 4), (Value.int IntKind.u8 5), (Value.int IntKind.u8 180)] rfl rfl rfl rfl) (.some rfl rfl rfl rfl) rfl ?_
  rintro _ _ ⟨b15, hf15, rfl, rfl⟩
  refine AO.eff (EF.callF rfl (same_spec (cap := _) (cap2 := _) B _ (pmB 1460) [2, 4, 5, 180] (hr14.src (h := p14) (fun x hx => hx)).sub (Src.of_new (b := b15) (el := 5) (cs := [.int .u8 2, .int .u8 4, .int .u8 5, .int .u8 180]) List.mem_cons_self 4 1 (Nat.le_refl _)) (by decide))) (.some rfl rfl rfl rfl) rfl ?_
  rintro _ _ ⟨rfl, bS, rfl, hS⟩
  have hS2 := hS.2 (by rfl)
  subst hS2
  refine AO.val ((RV.pickT rfl rfl)) (.none rfl) rfl ?_
  refine AO.val (RV.assign rfl) (.none rfl) rfl ?_
  refine AO.nil ?_
  -- at 
  refine AK.ret (h' := []) Try.func12 (.tmp rfl .nil) ?_ (List.nil_sublist _)
  rfl

theorem reads_law (B : World) (h : Own) {A : Option Addr} {cap : Nat} (l : List Int) (hl : Src B h A l.length 1 (l.map (fun x => Value.int .u8 x))) (hb : Bytes l) (hcap : l.length ≤ cap) : Tri Try.prog B 5 [.slice A l.length cap] h fun v h' => v = .bool true := by
  have htk : Src B h A (l.take (100 : Int).toNat).length 1 ((l.take (100 : Int).toNat).map (fun x => Value.int .u8 x)) := src_take hl _
  have htn : (l.take (100 : Int).toNat).length ≤ 100 := by rw [List.length_take]; exact Nat.min_le_left _ _
  have htc : (l.take (100 : Int).toNat).length ≤ cap := by rw [List.length_take]; omega
  have htb : Bytes (l.take (100 : Int).toNat) := bytes_take hb _
  refine Tri.enter (n := 79) Try.func5 rfl rfl rfl ?_
  simp only [argsE, Nat.reduceAdd]
  try dsimp only [argsE]
  refine AK.seq ?_
  refine AK.region ?_
  refine AO.val (RV.assign rfl) (.none rfl) rfl ?_
  refine AO.nil ?_
  refine AK.seq ?_
  refine AK.region ?_
  refine AO.val (RV.move rfl) (.none rfl) rfl ?_
  refine AO.eff (EF.callF rfl (few_spec B _ l 100 (by omega) hcap)) (.none rfl) rfl ?_
  rintro _ _ ⟨rfl, rfl⟩
  refine AO.val (RV.assign rfl) (.none rfl) rfl ?_
  refine AO.nil ?_
  refine AK.seq ?_
  refine AK.region ?_
  refine AO.val (RV.move rfl) (.none rfl) rfl ?_
  refine AO.eff (EF.callF rfl (of_spec (cap := cap) B _ (l.take (100 : Int).toNat) htk.sub htb htc (by omega))) (.none rfl) rfl ?_
  rintro _ _ ⟨A17, c17, p17, q17, xs17, rfl, hn17, hpr17, rfl⟩
  refine AO.val (RV.move rfl) (.none rfl) rfl ?_
  refine AO.val (RV.extract rfl rfl) (.none rfl) rfl ?_
  refine AO.val (RV.extract rfl rfl) (.none rfl) rfl ?_
  refine AO.val (RV.assign rfl) (.none rfl) rfl ?_
  refine AO.val (RV.assign rfl) (.none rfl) rfl ?_
  refine AO.nil ?_
  refine AK.seq ?_
  refine AK.region ?_
  refine AO.val (RV.move rfl) (.none rfl) rfl ?_
  refine AO.eff (EF.callF rfl (rof_spec (cap := cap) B _ (l.take (100 : Int).toNat) htk.sub htb htc (by omega))) (.none rfl) rfl ?_
  rintro _ _ ⟨A22, c22, p22, q22, xs22, rfl, hn22, hpr22, rfl⟩
  have hok := (ofS_ok 100 (l.take (100 : Int).toNat) htn htb)
  have hxl : xs22.length = (ofS (l.take (100 : Int).toNat)).1.length := by rw [← hpr22, List.length_map]
  have hxl2 : xs17.length = (ofS (l.take (100 : Int).toNat)).1.length := by rw [← hpr17, List.length_map]
  have hs22 := hn22.row.src (B := B) (h := p22) (fun x hx => hx)
  refine AO.val (RV.move rfl) (.none rfl) rfl ?_
  refine AO.val (RV.extract rfl rfl) (.none rfl) rfl ?_
  refine AO.val (RV.extract rfl rfl) (.none rfl) rfl ?_
  refine AO.val (RV.assign rfl) (.none rfl) rfl ?_
  refine AO.val (RV.assign rfl) (.none rfl) rfl ?_
  refine AO.nil ?_
  refine AK.seq ?_
  refine AK.region ?_
  refine AO.val (RV.move rfl) (.none rfl) rfl ?_
  refine AO.eff (EF.callF rfl (mss_spec (cap := cap) B _ (l.take (100 : Int).toNat) htk.sub htb htc (by omega))) (.none rfl) rfl ?_
  rintro _ _ ⟨rfl, rfl⟩
  refine AO.val (RV.move rfl) (.none rfl) rfl ?_
  refine AO.val (RV.extract rfl rfl) (.none rfl) rfl ?_
  refine AO.val (RV.extract rfl rfl) (.none rfl) rfl ?_
  refine AO.val (RV.assign rfl) (.none rfl) rfl ?_
  refine AO.val (RV.assign rfl) (.none rfl) rfl ?_
  refine AO.nil ?_
  refine AK.seq ?_
  refine AK.region ?_
  refine AO.val (RV.move rfl) (.none rfl) rfl ?_
  refine AO.eff (EF.callF rfl (rmss_spec (cap := cap) B _ (l.take (100 : Int).toNat) htk.sub htb htc (by omega))) (.none rfl) rfl ?_
  rintro _ _ ⟨rfl, rfl⟩
  refine AO.val (RV.move rfl) (.none rfl) rfl ?_
  refine AO.val (RV.extract rfl rfl) (.none rfl) rfl ?_
  refine AO.val (RV.extract rfl rfl) (.none rfl) rfl ?_
  refine AO.val (RV.assign rfl) (.none rfl) rfl ?_
  refine AO.val (RV.assign rfl) (.none rfl) rfl ?_
  refine AO.nil ?_
  refine AK.seq ?_
  refine AK.region ?_
  refine AO.val (RV.move rfl) (.none rfl) rfl ?_
  refine AO.val (RV.eql rfl rfl) (.none rfl) rfl ?_
  refine AO.val (RV.assign rfl) (.none rfl) rfl ?_
  refine AO.nil ?_
  refine AK.seq ?_
  refine AK.seq ?_
  refine AK.region ?_
  refine AO.val (RV.assign rfl) (.none rfl) rfl ?_
  refine AO.nil ?_
  refine AK.block ?_
  refine AK.loop (α := Int × Bool) (E := fun (i, u) => [(0, .slice A (l.take (100 : Int).toNat).length cap), (3, .slice A17 xs17.length c17), (4, .int .i64 (ofS (l.take (100 : Int).toNat)).2), (5, .slice A22 xs22.length c22), (6, .int .i64 (ofS (l.take (100 : Int).toNat)).2), (7, .int .u16 (mssS (l.take (100 : Int).toNat)).1), (8, .bool (mssS (l.take (100 : Int).toNat)).2), (9, .int .u16 (mssS (l.take (100 : Int).toNat)).1), (10, .bool (mssS (l.take (100 : Int).toNat)).2), (11, .bool u), (12, .int .i64 i)]) (H := fun (i, u) => p22 ++ (q22 ++ (p17 ++ (q17 ++ h)))) (Inv := fun (i, u) => 0 ≤ i ∧ i ≤ xs22.length ∧ (u && ((ofS (l.take (100 : Int).toNat)).1.drop i.toNat).all (fun x : OL => decide (x.1 ≤ 4))) = usualS (l.take (100 : Int).toNat)) (μ := fun (i, u) => (xs22.length - i).toNat) (0, decide ((ofS (l.take (100 : Int).toNat)).2 = 0)) ?_ (.cons (by exact rfl) (.cons (by exact rfl) (.cons (by exact rfl) (.cons (by exact rfl) (.cons (by exact rfl) (.cons (by exact rfl) (.cons (by exact rfl) (.cons (by exact rfl) (.cons (by exact rfl) (.cons (by exact rfl) (.cons (by exact rfl) .nil))))))))))) ?_ ?_
  · exact ⟨by omega, by omega, rfl⟩
  · exact (by first | exact SubO.sub | exact List.Sublist.refl _ | exact .cons _ (List.Sublist.refl _) | exact .cons _ (.cons _ (List.Sublist.refl _)) | exact .cons _ (.cons _ (.cons _ (List.Sublist.refl _))))
  rintro ⟨i, u⟩ ⟨hi0, hi1, hfi⟩ hih0
  try dsimp only at hih0 ⊢
  refine AK.seq ?_
  refine AK.seq ?_
  refine AK.region ?_
  refine AO.val (RV.move rfl) (.none rfl) rfl ?_
  refine AO.val (RV.move rfl) (.none rfl) rfl ?_
  refine AO.val (RV.lenS rfl) (.none rfl) rfl ?_
  refine AO.val (RV.lss rfl rfl) (.none rfl) rfl ?_
  refine AO.nil ?_
  refine AK.cond rfl ?_ ?_
  · intro hc1
    try simp only [decide_eq_true_eq, decide_eq_false_iff_not, Bool.not_eq_true', Bool.not_eq_false', beq_iff_eq] at hc1
    have hdl : ((ofS (l.take (100 : Int).toNat)).1.drop i.toNat) = prO (lget xs22 i) :: (ofS (l.take (100 : Int).toNat)).1.drop (i + 1).toNat := by rw [← hpr22]; exact prO_lget (by omega)
    rw [hdl, List.all_cons] at hfi
    refine AK.skip ?_
    refine AK.seq ?_
    refine AK.block ?_
    refine AK.region ?_
    refine AO.val (RV.move rfl) (.none rfl) rfl ?_
    refine AO.val (RV.move rfl) (.none rfl) rfl ?_
    refine AO.caseG rfl rfl rfl ?_ ?_
    · intro hg2
      try simp only [decide_eq_true_eq, decide_eq_false_iff_not, Bool.not_eq_true', Bool.not_eq_false', beq_iff_eq] at hg2
      refine AO.val (RV.move rfl) (.some rfl rfl rfl rfl) rfl ?_
      refine AO.val (RV.move rfl) (.some rfl rfl rfl rfl) rfl ?_
      refine AO.val (by first | exact RV.indexS rfl rfl (by assumption) (by omega) rfl | exact RV.indexAddr rfl rfl (by omega)) (.some rfl rfl rfl rfl) rfl ?_
      refine AO.val (by first | exact RV.fieldAddr rfl | exact RV.fieldAddrA rfl) (.some rfl rfl rfl rfl) rfl ?_
      refine AO.val (RV.loadSF (enc := encOpt) (fo := 0) rfl hs22 (fun _ => rfl) (by omega) rfl rfl (by simp)) (.some rfl rfl rfl rfl) rfl ?_
      refine AO.val (RV.leq rfl rfl) (.some rfl rfl rfl rfl) rfl ?_
      refine AO.val (RV.pickT rfl rfl) (.none rfl) rfl ?_
      refine AO.val (RV.assign rfl) (.none rfl) rfl ?_
      refine AO.nil ?_
      refine AK.inBlock ?_
      refine AK.region ?_
      refine AO.val (RV.move rfl) (.none rfl) rfl ?_
      refine AO.val (by first | exact RV.addIn rfl rfl (by omega) | exact RV.add rfl rfl) (.none rfl) rfl ?_
      refine AO.val (RV.assign rfl) (.none rfl) rfl ?_
      refine AO.nil ?_
      -- round ends at L0Tt
      refine AK.weak (.cons (by exact rfl) (.cons (by exact rfl) (.cons (by exact rfl) (.cons (by exact rfl) (.cons (by exact rfl) (.cons (by exact rfl) (.cons (by exact rfl) (.cons (by exact rfl) (.cons (by exact rfl) (.cons (by exact rfl) (.cons (by exact rfl) .nil))))))))))) (by first | exact SubO.sub | exact List.Sublist.refl _ | exact .cons _ (List.Sublist.refl _) | exact .cons _ (.cons _ (List.Sublist.refl _)) | exact .cons _ (.cons _ (.cons _ (List.Sublist.refl _)))) (hih0 (i + 1, decide ((lget xs22 i).1 ≤ 4)) ?_ ?_)
      · try dsimp only
        refine ⟨by omega, by omega, ?_⟩
        rw [← hfi, hg2]; rfl
      · try dsimp only
        omega
    · intro hg2
      try simp only [decide_eq_true_eq, decide_eq_false_iff_not, Bool.not_eq_true', Bool.not_eq_false', beq_iff_eq] at hg2
      refine AO.pass (.some rfl rfl rfl rfl) rfl ?_
      refine AO.pass (.some rfl rfl rfl rfl) rfl ?_
      refine AO.pass (.some rfl rfl rfl rfl) rfl ?_
      refine AO.pass (.some rfl rfl rfl rfl) rfl ?_
      refine AO.pass (.some rfl rfl rfl rfl) rfl ?_
      refine AO.pass (.some rfl rfl rfl rfl) rfl ?_
      refine AO.val (RV.pickF rfl rfl) (.none rfl) rfl ?_
      refine AO.val (RV.assign rfl) (.none rfl) rfl ?_
      refine AO.nil ?_
      refine AK.inBlock ?_
      refine AK.region ?_
      refine AO.val (RV.move rfl) (.none rfl) rfl ?_
      refine AO.val (by first | exact RV.addIn rfl rfl (by omega) | exact RV.add rfl rfl) (.none rfl) rfl ?_
      refine AO.val (RV.assign rfl) (.none rfl) rfl ?_
      refine AO.nil ?_
      -- round ends at L0Tf
      refine AK.weak (.cons (by exact rfl) (.cons (by exact rfl) (.cons (by exact rfl) (.cons (by exact rfl) (.cons (by exact rfl) (.cons (by exact rfl) (.cons (by exact rfl) (.cons (by exact rfl) (.cons (by exact rfl) (.cons (by exact rfl) (.cons (by exact rfl) .nil))))))))))) (by first | exact SubO.sub | exact List.Sublist.refl _ | exact .cons _ (List.Sublist.refl _) | exact .cons _ (.cons _ (List.Sublist.refl _)) | exact .cons _ (.cons _ (.cons _ (List.Sublist.refl _)))) (hih0 (i + 1, false) ?_ ?_)
      · try dsimp only
        refine ⟨by omega, by omega, ?_⟩
        rw [← hfi, hg2]; rfl
      · try dsimp only
        omega
  · intro hc1
    try simp only [decide_eq_true_eq, decide_eq_false_iff_not, Bool.not_eq_true', Bool.not_eq_false', beq_iff_eq] at hc1
    have hdn : ((ofS (l.take (100 : Int).toNat)).1.drop i.toNat) = [] := List.drop_eq_nil_of_le (by omega)
    rw [hdn] at hfi
    have hu : u = usualS (l.take (100 : Int).toNat) := by rw [← hfi]; simp
    subst hu
    refine AK.exit rfl ?_
    refine AK.seq ?_
    refine AK.region ?_
    refine AO.val (RV.move rfl) (.none rfl) rfl ?_
    refine AO.val (RV.move rfl) (.none rfl) rfl ?_
    refine AO.eff (EF.callF rfl (osame10_spec (cap := c17) (cap2 := c22) B _ xs17 xs22 (hn17.row.src (B := B) (h := p17) (fun x hx => hx)).sub (hn22.row.src (B := B) (h := p22) (fun x hx => hx)).sub (fun x hx => (hn17.dat x hx).sub) (fun x hx => (hn22.dat x hx).sub) (by omega))) (.none rfl) rfl ?_
    rintro _ _ ⟨rfl, bS, rfl, hS⟩
    have hS2 := hS.2 (by rw [hpr17, hpr22])
    subst hS2
    refine AO.val (RV.move rfl) (.none rfl) rfl ?_
    refine AO.val (RV.move rfl) (.some rfl rfl rfl rfl) rfl ?_
    refine AO.val (RV.move rfl) (.some rfl rfl rfl rfl) rfl ?_
    refine AO.val ((RV.eql rfl rfl).to (v' := .bool true) (by simp)) (.some rfl rfl rfl rfl) rfl ?_
    refine AO.val (RV.pickT rfl rfl) (.none rfl) rfl ?_
    refine AO.val (RV.move rfl) (.none rfl) rfl ?_
    refine AO.val (RV.move rfl) (.some rfl rfl rfl rfl) rfl ?_
    refine AO.val (RV.move rfl) (.some rfl rfl rfl rfl) rfl ?_
    refine AO.val ((RV.eql rfl rfl).to (v' := .bool true) (by simp)) (.some rfl rfl rfl rfl) rfl ?_
    refine AO.val (RV.pickT rfl rfl) (.none rfl) rfl ?_
    refine AO.val (RV.move rfl) (.none rfl) rfl ?_
    refine AO.val (RV.move rfl) (.some rfl rfl rfl rfl) rfl ?_
    refine AO.val (RV.move rfl) (.some rfl rfl rfl rfl) rfl ?_
    refine AO.val ((RV.eqlB rfl rfl).to (v' := .bool true) (by simp)) (.some rfl rfl rfl rfl) rfl ?_
    refine AO.val (RV.pickT rfl rfl) (.none rfl) rfl ?_
    refine AO.val (RV.move rfl) (.none rfl) rfl ?_
    refine AO.val (RV.move rfl) (.some rfl rfl rfl rfl) rfl ?_
    refine AO.eff (EF.callF rfl (without_spec (cap := cap) B _ (l.take (100 : Int).toNat) htk.sub htb htc (by omega))) (.some rfl rfl rfl rfl) rfl ?_
    rintro _ _ ⟨rfl, rfl⟩
    refine AO.val (RV.move rfl) (.some rfl rfl rfl rfl) rfl ?_
    refine AO.val ((RV.eqlB rfl rfl).to (v' := .bool true) (by simp)) (.some rfl rfl rfl rfl) rfl ?_
    refine AO.val (RV.pickT rfl rfl) (.none rfl) rfl ?_
    refine AO.val (RV.move rfl) (.none rfl) rfl ?_
    refine AO.eff (EF.callF rfl (lives_spec B _)) (.some rfl rfl rfl rfl) rfl ?_
    rintro _ _ rfl
    refine AO.val (RV.pickT rfl rfl) (.none rfl) rfl ?_
    refine AO.val (RV.assign rfl) (.none rfl) rfl ?_
    refine AO.nil ?_
    -- at L0F
    clear hih0
    refine AK.ret (h' := []) Try.func5 (.tmp rfl .nil) ?_ (List.nil_sublist _)
    rfl

set_option maxHeartbeats 800000 in
theorem puts_law (B : World) (h : Own) {A : Option Addr} {cap : Nat} (xs : List Opt) (hl : Src B h A xs.length 2 (flat encOpt xs)) (hd : ∀ x ∈ xs, OpAny B h x) (hcap : xs.length ≤ cap) (n : Int) (hn : 0 ≤ n ∧ n ≤ 65535) : Tri Try.prog B 3 [.slice A xs.length cap, .int .u16 n] h fun v h' => v = .bool true := by
  have hfl := few_len xs
  have hfd := few_in hd
  have hpb : Bytes (putS ((fewO xs).map prO)).1 := putF_bytes (by intro x hx; obtain ⟨y, hy, rfl⟩ := List.mem_map.1 hx; exact ⟨(hfd y hy).kind, (hfd y hy).byt⟩) [] (by intro x hx; simp at hx)
  have hpl : (putS ((fewO xs).map prO)).1.length ≤ 40 := putF_len _ [] (by simp)
  refine Tri.enter (n := 107) Try.func3 rfl rfl rfl ?_
  simp only [argsE, Nat.reduceAdd]
  try dsimp only [argsE]
  refine AK.seq ?_
  refine AK.region ?_
  refine AO.val (RV.assign rfl) (.none rfl) rfl ?_
  refine AO.nil ?_
  refine AK.seq ?_
  refine AK.region ?_
  refine AO.val (RV.move rfl) (.none rfl) rfl ?_
  refine AO.eff (EF.callF rfl (ofew_spec B _ xs hl hd hcap)) (.none rfl) rfl ?_
  rintro _ _ ⟨A15, c15, p15, rfl, hr15, hc15, rfl⟩
  have hs15 : Src B p15 A15 (fewO xs).length 2 (flat encOpt (fewO xs)) := hr15.src (fun x hx => hx)
  refine AO.val (RV.assign rfl) (.none rfl) rfl ?_
  refine AO.nil ?_
  refine AK.seq ?_
  refine AK.region ?_
  refine AO.val (RV.move rfl) (.none rfl) rfl ?_
  refine AO.eff (EF.callF rfl (oput_spec (cap := c15) B _ (fewO xs) hs15.sub (fun x hx => (hfd x hx).sub) hc15 (by omega))) (.none rfl) rfl ?_
  rintro _ _ ⟨w18, rfl, A18, c18, p18, rfl, hr18, hc18, rfl⟩
  refine AO.val (RV.move rfl) (.none rfl) rfl ?_
  refine AO.val (RV.extract rfl rfl) (.none rfl) rfl ?_
  refine AO.val (RV.extract rfl rfl) (.none rfl) rfl ?_
  refine AO.val (RV.assign rfl) (.none rfl) rfl ?_
  refine AO.val (RV.assign rfl) (.none rfl) rfl ?_
  refine AO.nil ?_
  refine AK.seq ?_
  refine AK.region ?_
  refine AO.val (RV.move rfl) (.none rfl) rfl ?_
  refine AO.eff (EF.callF rfl (rput_spec10 (cap := c15) B _ (fewO xs) hs15.sub (fun x hx => (hfd x hx).sub) hc15 (by omega))) (.none rfl) rfl ?_
  rintro _ _ ⟨w23, rfl, A23, c23, p23, rfl, hr23, hc23, rfl⟩
  refine AO.val (RV.move rfl) (.none rfl) rfl ?_
  refine AO.val (RV.extract rfl rfl) (.none rfl) rfl ?_
  refine AO.val (RV.extract rfl rfl) (.none rfl) rfl ?_
  refine AO.val (RV.assign rfl) (.none rfl) rfl ?_
  refine AO.val (RV.assign rfl) (.none rfl) rfl ?_
  refine AO.nil ?_
  refine AK.seq ?_
  refine AK.seq ?_
  refine AK.region ?_
  refine AO.val (RV.move rfl) (.none rfl) rfl ?_
  refine AO.val (RV.move rfl) (.none rfl) rfl ?_
  refine AO.eff (EF.callF rfl (same_spec (cap := _) (cap2 := _) B _ (putS ((fewO xs).map prO)).1 (putS ((fewO xs).map prO)).1 (hr18.src (h := p18) (fun x hx => hx)).sub (hr23.src (h := p23) (fun x hx => hx)).sub (by omega))) (.none rfl) rfl ?_
  rintro _ _ ⟨rfl, bS, rfl, hS⟩
  have hS2 := hS.2 (by rfl)
  subst hS2
  refine AO.val (RV.not rfl) (.none rfl) rfl ?_
  refine AO.val (RV.move rfl) (.none rfl) rfl ?_
  refine AO.val (RV.move rfl) (.some rfl rfl rfl rfl) rfl ?_
  refine AO.val (RV.move rfl) (.some rfl rfl rfl rfl) rfl ?_
  refine AO.val ((RV.neq rfl rfl).to (v' := .bool false) (by simp)) (.some rfl rfl rfl rfl) rfl ?_
  refine AO.val (RV.pickF rfl rfl) (.none rfl) rfl ?_
  refine AO.nil ?_
  refine AK.condF rfl ?_
  refine AK.skip ?_
  refine AK.seq ?_
  refine AK.region ?_
  refine AO.val (RV.move rfl) (.none rfl) rfl ?_
  refine AO.eff (EF.callF rfl (pmss_spec B _ n hn)) (.none rfl) rfl ?_
  rintro _ _ ⟨A37, c37, p37, rfl, hr37, hc37, rfl⟩
  refine AO.eff (EF.callF rfl (mss_spec (cap := c37) B _ (pmB n) ((hr37.src (h := p37) (fun x hx => hx)).sub) (pmB_bytes n) hc37 (by simp [pmB]))) (.none rfl) rfl ?_
  rintro _ _ ⟨rfl, rfl⟩
  rw [mss_pm hn]
  refine AO.val (RV.move rfl) (.none rfl) rfl ?_
  refine AO.val (RV.extract rfl rfl) (.none rfl) rfl ?_
  refine AO.val (RV.extract rfl rfl) (.none rfl) rfl ?_
  refine AO.val (RV.assign rfl) (.none rfl) rfl ?_
  refine AO.val (RV.assign rfl) (.none rfl) rfl ?_
  refine AO.nil ?_
  refine AK.seq ?_
  refine AK.seq ?_
  refine AK.region ?_
  refine AO.val (RV.move rfl) (.none rfl) rfl ?_
  refine AO.val (RV.move rfl) (.none rfl) rfl ?_
  refine AO.val ((RV.neq rfl rfl).to (v' := .bool false) (by simp)) (.none rfl) rfl ?_
  refine AO.val (RV.move rfl) (.none rfl) rfl ?_
  refine AO.val (RV.move rfl) (.some rfl rfl rfl rfl) rfl ?_
  refine AO.val (RV.not rfl) (.some rfl rfl rfl rfl) rfl ?_
  refine AO.val (RV.pickF rfl rfl) (.none rfl) rfl ?_
  refine AO.nil ?_
  refine AK.condF rfl ?_
  refine AK.skip ?_
  refine AK.seq ?_
  refine AK.seq ?_
  refine AK.region ?_
  refine AO.val (RV.move rfl) (.none rfl) rfl ?_
  refine AO.val (RV.neq rfl rfl) (.none rfl) rfl ?_
  refine AO.nil ?_
  refine AK.cond rfl ?_ ?_
  · intro hc1
    try simp only [decide_eq_true_eq, decide_eq_false_iff_not, Bool.not_eq_true', Bool.not_eq_false', beq_iff_eq] at hc1
    refine AK.seq ?_
    refine AK.region ?_
    refine AO.eff (EF.callF rfl (lives_spec B _)) (.none rfl) rfl ?_
    rintro _ _ rfl
    refine AO.val (RV.assign rfl) (.none rfl) rfl ?_
    refine AO.nil ?_
    -- at T
    refine AK.ret (h' := []) Try.func3 (.tmp rfl .nil) ?_ (List.nil_sublist _)
    rfl
  · intro hc1
    try simp only [decide_eq_true_eq, decide_eq_false_iff_not, Bool.not_eq_true', Bool.not_eq_false', beq_iff_eq] at hc1
    have hput0 : (putS ((fewO xs).map prO)).2 = 0 := by first | exact Classical.not_not.1 (by assumption) | simpa using hc1
    obtain ⟨ko, hko, hof⟩ := of_put hput0
    have hp4 := put_len4 hput0
    have hm53 : ((fewO xs).map prO).length = (fewO xs).length := List.length_map _
    refine AK.skip ?_
    refine AK.seq ?_
    refine AK.region ?_
    refine AO.val (RV.move rfl) (.none rfl) rfl ?_
    refine AO.eff (EF.callF rfl (of_spec (cap := c18) B _ (putS ((fewO xs).map prO)).1 ((hr18.src (h := p18) (fun x hx => hx)).sub) hpb hc18 (by omega))) (.none rfl) rfl ?_
    rintro _ _ ⟨A53, c53, p53, q53, xs53, rfl, hn53, hpr53, rfl⟩
    rw [hof] at hpr53 ⊢
    have hmx : xs53.length = (fewO xs).length + ko := by
      have h := congrArg List.length hpr53
      rw [List.length_map, List.length_append, hm53] at h
      simpa [ones] using h
    have hs53 := hn53.row.src (B := B) (h := p53) (fun x hx => hx)
    have hcp53 := hn53.cap
    refine AO.val (RV.move rfl) (.none rfl) rfl ?_
    refine AO.val (RV.extract rfl rfl) (.none rfl) rfl ?_
    refine AO.val (RV.extract rfl rfl) (.none rfl) rfl ?_
    refine AO.val (RV.assign rfl) (.none rfl) rfl ?_
    refine AO.val (RV.assign rfl) (.none rfl) rfl ?_
    refine AO.nil ?_
    refine AK.seq ?_
    refine AK.seq ?_
    refine AK.region ?_
    refine AO.val (RV.move rfl) (.none rfl) rfl ?_
    refine AO.val ((RV.neq rfl rfl).to (v' := .bool false) (by simp)) (.none rfl) rfl ?_
    refine AO.val (RV.move rfl) (.none rfl) rfl ?_
    refine AO.val (RV.move rfl) (.some rfl rfl rfl rfl) rfl ?_
    refine AO.val (RV.lenS rfl) (.some rfl rfl rfl rfl) rfl ?_
    refine AO.val ((RV.gtr rfl rfl).to (v' := .bool false) (by simp; omega)) (.some rfl rfl rfl rfl) rfl ?_
    refine AO.val (RV.pickF rfl rfl) (.none rfl) rfl ?_
    refine AO.val (RV.move rfl) (.none rfl) rfl ?_
    refine AO.val (RV.move rfl) (.some rfl rfl rfl rfl) rfl ?_
    refine AO.val (RV.lenS rfl) (.some rfl rfl rfl rfl) rfl ?_
    refine AO.val (RV.remIn rfl rfl (by omega)) (.some rfl rfl rfl rfl) rfl ?_
    refine AO.val ((RV.neq rfl rfl).to (v' := .bool false) (by simp; omega)) (.some rfl rfl rfl rfl) rfl ?_
    refine AO.val (RV.pickF rfl rfl) (.none rfl) rfl ?_
    refine AO.val (RV.move rfl) (.none rfl) rfl ?_
    refine AO.val (RV.move rfl) (.some rfl rfl rfl rfl) rfl ?_
    refine AO.val (RV.lenS rfl) (.some rfl rfl rfl rfl) rfl ?_
    refine AO.val (RV.move rfl) (.some rfl rfl rfl rfl) rfl ?_
    refine AO.val (RV.lenS rfl) (.some rfl rfl rfl rfl) rfl ?_
    refine AO.val ((RV.lss rfl rfl).to (v' := .bool false) (by simp; omega)) (.some rfl rfl rfl rfl) rfl ?_
    refine AO.val (RV.pickF rfl rfl) (.none rfl) rfl ?_
    refine AO.val (RV.move rfl) (.none rfl) rfl ?_
    refine AO.val (RV.move rfl) (.some rfl rfl rfl rfl) rfl ?_
    refine AO.val (RV.lenS rfl) (.some rfl rfl rfl rfl) rfl ?_
    refine AO.val (RV.move rfl) (.some rfl rfl rfl rfl) rfl ?_
    refine AO.val (RV.lenS rfl) (.some rfl rfl rfl rfl) rfl ?_
    refine AO.val (by first | exact RV.addIn rfl rfl (by omega) | exact RV.add rfl rfl) (.some rfl rfl rfl rfl) rfl ?_
    refine AO.val ((RV.gtr rfl rfl).to (v' := .bool false) (by simp; omega)) (.some rfl rfl rfl rfl) rfl ?_
    refine AO.val (RV.pickF rfl rfl) (.none rfl) rfl ?_
    refine AO.nil ?_
    refine AK.condF rfl ?_
    refine AK.skip ?_
    refine AK.seq ?_
    refine AK.seq ?_
    refine AK.region ?_
    refine AO.val (RV.move rfl) (.none rfl) rfl ?_
    refine AO.val (RV.lenS rfl) (.none rfl) rfl ?_
    refine AO.val (RV.assign rfl) (.none rfl) rfl ?_
    refine AO.nil ?_
    refine AK.block ?_
    have htl53 : (xs53.take (fewO xs).length).length = (fewO xs).length := by rw [List.length_take]; omega
    have htk53 : Src B p53 A53 (xs53.take (fewO xs).length).length 2 (flat encOpt (xs53.take (fewO xs).length)) := by
      have h1 := hs53.take (fewO xs).length (by omega)
      have h2 : (flat encOpt xs53).take ((fewO xs).length * 2) = flat encOpt (xs53.take (fewO xs).length) := flat_take2 xs53 _
      rw [h2] at h1; rw [htl53]; exact h1
    refine AK.loop (α := Int) (E := fun i => [(0, .slice A15 (fewO xs).length c15), (11, .slice A53 xs53.length c53), (13, .int .i64 i)]) (H := fun i => p53 ++ (q53 ++ (p37 ++ (p23 ++ (p18 ++ (p15 ++ h)))))) (Inv := fun i => (fewO xs).length ≤ i ∧ i ≤ xs53.length) (μ := fun i => (xs53.length - i).toNat) ((fewO xs).length : Int) ?_ (.cons (by exact rfl) (.cons (by exact rfl) (.cons (by exact rfl) .nil))) ?_ ?_
    · exact ⟨by omega, by omega⟩
    · exact (by first | exact SubO.sub | exact List.Sublist.refl _ | exact .cons _ (List.Sublist.refl _) | exact .cons _ (.cons _ (List.Sublist.refl _)) | exact .cons _ (.cons _ (.cons _ (List.Sublist.refl _))))
    rintro i ⟨hi0, hi1⟩ hih0
    try dsimp only at hih0 ⊢
    refine AK.seq ?_
    refine AK.seq ?_
    refine AK.region ?_
    refine AO.val (RV.move rfl) (.none rfl) rfl ?_
    refine AO.val (RV.move rfl) (.none rfl) rfl ?_
    refine AO.val (RV.lenS rfl) (.none rfl) rfl ?_
    refine AO.val (RV.lss rfl rfl) (.none rfl) rfl ?_
    refine AO.nil ?_
    refine AK.cond rfl ?_ ?_
    · intro hc2
      try simp only [decide_eq_true_eq, decide_eq_false_iff_not, Bool.not_eq_true', Bool.not_eq_false', beq_iff_eq] at hc2
      have hk1 : (lget xs53 i).1 = 1 := by
        have h2 : i.toNat < xs53.length := by omega
        have h3 : (xs53.map prO)[i.toNat]? = some (prO (lget xs53 i)) := by simp [lget, List.getD, h2]
        rw [hpr53, List.getElem?_append_right (by rw [hm53]; omega)] at h3
        have h4 := List.mem_of_getElem? h3
        rw [ones] at h4
        have h5 := List.eq_of_mem_replicate h4
        exact congrArg Prod.fst h5
      refine AK.skip ?_
      refine AK.seq ?_
      refine AK.block ?_
      refine AK.seq ?_
      refine AK.region ?_
      refine AO.val (RV.move rfl) (.none rfl) rfl ?_
      refine AO.val (RV.move rfl) (.none rfl) rfl ?_
      refine AO.val (by first | exact RV.indexS rfl rfl (by assumption) (by omega) rfl | exact RV.indexAddr rfl rfl (by omega)) (.none rfl) rfl ?_
      refine AO.val (by first | exact RV.fieldAddr rfl | exact RV.fieldAddrA rfl) (.none rfl) rfl ?_
      refine AO.val (RV.loadSF (enc := encOpt) (fo := 0) rfl hs53 (fun _ => rfl) (by omega) rfl rfl (by simp)) (.none rfl) rfl ?_
      refine AO.val ((RV.neq rfl rfl).to (v' := .bool false) (by simp [hk1])) (.none rfl) rfl ?_
      refine AO.nil ?_
      refine AK.condF rfl ?_
      refine AK.skip ?_
      refine AK.inBlock ?_
      refine AK.region ?_
      refine AO.val (RV.move rfl) (.none rfl) rfl ?_
      refine AO.val (by first | exact RV.addIn rfl rfl (by omega) | exact RV.add rfl rfl) (.none rfl) rfl ?_
      refine AO.val (RV.assign rfl) (.none rfl) rfl ?_
      refine AO.nil ?_
      -- round ends at FL0T
      refine AK.weak (.cons (by exact rfl) (.cons (by exact rfl) (.cons (by exact rfl) .nil))) (by first | exact SubO.sub | exact List.Sublist.refl _ | exact .cons _ (List.Sublist.refl _) | exact .cons _ (.cons _ (List.Sublist.refl _)) | exact .cons _ (.cons _ (.cons _ (List.Sublist.refl _)))) (hih0 (i + 1) ?_ ?_)
      · try dsimp only
        exact ⟨by omega, by omega⟩
      · try dsimp only
        omega
    · intro hc2
      try simp only [decide_eq_true_eq, decide_eq_false_iff_not, Bool.not_eq_true', Bool.not_eq_false', beq_iff_eq] at hc2
      refine AK.exit rfl ?_
      refine AK.seq ?_
      refine AK.region ?_
      refine AO.val (RV.move rfl) (.none rfl) rfl ?_
      refine AO.val (RV.move rfl) (.none rfl) rfl ?_
      refine AO.val (RV.lenS rfl) (.none rfl) rfl ?_
      refine AO.val ((RV.sliceHi rfl rfl (by omega)).to (v' := .slice A53 (xs53.take (fewO xs).length).length c53) (by rw [htl53]; rfl)) (.none rfl) rfl ?_
      refine AO.val (RV.move rfl) (.none rfl) rfl ?_
      refine AO.eff (EF.callF rfl (osame10_spec (cap := c53) (cap2 := c15) B _ (xs53.take (fewO xs).length) (fewO xs) htk53.sub hs15.sub (fun x hx => (hn53.dat x (List.mem_of_mem_take hx)).sub) (fun x hx => (hfd x hx).sub) (by rw [List.length_take]; omega))) (.none rfl) rfl ?_
      rintro _ _ ⟨rfl, bS, rfl, hS⟩
      have hS2 := hS.2 (by rw [List.map_take, hpr53, List.take_append_of_le_length (by rw [hm53]; exact Nat.le_refl _), List.take_of_length_le (by rw [hm53]; exact Nat.le_refl _)])
      subst hS2
      refine AO.val (RV.move rfl) (.none rfl) rfl ?_
      refine AO.eff (EF.callF rfl (lives_spec B _)) (.some rfl rfl rfl rfl) rfl ?_
      rintro _ _ rfl
      refine AO.val (RV.pickT rfl rfl) (.none rfl) rfl ?_
      refine AO.val (RV.assign rfl) (.none rfl) rfl ?_
      refine AO.nil ?_
      -- at FL0F
      clear hih0
      refine AK.ret (h' := []) Try.func3 (.tmp rfl .nil) ?_ (List.nil_sublist _)
      rfl

set_option maxHeartbeats 800000 in
theorem ends_law (B : World) (h : Own) {A : Option Addr} {cap : Nat} (xs : List Opt) (hl : Src B h A xs.length 2 (flat encOpt xs)) (hd : ∀ x ∈ xs, OpAny B h x) (hcap : xs.length ≤ cap) {A2 : Option Addr} {cap2 : Nat} (l : List Int) (hl2 : Src B h A2 l.length 1 (l.map (fun x => Value.int .u8 x))) (hb2 : Bytes l) (hcap2 : l.length ≤ cap2) : Tri Try.prog B 4 [.slice A xs.length cap, .slice A2 l.length cap2] h fun v h' => v = .bool true := by
  have hfl := few_len xs
  have hfd := few_in hd
  have hpb : Bytes (putS ((fewO xs).map prO)).1 := putF_bytes (by intro x hx; obtain ⟨y, hy, rfl⟩ := List.mem_map.1 hx; exact ⟨(hfd y hy).kind, (hfd y hy).byt⟩) [] (by intro x hx; simp at hx)
  have hpl : (putS ((fewO xs).map prO)).1.length ≤ 40 := putF_len _ [] (by simp)
  have htk : Src B h A2 (l.take 30).length 1 ((l.take 30).map (fun x => Value.int .u8 x)) := src_take hl2 30
  have htn : (l.take 30).length ≤ 30 := by rw [List.length_take]; exact Nat.min_le_left _ _
  have htb : Bytes (l.take 30) := bytes_take hb2 _
  have hzb : Bytes ((putS ((fewO xs).map prO)).1 ++ 0 :: (l.take 30)) := bytes_app hpb (by intro x hx; rcases List.mem_cons.1 hx with rfl | hx; exact ⟨Int.le_refl _, by decide⟩; exact htb x hx)
  refine Tri.enter (n := 49) Try.func4 rfl rfl rfl ?_
  simp only [argsE, Nat.reduceAdd]
  try dsimp only [argsE]
  refine AK.seq ?_
  refine AK.region ?_
  refine AO.val (RV.assign rfl) (.none rfl) rfl ?_
  refine AO.nil ?_
  refine AK.seq ?_
  refine AK.region ?_
  refine AO.val (RV.move rfl) (.none rfl) rfl ?_
  refine AO.eff (EF.callF rfl (ofew_spec B _ xs hl hd hcap)) (.none rfl) rfl ?_
  rintro _ _ ⟨A15, c15, p15, rfl, hr15, hc15, rfl⟩
  have hs15 : Src B p15 A15 (fewO xs).length 2 (flat encOpt (fewO xs)) := hr15.src (fun x hx => hx)
  refine AO.eff (EF.callF rfl (oput_spec (cap := c15) B _ (fewO xs) hs15.sub (fun x hx => (hfd x hx).sub) hc15 (by omega))) (.none rfl) rfl ?_
  rintro _ _ ⟨w18, rfl, A18, c18, p18, rfl, hr18, hc18, rfl⟩
  refine AO.val (RV.move rfl) (.none rfl) rfl ?_
  refine AO.val (RV.extract rfl rfl) (.none rfl) rfl ?_
  refine AO.val (RV.extract rfl rfl) (.none rfl) rfl ?_
  refine AO.val (RV.assign rfl) (.none rfl) rfl ?_
  refine AO.val (RV.assign rfl) (.none rfl) rfl ?_
  refine AO.nil ?_
  refine AK.seq ?_
  refine AK.seq ?_
  refine AK.region ?_
  refine AO.val (RV.move rfl) (.none rfl) rfl ?_
  refine AO.val (RV.neq rfl rfl) (.none rfl) rfl ?_
  refine AO.nil ?_
  refine AK.cond rfl ?_ ?_
  · intro hc1
    try simp only [decide_eq_true_eq, decide_eq_false_iff_not, Bool.not_eq_true', Bool.not_eq_false', beq_iff_eq] at hc1
    refine AK.seq ?_
    refine AK.region ?_
    refine AO.eff (EF.callF rfl (lives_spec B _)) (.none rfl) rfl ?_
    rintro _ _ rfl
    refine AO.val (RV.assign rfl) (.none rfl) rfl ?_
    refine AO.nil ?_
    -- at T
    refine AK.ret (h' := []) Try.func4 (.tmp rfl .nil) ?_ (List.nil_sublist _)
    rfl
  · intro hc1
    try simp only [decide_eq_true_eq, decide_eq_false_iff_not, Bool.not_eq_true', Bool.not_eq_false', beq_iff_eq] at hc1
    have hput0 : (putS ((fewO xs).map prO)).2 = 0 := by first | exact Classical.not_not.1 (by assumption) | simpa using hc1
    obtain ⟨ko, hko, hof⟩ := of_put hput0
    have hp4 := put_len4 hput0
    have hm53 : ((fewO xs).map prO).length = (fewO xs).length := List.length_map _
    have hend := of_put_end hput0 (l.take 30)
    refine AK.skip ?_
    refine AK.seq ?_
    refine AK.region ?_
    refine AO.val (RV.move rfl) (.none rfl) rfl ?_
    refine AO.eff (EF.buildSeq [(Value.int IntKind.u8 0)] rfl rfl rfl rfl) (.none rfl) rfl ?_
    rintro _ _ ⟨b22, hf22, rfl, rfl⟩
    refine AO.eff (EF.callF rfl (add_spec (cap := c18) (A2 := some ⟨b22, 0, none⟩) (cap2 := 1) B _ (putS ((fewO xs).map prO)).1 [0] ((hr18.src (h := p18) (fun x hx => hx)).sub) (Src.of_new (b := b22) (el := 5) (cs := [.int .u8 0]) List.mem_cons_self 1 1 (Nat.le_refl _)) (by simp; omega))) (.none rfl) rfl ?_
    rintro _ _ ⟨A23, c23, p23, rfl, hr23, hc23, rfl⟩
    refine AO.val (RV.move rfl) (.none rfl) rfl ?_
    refine AO.eff (EF.callF rfl (few_spec B _ l 30 (by omega) hcap2)) (.none rfl) rfl ?_
    rintro _ _ ⟨rfl, rfl⟩
    refine AO.eff (EF.callF rfl ((add_spec (cap := c23) (A2 := A2) (cap2 := cap2) B _ ((putS ((fewO xs).map prO)).1 ++ [0]) (l.take 30) ((hr23.src (h := p23) (fun x hx => hx)).sub) htk.sub (by rw [List.length_append]; simp; omega)).mono fun v h2 r => r.to (n' := ((putS ((fewO xs).map prO)).1 ++ 0 :: (l.take 30)).length) (ys := ((putS ((fewO xs).map prO)).1 ++ 0 :: (l.take 30)).map (fun x => Value.int .u8 x)) (by simp) (by simp))) (.none rfl) rfl ?_
    rintro _ _ ⟨A26, c26, p26, rfl, hr26, hc26, rfl⟩
    refine AO.eff (EF.callF rfl (of_spec (cap := c26) B _ ((putS ((fewO xs).map prO)).1 ++ 0 :: (l.take 30)) ((hr26.src (h := p26) (fun x hx => hx)).sub) hzb hc26 (by rw [List.length_append, List.length_cons]; omega))) (.none rfl) rfl ?_
    rintro _ _ ⟨A27, c27, p27, q27, xs27, rfl, hn27, hpr27, rfl⟩
    rw [hend, hof] at hpr27 ⊢
    refine AO.val (RV.move rfl) (.none rfl) rfl ?_
    refine AO.val (RV.extract rfl rfl) (.none rfl) rfl ?_
    refine AO.val (RV.extract rfl rfl) (.none rfl) rfl ?_
    refine AO.val (RV.assign rfl) (.none rfl) rfl ?_
    refine AO.val (RV.assign rfl) (.none rfl) rfl ?_
    refine AO.nil ?_
    refine AK.seq ?_
    refine AK.region ?_
    refine AO.val (RV.move rfl) (.none rfl) rfl ?_
    refine AO.eff (EF.callF rfl (of_spec (cap := c18) B _ (putS ((fewO xs).map prO)).1 ((hr18.src (h := p18) (fun x hx => hx)).sub) hpb hc18 (by omega))) (.none rfl) rfl ?_
    rintro _ _ ⟨A32, c32, p32, q32, xs32, rfl, hn32, hpr32, rfl⟩
    rw [hof] at hpr32 ⊢
    refine AO.val (RV.move rfl) (.none rfl) rfl ?_
    refine AO.val (RV.extract rfl rfl) (.none rfl) rfl ?_
    refine AO.val (RV.extract rfl rfl) (.none rfl) rfl ?_
    refine AO.val (RV.assign rfl) (.none rfl) rfl ?_
    refine AO.val (RV.assign rfl) (.none rfl) rfl ?_
    refine AO.nil ?_
    refine AK.seq ?_
    refine AK.region ?_
    refine AO.val (RV.move rfl) (.none rfl) rfl ?_
    refine AO.val ((RV.eql rfl rfl).to (v' := .bool true) (by simp)) (.none rfl) rfl ?_
    refine AO.val (RV.move rfl) (.none rfl) rfl ?_
    refine AO.val (RV.move rfl) (.some rfl rfl rfl rfl) rfl ?_
    refine AO.val ((RV.eql rfl rfl).to (v' := .bool true) (by simp)) (.some rfl rfl rfl rfl) rfl ?_
    refine AO.val (RV.pickT rfl rfl) (.none rfl) rfl ?_
    refine AO.val (RV.move rfl) (.none rfl) rfl ?_
    refine AO.val (RV.move rfl) (.some rfl rfl rfl rfl) rfl ?_
    refine AO.val (RV.move rfl) (.some rfl rfl rfl rfl) rfl ?_
    refine AO.eff (EF.callF rfl (osame10_spec (cap := c27) (cap2 := c32) B _ xs27 xs32 (hn27.row.src (B := B) (h := p27) (fun x hx => hx)).sub (hn32.row.src (B := B) (h := p32) (fun x hx => hx)).sub (fun x hx => (hn27.dat x hx).sub) (fun x hx => (hn32.dat x hx).sub) (by have h := congrArg List.length hpr27; rw [List.length_map, List.length_append, hm53] at h; simp [ones] at h; omega))) (.some rfl rfl rfl rfl) rfl ?_
    rintro _ _ ⟨rfl, bS, rfl, hS⟩
    have hS2 := hS.2 (by rw [hpr27, hpr32])
    subst hS2
    refine AO.val (RV.pickT rfl rfl) (.none rfl) rfl ?_
    refine AO.val (RV.move rfl) (.none rfl) rfl ?_
    refine AO.eff (EF.callF rfl (lives_spec B _)) (.some rfl rfl rfl rfl) rfl ?_
    rintro _ _ rfl
    refine AO.val (RV.pickT rfl rfl) (.none rfl) rfl ?_
    refine AO.val (RV.assign rfl) (.none rfl) rfl ?_
    refine AO.nil ?_
    -- at F
    refine AK.ret (h' := []) Try.func4 (.tmp rfl .nil) ?_ (List.nil_sublist _)
    rfl

set_option maxRecDepth 100000 in
theorem toptReads_lifted (os : Os) (started : os.Started) (H : Type) (enc : TypeId × Value → H) :
    ReturnsInHanded {} Try.checked os 5 .any (Rows.toptReadsSpec.pre6 enc Try.prog Try.f5 Rows.toptReadsRow.domain false) (Rows.toptReadsSpec.post enc Try.prog Try.f5 false true false false) := by
  refine returnsInHanded_of_change (C := Try.checked) own_ started (by kernel_rfl) Try.func5
    (ChangeSpec.witness6 (enc := enc) (C := Try.checked) false ⟨#[], #[(Value.slice none 0 0)], []⟩ 8 (by kernel_rfl) (by kernel_rfl) (by kernel_rfl) (by kernel_rfl)) ?_
  intro W base args ds gs before hval0 hW hcnd _
  have hval : ∀ (j : Nat) t v, Try.f5.params[j]? = some t → args[j]? = some v → Value.okWide Try.prog W .any base t v := hval0
  have hW' := hW
  obtain ⟨p, q, hA0, hV, rfl, hfz, hnd⟩ := hW
  have hA : DataW.TrodAll enc Try.prog W 0 (fun _ => true) true Try.f5.params.toList args.toList ds p := hA0
  rw [Try.params5] at hA hval
  obtain ⟨args⟩ := args
  simp only at hA
  obtain ⟨v0, vs0, d0, ds0, p0, q0, e0a, e0b, e0c, t0, r0⟩ := trodAll_cons hA
  subst e0a e0b e0c
  obtain ⟨rfl, rfl, rfl⟩ := trodAll_nil r0
  obtain ⟨rfl, rfl⟩ := trodVars_none hV
  have hlt := hW'.lt
  have k0 : Value.okWide Try.prog W .any base 25 v0 := hval 0 _ v0 rfl rfl
  obtain ⟨l, w0, hl⟩ := Dec.argS k0 t0 ((Dec.int (t := 5) (k := .u8))) (by decide)
  have htri : Tri Try.prog W 5 [v0] [] (fun v _ => v = .bool true) := by
    subst w0
    exact reads_law W [] l.l hl.src1 hl.2.2.2.1 hl.2.1
  clear w0
  refine (htri.run W (Models.start W)).mono fun e W' ⟨v, h2, he, m2, hv⟩ => ?_
  subst he; subst hv
  have hb := m2.below
  refine ⟨_, rfl, post_of_below (pa := (p0 ++ ([]))) (pv := []) hW' (fun _ _ _ => trodAll_mk1 (shut_bool (Try.underlying4) true)) (fun sp hsp => ?_) (fun _ _ => rfl) rfl hb (ok_one (t := 4) (by kernel_rfl) rfl ?_)⟩
  · refine TAcons (WideElems.Trod_stays laidOut_ (by kernel_rfl) (of_decide_eq_true (by kernel_rfl)) t0 (fun x hx => hb.same (hlt x (by simp [hx]))) (fun x hx => hsp x (by simp [hx]))) ?_
    rfl
  · exact okBool Try.underlying4

theorem toptReads_holds : Rows.ToptReadsSaid :=
  OpenClaim.holds_of_wide 5 Try.f5 rfl rfl rfl rfl rfl rfl rfl ⟨rfl, rfl, rfl, rfl, rfl⟩ rfl rfl rfl rfl rfl (by kernel_rfl) Try.func5 (by kernel_rfl)
    (of_decide_eq_true (by kernel_rfl)) (by unfold Func.isWrapper; first | (rw [if_pos (by decide +kernel)]; kernel_rfl) | (rw [if_neg (by decide +kernel)]; exact ⟨rfl, rfl⟩))
    (fun os started H enc _ => toptReads_lifted os started H enc)

set_option maxRecDepth 100000 in
theorem toptPuts_lifted (os : Os) (started : os.Started) (H : Type) (enc : TypeId × Value → H) :
    ReturnsInHanded {} Try.checked os 3 .any (Rows.toptPutsSpec.pre6 enc Try.prog Try.f3 Rows.toptPutsRow.domain false) (Rows.toptPutsSpec.post enc Try.prog Try.f3 false true false false) := by
  refine returnsInHanded_of_change (C := Try.checked) own_ started (by kernel_rfl) Try.func3
    (ChangeSpec.witness6 (enc := enc) (C := Try.checked) false ⟨#[], #[(Value.slice none 0 0), (Value.int IntKind.u16 0)], []⟩ 8 (by kernel_rfl) (by kernel_rfl) (by kernel_rfl) (by kernel_rfl)) ?_
  intro W base args ds gs before hval0 hW hcnd _
  have hval : ∀ (j : Nat) t v, Try.f3.params[j]? = some t → args[j]? = some v → Value.okWide Try.prog W .any base t v := hval0
  have hW' := hW
  obtain ⟨p, q, hA0, hV, rfl, hfz, hnd⟩ := hW
  have hA : DataW.TrodAll enc Try.prog W 0 (fun _ => true) true Try.f3.params.toList args.toList ds p := hA0
  rw [Try.params3] at hA hval
  obtain ⟨args⟩ := args
  simp only at hA
  obtain ⟨v0, vs0, d0, ds0, p0, q0, e0a, e0b, e0c, t0, r0⟩ := trodAll_cons hA
  obtain ⟨v1, vs1, d1, ds1, p1, q1, e1a, e1b, e1c, t1, r1⟩ := trodAll_cons r0
  subst e0a e0b e0c
  subst e1a e1b e1c
  obtain ⟨rfl, rfl, rfl⟩ := trodAll_nil r1
  obtain ⟨rfl, rfl⟩ := trodVars_none hV
  have hlt := hW'.lt
  have k0 : Value.okWide Try.prog W .any base 22 v0 := hval 0 _ v0 rfl rfl
  obtain ⟨l, w0, hl⟩ := Dec.argS k0 t0 ((Dec.struct (t := 39) (.cons (off := 0) (sz := 1) (by rfl) (by kernel_rfl) (Dec.int (t := 5) (k := .u8)) (.cons (off := 1) (sz := 1) (by rfl) (by kernel_rfl) (Dec.slice (t := 25) (e := 5) (sz := 1) (Dec.int (t := 5) (k := .u8)) (by decide)) .nil)) (by kernel_rfl))) (by decide)
  have k1 : Value.okWide Try.prog W .any base 23 v1 := hval 1 _ v1 rfl rfl
  obtain ⟨n, w1, n_lo, n_hi⟩ := Dec.argI k1 t1
  have htri : Tri Try.prog W 3 [v0, v1] [] (fun v _ => v = .bool true) := by
    subst w0 w1
    exact puts_law W [] l.l hl.1 (fun x hx => by
      have h3 := hl.2.2.2.1 x hx
      exact ⟨h3.1, h3.2.1.src1, h3.2.1.2.1, h3.2.1.2.2.2.1⟩) hl.2.1 n ⟨n_lo, n_hi⟩
  clear w0 w1
  refine (htri.run W (Models.start W)).mono fun e W' ⟨v, h2, he, m2, hv⟩ => ?_
  subst he; subst hv
  have hb := m2.below
  refine ⟨_, rfl, post_of_below (pa := (p0 ++ (p1 ++ ([])))) (pv := []) hW' (fun _ _ _ => trodAll_mk1 (shut_bool (Try.underlying4) true)) (fun sp hsp => ?_) (fun _ _ => rfl) rfl hb (ok_one (t := 4) (by kernel_rfl) rfl ?_)⟩
  · refine TAcons (WideElems.Trod_stays laidOut_ (by kernel_rfl) (of_decide_eq_true (by kernel_rfl)) t0 (fun x hx => hb.same (hlt x (by simp [hx]))) (fun x hx => hsp x (by simp [hx]))) ?_
    refine TAcons (WideElems.Trod_stays laidOut_ (by kernel_rfl) (of_decide_eq_true (by kernel_rfl)) t1 (fun x hx => hb.same (hlt x (by simp [hx]))) (fun x hx => hsp x (by simp [hx]))) ?_
    rfl
  · exact okBool Try.underlying4

theorem toptPuts_holds : Rows.ToptPutsSaid :=
  OpenClaim.holds_of_wide 3 Try.f3 rfl rfl rfl rfl rfl rfl rfl ⟨rfl, rfl, rfl, rfl, rfl⟩ rfl rfl rfl rfl rfl (by kernel_rfl) Try.func3 (by kernel_rfl)
    (of_decide_eq_true (by kernel_rfl)) (by unfold Func.isWrapper; first | (rw [if_pos (by decide +kernel)]; kernel_rfl) | (rw [if_neg (by decide +kernel)]; exact ⟨rfl, rfl⟩))
    (fun os started H enc _ => toptPuts_lifted os started H enc)

set_option maxRecDepth 100000 in
theorem toptEnds_lifted (os : Os) (started : os.Started) (H : Type) (enc : TypeId × Value → H) :
    ReturnsInHanded {} Try.checked os 4 .any (Rows.toptEndsSpec.pre6 enc Try.prog Try.f4 Rows.toptEndsRow.domain false) (Rows.toptEndsSpec.post enc Try.prog Try.f4 false true false false) := by
  refine returnsInHanded_of_change (C := Try.checked) own_ started (by kernel_rfl) Try.func4
    (ChangeSpec.witness6 (enc := enc) (C := Try.checked) false ⟨#[], #[(Value.slice none 0 0), (Value.slice none 0 0)], []⟩ 8 (by kernel_rfl) (by kernel_rfl) (by kernel_rfl) (by kernel_rfl)) ?_
  intro W base args ds gs before hval0 hW hcnd _
  have hval : ∀ (j : Nat) t v, Try.f4.params[j]? = some t → args[j]? = some v → Value.okWide Try.prog W .any base t v := hval0
  have hW' := hW
  obtain ⟨p, q, hA0, hV, rfl, hfz, hnd⟩ := hW
  have hA : DataW.TrodAll enc Try.prog W 0 (fun _ => true) true Try.f4.params.toList args.toList ds p := hA0
  rw [Try.params4] at hA hval
  obtain ⟨args⟩ := args
  simp only at hA
  obtain ⟨v0, vs0, d0, ds0, p0, q0, e0a, e0b, e0c, t0, r0⟩ := trodAll_cons hA
  obtain ⟨v1, vs1, d1, ds1, p1, q1, e1a, e1b, e1c, t1, r1⟩ := trodAll_cons r0
  subst e0a e0b e0c
  subst e1a e1b e1c
  obtain ⟨rfl, rfl, rfl⟩ := trodAll_nil r1
  obtain ⟨rfl, rfl⟩ := trodVars_none hV
  have hlt := hW'.lt
  have k0 : Value.okWide Try.prog W .any base 22 v0 := hval 0 _ v0 rfl rfl
  obtain ⟨l, w0, hl⟩ := Dec.argS k0 t0 ((Dec.struct (t := 39) (.cons (off := 0) (sz := 1) (by rfl) (by kernel_rfl) (Dec.int (t := 5) (k := .u8)) (.cons (off := 1) (sz := 1) (by rfl) (by kernel_rfl) (Dec.slice (t := 25) (e := 5) (sz := 1) (Dec.int (t := 5) (k := .u8)) (by decide)) .nil)) (by kernel_rfl))) (by decide)
  have k1 : Value.okWide Try.prog W .any base 25 v1 := hval 1 _ v1 rfl rfl
  obtain ⟨z, w1, hz⟩ := Dec.argS k1 t1 ((Dec.int (t := 5) (k := .u8))) (by decide)
  have htri : Tri Try.prog W 4 [v0, v1] [] (fun v _ => v = .bool true) := by
    subst w0 w1
    exact ends_law W [] l.l hl.1 (fun x hx => by
      have h3 := hl.2.2.2.1 x hx
      exact ⟨h3.1, h3.2.1.src1, h3.2.1.2.1, h3.2.1.2.2.2.1⟩) hl.2.1 z.l hz.src1 hz.2.2.2.1 hz.2.1
  clear w0 w1
  refine (htri.run W (Models.start W)).mono fun e W' ⟨v, h2, he, m2, hv⟩ => ?_
  subst he; subst hv
  have hb := m2.below
  refine ⟨_, rfl, post_of_below (pa := (p0 ++ (p1 ++ ([])))) (pv := []) hW' (fun _ _ _ => trodAll_mk1 (shut_bool (Try.underlying4) true)) (fun sp hsp => ?_) (fun _ _ => rfl) rfl hb (ok_one (t := 4) (by kernel_rfl) rfl ?_)⟩
  · refine TAcons (WideElems.Trod_stays laidOut_ (by kernel_rfl) (of_decide_eq_true (by kernel_rfl)) t0 (fun x hx => hb.same (hlt x (by simp [hx]))) (fun x hx => hsp x (by simp [hx]))) ?_
    refine TAcons (WideElems.Trod_stays laidOut_ (by kernel_rfl) (of_decide_eq_true (by kernel_rfl)) t1 (fun x hx => hb.same (hlt x (by simp [hx]))) (fun x hx => hsp x (by simp [hx]))) ?_
    rfl
  · exact okBool Try.underlying4

theorem toptEnds_holds : Rows.ToptEndsSaid :=
  OpenClaim.holds_of_wide 4 Try.f4 rfl rfl rfl rfl rfl rfl rfl ⟨rfl, rfl, rfl, rfl, rfl⟩ rfl rfl rfl rfl rfl (by kernel_rfl) Try.func4 (by kernel_rfl)
    (of_decide_eq_true (by kernel_rfl)) (by unfold Func.isWrapper; first | (rw [if_pos (by decide +kernel)]; kernel_rfl) | (rw [if_neg (by decide +kernel)]; exact ⟨rfl, rfl⟩))
    (fun os started H enc _ => toptEnds_lifted os started H enc)

end Go.Proofs.Ytdnajbdnlcehgaa
