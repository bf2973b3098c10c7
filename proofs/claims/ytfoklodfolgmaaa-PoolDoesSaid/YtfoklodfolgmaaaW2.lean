/- Walks through the code: what each function that is named here gives back, from any memory that holds its arguments. Written by a program of the claim's author, out of the program's form in Lean. -/
import Derived.Test.YtfoklodfolgmaaaW1
set_option linter.unusedSimpArgs false
set_option linter.unusedVariables false
namespace Go.Proofs.Ytfoklodfolgmaaa
open Go.Sep Go.Sep.Pool Go.RowKit Go.WideShapes Go.ChangeShapes
theorem own_ : ownKnob Try.prog.godebug = none := by kernel_rfl
theorem laidOut_ : laidOutB Try.prog = true := by kernel_rfl

theorem lives_spec (B : World) (h : Own)  : Tri Try.prog B 11 [] h fun v h' => v = .bool true := by
  have e0 : (takeP (newP 2)).2 = (0, true) := by decide +kernel
  have e1 : (takeP (takeP (newP 2)).1).2 = (1, true) := by decide +kernel
  have e2 : (takeP (takeP (takeP (newP 2)).1).1).2 = (0, false) := by decide +kernel
  have e3 : (giveP (takeP (takeP (takeP (newP 2)).1).1).1 0).2 = true := by decide +kernel
  have e4 : freeP (giveP (takeP (takeP (takeP (newP 2)).1).1).1 0).1 = 1 := by decide +kernel
  have i0 : PI (newP 2) := pi_new 2
  have i1 : PI (takeP (newP 2)).1 := pi_take i0
  have i2 : PI (takeP (takeP (newP 2)).1).1 := pi_take i1
  have i3 : PI (takeP (takeP (takeP (newP 2)).1).1).1 := pi_take i2
  have i4 : PI (giveP (takeP (takeP (takeP (newP 2)).1).1).1 0).1 := pi_give i3 0
  refine Tri.enter (n := 49) Try.func11 rfl rfl rfl ?_
  try dsimp only [argsE]
  refine AK.seq ?_
  refine AK.region ?_
  refine AO.val (RV.assign rfl) (.none rfl) rfl ?_
  refine AO.nil ?_
  refine AK.seq ?_
  refine AK.region ?_
  refine AO.eff (EF.callF rfl (new_spec B _ 2)) (.none rfl) rfl ?_
  rintro _ _ ⟨p, qt, qb, rfl, rfl⟩
  refine AO.val (RV.assign rfl) (.none rfl) rfl ?_
  refine AO.nil ?_
  refine AK.seq ?_
  refine AK.region ?_
  refine AO.val (RV.move rfl) (.none rfl) rfl ?_
  refine AO.eff (EF.callF rfl (take_spec (Ab := none) (cb := 0) B _ p qb qt [] (newP 2).tk.length (newP 2) (List.replicate (newP 2).tk.length (none, 0, 0)) i0 (by decide +kernel) List.length_replicate .nil (Nat.le_refl 0))) (.none rfl) rfl ?_
  rintro _ _ ⟨rfl, A0, c0, q0, rfl, r0, d0⟩
  rw [e0]
  refine AO.val (RV.move rfl) (.none rfl) rfl ?_
  refine AO.val (RV.extract rfl rfl) (.none rfl) rfl ?_
  refine AO.val (RV.extract rfl rfl) (.none rfl) rfl ?_
  refine AO.val (RV.assign rfl) (.none rfl) rfl ?_
  refine AO.val (RV.assign rfl) (.none rfl) rfl ?_
  refine AO.nil ?_
  refine AK.seq ?_
  refine AK.region ?_
  refine AO.val (RV.move rfl) (.none rfl) rfl ?_
  refine AO.eff (EF.callF rfl (take_spec B _ p qb qt q0 (newP 2).tk.length (takeP (newP 2)).1 (List.replicate (newP 2).tk.length (none, 0, 0)) i1 (by decide +kernel) List.length_replicate r0 d0)) (.none rfl) rfl ?_
  rintro _ _ ⟨rfl, A1, c1, q1, rfl, r1, d1⟩
  rw [e1]
  refine AO.val (RV.move rfl) (.none rfl) rfl ?_
  refine AO.val (RV.extract rfl rfl) (.none rfl) rfl ?_
  refine AO.val (RV.extract rfl rfl) (.none rfl) rfl ?_
  refine AO.val (RV.assign rfl) (.none rfl) rfl ?_
  refine AO.val (RV.assign rfl) (.none rfl) rfl ?_
  refine AO.nil ?_
  refine AK.seq ?_
  refine AK.region ?_
  refine AO.val (RV.move rfl) (.none rfl) rfl ?_
  refine AO.eff (EF.callF rfl (take_spec B _ p qb qt q1 (newP 2).tk.length (takeP (takeP (newP 2)).1).1 (List.replicate (newP 2).tk.length (none, 0, 0)) i2 (by decide +kernel) List.length_replicate r1 d1)) (.none rfl) rfl ?_
  rintro _ _ ⟨rfl, A2, c2, q2, rfl, r2, d2⟩
  rw [e2]
  refine AO.val (RV.move rfl) (.none rfl) rfl ?_
  refine AO.val (RV.extract rfl rfl) (.none rfl) rfl ?_
  refine AO.val (RV.extract rfl rfl) (.none rfl) rfl ?_
  refine AO.val (RV.assign rfl) (.none rfl) rfl ?_
  refine AO.val (RV.assign rfl) (.none rfl) rfl ?_
  refine AO.nil ?_
  refine AK.seq ?_
  refine AK.region ?_
  refine AO.val (RV.move rfl) (.none rfl) rfl ?_
  refine AO.val ((RV.eql rfl rfl).to (v' := .bool true) (by simp)) (.none rfl) rfl ?_
  refine AO.val (RV.move rfl) (.none rfl) rfl ?_
  refine AO.val (RV.move rfl) (.some rfl rfl rfl rfl) rfl ?_
  refine AO.val (RV.pickT rfl rfl) (.none rfl) rfl ?_
  refine AO.val (RV.move rfl) (.none rfl) rfl ?_
  refine AO.val (RV.move rfl) (.some rfl rfl rfl rfl) rfl ?_
  refine AO.val ((RV.eql rfl rfl).to (v' := .bool true) (by simp)) (.some rfl rfl rfl rfl) rfl ?_
  refine AO.val (RV.pickT rfl rfl) (.none rfl) rfl ?_
  refine AO.val (RV.move rfl) (.none rfl) rfl ?_
  refine AO.val (RV.move rfl) (.some rfl rfl rfl rfl) rfl ?_
  refine AO.val (RV.pickT rfl rfl) (.none rfl) rfl ?_
  refine AO.val (RV.move rfl) (.none rfl) rfl ?_
  refine AO.val (RV.move rfl) (.some rfl rfl rfl rfl) rfl ?_
  refine AO.val (RV.not rfl) (.some rfl rfl rfl rfl) rfl ?_
  refine AO.val (RV.pickT rfl rfl) (.none rfl) rfl ?_
  refine AO.val (RV.move rfl) (.none rfl) rfl ?_
  refine AO.val (RV.move rfl) (.some rfl rfl rfl rfl) rfl ?_
  refine AO.eff (EF.callF rfl (give_spec B _ p qb qt q2 (newP 2).tk.length (takeP (takeP (takeP (newP 2)).1).1).1 (List.replicate (newP 2).tk.length (none, 0, 0)) i3 (by decide +kernel) List.length_replicate r2 d2 0)) (.some rfl rfl rfl rfl) rfl ?_
  rintro _ _ ⟨rfl, bs4, hb4, A3, c3, q3, rfl, r3, d3⟩
  rw [e3]
  refine AO.val (RV.pickT rfl rfl) (.none rfl) rfl ?_
  refine AO.val (RV.move rfl) (.none rfl) rfl ?_
  refine AO.val (RV.move rfl) (.some rfl rfl rfl rfl) rfl ?_
  refine AO.eff (EF.callF rfl (free_spec B _ p qb qt q3 (newP 2).tk.length (giveP (takeP (takeP (takeP (newP 2)).1).1).1 0).1 bs4 i4 (by decide +kernel) hb4 r3 d3)) (.some rfl rfl rfl rfl) rfl ?_
  rintro _ _ ⟨rfl, rfl⟩
  rw [e4]
  refine AO.val ((RV.eql rfl rfl).to (v' := .bool true) (by simp)) (.some rfl rfl rfl rfl) rfl ?_
  refine AO.val (RV.pickT rfl rfl) (.none rfl) rfl ?_
  refine AO.val (RV.assign rfl) (.none rfl) rfl ?_
  refine AO.nil ?_
  -- at 
  refine AK.ret (h' := []) Try.func11 (.tmp rfl .nil) ?_ (List.nil_sublist _)
  rfl

theorem apart_law (B : World) (n : Int) {A : Option Addr} {cap : Nat} (l : List Deed) (hcap : l.length ≤ cap) (hln : l.length ≤ 9223372036854775807) (hl : Src B [] A l.length 3 (flat encD l)) : Tri Try.prog B 3 [.int .i64 n, .slice A l.length cap] [] fun v h' => v = .bool true := by
  refine Tri.enter (n := 96) Try.func3 rfl rfl rfl ?_
  simp only [argsE, Nat.reduceAdd]
  try dsimp only [argsE]
  refine AK.seq ?_
  refine AK.region ?_
  refine AO.val (RV.assign rfl) (.none rfl) rfl ?_
  refine AO.nil ?_
  refine AK.seq ?_
  refine AK.region ?_
  refine AO.val (RV.move rfl) (.none rfl) rfl ?_
  refine AO.eff (EF.callF rfl (new_spec B _ n)) (.none rfl) rfl ?_
  rintro _ _ ⟨p, qt, qb, rfl, rfl⟩
  refine AO.val (RV.assign rfl) (.none rfl) rfl ?_
  refine AO.nil ?_
  refine AK.seq ?_
  refine AK.seq ?_
  refine AK.region ?_
  refine AO.val (RV.move rfl) (.none rfl) rfl ?_
  refine AO.val (RV.eqlP rfl rfl) (.none rfl) rfl ?_
  refine AO.nil ?_
  refine AK.condF rfl ?_
  refine AK.skip ?_
  refine AK.seq ?_
  refine AK.region ?_
  refine AO.eff (EF.makeMap (α := Bool) .i64 (Value.bool)) (.none rfl) rfl ?_
  rintro _ _ ⟨b14, hf14, rfl, rfl⟩
  refine AO.val (RV.assign rfl) (.none rfl) rfl ?_
  refine AO.nil ?_
  refine AK.seq ?_
  refine AK.seq ?_
  refine AK.region ?_
  refine AO.val (RV.assign rfl) (.none rfl) rfl ?_
  refine AO.nil ?_
  refine AK.block ?_
  refine AK.perm (h' := [(p, _), (qt, _), (qb, _), (b14, _)]) (by exact (List.perm_append_comm (l₁ := [_]) (l₂ := [_, _, _]))) ?_
  refine AK.loop (α := Int × PS × List Sl × Option Addr × Nat × Own × List (Ent Bool) × Nat) (E := fun (i, s, bs, Ab, cb, pb, o, c) => [(1, .slice A l.length cap), (5, .pointer (some ⟨p, 0, none⟩)), (6, .map (some b14)), (7, .int .i64 i)]) (H := fun (i, s, bs, Ab, cb, pb, o, c) => pb ++ ((p, Blk.cells [.slice (some ⟨qb, 0, none⟩) (newP n).tk.length (newP n).tk.length, .slice (some ⟨qt, 0, none⟩) (newP n).tk.length (newP n).tk.length, .slice Ab (s).back.length cb, .int .i64 (s).fresh] 48 (0, 0)) :: (qt, Blk.cells (flat encBo (s).tk) 4 (0, 0)) :: (qb, Blk.cells (flat encSl (bs)) 26 (0, 0)) :: [(b14, mapB .i64 Value.bool o c)])) (Inv := fun (i, s, bs, Ab, cb, pb, o, c) => 0 ≤ i ∧ i ≤ l.length ∧ PI s ∧ s.tk.length = (newP n).tk.length ∧ bs.length = (newP n).tk.length ∧ Row 3 1 (.slice Ab (s).back.length cb) (s).back.length ((s).back.map I64) pb ∧ s.back.length ≤ cb ∧ OI s o) (μ := fun (i, s, bs, Ab, cb, pb, o, c) => (l.length - i).toNat) (0, newP n, List.replicate (newP n).tk.length (none, 0, 0), none, 0, [], [], 0) ?_ (.cons (by exact rfl) (.cons (by exact rfl) (.cons (by exact rfl) (.cons (by exact rfl) .nil)))) ?_ ?_
  · exact ⟨by omega, by omega, pi_new n, rfl, List.length_replicate, .nil, Nat.le_refl 0, oi_new n⟩
  · exact List.Sublist.refl _
  rintro ⟨i, s, bs, Ab, cb, pb, o, c⟩ ⟨hi0, hin, pi, hL, hbl, hr, hcb, oi⟩ hih0
  try dsimp only at hih0 ⊢
  have hN : s.N = (newP n).tk.length := by rw [← hL]; rfl
  have hnn := pi.n
  have hff := pi.f
  have hbk := back_len pi
  rw [hN] at hnn hff
  have hol := oi.ln
  have hct := pi.ct
  have hfr : freeP s = (newP n).tk.length - (s.fresh - s.back.length) := by unfold freeP; rw [hN]; omega
  refine AK.seq ?_
  refine AK.seq ?_
  refine AK.region ?_
  refine AO.val (RV.move rfl) (.none rfl) rfl ?_
  refine AO.val (RV.move rfl) (.none rfl) rfl ?_
  refine AO.val (RV.lenS rfl) (.none rfl) rfl ?_
  refine AO.val (RV.lss rfl rfl) (.none rfl) rfl ?_
  refine AO.val (RV.move rfl) (.none rfl) rfl ?_
  refine AO.caseG rfl rfl rfl ?_ ?_
  · intro hg1
    try simp only [decide_eq_true_eq, decide_eq_false_iff_not, Bool.not_eq_true', Bool.not_eq_false', beq_iff_eq] at hg1
    refine AO.val (RV.move rfl) (.some rfl rfl rfl rfl) rfl ?_
    refine AO.val (RV.lss rfl rfl) (.some rfl rfl rfl rfl) rfl ?_
    refine AO.val (RV.pickT rfl rfl) (.none rfl) rfl ?_
    refine AO.nil ?_
    refine AK.cond rfl ?_ ?_
    · intro hc2
      try simp only [decide_eq_true_eq, decide_eq_false_iff_not, Bool.not_eq_true', Bool.not_eq_false', beq_iff_eq] at hc2
      refine AK.skip ?_
      refine AK.seq ?_
      refine AK.block ?_
      refine AK.seq ?_
      refine AK.seq ?_
      refine AK.region ?_
      refine AO.val (RV.move rfl) (.none rfl) rfl ?_
      refine AO.val (RV.move rfl) (.none rfl) rfl ?_
      refine AO.val (by first | exact RV.indexS rfl rfl (by assumption) (by omega) rfl | exact RV.indexAddr rfl rfl (by omega)) (.none rfl) rfl ?_
      refine AO.val (by first | exact RV.fieldAddr rfl | exact RV.fieldAddrA rfl) (.none rfl) rfl ?_
      refine AO.val (by first | exact RV.loadO rfl rfl (by simp) | exact RV.loadSF rfl (by assumption) (fun _ => rfl) (by omega) rfl rfl (by simp) | exact RV.loadS rfl (by assumption) (by omega) (by simp)) (.none rfl) rfl ?_
      refine AO.val (RV.eql rfl rfl) (.none rfl) rfl ?_
      refine AO.nil ?_
      refine AK.cut (α := PS × List Sl × Option Addr × Nat × Own × List (Ent Bool) × Nat) (E := fun (s, bs, Ab, cb, pb, o, c) => [(1, .slice A l.length cap), (5, .pointer (some ⟨p, 0, none⟩)), (6, .map (some b14)), (7, .int .i64 i)]) (H := fun (s, bs, Ab, cb, pb, o, c) => pb ++ ((p, Blk.cells [.slice (some ⟨qb, 0, none⟩) (newP n).tk.length (newP n).tk.length, .slice (some ⟨qt, 0, none⟩) (newP n).tk.length (newP n).tk.length, .slice Ab (s).back.length cb, .int .i64 (s).fresh] 48 (0, 0)) :: (qt, Blk.cells (flat encBo (s).tk) 4 (0, 0)) :: (qb, Blk.cells (flat encSl (bs)) 26 (0, 0)) :: [(b14, mapB .i64 Value.bool o c)])) (Inv := fun (s, bs, Ab, cb, pb, o, c) => PI s ∧ s.tk.length = (newP n).tk.length ∧ bs.length = (newP n).tk.length ∧ Row 3 1 (.slice Ab (s).back.length cb) (s).back.length ((s).back.map I64) pb ∧ s.back.length ≤ cb ∧ OI s o) ?_ ?_
      · rintro ⟨s, bs, Ab, cb, pb, o, c⟩ ⟨pi, hL, hbl, hr, hcb, oi⟩
        try dsimp only
        clear hN hnn hff hbk hol hct hfr
        have hN : s.N = (newP n).tk.length := by rw [← hL]; rfl
        have hnn := pi.n
        have hff := pi.f
        have hbk := back_len pi
        rw [hN] at hnn hff
        have hol := oi.ln
        have hct := pi.ct
        have hfr : freeP s = (newP n).tk.length - (s.fresh - s.back.length) := by unfold freeP; rw [hN]; omega
        refine AK.seq ?_
        refine AK.region ?_
        refine AO.val (RV.move rfl) (.none rfl) rfl ?_
        refine AO.eff (EF.callF rfl (free_spec B _ p qb qt pb (newP n).tk.length s bs pi hL hbl hr hcb)) (.none rfl) rfl ?_
        rintro _ _ ⟨rfl, rfl⟩
        refine AO.val (RV.move rfl) (.none rfl) rfl ?_
        refine AO.eff (EF.callF rfl (size_spec B _ p qb qt pb (newP n).tk.length s bs pi hL hbl hr hcb)) (.none rfl) rfl ?_
        rintro _ _ ⟨rfl, rfl⟩
        refine AO.val (RV.move rfl) (.none rfl) rfl ?_
        refine AO.val (RV.lenM rfl (by simp)) (.none rfl) rfl ?_
        refine AO.val (by first | exact RV.subIn rfl rfl (by omega) | exact RV.sub rfl rfl) (.none rfl) rfl ?_
        refine AO.val ((RV.neq rfl rfl).to (v' := .bool false) (by simp; omega)) (.none rfl) rfl ?_
        refine AO.nil ?_
        refine AK.condF rfl ?_
        refine AK.skip ?_
        refine AK.inBlock ?_
        refine AK.region ?_
        refine AO.val (RV.move rfl) (.none rfl) rfl ?_
        refine AO.val (by first | exact RV.addIn rfl rfl (by omega) | exact RV.add rfl rfl) (.none rfl) rfl ?_
        refine AO.val (RV.assign rfl) (.none rfl) rfl ?_
        refine AO.nil ?_
        -- round ends at L0tTJc2
        refine AK.weak (.cons (by exact rfl) (.cons (by exact rfl) (.cons (by exact rfl) (.cons (by exact rfl) .nil)))) (by first | exact SubO.sub | exact List.Sublist.refl _ | exact .cons _ (List.Sublist.refl _) | exact .cons _ (.cons _ (List.Sublist.refl _)) | exact .cons _ (.cons _ (.cons _ (List.Sublist.refl _)))) (hih0 (i + 1, s, bs, Ab, cb, pb, o, c) ?_ ?_)
        · try dsimp only
          exact ⟨by omega, by omega, pi, hL, hbl, hr, hcb, oi⟩
        · try dsimp only
          omega
      · intro hjc2
        try dsimp only at hjc2
        refine AK.cond rfl ?_ ?_
        · intro hc3
          try simp only [decide_eq_true_eq, decide_eq_false_iff_not, Bool.not_eq_true', Bool.not_eq_false', beq_iff_eq] at hc3
          refine AK.seq ?_
          refine AK.region ?_
          refine AO.val (RV.move rfl) (.none rfl) rfl ?_
          refine AO.eff (EF.callF rfl (take_spec B _ p qb qt pb (newP n).tk.length s bs pi hL hbl hr hcb)) (.none rfl) rfl ?_
          rintro _ _ ⟨rfl, Ab', cb', pb', rfl, hr', hcb'⟩
          refine AO.val (RV.move rfl) (.none rfl) rfl ?_
          refine AO.val (RV.extract rfl rfl) (.none rfl) rfl ?_
          refine AO.val (RV.extract rfl rfl) (.none rfl) rfl ?_
          refine AO.val (RV.assign rfl) (.none rfl) rfl ?_
          refine AO.val (RV.assign rfl) (.none rfl) rfl ?_
          refine AO.nil ?_
          refine AK.seq ?_
          refine AK.seq ?_
          refine AK.region ?_
          refine AO.val (RV.move rfl) (.none rfl) rfl ?_
          refine AO.val (RV.move rfl) (.none rfl) rfl ?_
          refine AO.caseG rfl rfl rfl ?_ ?_
          · intro hg4
            try simp only [decide_eq_true_eq, decide_eq_false_iff_not, Bool.not_eq_true', Bool.not_eq_false', beq_iff_eq] at hg4
            have htk := hg4
            have hti := took_in pi htk
            rw [hN] at hti
            refine AO.val (RV.move rfl) (.some rfl rfl rfl rfl) rfl ?_
            refine AO.val (RV.move rfl) (.some rfl rfl rfl rfl) rfl ?_
            refine AO.val ((RV.lookup false rfl rfl rfl (by simp)).to (v' := .bool false) (by rw [oi.fd, show hasP s (takeP s).2.1 = false from hti.2.2]; rfl)) (.some rfl rfl rfl rfl) rfl ?_
            refine AO.val (RV.move rfl) (.some rfl rfl rfl rfl) rfl ?_
            refine AO.val (RV.move rfl) (.some rfl rfl rfl rfl) rfl ?_
            refine AO.val ((RV.lss rfl rfl).to (v' := .bool false) (by simp; omega)) (.some rfl rfl rfl rfl) rfl ?_
            refine AO.val (RV.pickF rfl rfl) (.some rfl rfl rfl rfl) rfl ?_
            refine AO.val (RV.move rfl) (.some rfl rfl rfl rfl) rfl ?_
            refine AO.val (RV.move rfl) (.some rfl rfl rfl rfl) rfl ?_
            refine AO.val (RV.move rfl) (.some rfl rfl rfl rfl) rfl ?_
            refine AO.eff (EF.callF rfl (size_spec B _ p qb qt pb' (newP n).tk.length (takeP s).1 bs (pi_take pi) ((len_take s).trans hL) hbl hr' hcb')) (.some rfl rfl rfl rfl) rfl ?_
            rintro _ _ ⟨rfl, rfl⟩
            refine AO.val ((RV.geq rfl rfl).to (v' := .bool false) (by simp; omega)) (.some rfl rfl rfl rfl) rfl ?_
            refine AO.val (RV.pickF rfl rfl) (.some rfl rfl rfl rfl) rfl ?_
            refine AO.val (RV.pickT rfl rfl) (.none rfl) rfl ?_
            refine AO.val (RV.move rfl) (.none rfl) rfl ?_
            refine AO.val ((RV.move rfl).to (v' := .bool true) (by rw [htk])) (.some rfl rfl rfl rfl) rfl ?_
            refine AO.val (RV.not rfl) (.some rfl rfl rfl rfl) rfl ?_
            refine AO.val (RV.move rfl) (.some rfl rfl rfl rfl) rfl ?_
            refine AO.pass (.some rfl rfl rfl rfl) rfl ?_
            refine AO.pass (.some rfl rfl rfl rfl) rfl ?_
            refine AO.pass (.some rfl rfl rfl rfl) rfl ?_
            refine AO.pass (.some rfl rfl rfl rfl) rfl ?_
            refine AO.pass (.some rfl rfl rfl rfl) rfl ?_
            refine AO.val (RV.pickF rfl rfl) (.some rfl rfl rfl rfl) rfl ?_
            refine AO.val (RV.pickF rfl rfl) (.none rfl) rfl ?_
            refine AO.nil ?_
            refine AK.condF rfl ?_
            refine AK.skip ?_
            refine AK.seq ?_
            refine AK.region ?_
            refine AO.val ((RV.move rfl).to (v' := .bool true) (by rw [htk])) (.none rfl) rfl ?_
            refine AO.nil ?_
            refine AK.condT rfl ?_
            refine AK.region ?_
            refine AO.val (RV.move rfl) (.none rfl) rfl ?_
            refine AO.val (RV.move rfl) (.none rfl) rfl ?_
            refine AO.effN (EF.mapUpdate (_) rfl rfl rfl) (.none rfl) ?_
            rintro _ _ rfl
            refine AO.nil ?_
            -- ways meet at L0tTTt
            refine AK.weak (.cons (by exact rfl) (.cons (by exact rfl) (.cons (by exact rfl) (.cons (by exact rfl) .nil)))) (by first | exact SubO.sub | exact List.Sublist.refl _ | exact .cons _ (List.Sublist.refl _) | exact .cons _ (.cons _ (List.Sublist.refl _)) | exact .cons _ (.cons _ (.cons _ (List.Sublist.refl _)))) (hjc2 ((takeP s).1, bs, Ab', cb', pb', updT o c (takeP s).2.1 true, clkT o c (takeP s).2.1) ?_)
            · try dsimp only
              exact ⟨pi_take pi, (len_take s).trans hL, hbl, hr', hcb', oi_took pi oi c htk⟩
          · intro hg4
            try simp only [decide_eq_true_eq, decide_eq_false_iff_not, Bool.not_eq_true', Bool.not_eq_false', beq_iff_eq] at hg4
            have htk := hg4
            refine AO.pass (.some rfl rfl rfl rfl) rfl ?_
            refine AO.pass (.some rfl rfl rfl rfl) rfl ?_
            refine AO.pass (.some rfl rfl rfl rfl) rfl ?_
            refine AO.pass (.some rfl rfl rfl rfl) rfl ?_
            refine AO.pass (.undef rfl rfl rfl) rfl ?_
            refine AO.pass (.undef rfl rfl rfl) rfl ?_
            refine AO.pass (.some rfl rfl rfl rfl) rfl ?_
            refine AO.pass (.some rfl rfl rfl rfl) rfl ?_
            refine AO.pass (.undef rfl rfl rfl) rfl ?_
            refine AO.pass (.undef rfl rfl rfl) rfl ?_
            refine AO.pass (.undef rfl rfl rfl) rfl ?_
            refine AO.pass (.undef rfl rfl rfl) rfl ?_
            refine AO.pass (.some rfl rfl rfl rfl) rfl ?_
            refine AO.val (RV.pickF rfl rfl) (.none rfl) rfl ?_
            refine AO.val (RV.move rfl) (.none rfl) rfl ?_
            refine AO.val ((RV.move rfl).to (v' := .bool false) (by rw [htk])) (.some rfl rfl rfl rfl) rfl ?_
            refine AO.val (RV.not rfl) (.some rfl rfl rfl rfl) rfl ?_
            refine AO.val (RV.move rfl) (.some rfl rfl rfl rfl) rfl ?_
            refine AO.val (RV.move rfl) (.some rfl rfl rfl rfl) rfl ?_
            refine AO.val (RV.lenM rfl (by simp)) (.some rfl rfl rfl rfl) rfl ?_
            refine AO.val (RV.move rfl) (.some rfl rfl rfl rfl) rfl ?_
            refine AO.eff (EF.callF rfl (size_spec B _ p qb qt pb' (newP n).tk.length (takeP s).1 bs (pi_take pi) ((len_take s).trans hL) hbl hr' hcb')) (.some rfl rfl rfl rfl) rfl ?_
            rintro _ _ ⟨rfl, rfl⟩
            refine AO.val ((RV.neq rfl rfl).to (v' := .bool false) (by have h0 := took_none2 htk; simp; omega)) (.some rfl rfl rfl rfl) rfl ?_
            refine AO.val (RV.pickT rfl rfl) (.some rfl rfl rfl rfl) rfl ?_
            refine AO.val (RV.pickF rfl rfl) (.none rfl) rfl ?_
            refine AO.nil ?_
            refine AK.condF rfl ?_
            refine AK.skip ?_
            refine AK.seq ?_
            refine AK.region ?_
            refine AO.val ((RV.move rfl).to (v' := .bool false) (by rw [htk])) (.none rfl) rfl ?_
            refine AO.nil ?_
            refine AK.condF rfl ?_
            refine AK.skip ?_
            -- ways meet at L0tTTf
            refine AK.weak (.cons (by exact rfl) (.cons (by exact rfl) (.cons (by exact rfl) (.cons (by exact rfl) .nil)))) (by first | exact SubO.sub | exact List.Sublist.refl _ | exact .cons _ (List.Sublist.refl _) | exact .cons _ (.cons _ (List.Sublist.refl _)) | exact .cons _ (.cons _ (.cons _ (List.Sublist.refl _)))) (hjc2 ((takeP s).1, bs, Ab', cb', pb', o, c) ?_)
            · try dsimp only
              exact ⟨pi_take pi, (len_take s).trans hL, hbl, hr', hcb', by rw [took_none htk]; exact oi⟩
        · intro hc3
          try simp only [decide_eq_true_eq, decide_eq_false_iff_not, Bool.not_eq_true', Bool.not_eq_false', beq_iff_eq] at hc3
          refine AK.seq ?_
          refine AK.seq ?_
          refine AK.draw [] [6, 13] mixed ?_
          refine AD.takeP 0 rfl (by kernel_rfl) (RV.move rfl) (.none rfl) rfl ?_
          refine AD.takeP 1 rfl (by kernel_rfl) (RV.move rfl) (.none rfl) rfl ?_
          refine AD.takeP 2 rfl (by kernel_rfl) (RV.move rfl) (.none rfl) rfl ?_
          refine AD.takeP 3 rfl (by kernel_rfl) (by first | exact RV.indexS rfl rfl (by assumption) (by omega) rfl | exact RV.indexAddr rfl rfl (by omega)) (.none rfl) rfl ?_
          refine AD.takeP 4 rfl (by kernel_rfl) (by first | exact RV.fieldAddr rfl | exact RV.fieldAddrA rfl) (.none rfl) rfl ?_
          refine AD.takeP 5 rfl (by kernel_rfl) (by first | exact RV.loadO rfl rfl (by simp) | exact RV.loadSF rfl (by assumption) (fun _ => rfl) (by omega) rfl rfl (by simp) | exact RV.loadS rfl (by assumption) (by omega) (by simp)) (.none rfl) rfl ?_
          refine AD.takeP 7 rfl (by kernel_rfl) (RV.move rfl) (.none rfl) rfl ?_
          refine AD.takeP 8 rfl (by kernel_rfl) (RV.move rfl) (.none rfl) rfl ?_
          refine AD.takeP 9 rfl (by kernel_rfl) (RV.move rfl) (.none rfl) rfl ?_
          refine AD.takeP 10 rfl (by kernel_rfl) (by first | exact RV.indexS rfl rfl (by assumption) (by omega) rfl | exact RV.indexAddr rfl rfl (by omega)) (.none rfl) rfl ?_
          refine AD.takeP 11 rfl (by kernel_rfl) (by first | exact RV.fieldAddr rfl | exact RV.fieldAddrA rfl) (.none rfl) rfl ?_
          refine AD.takeP 12 rfl (by kernel_rfl) (by first | exact RV.loadO rfl rfl (by simp) | exact RV.loadSF rfl (by assumption) (fun _ => rfl) (by omega) rfl rfl (by simp) | exact RV.loadS rfl (by assumption) (by omega) (by simp)) (.none rfl) rfl ?_
          refine AD.many (i := 6) (l := [13]) (by kernel_rfl) (.cons ?_ (.cons ?_ (.nil)))
          · skip
            refine AE.eff rfl (EF.callF rfl (give_spec B _ p qb qt pb (newP n).tk.length s bs pi hL hbl hr hcb (lget l i).2.1)) (.none rfl) rfl ?_
            rintro _ _ ⟨rfl, bs', hbl', Ab', cb', pb', rfl, hr', hcb'⟩
            refine ⟨.inl (by kernel_rfl), ?_⟩
            refine AD.one 13 (by kernel_rfl) (AE.eff rfl (EF.of_val ((RV.lookup false rfl rfl rfl (by simp)).to (v' := .bool (giveP s (lget l i).2.1).2) (by rw [oi.fd, give_has]; cases hasP s (lget l i).2.1 <;> rfl))) (.none rfl) rfl ?_)
            rintro _ _ ⟨rfl, rfl⟩
            refine ⟨.inl (by kernel_rfl), ?_⟩
            refine AD.takeP 14 rfl (by kernel_rfl) ((RV.neqB rfl rfl).to (v' := .bool false) (by simp)) (.none rfl) rfl ?_
            refine AD.done (by kernel_rfl) ?_
            refine AK.condF rfl ?_
            refine AK.skip ?_
            refine AK.region ?_
            refine AO.val (RV.move rfl) (.none rfl) rfl ?_
            refine AO.val (RV.move rfl) (.none rfl) rfl ?_
            refine AO.val (RV.move rfl) (.none rfl) rfl ?_
            refine AO.val (by first | exact RV.indexS rfl rfl (by assumption) (by omega) rfl | exact RV.indexAddr rfl rfl (by omega)) (.none rfl) rfl ?_
            refine AO.val (by first | exact RV.fieldAddr rfl | exact RV.fieldAddrA rfl) (.none rfl) rfl ?_
            refine AO.val (by first | exact RV.loadO rfl rfl (by simp) | exact RV.loadSF rfl (by assumption) (fun _ => rfl) (by omega) rfl rfl (by simp) | exact RV.loadS rfl (by assumption) (by omega) (by simp)) (.none rfl) rfl ?_
            refine AO.effN (EF.delete (false) rfl rfl) (.none rfl) ?_
            rintro _ _ ⟨rfl, rfl⟩
            refine AO.nil ?_
            -- ways meet at L0tTF
            refine AK.weak (.cons (by exact rfl) (.cons (by exact rfl) (.cons (by exact rfl) (.cons (by exact rfl) .nil)))) (by first | exact SubO.sub | exact List.Sublist.refl _ | exact .cons _ (List.Sublist.refl _) | exact .cons _ (.cons _ (List.Sublist.refl _)) | exact .cons _ (.cons _ (.cons _ (List.Sublist.refl _)))) (hjc2 ((giveP s (lget l i).2.1).1, bs', Ab', cb', pb', delT o (lget l i).2.1, c) ?_)
            · try dsimp only
              exact ⟨pi_give pi _, (len_give s _).trans hL, hbl', hr', hcb', oi_gave oi _⟩
          · skip
            refine AE.eff rfl (EF.of_val ((RV.lookup false rfl rfl rfl (by simp)).to (v' := .bool (giveP s (lget l i).2.1).2) (by rw [oi.fd, give_has]; cases hasP s (lget l i).2.1 <;> rfl))) (.none rfl) rfl ?_
            rintro _ _ ⟨rfl, rfl⟩
            refine ⟨.inl (by kernel_rfl), ?_⟩
            refine AD.one 6 (by kernel_rfl) (AE.eff rfl (EF.callF rfl (give_spec B _ p qb qt pb (newP n).tk.length s bs pi hL hbl hr hcb (lget l i).2.1)) (.none rfl) rfl ?_)
            rintro _ _ ⟨rfl, bs', hbl', Ab', cb', pb', rfl, hr', hcb'⟩
            refine ⟨.inl (by kernel_rfl), ?_⟩
            refine AD.takeP 14 rfl (by kernel_rfl) ((RV.neqB rfl rfl).to (v' := .bool false) (by simp)) (.none rfl) rfl ?_
            refine AD.done (by kernel_rfl) ?_
            refine AK.condF rfl ?_
            refine AK.skip ?_
            refine AK.region ?_
            refine AO.val (RV.move rfl) (.none rfl) rfl ?_
            refine AO.val (RV.move rfl) (.none rfl) rfl ?_
            refine AO.val (RV.move rfl) (.none rfl) rfl ?_
            refine AO.val (by first | exact RV.indexS rfl rfl (by assumption) (by omega) rfl | exact RV.indexAddr rfl rfl (by omega)) (.none rfl) rfl ?_
            refine AO.val (by first | exact RV.fieldAddr rfl | exact RV.fieldAddrA rfl) (.none rfl) rfl ?_
            refine AO.val (by first | exact RV.loadO rfl rfl (by simp) | exact RV.loadSF rfl (by assumption) (fun _ => rfl) (by omega) rfl rfl (by simp) | exact RV.loadS rfl (by assumption) (by omega) (by simp)) (.none rfl) rfl ?_
            refine AO.effN (EF.delete (false) rfl rfl) (.none rfl) ?_
            rintro _ _ ⟨rfl, rfl⟩
            refine AO.nil ?_
            -- ways meet at L0tTF
            refine AK.weak (.cons (by exact rfl) (.cons (by exact rfl) (.cons (by exact rfl) (.cons (by exact rfl) .nil)))) (by first | exact SubO.sub | exact List.Sublist.refl _ | exact .cons _ (List.Sublist.refl _) | exact .cons _ (.cons _ (List.Sublist.refl _)) | exact .cons _ (.cons _ (.cons _ (List.Sublist.refl _)))) (hjc2 ((giveP s (lget l i).2.1).1, bs', Ab', cb', pb', delT o (lget l i).2.1, c) ?_)
            · try dsimp only
              exact ⟨pi_give pi _, (len_give s _).trans hL, hbl', hr', hcb', oi_gave oi _⟩
    · intro hc2
      try simp only [decide_eq_true_eq, decide_eq_false_iff_not, Bool.not_eq_true', Bool.not_eq_false', beq_iff_eq] at hc2
      refine AK.exit rfl ?_
      refine AK.seq ?_
      refine AK.region ?_
      refine AO.eff (EF.callF rfl (lives_spec B _)) (.none rfl) rfl ?_
      rintro _ _ rfl
      refine AO.val (RV.assign rfl) (.none rfl) rfl ?_
      refine AO.nil ?_
      -- at L0tF
      clear hih0
      refine AK.ret (h' := []) Try.func3 (.tmp rfl .nil) ?_ (List.nil_sublist _)
      rfl
  · intro hg1
    try simp only [decide_eq_true_eq, decide_eq_false_iff_not, Bool.not_eq_true', Bool.not_eq_false', beq_iff_eq] at hg1
    refine AO.pass (.some rfl rfl rfl rfl) rfl ?_
    refine AO.pass (.some rfl rfl rfl rfl) rfl ?_
    refine AO.val (RV.pickF rfl rfl) (.none rfl) rfl ?_
    refine AO.nil ?_
    refine AK.condF rfl ?_
    refine AK.exit rfl ?_
    refine AK.seq ?_
    refine AK.region ?_
    refine AO.eff (EF.callF rfl (lives_spec B _)) (.none rfl) rfl ?_
    rintro _ _ rfl
    refine AO.val (RV.assign rfl) (.none rfl) rfl ?_
    refine AO.nil ?_
    -- at L0f
    clear hih0
    refine AK.ret (h' := []) Try.func3 (.tmp rfl .nil) ?_ (List.nil_sublist _)
    rfl

set_option maxRecDepth 100000 in
theorem poolApart_lifted (os : Os) (started : os.Started) (H : Type) (enc : TypeId × Value → H) :
    ReturnsInHanded {} Try.checked os 3 .any (Rows.poolApartSpec.pre6 enc Try.prog Try.f3 Rows.poolApartRow.domain false) (Rows.poolApartSpec.post enc Try.prog Try.f3 false true false false) := by
  refine returnsInHanded_of_change (C := Try.checked) own_ started (by kernel_rfl) Try.func3
    (ChangeSpec.witness6 (enc := enc) (C := Try.checked) false ⟨#[], #[(Value.int IntKind.i64 0), (Value.slice none 0 0)], []⟩ 8 (by kernel_rfl) (by kernel_rfl) (by kernel_rfl) (by kernel_rfl)) ?_
  intro W base args ds gs before hval0 hW hcnd _
  have hval : ∀ (j : Nat) t v, Try.f3.params[j]? = some t → args[j]? = some v → Value.okWide Try.prog W .any base t v := hval0
  have hW' := hW
  obtain ⟨p, q, hA0, hV, rfl, hfz, hnd⟩ := hW
  have hA : DataW.TrodAll enc Try.prog W 0 (fun _ => true) true Try.f3.params.toList args.toList ds p := hA0
  rw [Try.params3] at hA hval
  obtain ⟨args⟩ := args
  simp only at hA
  obtain ⟨v0, vs0, d0, ds0, p0, q0, e0a, e0b, e0c, t0, r0⟩ := trodAll_cons hA
  obtain ⟨v1, vs1, d1, ds1, p1, q1, e1a, e1b, e1c, t1, r1⟩ := trodAll_cons r0
  subst e0a e0b e0c
  subst e1a e1b e1c
  obtain ⟨rfl, rfl, rfl⟩ := trodAll_nil r1
  obtain ⟨rfl, rfl⟩ := trodVars_none hV
  have hlt := hW'.lt
  have k0 : Value.okWide Try.prog W .any base 3 v0 := hval 0 _ v0 rfl rfl
  obtain ⟨n, w0, n_lo, n_hi⟩ := Dec.argI k0 t0
  have k1 : Value.okWide Try.prog W .any base 22 v1 := hval 1 _ v1 rfl rfl
  obtain ⟨l, w1, hl⟩ := Dec.argS k1 t1 ((Dec.struct (t := 28) (.cons (off := 0) (sz := 1) (by rfl) (by kernel_rfl) (Dec.int (t := 3) (k := .i64)) (.cons (off := 1) (sz := 1) (by rfl) (by kernel_rfl) (Dec.int (t := 3) (k := .i64)) (.cons (off := 2) (sz := 1) (by rfl) (by kernel_rfl) (Dec.slice (t := 26) (e := 5) (sz := 1) (Dec.int (t := 5) (k := .u8)) (by decide)) .nil))) (by kernel_rfl))) (by decide)
  have htri : Tri Try.prog W 3 [v0, v1] [] (fun v _ => v = .bool true) := by
    subst w0 w1
    exact apart_law W n l.l hl.2.1 (by have := hl.2.1; have := hl.2.2.1; omega) hl.1
  clear w0 w1
  refine (htri.run W (Models.start W)).mono fun e W' ⟨v, h2, he, m2, hv⟩ => ?_
  subst he; subst hv
  have hb := m2.below
  refine ⟨_, rfl, post_of_below (pa := (p0 ++ (p1 ++ ([])))) (pv := []) hW' (fun _ _ _ => trodAll_mk1 (shut_bool (Try.underlying4) true)) (fun sp hsp => ?_) (fun _ _ => rfl) rfl hb (ok_one (t := 4) (by kernel_rfl) rfl ?_)⟩
  · refine TAcons (WideElems.Trod_stays laidOut_ (by kernel_rfl) (of_decide_eq_true (by kernel_rfl)) t0 (fun x hx => hb.same (hlt x (by simp [hx]))) (fun x hx => hsp x (by simp [hx]))) ?_
    refine TAcons (WideElems.Trod_stays laidOut_ (by kernel_rfl) (of_decide_eq_true (by kernel_rfl)) t1 (fun x hx => hb.same (hlt x (by simp [hx]))) (fun x hx => hsp x (by simp [hx]))) ?_
    rfl
  · exact okBool Try.underlying4

theorem poolApart_holds : Rows.PoolApartSaid :=
  OpenClaim.holds_of_wide 3 Try.f3 rfl rfl rfl rfl rfl rfl rfl ⟨rfl, rfl, rfl, rfl, rfl⟩ rfl rfl rfl rfl rfl (by kernel_rfl) Try.func3 (by kernel_rfl)
    (of_decide_eq_true (by kernel_rfl)) (by unfold Func.isWrapper; first | (rw [if_pos (by decide +kernel)]; kernel_rfl) | (rw [if_neg (by decide +kernel)]; exact ⟨rfl, rfl⟩))
    (fun os started H enc _ => poolApart_lifted os started H enc)

end Go.Proofs.Ytfoklodfolgmaaa
