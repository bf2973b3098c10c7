/- Walks through the code: what each function that is named here gives back, from any memory that holds its arguments. Written by a program of the claim's author, out of the program's form in Lean. -/
import Derived.Test.YtfoklodfolgmaaaW4
set_option linter.unusedSimpArgs false
set_option linter.unusedVariables false
namespace Go.Proofs.Ytfoklodfolgmaaa
open Go.Sep Go.Sep.Pool Go.Sep.Sip
abbrev slV (s : Sl) : Value := .slice s.1 s.2.1 s.2.2

theorem taken_spec (B : World) (pre h : Own) (q : Nat) (pw : Own) {Ar Aw : Option Addr} {cr cw : Nat} (L : Nat) (rd : List Int) (bs : List Sl) (hsr : Src B h Ar rd.length 1 (rd.map I64)) (hcr : rd.length ≤ cr) (hw : Row 26 1 (.slice Aw L cw) L ((bs).map slV) pw) (hcw : L ≤ cw) (hbl : bs.length = L) (hn : L ≤ 256) (hrd : rd.length ≤ 256) (hin : ∀ j : Int, 0 ≤ j → j < rd.length → 0 ≤ lget rd j ∧ lget rd j < L) (i : Int) : Tri Try.prog B 23 [.pointer (some ⟨q, 0, none⟩), .int .i64 i] (pre ++ (pw ++ ((q, Blk.cells [.int .i64 L, .slice Ar rd.length cr, .slice Aw L cw] 40 (0, 0)) :: h))) fun v h' => (pre ++ (pw ++ ((q, Blk.cells [.int .i64 L, .slice Ar rd.length cr, .slice Aw L cw] 40 (0, 0)) :: h))) = h' ∧ v = .bool (takenQ L rd i) := by
  have hsw : Src B pw Aw L 1 (bs.map slV) := hw.src (fun x hx => hx)
  refine Tri.enter (n := 34) Try.func23 rfl rfl rfl ?_
  simp only [argsE, Nat.reduceAdd]
  try dsimp only [argsE]
  refine AK.seq ?_
  refine AK.region ?_
  refine AO.val (RV.assign rfl) (.none rfl) rfl ?_
  refine AO.nil ?_
  refine AK.seq ?_
  refine AK.seq ?_
  refine AK.region ?_
  refine AO.val (RV.move rfl) (.none rfl) rfl ?_
  refine AO.val (RV.lss rfl rfl) (.none rfl) rfl ?_
  refine AO.val (RV.move rfl) (.none rfl) rfl ?_
  refine AO.caseG rfl rfl rfl ?_ ?_
  · intro hg1
    try simp only [decide_eq_true_eq, decide_eq_false_iff_not, Bool.not_eq_true', Bool.not_eq_false', beq_iff_eq] at hg1
    refine AO.pass (.some rfl rfl rfl rfl) rfl ?_
    refine AO.pass (.some rfl rfl rfl rfl) rfl ?_
    refine AO.pass (.some rfl rfl rfl rfl) rfl ?_
    refine AO.pass (.some rfl rfl rfl rfl) rfl ?_
    refine AO.pass (.some rfl rfl rfl rfl) rfl ?_
    refine AO.pass (.some rfl rfl rfl rfl) rfl ?_
    refine AO.val (RV.pickT rfl rfl) (.none rfl) rfl ?_
    refine AO.nil ?_
    refine AK.condT rfl ?_
    refine AK.seq ?_
    refine AK.region ?_
    refine AO.val (RV.assign rfl) (.none rfl) rfl ?_
    refine AO.nil ?_
    -- at t
    refine AK.ret (h' := (pre ++ (pw ++ ((q, Blk.cells [.int .i64 L, .slice Ar rd.length cr, .slice Aw L cw] 40 (0, 0)) :: h)))) Try.func23 (.tmp rfl .nil) ?_ (by first | exact SubO.sub | exact List.Sublist.refl _ | exact .cons _ (List.Sublist.refl _) | exact .cons _ (.cons _ (List.Sublist.refl _)) | exact .cons _ (.cons _ (.cons _ (List.Sublist.refl _))))
    refine ⟨rfl, ?_⟩
    rw [takenQ_no (by omega)]; rfl
  · intro hg1
    try simp only [decide_eq_true_eq, decide_eq_false_iff_not, Bool.not_eq_true', Bool.not_eq_false', beq_iff_eq] at hg1
    refine AO.val (RV.move rfl) (.some rfl rfl rfl rfl) rfl ?_
    refine AO.val (RV.move rfl) (.some rfl rfl rfl rfl) rfl ?_
    refine AO.val (RV.nilCheck rfl) (.some rfl rfl rfl rfl) rfl ?_
    refine AO.val (RV.fieldAddr rfl) (.some rfl rfl rfl rfl) rfl ?_
    refine AO.val (by first | exact RV.loadO rfl rfl (by simp) | exact RV.loadS rfl (by assumption) (by omega) (by simp)) (.some rfl rfl rfl rfl) rfl ?_
    refine AO.val (RV.geq rfl rfl) (.some rfl rfl rfl rfl) rfl ?_
    refine AO.val (RV.pickF rfl rfl) (.none rfl) rfl ?_
    refine AO.nil ?_
    refine AK.cond rfl ?_ ?_
    · intro hc2
      try simp only [decide_eq_true_eq, decide_eq_false_iff_not, Bool.not_eq_true', Bool.not_eq_false', beq_iff_eq] at hc2
      refine AK.seq ?_
      refine AK.region ?_
      refine AO.val (RV.assign rfl) (.none rfl) rfl ?_
      refine AO.nil ?_
      -- at fT
      refine AK.ret (h' := (pre ++ (pw ++ ((q, Blk.cells [.int .i64 L, .slice Ar rd.length cr, .slice Aw L cw] 40 (0, 0)) :: h)))) Try.func23 (.tmp rfl .nil) ?_ (by first | exact SubO.sub | exact List.Sublist.refl _ | exact .cons _ (List.Sublist.refl _) | exact .cons _ (.cons _ (List.Sublist.refl _)) | exact .cons _ (.cons _ (.cons _ (List.Sublist.refl _))))
      refine ⟨rfl, ?_⟩
      rw [takenQ_no (by omega)]; rfl
    · intro hc2
      try simp only [decide_eq_true_eq, decide_eq_false_iff_not, Bool.not_eq_true', Bool.not_eq_false', beq_iff_eq] at hc2
      refine AK.skip ?_
      refine AK.seq ?_
      refine AK.seq ?_
      refine AK.region ?_
      refine AO.val (RV.assign rfl) (.none rfl) rfl ?_
      refine AO.nil ?_
      refine AK.block ?_
      refine AK.loop (α := Int) (E := fun k => [(0, .pointer (some ⟨q, 0, none⟩)), (1, .int .i64 i), (5, .int .i64 k)]) (H := fun k => pre ++ (pw ++ ((q, Blk.cells [.int .i64 L, .slice Ar rd.length cr, .slice Aw L cw] 40 (0, 0)) :: h))) (Inv := fun k => 0 ≤ k ∧ k ≤ rd.length ∧ ∀ j, 0 ≤ j → j < k → lget rd j ≠ i) (μ := fun k => (rd.length - k).toNat) 0 ?_ (.cons (by exact rfl) (.cons (by exact rfl) (.cons (by exact rfl) .nil))) ?_ ?_
      · exact ⟨by omega, by omega, fun j h1 h2 => by omega⟩
      · exact List.Sublist.refl _
      rintro k ⟨hk0, hk1, hall⟩ hih0
      try dsimp only at hih0 ⊢
      refine AK.seq ?_
      refine AK.seq ?_
      refine AK.region ?_
      refine AO.val (RV.move rfl) (.none rfl) rfl ?_
      refine AO.val (RV.move rfl) (.none rfl) rfl ?_
      refine AO.val (RV.nilCheck rfl) (.none rfl) rfl ?_
      refine AO.val (RV.fieldAddr rfl) (.none rfl) rfl ?_
      refine AO.val (by first | exact RV.loadO rfl rfl (by simp) | exact RV.loadS rfl (by assumption) (by omega) (by simp)) (.none rfl) rfl ?_
      refine AO.val (RV.lenS rfl) (.none rfl) rfl ?_
      refine AO.val (RV.lss rfl rfl) (.none rfl) rfl ?_
      refine AO.nil ?_
      refine AK.cond rfl ?_ ?_
      · intro hc3
        try simp only [decide_eq_true_eq, decide_eq_false_iff_not, Bool.not_eq_true', Bool.not_eq_false', beq_iff_eq] at hc3
        refine AK.skip ?_
        refine AK.seq ?_
        refine AK.block ?_
        refine AK.seq ?_
        refine AK.region ?_
        refine AO.val (RV.move rfl) (.none rfl) rfl ?_
        refine AO.val (RV.nilCheck rfl) (.none rfl) rfl ?_
        refine AO.val (RV.fieldAddr rfl) (.none rfl) rfl ?_
        refine AO.val (by first | exact RV.loadO rfl rfl (by simp) | exact RV.loadS rfl (by assumption) (by omega) (by simp)) (.none rfl) rfl ?_
        refine AO.val (RV.move rfl) (.none rfl) rfl ?_
        refine AO.val (by first | exact RV.indexS rfl rfl (by assumption) (by omega) rfl | exact RV.indexAddr rfl rfl (by omega)) (.none rfl) rfl ?_
        refine AO.val (RV.loadS (enc := I64) (l := rd) rfl hsr (by omega) (by simp)) (.none rfl) rfl ?_
        refine AO.val (RV.move rfl) (.none rfl) rfl ?_
        refine AO.val (RV.eql rfl rfl) (.none rfl) rfl ?_
        refine AO.nil ?_
        refine AK.cond rfl ?_ ?_
        · intro hc4
          try simp only [decide_eq_true_eq, decide_eq_false_iff_not, Bool.not_eq_true', Bool.not_eq_false', beq_iff_eq] at hc4
          refine AK.seq ?_
          refine AK.region ?_
          refine AO.val (RV.assign rfl) (.none rfl) rfl ?_
          refine AO.nil ?_
          -- at fFL0TT
          clear hih0
          refine AK.ret (h' := (pre ++ (pw ++ ((q, Blk.cells [.int .i64 L, .slice Ar rd.length cr, .slice Aw L cw] 40 (0, 0)) :: h)))) Try.func23 (.tmp rfl .nil) ?_ (by first | exact SubO.sub | exact List.Sublist.refl _ | exact .cons _ (List.Sublist.refl _) | exact .cons _ (.cons _ (List.Sublist.refl _)) | exact .cons _ (.cons _ (.cons _ (List.Sublist.refl _))))
          refine ⟨rfl, ?_⟩
          rw [takenQ_in k ⟨hk0, by omega⟩ (by assumption)]; rfl
        · intro hc4
          try simp only [decide_eq_true_eq, decide_eq_false_iff_not, Bool.not_eq_true', Bool.not_eq_false', beq_iff_eq] at hc4
          refine AK.skip ?_
          refine AK.inBlock ?_
          refine AK.region ?_
          refine AO.val (RV.move rfl) (.none rfl) rfl ?_
          refine AO.val (by first | exact RV.addIn rfl rfl (by omega) | exact RV.add rfl rfl) (.none rfl) rfl ?_
          refine AO.val (RV.assign rfl) (.none rfl) rfl ?_
          refine AO.nil ?_
          -- round ends at fFL0TF
          refine AK.weak (.cons (by exact rfl) (.cons (by exact rfl) (.cons (by exact rfl) .nil))) (by first | exact SubO.sub | exact List.Sublist.refl _ | exact .cons _ (List.Sublist.refl _) | exact .cons _ (.cons _ (List.Sublist.refl _)) | exact .cons _ (.cons _ (.cons _ (List.Sublist.refl _)))) (hih0 (k + 1) ?_ ?_)
          · try dsimp only
            refine ⟨by omega, by omega, fun j h1 h2 => ?_⟩
            by_cases hj : j = k
            · subst hj; assumption
            · exact hall j h1 (by omega)
          · try dsimp only
            omega
      · intro hc3
        try simp only [decide_eq_true_eq, decide_eq_false_iff_not, Bool.not_eq_true', Bool.not_eq_false', beq_iff_eq] at hc3
        refine AK.exit rfl ?_
        refine AK.seq ?_
        refine AK.region ?_
        refine AO.val (RV.assign rfl) (.none rfl) rfl ?_
        refine AO.nil ?_
        -- at fFL0F
        clear hih0
        refine AK.ret (h' := (pre ++ (pw ++ ((q, Blk.cells [.int .i64 L, .slice Ar rd.length cr, .slice Aw L cw] 40 (0, 0)) :: h)))) Try.func23 (.tmp rfl .nil) ?_ (by first | exact SubO.sub | exact List.Sublist.refl _ | exact .cons _ (List.Sublist.refl _) | exact .cons _ (.cons _ (List.Sublist.refl _)) | exact .cons _ (.cons _ (.cons _ (List.Sublist.refl _))))
        refine ⟨rfl, ?_⟩
        rw [takenQ_yes ⟨by omega, by omega⟩ fun j h1 h2 => hall j h1 (by omega)]; rfl

theorem rread_spec (B : World) (pre h : Own) (q : Nat) (pw : Own) {Ar Aw : Option Addr} {cr cw : Nat} (L : Nat) (rd : List Int) (bs : List Sl) (hsr : Src B h Ar rd.length 1 (rd.map I64)) (hcr : rd.length ≤ cr) (hw : Row 26 1 (.slice Aw L cw) L ((bs).map slV) pw) (hcw : L ≤ cw) (hbl : bs.length = L) (hn : L ≤ 256) (hrd : rd.length ≤ 256) (hin : ∀ j : Int, 0 ≤ j → j < rd.length → 0 ≤ lget rd j ∧ lget rd j < L) (i : Int) : Tri Try.prog B 20 [.pointer (some ⟨q, 0, none⟩), .int .i64 i] (pre ++ (pw ++ ((q, Blk.cells [.int .i64 L, .slice Ar rd.length cr, .slice Aw L cw] 40 (0, 0)) :: h))) fun v h' => (pre ++ (pw ++ ((q, Blk.cells [.int .i64 L, .slice Ar rd.length cr, .slice Aw L cw] 40 (0, 0)) :: h))) = h' ∧ v = (if takenQ L rd i = true then slV (lget bs i) else .slice none 0 0) := by
  have hsw : Src B pw Aw L 1 (bs.map slV) := hw.src (fun x hx => hx)
  refine Tri.enter (n := 16) Try.func20 rfl rfl rfl ?_
  simp only [argsE, Nat.reduceAdd]
  try dsimp only [argsE]
  refine AK.seq ?_
  refine AK.region ?_
  refine AO.val (RV.assign rfl) (.none rfl) rfl ?_
  refine AO.nil ?_
  refine AK.seq ?_
  refine AK.seq ?_
  refine AK.region ?_
  refine AO.val (RV.move rfl) (.none rfl) rfl ?_
  refine AO.val (RV.move rfl) (.none rfl) rfl ?_
  refine AO.eff (EF.callF rfl (taken_spec B pre h q pw L rd bs hsr hcr hw hcw hbl hn hrd hin _)) (.none rfl) rfl ?_
  rintro _ _ ⟨rfl, rfl⟩
  refine AO.val (RV.not rfl) (.none rfl) rfl ?_
  refine AO.nil ?_
  refine AK.cond rfl ?_ ?_
  · intro hc1
    try simp only [decide_eq_true_eq, decide_eq_false_iff_not, Bool.not_eq_true', Bool.not_eq_false', beq_iff_eq] at hc1
    refine AK.seq ?_
    refine AK.region ?_
    refine AO.val (RV.assign rfl) (.none rfl) rfl ?_
    refine AO.nil ?_
    -- at T
    refine AK.ret (h' := (pre ++ (pw ++ ((q, Blk.cells [.int .i64 L, .slice Ar rd.length cr, .slice Aw L cw] 40 (0, 0)) :: h)))) Try.func20 (.tmp rfl .nil) ?_ (by first | exact SubO.sub | exact List.Sublist.refl _ | exact .cons _ (List.Sublist.refl _) | exact .cons _ (.cons _ (List.Sublist.refl _)) | exact .cons _ (.cons _ (.cons _ (List.Sublist.refl _))))
    refine ⟨rfl, ?_⟩
    simp [hc1, oneOr]
  · intro hc1
    try simp only [decide_eq_true_eq, decide_eq_false_iff_not, Bool.not_eq_true', Bool.not_eq_false', beq_iff_eq] at hc1
    have htq := takenQ_rng (by assumption)
    refine AK.skip ?_
    refine AK.seq ?_
    refine AK.region ?_
    refine AO.val (RV.move rfl) (.none rfl) rfl ?_
    refine AO.val (RV.nilCheck rfl) (.none rfl) rfl ?_
    refine AO.val (RV.fieldAddr rfl) (.none rfl) rfl ?_
    refine AO.val (by first | exact RV.loadO rfl rfl (by simp) | exact RV.loadS rfl (by assumption) (by omega) (by simp)) (.none rfl) rfl ?_
    refine AO.val (RV.move rfl) (.none rfl) rfl ?_
    refine AO.val (by first | exact RV.indexS rfl rfl (by assumption) (by omega) rfl | exact RV.indexAddr rfl rfl (by omega)) (.none rfl) rfl ?_
    refine AO.val (RV.loadS (enc := slV) (l := bs) rfl hsw (by omega) (by simp)) (.none rfl) rfl ?_
    refine AO.val (RV.assign rfl) (.none rfl) rfl ?_
    refine AO.nil ?_
    -- at F
    refine AK.ret (h' := (pre ++ (pw ++ ((q, Blk.cells [.int .i64 L, .slice Ar rd.length cr, .slice Aw L cw] 40 (0, 0)) :: h)))) Try.func20 (.tmp rfl .nil) ?_ (by first | exact SubO.sub | exact List.Sublist.refl _ | exact .cons _ (List.Sublist.refl _) | exact .cons _ (.cons _ (List.Sublist.refl _)) | exact .cons _ (.cons _ (.cons _ (List.Sublist.refl _))))
    refine ⟨rfl, ?_⟩
    simp [hc1, oneOr]

theorem rtake_spec (B : World) (pre h : Own) (q : Nat) (pw : Own) {Ar Aw : Option Addr} {cr cw : Nat} (L : Nat) (rd : List Int) (bs : List Sl) (hsr : Src B h Ar rd.length 1 (rd.map I64)) (hcr : rd.length ≤ cr) (hw : Row 26 1 (.slice Aw L cw) L ((bs).map slV) pw) (hcw : L ≤ cw) (hbl : bs.length = L) (hn : L ≤ 256) (hrd : rd.length ≤ 256) (hin : ∀ j : Int, 0 ≤ j → j < rd.length → 0 ≤ lget rd j ∧ lget rd j < L)  : Tri Try.prog B 13 [.pointer (some ⟨q, 0, none⟩)] (pre ++ (pw ++ ((q, Blk.cells [.int .i64 L, .slice Ar rd.length cr, .slice Aw L cw] 40 (0, 0)) :: h))) fun v h' => v = .tuple #[.int .i64 (if 0 < rd.length then (lget rd ((rd.length : Int) - 1)) else 0), .bool (decide (0 < rd.length))] ∧ ∃ pw', h' = pre ++ (pw' ++ ((q, Blk.cells [.int .i64 L, .slice Ar (rd.take (rd.length - 1)).length cr, .slice Aw L cw] 40 (0, 0)) :: h)) ∧ Row 26 1 (.slice Aw L cw) L (((if 0 < rd.length then lset bs (lget rd ((rd.length : Int) - 1)) (none, 0, 0) else bs)).map slV) pw' := by
  have hsw : Src B pw Aw L 1 (bs.map slV) := hw.src (fun x hx => hx)
  refine Tri.enter (n := 38) Try.func13 rfl rfl rfl ?_
  simp only [argsE, Nat.reduceAdd]
  try dsimp only [argsE]
  refine AK.seq ?_
  refine AK.region ?_
  refine AO.val (RV.assign rfl) (.none rfl) rfl ?_
  refine AO.val (RV.assign rfl) (.none rfl) rfl ?_
  refine AO.nil ?_
  refine AK.seq ?_
  refine AK.region ?_
  refine AO.val (RV.move rfl) (.none rfl) rfl ?_
  refine AO.val (RV.nilCheck rfl) (.none rfl) rfl ?_
  refine AO.val (RV.fieldAddr rfl) (.none rfl) rfl ?_
  refine AO.val (by first | exact RV.loadO rfl rfl (by simp) | exact RV.loadS rfl (by assumption) (by omega) (by simp)) (.none rfl) rfl ?_
  refine AO.val (RV.lenS rfl) (.none rfl) rfl ?_
  refine AO.val (RV.assign rfl) (.none rfl) rfl ?_
  refine AO.nil ?_
  refine AK.seq ?_
  refine AK.seq ?_
  refine AK.region ?_
  refine AO.val (RV.move rfl) (.none rfl) rfl ?_
  refine AO.val (RV.eql rfl rfl) (.none rfl) rfl ?_
  refine AO.nil ?_
  refine AK.cond rfl ?_ ?_
  · intro hc1
    try simp only [decide_eq_true_eq, decide_eq_false_iff_not, Bool.not_eq_true', Bool.not_eq_false', beq_iff_eq] at hc1
    refine AK.seq ?_
    refine AK.region ?_
    refine AO.val (RV.assign rfl) (.none rfl) rfl ?_
    refine AO.val (RV.assign rfl) (.none rfl) rfl ?_
    refine AO.nil ?_
    -- at T
    refine AK.ret (h' := (pre ++ (pw ++ ((q, Blk.cells [.int .i64 L, .slice Ar rd.length cr, .slice Aw L cw] 40 (0, 0)) :: h)))) Try.func13 (.tmp rfl (.tmp rfl .nil)) ?_ (by first | exact SubO.sub | exact List.Sublist.refl _ | exact .cons _ (List.Sublist.refl _) | exact .cons _ (.cons _ (List.Sublist.refl _)) | exact .cons _ (.cons _ (.cons _ (List.Sublist.refl _))))
    have h0 : rd = [] := List.eq_nil_of_length_eq_zero (by omega)
    subst h0
    exact ⟨rfl, pw, rfl, hw⟩
  · intro hc1
    try simp only [decide_eq_true_eq, decide_eq_false_iff_not, Bool.not_eq_true', Bool.not_eq_false', beq_iff_eq] at hc1
    have hli := hin ((rd.length : Int) - 1) (by omega) (by omega)
    have hpos : 0 < rd.length := by omega
    have htl : (rd.take (rd.length - 1)).length = rd.length - 1 := by rw [List.length_take]; omega
    refine AK.skip ?_
    refine AK.seq ?_
    refine AK.region ?_
    refine AO.val (RV.move rfl) (.none rfl) rfl ?_
    refine AO.val (RV.nilCheck rfl) (.none rfl) rfl ?_
    refine AO.val (RV.fieldAddr rfl) (.none rfl) rfl ?_
    refine AO.val (by first | exact RV.loadO rfl rfl (by simp) | exact RV.loadS rfl (by assumption) (by omega) (by simp)) (.none rfl) rfl ?_
    refine AO.val (RV.move rfl) (.none rfl) rfl ?_
    refine AO.val (by first | exact RV.subIn rfl rfl (by omega) | exact RV.sub rfl rfl) (.none rfl) rfl ?_
    refine AO.val (by first | exact RV.indexS rfl rfl (by assumption) (by omega) rfl | exact RV.indexAddr rfl rfl (by omega)) (.none rfl) rfl ?_
    refine AO.val (RV.loadS (enc := I64) (l := rd) rfl hsr (by omega) (by simp)) (.none rfl) rfl ?_
    refine AO.val (RV.assign rfl) (.none rfl) rfl ?_
    refine AO.nil ?_
    refine AK.seq ?_
    refine AK.region ?_
    refine AO.val (RV.move rfl) (.none rfl) rfl ?_
    refine AO.val (RV.move rfl) (.none rfl) rfl ?_
    refine AO.val (RV.nilCheck rfl) (.none rfl) rfl ?_
    refine AO.val (RV.fieldAddr rfl) (.none rfl) rfl ?_
    refine AO.val (by first | exact RV.loadO rfl rfl (by simp) | exact RV.loadS rfl (by assumption) (by omega) (by simp)) (.none rfl) rfl ?_
    refine AO.val (RV.move rfl) (.none rfl) rfl ?_
    refine AO.val (by first | exact RV.subIn rfl rfl (by omega) | exact RV.sub rfl rfl) (.none rfl) rfl ?_
    refine AO.val ((RV.sliceHi rfl rfl (by omega)).to (v' := .slice Ar (rd.take (rd.length - 1)).length cr) (by rw [htl]; congr 1; omega)) (.none rfl) rfl ?_
    refine AO.val (RV.nilCheck rfl) (.none rfl) rfl ?_
    refine AO.val (RV.fieldAddr rfl) (.none rfl) rfl ?_
    refine AO.effN (EF.storeO rfl rfl rfl rfl rfl rfl) (.none rfl) ?_
    rintro _ _ rfl
    refine AO.nil ?_
    refine AK.seq ?_
    refine AK.region ?_
    refine AO.val (RV.move rfl) (.none rfl) rfl ?_
    refine AO.val (RV.nilCheck rfl) (.none rfl) rfl ?_
    refine AO.val (RV.fieldAddr rfl) (.none rfl) rfl ?_
    refine AO.val (by first | exact RV.loadO rfl rfl (by simp) | exact RV.loadS rfl (by assumption) (by omega) (by simp)) (.none rfl) rfl ?_
    refine AO.val (RV.move rfl) (.none rfl) rfl ?_
    refine AO.val (by first | exact RV.indexS rfl rfl (by assumption) (by omega) rfl | exact RV.indexAddr rfl rfl (by omega)) (.none rfl) rfl ?_
    refine AO.effN (EF.storeR rfl rfl rfl rfl hw (by omega)) (.none rfl) ?_
    rintro _ _ ⟨pw2, hw2, rfl⟩
    refine AO.nil ?_
    refine AK.seq ?_
    refine AK.region ?_
    refine AO.val (RV.move rfl) (.none rfl) rfl ?_
    refine AO.val (RV.assign rfl) (.none rfl) rfl ?_
    refine AO.val (RV.assign rfl) (.none rfl) rfl ?_
    refine AO.nil ?_
    -- at F
    refine AK.perm (List.perm_append_comm_assoc _ _ _) ?_
    refine AK.ret (h' := pre ++ (pw2 ++ ((q, Blk.cells [.int .i64 L, .slice Ar (rd.take (rd.length - 1)).length cr, .slice Aw L cw] 40 (0, 0)) :: h))) Try.func13 (.tmp rfl (.tmp rfl .nil)) ?_ (by first | exact SubO.sub | exact List.Sublist.refl _ | exact .cons _ (List.Sublist.refl _) | exact .cons _ (.cons _ (List.Sublist.refl _)) | exact .cons _ (.cons _ (.cons _ (List.Sublist.refl _))))
    refine ⟨by rw [if_pos hpos, decide_eq_true hpos]; rfl, pw2, rfl, ?_⟩
    rw [if_pos hpos]
    have e : (lset bs (lget rd ((rd.length : Int) - 1)) (none, 0, 0)).map slV = (bs.map slV).set (lget rd ((rd.length : Int) - 1)).toNat (.slice none 0 0) := by simp [lset, List.map_set]
    rw [e]; exact hw2

theorem rgive_spec (B : World) (pre h : Own) (q : Nat) (pw : Own) {Ar Aw : Option Addr} {cr cw : Nat} (L : Nat) (rd : List Int) (bs : List Sl) (hsr : Src B h Ar rd.length 1 (rd.map I64)) (hcr : rd.length ≤ cr) (hw : Row 26 1 (.slice Aw L cw) L ((bs).map slV) pw) (hcw : L ≤ cw) (hbl : bs.length = L) (hn : L ≤ 256) (hrd : rd.length ≤ 256) (hin : ∀ j : Int, 0 ≤ j → j < rd.length → 0 ≤ lget rd j ∧ lget rd j < L) (i : Int) : Tri Try.prog B 14 [.pointer (some ⟨q, 0, none⟩), .int .i64 i] (pre ++ (pw ++ ((q, Blk.cells [.int .i64 L, .slice Ar rd.length cr, .slice Aw L cw] 40 (0, 0)) :: h))) fun v h' => v = .bool (takenQ L rd i) ∧ ∃ pw' Ar' cr' x, h' = pre ++ (pw' ++ ((q, Blk.cells [.int .i64 L, .slice Ar' (if takenQ L rd i = true then rd ++ [i] else rd).length cr', .slice Aw L cw] 40 (0, 0)) :: (x ++ h))) ∧ Row 26 1 (.slice Aw L cw) L (((if takenQ L rd i = true then lset bs i (none, 0, 0) else bs)).map slV) pw' ∧ Src B (x ++ h) Ar' (if takenQ L rd i = true then rd ++ [i] else rd).length 1 ((if takenQ L rd i = true then rd ++ [i] else rd).map I64) ∧ (if takenQ L rd i = true then rd ++ [i] else rd).length ≤ cr' := by
  have hsw : Src B pw Aw L 1 (bs.map slV) := hw.src (fun x hx => hx)
  refine Tri.enter (n := 30) Try.func14 rfl rfl rfl ?_
  simp only [argsE, Nat.reduceAdd]
  try dsimp only [argsE]
  refine AK.seq ?_
  refine AK.region ?_
  refine AO.val (RV.assign rfl) (.none rfl) rfl ?_
  refine AO.nil ?_
  refine AK.seq ?_
  refine AK.seq ?_
  refine AK.region ?_
  refine AO.val (RV.move rfl) (.none rfl) rfl ?_
  refine AO.val (RV.move rfl) (.none rfl) rfl ?_
  refine AO.eff (EF.callF rfl (taken_spec B pre h q pw L rd bs hsr hcr hw hcw hbl hn hrd hin _)) (.none rfl) rfl ?_
  rintro _ _ ⟨rfl, rfl⟩
  refine AO.val (RV.not rfl) (.none rfl) rfl ?_
  refine AO.nil ?_
  refine AK.cond rfl ?_ ?_
  · intro hc1
    try simp only [decide_eq_true_eq, decide_eq_false_iff_not, Bool.not_eq_true', Bool.not_eq_false', beq_iff_eq] at hc1
    refine AK.seq ?_
    refine AK.region ?_
    refine AO.val (RV.assign rfl) (.none rfl) rfl ?_
    refine AO.nil ?_
    -- at T
    refine AK.ret (h' := (pre ++ (pw ++ ((q, Blk.cells [.int .i64 L, .slice Ar rd.length cr, .slice Aw L cw] 40 (0, 0)) :: h)))) Try.func14 (.tmp rfl .nil) ?_ (by first | exact SubO.sub | exact List.Sublist.refl _ | exact .cons _ (List.Sublist.refl _) | exact .cons _ (.cons _ (List.Sublist.refl _)) | exact .cons _ (.cons _ (.cons _ (List.Sublist.refl _))))
    rw [hc1]
    exact ⟨rfl, pw, Ar, cr, [], rfl, hw, hsr, hcr⟩
  · intro hc1
    try simp only [decide_eq_true_eq, decide_eq_false_iff_not, Bool.not_eq_true', Bool.not_eq_false', beq_iff_eq] at hc1
    have htq := takenQ_rng hc1
    refine AK.skip ?_
    refine AK.seq ?_
    refine AK.region ?_
    refine AO.eff (EF.buildSeq [] rfl rfl rfl rfl) (.none rfl) rfl ?_
    rintro _ _ ⟨b10, hf10, rfl, rfl⟩
    refine AO.val (RV.assign rfl) (.none rfl) rfl ?_
    refine AO.nil ?_
    refine AK.seq ?_
    refine AK.region ?_
    refine AO.val (RV.move rfl) (.none rfl) rfl ?_
    refine AO.val (RV.move rfl) (.none rfl) rfl ?_
    refine AO.val (RV.nilCheck rfl) (.none rfl) rfl ?_
    refine AO.val (RV.fieldAddr rfl) (.none rfl) rfl ?_
    refine AO.val (by first | exact RV.loadO rfl rfl (by simp) | exact RV.loadS rfl (by assumption) (by omega) (by simp)) (.none rfl) rfl ?_
    refine AO.eff (EF.appendS (n' := rd.length) (ys := rd.map I64) rfl rfl (Row.new (cs := []) rfl) hsr.sub (Nat.zero_add _).symm rfl rfl (by decide) (by simp [Value.oneCell']) (by omega) (by omega)) (.none rfl) rfl ?_
    rintro _ _ ⟨A1, c1, p1, rfl, hr1, hc1q, rfl⟩
    refine AO.val (RV.assign rfl) (.none rfl) rfl ?_
    refine AO.nil ?_
    refine AK.seq ?_
    refine AK.region ?_
    refine AO.val (RV.move rfl) (.none rfl) rfl ?_
    refine AO.val (RV.move rfl) (.none rfl) rfl ?_
    refine AO.val (RV.move rfl) (.none rfl) rfl ?_
    refine AO.eff (EF.buildSeq [I64 i] rfl rfl rfl rfl) (.none rfl) rfl ?_
    rintro _ _ ⟨b20, hf20, rfl, rfl⟩
    refine AO.eff (EF.appendS (n' := (rd ++ [i]).length) (ys := (rd ++ [i]).map I64) rfl rfl hr1 (Src.of_new (el := 3) (cs := [I64 i]) (by simp) 1 1 (Nat.le_refl _)) (by simp) (by simp) rfl (by decide) rfl (by omega) (by omega)) (.none rfl) rfl ?_
    rintro _ _ ⟨A2, c2, p2, rfl, hr2, hc2q, rfl⟩
    refine AO.val (RV.nilCheck rfl) (.none rfl) rfl ?_
    refine AO.val (RV.fieldAddr rfl) (.none rfl) rfl ?_
    refine AO.effN (EF.storeO rfl rfl rfl rfl rfl rfl) (.none rfl) ?_
    rintro _ _ rfl
    refine AO.nil ?_
    refine AK.seq ?_
    refine AK.region ?_
    refine AO.val (RV.move rfl) (.none rfl) rfl ?_
    refine AO.val (RV.nilCheck rfl) (.none rfl) rfl ?_
    refine AO.val (RV.fieldAddr rfl) (.none rfl) rfl ?_
    refine AO.val (by first | exact RV.loadO rfl rfl (by simp) | exact RV.loadS rfl (by assumption) (by omega) (by simp)) (.none rfl) rfl ?_
    refine AO.val (RV.move rfl) (.none rfl) rfl ?_
    refine AO.val (by first | exact RV.indexS rfl rfl (by assumption) (by omega) rfl | exact RV.indexAddr rfl rfl (by omega)) (.none rfl) rfl ?_
    refine AO.effN (EF.storeR rfl rfl rfl rfl hw (by omega)) (.none rfl) ?_
    rintro _ _ ⟨pw2, hw2, rfl⟩
    refine AO.nil ?_
    refine AK.seq ?_
    refine AK.region ?_
    refine AO.val (RV.assign rfl) (.none rfl) rfl ?_
    refine AO.nil ?_
    -- at F
    refine AK.perm (perm_four _ _ _ _ _ _) ?_
    refine AK.ret (h' := pre ++ (pw2 ++ ((q, Blk.cells [.int .i64 L, .slice A2 (rd ++ [i]).length c2, .slice Aw L cw] 40 (0, 0)) :: (p2 ++ h)))) Try.func14 (.tmp rfl .nil) ?_ (List.sublist_cons_self _ _)
    have e : (lset bs i (none, 0, 0)).map slV = (bs.map slV).set i.toNat (.slice none 0 0) := by simp [lset, List.map_set]
    rw [hc1]
    refine ⟨rfl, pw2, A2, c2, p2, rfl, ?_, hr2.src fun x hx => List.mem_append_left _ hx, hc2q⟩
    rw [if_pos rfl, e]; exact hw2

theorem rwrite_spec (B : World) (pre h : Own) (q : Nat) (pw : Own) {Ar Aw : Option Addr} {cr cw : Nat} (L : Nat) (rd : List Int) (bs : List Sl) (hsr : Src B h Ar rd.length 1 (rd.map I64)) (hcr : rd.length ≤ cr) (hw : Row 26 1 (.slice Aw L cw) L ((bs).map slV) pw) (hcw : L ≤ cw) (hbl : bs.length = L) (hn : L ≤ 256) (hrd : rd.length ≤ 256) (hin : ∀ j : Int, 0 ≤ j → j < rd.length → 0 ≤ lget rd j ∧ lget rd j < L) (i : Int) {A : Option Addr} {cap : Nat} (l : List Int) (hl : Src B h A l.length 1 (l.map (fun x => Value.int .u8 x))) (hb : Bytes l) (hln : l.length ≤ 100000) (D : Own) (ct : List (List Int)) (hct : Cont B D bs ct) : Tri Try.prog B 17 [.pointer (some ⟨q, 0, none⟩), .int .i64 i, .slice A l.length cap] (pre ++ (pw ++ ((q, Blk.cells [.int .i64 L, .slice Ar rd.length cr, .slice Aw L cw] 40 (0, 0)) :: h))) fun v h' => v = .bool (takenQ L rd i && decide (l.length ≤ 1514)) ∧ ∃ pw' x bs', bs'.length = L ∧ Cont B (x ++ D) bs' (if (takenQ L rd i && decide (l.length ≤ 1514)) = true then lset ct i l else ct) ∧ h' = pre ++ (pw' ++ ((q, Blk.cells [.int .i64 L, .slice Ar rd.length cr, .slice Aw L cw] 40 (0, 0)) :: (x ++ h))) ∧ Row 26 1 (.slice Aw L cw) L ((bs').map slV) pw' := by
  have hsw : Src B pw Aw L 1 (bs.map slV) := hw.src (fun x hx => hx)
  refine Tri.enter (n := 24) Try.func17 rfl rfl rfl ?_
  simp only [argsE, Nat.reduceAdd]
  try dsimp only [argsE]
  refine AK.seq ?_
  refine AK.region ?_
  refine AO.val (RV.assign rfl) (.none rfl) rfl ?_
  refine AO.nil ?_
  refine AK.seq ?_
  refine AK.seq ?_
  refine AK.region ?_
  refine AO.val (RV.move rfl) (.none rfl) rfl ?_
  refine AO.val (RV.move rfl) (.none rfl) rfl ?_
  refine AO.eff (EF.callF rfl (taken_spec B pre h q pw L rd bs hsr hcr hw hcw hbl hn hrd hin _)) (.none rfl) rfl ?_
  rintro _ _ ⟨rfl, rfl⟩
  refine AO.val (RV.not rfl) (.none rfl) rfl ?_
  refine AO.val (RV.move rfl) (.none rfl) rfl ?_
  refine AO.caseG rfl rfl rfl ?_ ?_
  · intro hg1
    try simp only [decide_eq_true_eq, decide_eq_false_iff_not, Bool.not_eq_true', Bool.not_eq_false', beq_iff_eq] at hg1
    refine AO.pass (.some rfl rfl rfl rfl) rfl ?_
    refine AO.pass (.some rfl rfl rfl rfl) rfl ?_
    refine AO.pass (.some rfl rfl rfl rfl) rfl ?_
    refine AO.val (RV.pickT rfl rfl) (.none rfl) rfl ?_
    refine AO.nil ?_
    refine AK.condT rfl ?_
    refine AK.seq ?_
    refine AK.region ?_
    refine AO.val (RV.assign rfl) (.none rfl) rfl ?_
    refine AO.nil ?_
    -- at t
    refine AK.ret (h' := (pre ++ (pw ++ ((q, Blk.cells [.int .i64 L, .slice Ar rd.length cr, .slice Aw L cw] 40 (0, 0)) :: h)))) Try.func17 (.tmp rfl .nil) ?_ (by first | exact SubO.sub | exact List.Sublist.refl _ | exact .cons _ (List.Sublist.refl _) | exact .cons _ (.cons _ (List.Sublist.refl _)) | exact .cons _ (.cons _ (.cons _ (List.Sublist.refl _))))
    have hok : (takenQ L rd i && decide (l.length ≤ 1514)) = false := by simp [show takenQ L rd i = false by simpa using hg1]
    rw [hok]
    exact ⟨rfl, pw, [], bs, hbl, hct, rfl, hw⟩
  · intro hg1
    try simp only [decide_eq_true_eq, decide_eq_false_iff_not, Bool.not_eq_true', Bool.not_eq_false', beq_iff_eq] at hg1
    refine AO.val (RV.move rfl) (.some rfl rfl rfl rfl) rfl ?_
    refine AO.val (RV.lenS rfl) (.some rfl rfl rfl rfl) rfl ?_
    refine AO.val (RV.gtr rfl rfl) (.some rfl rfl rfl rfl) rfl ?_
    refine AO.val (RV.pickF rfl rfl) (.none rfl) rfl ?_
    refine AO.nil ?_
    refine AK.cond rfl ?_ ?_
    · intro hc2
      try simp only [decide_eq_true_eq, decide_eq_false_iff_not, Bool.not_eq_true', Bool.not_eq_false', beq_iff_eq] at hc2
      refine AK.seq ?_
      refine AK.region ?_
      refine AO.val (RV.assign rfl) (.none rfl) rfl ?_
      refine AO.nil ?_
      -- at fT
      refine AK.ret (h' := (pre ++ (pw ++ ((q, Blk.cells [.int .i64 L, .slice Ar rd.length cr, .slice Aw L cw] 40 (0, 0)) :: h)))) Try.func17 (.tmp rfl .nil) ?_ (by first | exact SubO.sub | exact List.Sublist.refl _ | exact .cons _ (List.Sublist.refl _) | exact .cons _ (.cons _ (List.Sublist.refl _)) | exact .cons _ (.cons _ (.cons _ (List.Sublist.refl _))))
      have hok : (takenQ L rd i && decide (l.length ≤ 1514)) = false := by simp; omega
      rw [hok]
      exact ⟨rfl, pw, [], bs, hbl, hct, rfl, hw⟩
    · intro hc2
      try simp only [decide_eq_true_eq, decide_eq_false_iff_not, Bool.not_eq_true', Bool.not_eq_false', beq_iff_eq] at hc2
      have htq := takenQ_rng hg1
      have hok : (takenQ L rd i && decide (l.length ≤ 1514)) = true := by rw [hg1]; simp; omega
      refine AK.skip ?_
      refine AK.seq ?_
      refine AK.draw [] [8] mixed ?_
      refine AD.takeP 0 rfl (by kernel_rfl) (RV.move rfl) (.none rfl) rfl ?_
      refine AD.takeP 1 rfl (by kernel_rfl) (RV.nilCheck rfl) (.none rfl) rfl ?_
      refine AD.takeP 2 rfl (by kernel_rfl) (RV.fieldAddr rfl) (.none rfl) rfl ?_
      refine AD.take 3 rfl (by kernel_rfl) (by first | exact RV.loadO rfl rfl (by simp) | exact RV.loadS rfl (by assumption) (by omega) (by simp)) (.none rfl) rfl ?_
      refine AD.takeP 4 rfl (by kernel_rfl) (RV.move rfl) (.none rfl) rfl ?_
      refine AD.takeP 5 rfl (by kernel_rfl) (RV.move rfl) (.none rfl) rfl ?_
      refine AD.one 6 (by kernel_rfl) (AE.eff rfl (EF.callF rfl ((add_spec (A2 := none) (cap2 := 0) B _ l [] (hl.mono fun x hx => by simp [hx]) ⟨rfl, by simp⟩ (by simp; omega)).mono fun v h2 r => r.to (n' := l.length) (ys := l.map (fun x => Value.int .u8 x)) (by simp) (by simp))) (.none rfl) rfl ?_)
      rintro _ _ ⟨A22, c22, p22, rfl, hr22, hc22, rfl⟩
      refine ⟨(by first | exact .inr fun x hx hM => hx | exact .inr fun x hx hM => List.mem_cons_of_mem _ hx | exact .inr fun x hx hM => List.mem_append_right _ hx), ?_⟩
      refine AD.takeP 7 rfl (by kernel_rfl) (by first | exact RV.indexS rfl rfl (by assumption) (by omega) rfl | exact RV.indexAddr rfl rfl (by omega)) (.none rfl) rfl ?_
      refine AD.one 8 (by kernel_rfl) (AE.effN rfl (EF.storeR rfl rfl rfl rfl hw (by omega)) (.none rfl) ?_)
      rintro _ _ ⟨pw2, hw2, rfl⟩
      refine ⟨.inl (by kernel_rfl), ?_⟩
      refine AD.done (by kernel_rfl) ?_
      refine AK.seq ?_
      refine AK.region ?_
      refine AO.val (RV.assign rfl) (.none rfl) rfl ?_
      refine AO.nil ?_
      -- at fF
      refine AK.perm (perm_three _ _ _ _ _) ?_
      refine AK.ret (h' := pre ++ (pw2 ++ ((q, Blk.cells [.int .i64 L, .slice Ar rd.length cr, .slice Aw L cw] 40 (0, 0)) :: (p22 ++ h)))) Try.func17 (.tmp rfl .nil) ?_ (List.Sublist.refl _)
      have e : (lset bs i (A22, l.length, c22)).map slV = (bs.map slV).set i.toNat (.slice A22 l.length c22) := by simp [lset, List.map_set]
      rw [hok]
      refine ⟨rfl, pw2, p22, lset bs i (A22, l.length, c22), by rw [lset_len]; exact hbl, (hct.mono fun x hx => List.mem_append_right _ hx).set i (by omega) A22 c22 l hc22 (hr22.src fun x hx => List.mem_append_left _ hx) hb (by omega), rfl, ?_⟩
      rw [e]; exact hw2

theorem in_spec14 (B : World) (h : Own) (n lo hi : Int) (hlh : lo ≤ hi) : Tri Try.prog B 22 [.int .i64 n, .int .i64 lo, .int .i64 hi] h fun v h' => h = h' ∧ v = .int .i64 (min (max n lo) hi) := by
  refine Tri.enter (n := 16) Try.func22 rfl rfl rfl ?_
  simp only [argsE, Nat.reduceAdd]
  try dsimp only [argsE]
  refine AK.seq ?_
  refine AK.region ?_
  refine AO.val (RV.assign rfl) (.none rfl) rfl ?_
  refine AO.nil ?_
  refine AK.seq ?_
  refine AK.seq ?_
  refine AK.region ?_
  refine AO.val (RV.move rfl) (.none rfl) rfl ?_
  refine AO.val (RV.move rfl) (.none rfl) rfl ?_
  refine AO.val (RV.lss rfl rfl) (.none rfl) rfl ?_
  refine AO.nil ?_
  refine AK.cond rfl ?_ ?_
  · intro hc1
    try simp only [decide_eq_true_eq, decide_eq_false_iff_not, Bool.not_eq_true', Bool.not_eq_false', beq_iff_eq] at hc1
    refine AK.seq ?_
    refine AK.region ?_
    refine AO.val (RV.move rfl) (.none rfl) rfl ?_
    refine AO.val (RV.assign rfl) (.none rfl) rfl ?_
    refine AO.nil ?_
    -- at T
    refine AK.ret (h' := h) Try.func22 (.tmp rfl .nil) ?_ (by first | exact SubO.sub | exact List.Sublist.refl _ | exact .cons _ (List.Sublist.refl _) | exact .cons _ (.cons _ (List.Sublist.refl _)) | exact .cons _ (.cons _ (.cons _ (List.Sublist.refl _))))
    refine ⟨rfl, ?_⟩
    simp only [oneOr, Value.int.injEq, true_and]; omega
  · intro hc1
    try simp only [decide_eq_true_eq, decide_eq_false_iff_not, Bool.not_eq_true', Bool.not_eq_false', beq_iff_eq] at hc1
    refine AK.skip ?_
    refine AK.seq ?_
    refine AK.seq ?_
    refine AK.region ?_
    refine AO.val (RV.move rfl) (.none rfl) rfl ?_
    refine AO.val (RV.move rfl) (.none rfl) rfl ?_
    refine AO.val (RV.gtr rfl rfl) (.none rfl) rfl ?_
    refine AO.nil ?_
    refine AK.cond rfl ?_ ?_
    · intro hc2
      try simp only [decide_eq_true_eq, decide_eq_false_iff_not, Bool.not_eq_true', Bool.not_eq_false', beq_iff_eq] at hc2
      refine AK.seq ?_
      refine AK.region ?_
      refine AO.val (RV.move rfl) (.none rfl) rfl ?_
      refine AO.val (RV.assign rfl) (.none rfl) rfl ?_
      refine AO.nil ?_
      -- at FT
      refine AK.ret (h' := h) Try.func22 (.tmp rfl .nil) ?_ (by first | exact SubO.sub | exact List.Sublist.refl _ | exact .cons _ (List.Sublist.refl _) | exact .cons _ (.cons _ (List.Sublist.refl _)) | exact .cons _ (.cons _ (.cons _ (List.Sublist.refl _))))
      refine ⟨rfl, ?_⟩
      simp only [oneOr, Value.int.injEq, true_and]; omega
    · intro hc2
      try simp only [decide_eq_true_eq, decide_eq_false_iff_not, Bool.not_eq_true', Bool.not_eq_false', beq_iff_eq] at hc2
      refine AK.skip ?_
      refine AK.seq ?_
      refine AK.region ?_
      refine AO.val (RV.move rfl) (.none rfl) rfl ?_
      refine AO.val (RV.assign rfl) (.none rfl) rfl ?_
      refine AO.nil ?_
      -- at FF
      refine AK.ret (h' := h) Try.func22 (.tmp rfl .nil) ?_ (by first | exact SubO.sub | exact List.Sublist.refl _ | exact .cons _ (List.Sublist.refl _) | exact .cons _ (.cons _ (List.Sublist.refl _)) | exact .cons _ (.cons _ (.cons _ (List.Sublist.refl _))))
      refine ⟨rfl, ?_⟩
      simp only [oneOr, Value.int.injEq, true_and]; omega

theorem rnew_spec (B : World) (h : Own) (n : Int) : Tri Try.prog B 12 [.int .i64 n] h fun v h' => ∃ q Ar cr Aw cw pr pw, v = .pointer (some ⟨q, 0, none⟩) ∧ h' = pw ++ ((q, Blk.cells [.int .i64 (min (max n 0) 256), .slice Ar (min (max n 0) 256).toNat cr, .slice Aw (min (max n 0) 256).toNat cw] 40 (0, 0)) :: (pr ++ h)) ∧ Row 3 1 (.slice Ar (min (max n 0) 256).toNat cr) (min (max n 0) 256).toNat ((descK (min (max n 0) 256) (min (max n 0) 256).toNat).map I64) pr ∧ Row 26 1 (.slice Aw (min (max n 0) 256).toNat cw) (min (max n 0) 256).toNat ((List.replicate (min (max n 0) 256).toNat ((none, 0, 0) : Sl)).map slV) pw ∧ (min (max n 0) 256).toNat ≤ cr ∧ (min (max n 0) 256).toNat ≤ cw := by
  refine Tri.enter (n := 38) Try.func12 rfl rfl rfl ?_
  simp only [argsE, Nat.reduceAdd]
  try dsimp only [argsE]
  refine AK.seq ?_
  refine AK.region ?_
  refine AO.val (RV.assign rfl) (.none rfl) rfl ?_
  refine AO.nil ?_
  refine AK.seq ?_
  refine AK.region ?_
  refine AO.val (RV.move rfl) (.none rfl) rfl ?_
  refine AO.eff (EF.callF rfl (in_spec14 B _ n 0 256 (by decide))) (.none rfl) rfl ?_
  rintro _ _ ⟨rfl, rfl⟩
  refine AO.val (RV.build rfl (.cons rfl rfl rfl rfl .nil)) (.none rfl) rfl ?_
  refine AO.eff (EF.box rfl rfl) (.none rfl) rfl ?_
  rintro _ _ ⟨b8, hf8, rfl, rfl⟩
  refine AO.val (RV.assign rfl) (.none rfl) rfl ?_
  refine AO.nil ?_
  refine AK.seq ?_
  refine AK.seq ?_
  refine AK.region ?_
  refine AO.val (RV.move rfl) (.none rfl) rfl ?_
  refine AO.val (RV.nilCheck rfl) (.none rfl) rfl ?_
  refine AO.val (RV.fieldAddr rfl) (.none rfl) rfl ?_
  refine AO.val (by first | exact RV.loadO rfl rfl (by simp) | exact RV.loadS rfl (by assumption) (by omega) (by simp)) (.none rfl) rfl ?_
  refine AO.val (by first | exact RV.subIn rfl rfl (by omega) | exact RV.sub rfl rfl) (.none rfl) rfl ?_
  refine AO.val (RV.assign rfl) (.none rfl) rfl ?_
  refine AO.nil ?_
  refine AK.block ?_
  refine AK.loop (α := Nat × Option Addr × Nat × Own × Option Addr × Nat × Own) (E := fun (k, Ar, cr, pr, Aw, cw, pw) => [(3, .pointer (some ⟨b8, 0, none⟩)), (4, .int .i64 ((min (max n 0) 256) - 1 - k))]) (H := fun (k, Ar, cr, pr, Aw, cw, pw) => pw ++ (pr ++ ((b8, Blk.cells [.int .i64 (min (max n 0) 256), .slice Ar k cr, .slice Aw k cw] 40 (0, 0)) :: h))) (Inv := fun (k, Ar, cr, pr, Aw, cw, pw) => (k : Int) ≤ (min (max n 0) 256) ∧ Row 3 1 (.slice Ar k cr) k ((descK (min (max n 0) 256) k).map I64) pr ∧ Row 26 1 (.slice Aw k cw) k ((List.replicate k ((none, 0, 0) : Sl)).map slV) pw ∧ k ≤ cr ∧ k ≤ cw) (μ := fun (k, Ar, cr, pr, Aw, cw, pw) => (min (max n 0) 256).toNat - k) (0, none, 0, [], none, 0, []) ?_ (.cons (by exact rfl) (.cons (by rw [show ((min (max n 0) 256) - 1 - ((0 : Nat) : Int)) = (min (max n 0) 256) - 1 by omega]; exact rfl) .nil)) ?_ ?_
  · exact ⟨by omega, .nil, .nil, Nat.le_refl 0, Nat.le_refl 0⟩
  · exact List.Sublist.refl _
  rintro ⟨k, Ar, cr, pr, Aw, cw, pw⟩ ⟨hk, hrr, hrw, hcr, hcw⟩ hih0
  try dsimp only at hih0 ⊢
  refine AK.seq ?_
  refine AK.seq ?_
  refine AK.region ?_
  refine AO.val (RV.move rfl) (.none rfl) rfl ?_
  refine AO.val (RV.geq rfl rfl) (.none rfl) rfl ?_
  refine AO.nil ?_
  refine AK.cond rfl ?_ ?_
  · intro hc1
    try simp only [decide_eq_true_eq, decide_eq_false_iff_not, Bool.not_eq_true', Bool.not_eq_false', beq_iff_eq] at hc1
    refine AK.skip ?_
    refine AK.seq ?_
    refine AK.block ?_
    refine AK.seq ?_
    refine AK.region ?_
    refine AO.val (RV.move rfl) (.none rfl) rfl ?_
    refine AO.val (RV.move rfl) (.none rfl) rfl ?_
    refine AO.val (RV.nilCheck rfl) (.none rfl) rfl ?_
    refine AO.val (RV.fieldAddr rfl) (.none rfl) rfl ?_
    refine AO.val (by first | exact RV.loadO rfl rfl (by simp) | exact RV.loadS rfl (by assumption) (by omega) (by simp)) (.none rfl) rfl ?_
    refine AO.val (RV.move rfl) (.none rfl) rfl ?_
    refine AO.eff (EF.buildSeq [I64 ((min (max n 0) 256) - 1 - k)] rfl rfl rfl rfl) (.none rfl) rfl ?_
    rintro _ _ ⟨b24, hf24, rfl, rfl⟩
    refine AO.eff (EF.appendS (n' := k + 1) (ys := (descK (min (max n 0) 256) (k + 1)).map I64) rfl rfl hrr (Src.of_new (el := 3) (cs := [I64 ((min (max n 0) 256) - 1 - k)]) (by simp) 1 1 (Nat.le_refl _)) rfl (by rw [descK, List.map_append]; rfl) rfl (by decide) rfl (by omega) (by omega)) (.none rfl) rfl ?_
    rintro _ _ ⟨A1, c1, p1, rfl, hr1, hc1q, rfl⟩
    refine AO.val (RV.nilCheck rfl) (.none rfl) rfl ?_
    refine AO.val (RV.fieldAddr rfl) (.none rfl) rfl ?_
    refine AO.effN (EF.storeO rfl rfl rfl rfl rfl rfl) (.none rfl) ?_
    rintro _ _ rfl
    refine AO.nil ?_
    refine AK.region ?_
    refine AO.val (RV.move rfl) (.none rfl) rfl ?_
    refine AO.val (RV.move rfl) (.none rfl) rfl ?_
    refine AO.val (RV.nilCheck rfl) (.none rfl) rfl ?_
    refine AO.val (RV.fieldAddr rfl) (.none rfl) rfl ?_
    refine AO.val (by first | exact RV.loadO rfl rfl (by simp) | exact RV.loadS rfl (by assumption) (by omega) (by simp)) (.none rfl) rfl ?_
    refine AO.eff (EF.buildSeq [.slice none 0 0] rfl rfl rfl rfl) (.none rfl) rfl ?_
    rintro _ _ ⟨b33, hf33, rfl, rfl⟩
    refine AO.eff (EF.appendS (n' := k + 1) (ys := (List.replicate (k + 1) ((none, 0, 0) : Sl)).map slV) rfl rfl hrw (Src.of_new (el := 26) (cs := [.slice none 0 0]) (by simp) 1 1 (Nat.le_refl _)) rfl (by rw [List.replicate_succ', List.map_append]; rfl) rfl (by decide) rfl (by omega) (by omega)) (.none rfl) rfl ?_
    rintro _ _ ⟨A2, c2, p2, rfl, hr2, hc2q, rfl⟩
    refine AO.val (RV.nilCheck rfl) (.none rfl) rfl ?_
    refine AO.val (RV.fieldAddr rfl) (.none rfl) rfl ?_
    refine AO.effN (EF.storeO rfl rfl rfl rfl rfl rfl) (.none rfl) ?_
    rintro _ _ rfl
    refine AO.nil ?_
    refine AK.inBlock ?_
    refine AK.region ?_
    refine AO.val (RV.move rfl) (.none rfl) rfl ?_
    refine AO.val (by first | exact RV.subIn rfl rfl (by omega) | exact RV.sub rfl rfl) (.none rfl) rfl ?_
    refine AO.val (RV.assign rfl) (.none rfl) rfl ?_
    refine AO.nil ?_
    -- round ends at L0T
    refine AK.weak (.cons (by exact rfl) (.cons (by rw [show ((min (max n 0) 256) - 1 - ((k + 1 : Nat) : Int)) = (min (max n 0) 256) - 1 - k - 1 by omega]; exact rfl) .nil)) (by exact List.Sublist.append_left (.cons _ (List.Sublist.append_left (.cons _ (List.Sublist.refl _)) _)) _) (hih0 (k + 1, A1, c1, p1, A2, c2, p2) ?_ ?_)
    · try dsimp only
      exact ⟨by omega, hr1, hr2, hc1q, hc2q⟩
    · try dsimp only
      omega
  · intro hc1
    try simp only [decide_eq_true_eq, decide_eq_false_iff_not, Bool.not_eq_true', Bool.not_eq_false', beq_iff_eq] at hc1
    refine AK.exit rfl ?_
    refine AK.seq ?_
    refine AK.region ?_
    refine AO.val (RV.move rfl) (.none rfl) rfl ?_
    refine AO.val (RV.assign rfl) (.none rfl) rfl ?_
    refine AO.nil ?_
    -- at L0F
    clear hih0
    have hkn : k = (min (max n 0) 256).toNat := by omega
    subst hkn
    refine AK.perm (List.Perm.append_left _ List.perm_middle) ?_
    refine AK.ret (h' := pw ++ ((b8, Blk.cells [.int .i64 (min (max n 0) 256), .slice Ar (min (max n 0) 256).toNat cr, .slice Aw (min (max n 0) 256).toNat cw] 40 (0, 0)) :: (pr ++ h))) Try.func12 (.tmp rfl .nil) ?_ (List.Sublist.refl _)
    exact ⟨b8, Ar, cr, Aw, cw, pr, pw, rfl, rfl, hrr, hrw, hcr, hcw⟩

end Go.Proofs.Ytfoklodfolgmaaa
