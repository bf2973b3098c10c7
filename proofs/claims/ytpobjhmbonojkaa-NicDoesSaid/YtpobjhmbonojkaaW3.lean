/- Walks through the code: what each function that is named here gives back, from any memory that holds its arguments. Written by a program of the claim's author, out of the program's form in Lean. -/
import Derived.Test.YtpobjhmbonojkaaW2
set_option linter.unusedSimpArgs false
set_option linter.unusedVariables false
namespace Go.Proofs.Ytpobjhmbonojkaa
open Go.Sep Go.Sep.Ring Go.Sep.Pool Go.Sep.Sip Go.Sep.Nic Go.RowKit Go.WideShapes Go.ChangeShapes

theorem in_spec16 (B : World) (h : Own) (n lo hi : Int) (hlh : lo ≤ hi) : Tri Try.prog B 25 [.int .i64 n, .int .i64 lo, .int .i64 hi] h fun v h' => h = h' ∧ v = .int .i64 (min (max n lo) hi) := by
  refine Tri.enter (n := 16) Try.func25 rfl rfl rfl ?_
  simp only [argsE, Nat.reduceAdd]
  try dsimp only [argsE]
  refine AK.seq ?_
  refine AK.region ?_
  refine AO.val (RV.assign rfl) (.none rfl) rfl ?_
  refine AO.nil ?_
  refine AK.seq ?_
  refine AK.seq ?_
  refine AK.region ?_
  refine AO.val (RV.move rfl) (.none rfl) rfl ?_
  refine AO.val (RV.move rfl) (.none rfl) rfl ?_
  refine AO.val (RV.lss rfl rfl) (.none rfl) rfl ?_
  refine AO.nil ?_
  refine AK.cond rfl ?_ ?_
  · intro hc1
    try simp only [decide_eq_true_eq, decide_eq_false_iff_not, Bool.not_eq_true', Bool.not_eq_false', beq_iff_eq] at hc1
    refine AK.seq ?_
    refine AK.region ?_
    refine AO.val (RV.move rfl) (.none rfl) rfl ?_
    refine AO.val (RV.assign rfl) (.none rfl) rfl ?_
    refine AO.nil ?_
    -- at T
    refine AK.ret (h' := h) Try.func25 (.tmp rfl .nil) ?_ (by first | exact SubO.sub | exact List.Sublist.refl _ | exact .cons _ (List.Sublist.refl _) | exact .cons _ (.cons _ (List.Sublist.refl _)) | exact .cons _ (.cons _ (.cons _ (List.Sublist.refl _))))
    refine ⟨rfl, ?_⟩
    simp only [oneOr, Value.int.injEq, true_and]; omega
  · intro hc1
    try simp only [decide_eq_true_eq, decide_eq_false_iff_not, Bool.not_eq_true', Bool.not_eq_false', beq_iff_eq] at hc1
    refine AK.skip ?_
    refine AK.seq ?_
    refine AK.seq ?_
    refine AK.region ?_
    refine AO.val (RV.move rfl) (.none rfl) rfl ?_
    refine AO.val (RV.move rfl) (.none rfl) rfl ?_
    refine AO.val (RV.gtr rfl rfl) (.none rfl) rfl ?_
    refine AO.nil ?_
    refine AK.cond rfl ?_ ?_
    · intro hc2
      try simp only [decide_eq_true_eq, decide_eq_false_iff_not, Bool.not_eq_true', Bool.not_eq_false', beq_iff_eq] at hc2
      refine AK.seq ?_
      refine AK.region ?_
      refine AO.val (RV.move rfl) (.none rfl) rfl ?_
      refine AO.val (RV.assign rfl) (.none rfl) rfl ?_
      refine AO.nil ?_
      -- at FT
      refine AK.ret (h' := h) Try.func25 (.tmp rfl .nil) ?_ (by first | exact SubO.sub | exact List.Sublist.refl _ | exact .cons _ (List.Sublist.refl _) | exact .cons _ (.cons _ (List.Sublist.refl _)) | exact .cons _ (.cons _ (.cons _ (List.Sublist.refl _))))
      refine ⟨rfl, ?_⟩
      simp only [oneOr, Value.int.injEq, true_and]; omega
    · intro hc2
      try simp only [decide_eq_true_eq, decide_eq_false_iff_not, Bool.not_eq_true', Bool.not_eq_false', beq_iff_eq] at hc2
      refine AK.skip ?_
      refine AK.seq ?_
      refine AK.region ?_
      refine AO.val (RV.move rfl) (.none rfl) rfl ?_
      refine AO.val (RV.assign rfl) (.none rfl) rfl ?_
      refine AO.nil ?_
      -- at FF
      refine AK.ret (h' := h) Try.func25 (.tmp rfl .nil) ?_ (by first | exact SubO.sub | exact List.Sublist.refl _ | exact .cons _ (List.Sublist.refl _) | exact .cons _ (.cons _ (List.Sublist.refl _)) | exact .cons _ (.cons _ (.cons _ (List.Sublist.refl _))))
      refine ⟨rfl, ?_⟩
      simp only [oneOr, Value.int.injEq, true_and]; omega

set_option maxHeartbeats 4000000 in
theorem bounds_law (B : World) (n bufs : Int) {A : Option Addr} {cap : Nat} (l : List NDeed) (hcap : l.length ≤ cap) (hln : l.length ≤ 9223372036854775807) (hl : Src B [] A l.length 4 (flat encN l)) (hlB : ∀ x ∈ l, Src B [] x.2.2.2.1.A x.2.2.2.1.l.length 1 (x.2.2.2.1.l.map (fun x => Value.int .u8 x)) ∧ Bytes x.2.2.2.1.l ∧ x.2.2.2.1.l.length ≤ 9223372036854775807) : Tri Try.prog B 5 [.int .i64 n, .int .i64 bufs, .slice A l.length cap] [] fun v h' => v = .bool true := by
  have hLN : (((newP bufs).tk.length : Nat) : Int) = min (max bufs 0) 256 := newP_N bufs
  have hMN : (((newR n).sl.length : Nat) : Int) = min (max n 1) 64 := newR_N n
  refine Tri.enter (n := 94) Try.func5 rfl rfl rfl ?_
  simp only [argsE, Nat.reduceAdd]
  try dsimp only [argsE]
  refine AK.seq ?_
  refine AK.region ?_
  refine AO.val (RV.assign rfl) (.none rfl) rfl ?_
  refine AO.nil ?_
  refine AK.seq ?_
  refine AK.region ?_
  refine AO.val (RV.move rfl) (.none rfl) rfl ?_
  refine AO.eff (EF.callF rfl (new_spec B _ bufs)) (.none rfl) rfl ?_
  rintro _ _ ⟨p, qt, qb, rfl, rfl⟩
  refine AO.val (RV.assign rfl) (.none rfl) rfl ?_
  refine AO.nil ?_
  refine AK.seq ?_
  refine AK.region ?_
  refine AO.val (RV.move rfl) (.none rfl) rfl ?_
  refine AO.val (RV.move rfl) (.none rfl) rfl ?_
  refine AO.eff (EF.callF rfl (nic_new (Ab := none) (cb := 0) B _ p qb qt [] (newP bufs).tk.length (newP bufs) (List.replicate (newP bufs).tk.length (none, 0, 0)) (List.replicate (newP bufs).tk.length []) [] (by intro x hx; cases hx) ⟨pi_new bufs, rfl, List.length_replicate, .nil, Nat.le_refl 0, cont_new B _⟩ [] List.nodup_nil (by intro i hi; cases hi) n)) (.none rfl) rfl ?_
  rintro _ _ ⟨c, a, aq, b, bq, s1, t1, q1, A1, c1, p1, rfl, rfl, w1, hh1, hca1, hf1⟩
  refine AO.val (RV.assign rfl) (.none rfl) rfl ?_
  refine AO.nil ?_
  refine AK.seq ?_
  refine AK.seq ?_
  refine AK.region ?_
  refine AO.val (RV.move rfl) (.none rfl) rfl ?_
  refine AO.val (RV.eqlP rfl rfl) (.none rfl) rfl ?_
  refine AO.nil ?_
  refine AK.condF rfl ?_
  refine AK.skip ?_
  refine AK.seq ?_
  refine AK.region ?_
  refine AO.val (RV.move rfl) (.none rfl) rfl ?_
  refine AO.eff (EF.callF rfl (in_spec16 B _ n 1 64 (by decide))) (.none rfl) rfl ?_
  rintro _ _ ⟨rfl, rfl⟩
  refine AO.val (RV.assign rfl) (.none rfl) rfl ?_
  refine AO.nil ?_
  refine AK.seq ?_
  refine AK.seq ?_
  refine AK.region ?_
  refine AO.val (RV.assign rfl) (.none rfl) rfl ?_
  refine AO.nil ?_
  refine AK.block ?_
  refine AK.loop (α := Int × PS × RS × RS × QS × QS × List Sl × List (List Int) × Option Addr × Nat × Own × Own) (E := fun (i, s, si, so, qi, qo, bs, ct, Ab, cb, pb, D) => [(2, .slice A l.length cap), (7, .pointer (some ⟨p, 0, none⟩)), (8, .pointer (some ⟨c, 0, none⟩)), (9, .int .i64 (min (max n 1) 64)), (10, .int .i64 i)]) (H := fun (i, s, si, so, qi, qo, bs, ct, Ab, cb, pb, D) => ((c, Blk.cells [.pointer (some ⟨a, 0, none⟩), .pointer (some ⟨b, 0, none⟩), .pointer (some ⟨p, 0, none⟩)] 56 (0, 0)) :: (a, Blk.cells [.slice (some ⟨aq, 0, none⟩) (newR n).sl.length (newR n).sl.length, .int .i64 (si).post, .int .i64 (si).work, .int .i64 (si).reap] 70 (0, 0)) :: (aq, Blk.cells (flat encS (si).sl) 72 (0, 0)) :: (b, Blk.cells [.slice (some ⟨bq, 0, none⟩) (newR n).sl.length (newR n).sl.length, .int .i64 (so).post, .int .i64 (so).work, .int .i64 (so).reap] 70 (0, 0)) :: (bq, Blk.cells (flat encS (so).sl) 72 (0, 0)) :: (pb ++ ((p, Blk.cells [.slice (some ⟨qb, 0, none⟩) (newP bufs).tk.length (newP bufs).tk.length, .slice (some ⟨qt, 0, none⟩) (newP bufs).tk.length (newP bufs).tk.length, .slice Ab (s).back.length cb, .int .i64 (s).fresh] 59 (0, 0)) :: (qt, Blk.cells (flat encBo (s).tk) 4 (0, 0)) :: (qb, Blk.cells (flat encSl (bs)) 28 (0, 0)) :: D)))) (Inv := fun (i, s, si, so, qi, qo, bs, ct, Ab, cb, pb, D) => 0 ≤ i ∧ i ≤ l.length ∧ PW 3 B (newP bufs).tk.length (s) (bs) (ct) (D) Ab cb pb ∧ Hold (newR n).sl.length s [] si so qi qo) (μ := fun (i, s, si, so, qi, qo, bs, ct, Ab, cb, pb, D) => (l.length - i).toNat) (0, s1, t1, newR n, q1, newQ, (List.replicate (newP bufs).tk.length (none, 0, 0)), List.replicate (newP bufs).tk.length [], A1, c1, p1, []) ?_ (.cons (by exact rfl) (.cons (by exact rfl) (.cons (by exact rfl) (.cons (by exact rfl) (.cons (by exact rfl) .nil))))) ?_ ?_
  · exact ⟨by omega, by omega, w1, hh1⟩
  · exact (by first | exact SubO.sub | exact List.Sublist.refl _ | exact .cons _ (List.Sublist.refl _) | exact .cons _ (.cons _ (List.Sublist.refl _)) | exact .cons _ (.cons _ (.cons _ (List.Sublist.refl _))))
  rintro ⟨i, s, si, so, qi, qo, bs, ct, Ab, cb, pb, D⟩ ⟨hi0, hin, w, hh⟩ hih0
  try dsimp only at hih0 ⊢
  refine AK.seq ?_
  refine AK.seq ?_
  refine AK.region ?_
  refine AO.val (RV.move rfl) (.none rfl) rfl ?_
  refine AO.val (RV.move rfl) (.none rfl) rfl ?_
  refine AO.val (RV.lenS rfl) (.none rfl) rfl ?_
  refine AO.val (RV.lss rfl rfl) (.none rfl) rfl ?_
  refine AO.val (RV.move rfl) (.none rfl) rfl ?_
  refine AO.caseG rfl rfl rfl ?_ ?_
  · intro hg1
    try simp only [decide_eq_true_eq, decide_eq_false_iff_not, Bool.not_eq_true', Bool.not_eq_false', beq_iff_eq] at hg1
    refine AO.val (RV.move rfl) (.some rfl rfl rfl rfl) rfl ?_
    refine AO.val (RV.lss rfl rfl) (.some rfl rfl rfl rfl) rfl ?_
    refine AO.val (RV.pickT rfl rfl) (.none rfl) rfl ?_
    refine AO.nil ?_
    refine AK.cond rfl ?_ ?_
    · intro hc2
      try simp only [decide_eq_true_eq, decide_eq_false_iff_not, Bool.not_eq_true', Bool.not_eq_false', beq_iff_eq] at hc2
      obtain ⟨hx1, hx2, hx3⟩ := hlB _ (lget_in ⟨by omega, by omega⟩ : lget l i ∈ l)
      refine AK.skip ?_
      refine AK.seq ?_
      refine AK.block ?_
      refine AK.seq ?_
      refine AK.seq ?_
      refine AK.region ?_
      refine AO.val (RV.move rfl) (.none rfl) rfl ?_
      refine AO.val (RV.move rfl) (.none rfl) rfl ?_
      refine AO.val (by first | exact RV.indexS rfl rfl (by assumption) (by omega) rfl | exact RV.indexAddr rfl rfl (by omega)) (.none rfl) rfl ?_
      refine AO.val (by first | exact RV.fieldAddr rfl | exact RV.fieldAddrA rfl) (.none rfl) rfl ?_
      refine AO.val (by first | exact RV.loadO rfl rfl (by first | simp | assumption) | exact RV.loadSF rfl (by assumption) (fun _ => rfl) (by omega) rfl rfl (by first | simp | assumption) | exact RV.loadS rfl (by assumption) (by omega) (by first | simp | assumption)) (.none rfl) rfl ?_
      refine AO.nil ?_
      refine AK.cut (α := PS × RS × RS × QS × QS × List Sl × List (List Int) × Option Addr × Nat × Own × Own) (E := fun (s, si, so, qi, qo, bs, ct, Ab, cb, pb, D) => [(2, .slice A l.length cap), (7, .pointer (some ⟨p, 0, none⟩)), (8, .pointer (some ⟨c, 0, none⟩)), (9, .int .i64 (min (max n 1) 64)), (10, .int .i64 i)]) (H := fun (s, si, so, qi, qo, bs, ct, Ab, cb, pb, D) => ((c, Blk.cells [.pointer (some ⟨a, 0, none⟩), .pointer (some ⟨b, 0, none⟩), .pointer (some ⟨p, 0, none⟩)] 56 (0, 0)) :: (a, Blk.cells [.slice (some ⟨aq, 0, none⟩) (newR n).sl.length (newR n).sl.length, .int .i64 (si).post, .int .i64 (si).work, .int .i64 (si).reap] 70 (0, 0)) :: (aq, Blk.cells (flat encS (si).sl) 72 (0, 0)) :: (b, Blk.cells [.slice (some ⟨bq, 0, none⟩) (newR n).sl.length (newR n).sl.length, .int .i64 (so).post, .int .i64 (so).work, .int .i64 (so).reap] 70 (0, 0)) :: (bq, Blk.cells (flat encS (so).sl) 72 (0, 0)) :: (pb ++ ((p, Blk.cells [.slice (some ⟨qb, 0, none⟩) (newP bufs).tk.length (newP bufs).tk.length, .slice (some ⟨qt, 0, none⟩) (newP bufs).tk.length (newP bufs).tk.length, .slice Ab (s).back.length cb, .int .i64 (s).fresh] 59 (0, 0)) :: (qt, Blk.cells (flat encBo (s).tk) 4 (0, 0)) :: (qb, Blk.cells (flat encSl (bs)) 28 (0, 0)) :: D)))) (Inv := fun (s, si, so, qi, qo, bs, ct, Ab, cb, pb, D) => PW 3 B (newP bufs).tk.length (s) (bs) (ct) (D) Ab cb pb ∧ Hold (newR n).sl.length s [] si so qi qo) ?_ ?_
      · rintro ⟨s, si, so, qi, qo, bs, ct, Ab, cb, pb, D⟩ ⟨w, hh⟩
        try dsimp only
        have hrm := hh.roomin
        have hro := hh.roomout
        have hsz := hh.sz
        have hfr := hold_free hh w.pi
        have hfn := free_nn w.pi
        have hNN : s.N = (newP bufs).tk.length := by rw [← w.hL]; rfl
        have hn256 := w.pi.n
        refine AK.seq ?_
        refine AK.region ?_
        refine AO.val (RV.move rfl) (.none rfl) rfl ?_
        refine AO.eff (EF.callF rfl (nic_in B _ c a aq b bq p qb qt pb (newP bufs).tk.length (newR n).sl.length s bs ct D (fun x hx => hx) w si so qi qo [] hh)) (.none rfl) rfl ?_
        rintro _ _ ⟨rfl, rfl⟩
        refine AO.val (RV.move rfl) (.none rfl) rfl ?_
        refine AO.eff (EF.callF rfl (nic_waits B _ c a aq b bq p qb qt pb (newP bufs).tk.length (newR n).sl.length s bs ct D (fun x hx => hx) w si so qi qo [] hh)) (.none rfl) rfl ?_
        rintro _ _ ⟨rfl, rfl⟩
        refine AO.val (by first | exact RV.addIn rfl rfl (by omega) | exact RV.add rfl rfl) (.none rfl) rfl ?_
        refine AO.val (RV.move rfl) (.none rfl) rfl ?_
        refine AO.val ((RV.gtr rfl rfl).to (v' := .bool false) (by simp; omega)) (.none rfl) rfl ?_
        refine AO.val (RV.move rfl) (.none rfl) rfl ?_
        refine AO.val (RV.move rfl) (.some rfl rfl rfl rfl) rfl ?_
        refine AO.eff (EF.callF rfl (nic_out B _ c a aq b bq p qb qt pb (newP bufs).tk.length (newR n).sl.length s bs ct D (fun x hx => hx) w si so qi qo [] hh)) (.some rfl rfl rfl rfl) rfl ?_
        rintro _ _ ⟨rfl, rfl⟩
        refine AO.val (RV.move rfl) (.some rfl rfl rfl rfl) rfl ?_
        refine AO.val ((RV.gtr rfl rfl).to (v' := .bool false) (by simp; omega)) (.some rfl rfl rfl rfl) rfl ?_
        refine AO.val (RV.pickF rfl rfl) (.none rfl) rfl ?_
        refine AO.val (RV.move rfl) (.none rfl) rfl ?_
        refine AO.val (RV.move rfl) (.some rfl rfl rfl rfl) rfl ?_
        refine AO.eff (EF.callF rfl (nic_in B _ c a aq b bq p qb qt pb (newP bufs).tk.length (newR n).sl.length s bs ct D (fun x hx => hx) w si so qi qo [] hh)) (.some rfl rfl rfl rfl) rfl ?_
        rintro _ _ ⟨rfl, rfl⟩
        refine AO.val (RV.move rfl) (.some rfl rfl rfl rfl) rfl ?_
        refine AO.eff (EF.callF rfl (nic_waits B _ c a aq b bq p qb qt pb (newP bufs).tk.length (newR n).sl.length s bs ct D (fun x hx => hx) w si so qi qo [] hh)) (.some rfl rfl rfl rfl) rfl ?_
        rintro _ _ ⟨rfl, rfl⟩
        refine AO.val (by first | exact RV.addIn rfl rfl (by omega) | exact RV.add rfl rfl) (.some rfl rfl rfl rfl) rfl ?_
        refine AO.val (RV.move rfl) (.some rfl rfl rfl rfl) rfl ?_
        refine AO.eff (EF.callF rfl (nic_out B _ c a aq b bq p qb qt pb (newP bufs).tk.length (newR n).sl.length s bs ct D (fun x hx => hx) w si so qi qo [] hh)) (.some rfl rfl rfl rfl) rfl ?_
        rintro _ _ ⟨rfl, rfl⟩
        refine AO.val (by first | exact RV.addIn rfl rfl (by omega) | exact RV.add rfl rfl) (.some rfl rfl rfl rfl) rfl ?_
        refine AO.val (RV.move rfl) (.some rfl rfl rfl rfl) rfl ?_
        refine AO.eff (EF.callF rfl (Tri.perm (card_perm ..) (free_spec B _ p qb qt pb (newP bufs).tk.length s bs w.pi w.hL w.hbl w.hr w.hcb))) (.some rfl rfl rfl rfl) rfl ?_
        rintro _ _ ⟨rfl, rfl⟩
        first | refine AO.perm (card_perm ..).symm ?_ | refine AK.perm (card_perm ..).symm ?_
        refine AO.val (by first | exact RV.addIn rfl rfl (by omega) | exact RV.add rfl rfl) (.some rfl rfl rfl rfl) rfl ?_
        refine AO.val (RV.move rfl) (.some rfl rfl rfl rfl) rfl ?_
        refine AO.eff (EF.callF rfl (Tri.perm (card_perm ..) (size_spec B _ p qb qt pb (newP bufs).tk.length s bs w.pi w.hL w.hbl w.hr w.hcb))) (.some rfl rfl rfl rfl) rfl ?_
        rintro _ _ ⟨rfl, rfl⟩
        first | refine AO.perm (card_perm ..).symm ?_ | refine AK.perm (card_perm ..).symm ?_
        refine AO.val ((RV.gtr rfl rfl).to (v' := .bool false) (by simp; omega)) (.some rfl rfl rfl rfl) rfl ?_
        refine AO.val (RV.pickF rfl rfl) (.none rfl) rfl ?_
        refine AO.nil ?_
        refine AK.condF rfl ?_
        refine AK.skip ?_
        refine AK.inBlock ?_
        refine AK.region ?_
        refine AO.val (RV.move rfl) (.none rfl) rfl ?_
        refine AO.val (by first | exact RV.addIn rfl rfl (by omega) | exact RV.add rfl rfl) (.none rfl) rfl ?_
        refine AO.val (RV.assign rfl) (.none rfl) rfl ?_
        refine AO.nil ?_
        -- round ends at L0tTJb2
        refine AK.weak (.cons (by exact rfl) (.cons (by exact rfl) (.cons (by exact rfl) (.cons (by exact rfl) (.cons (by exact rfl) .nil))))) (by first | exact SubO.sub | exact List.Sublist.refl _ | exact .cons _ (List.Sublist.refl _) | exact .cons _ (.cons _ (List.Sublist.refl _)) | exact .cons _ (.cons _ (.cons _ (List.Sublist.refl _)))) (hih0 (i + 1, s, si, so, qi, qo, bs, ct, Ab, cb, pb, D) ?_ ?_)
        · try dsimp only
          exact ⟨by omega, by omega, w, hh⟩
        · try dsimp only
          omega
      · intro hjb2
        try dsimp only at hjb2
        refine AK.block ?_
        refine AK.seq ?_
        refine AK.region ?_
        refine AO.val (RV.eql rfl rfl) (.none rfl) rfl ?_
        refine AO.val (RV.assign rfl) (.none rfl) rfl ?_
        refine AO.nil ?_
        refine AK.cond rfl ?_ ?_
        · intro hc3
          try simp only [decide_eq_true_eq, decide_eq_false_iff_not, Bool.not_eq_true', Bool.not_eq_false', beq_iff_eq] at hc3
          refine AK.region ?_
          refine AO.val (RV.move rfl) (.none rfl) rfl ?_
          refine AO.val (RV.move rfl) (.none rfl) rfl ?_
          refine AO.val (RV.move rfl) (.none rfl) rfl ?_
          refine AO.val (by first | exact RV.indexS rfl rfl (by assumption) (by omega) rfl | exact RV.indexAddr rfl rfl (by omega)) (.none rfl) rfl ?_
          refine AO.val (by first | exact RV.fieldAddr rfl | exact RV.fieldAddrA rfl) (.none rfl) rfl ?_
          refine AO.val (by first | exact RV.loadO rfl rfl (by first | simp | assumption) | exact RV.loadSF rfl (by assumption) (fun _ => rfl) (by omega) rfl rfl (by first | simp | assumption) | exact RV.loadS rfl (by assumption) (by omega) (by first | simp | assumption)) (.none rfl) rfl ?_
          refine AO.eff (EF.callF rfl (arrive_spec B _ c a aq b bq p qb qt pb (newP bufs).tk.length (newR n).sl.length s bs ct D (fun x hx => hx) w si so qi qo [] hh (lget l i).2.2.2.1.l hx1.sub hx2 hx3)) (.none rfl) rfl ?_
          rintro _ _ ⟨bs1, ct1, t1, q1, part, rfl, rfl, w1, hh1, _, _⟩
          refine AO.nil ?_
          refine AK.inBlock ?_
          -- ways meet at L0tTT
          refine AK.weak (.cons (by exact rfl) (.cons (by exact rfl) (.cons (by exact rfl) (.cons (by exact rfl) (.cons (by exact rfl) .nil))))) (by first | exact SubO.sub | exact List.Sublist.refl _ | exact .cons _ (List.Sublist.refl _) | exact .cons _ (.cons _ (List.Sublist.refl _)) | exact .cons _ (.cons _ (.cons _ (List.Sublist.refl _)))) (hjb2 (s, t1, so, q1, qo, bs1, ct1, Ab, cb, pb, part ++ D) ?_)
          · try dsimp only
            exact ⟨w1, hh1⟩
        · intro hc3
          try simp only [decide_eq_true_eq, decide_eq_false_iff_not, Bool.not_eq_true', Bool.not_eq_false', beq_iff_eq] at hc3
          refine AK.seq ?_
          refine AK.region ?_
          refine AO.val (RV.eql rfl rfl) (.none rfl) rfl ?_
          refine AO.val (RV.assign rfl) (.none rfl) rfl ?_
          refine AO.nil ?_
          refine AK.cond rfl ?_ ?_
          · intro hc4
            try simp only [decide_eq_true_eq, decide_eq_false_iff_not, Bool.not_eq_true', Bool.not_eq_false', beq_iff_eq] at hc4
            refine AK.region ?_
            refine AO.val (RV.move rfl) (.none rfl) rfl ?_
            refine AO.eff (EF.callF rfl (poll_spec B _ c a aq b bq p qb qt pb (newP bufs).tk.length (newR n).sl.length s bs ct D (fun x hx => hx) w si so qi qo [] hh)) (.none rfl) rfl ?_
            rintro _ _ ⟨Ar, cr, part, s1, bs1, ct1, t1, o1, q1, r1, A1, c1, p1, rfl, _, _, _, _, rfl, w1, hh1, _, _, _⟩
            refine AO.nil ?_
            refine AK.inBlock ?_
            -- ways meet at L0tTFT
            refine AK.weak (.cons (by exact rfl) (.cons (by exact rfl) (.cons (by exact rfl) (.cons (by exact rfl) (.cons (by exact rfl) .nil))))) (by first | exact SubO.sub | exact List.Sublist.refl _ | exact .cons _ (List.Sublist.refl _) | exact .cons _ (.cons _ (List.Sublist.refl _)) | exact .cons _ (.cons _ (.cons _ (List.Sublist.refl _)))) (hjb2 (s1, t1, o1, q1, r1, bs1, ct1, A1, c1, p1, part ++ D) ?_)
            · try dsimp only
              exact ⟨w1.mono fun x hx => List.mem_append_right _ hx, hh1⟩
          · intro hc4
            try simp only [decide_eq_true_eq, decide_eq_false_iff_not, Bool.not_eq_true', Bool.not_eq_false', beq_iff_eq] at hc4
            refine AK.seq ?_
            refine AK.region ?_
            refine AO.val (RV.eql rfl rfl) (.none rfl) rfl ?_
            refine AO.val (RV.assign rfl) (.none rfl) rfl ?_
            refine AO.nil ?_
            refine AK.cond rfl ?_ ?_
            · intro hc5
              try simp only [decide_eq_true_eq, decide_eq_false_iff_not, Bool.not_eq_true', Bool.not_eq_false', beq_iff_eq] at hc5
              refine AK.region ?_
              refine AO.val (RV.move rfl) (.none rfl) rfl ?_
              refine AO.val (RV.move rfl) (.none rfl) rfl ?_
              refine AO.val (RV.move rfl) (.none rfl) rfl ?_
              refine AO.val (by first | exact RV.indexS rfl rfl (by assumption) (by omega) rfl | exact RV.indexAddr rfl rfl (by omega)) (.none rfl) rfl ?_
              refine AO.val (by first | exact RV.fieldAddr rfl | exact RV.fieldAddrA rfl) (.none rfl) rfl ?_
              refine AO.val (by first | exact RV.loadO rfl rfl (by first | simp | assumption) | exact RV.loadSF rfl (by assumption) (fun _ => rfl) (by omega) rfl rfl (by first | simp | assumption) | exact RV.loadS rfl (by assumption) (by omega) (by first | simp | assumption)) (.none rfl) rfl ?_
              refine AO.eff (EF.callF rfl (send_spec B _ c a aq b bq p qb qt pb (newP bufs).tk.length (newR n).sl.length s bs ct D (fun x hx => hx) w si so qi qo [] hh (lget l i).2.2.2.1.l hx1.sub hx2 hx3)) (.none rfl) rfl ?_
              rintro _ _ ⟨s1, bs1, ct1, o1, q1, A1, c1, p1, part, rfl, rfl, w1, hh1, _, _, _⟩
              refine AO.nil ?_
              refine AK.inBlock ?_
              -- ways meet at L0tTFFT
              refine AK.weak (.cons (by exact rfl) (.cons (by exact rfl) (.cons (by exact rfl) (.cons (by exact rfl) (.cons (by exact rfl) .nil))))) (by first | exact SubO.sub | exact List.Sublist.refl _ | exact .cons _ (List.Sublist.refl _) | exact .cons _ (.cons _ (List.Sublist.refl _)) | exact .cons _ (.cons _ (.cons _ (List.Sublist.refl _)))) (hjb2 (s1, si, o1, qi, q1, bs1, ct1, A1, c1, p1, part ++ D) ?_)
              · try dsimp only
                exact ⟨w1, hh1⟩
            · intro hc5
              try simp only [decide_eq_true_eq, decide_eq_false_iff_not, Bool.not_eq_true', Bool.not_eq_false', beq_iff_eq] at hc5
              refine AK.region ?_
              refine AO.val (RV.move rfl) (.none rfl) rfl ?_
              refine AO.val (RV.move rfl) (.none rfl) rfl ?_
              refine AO.val (RV.move rfl) (.none rfl) rfl ?_
              refine AO.val (by first | exact RV.indexS rfl rfl (by assumption) (by omega) rfl | exact RV.indexAddr rfl rfl (by omega)) (.none rfl) rfl ?_
              refine AO.val (by first | exact RV.fieldAddr rfl | exact RV.fieldAddrA rfl) (.none rfl) rfl ?_
              refine AO.val (by first | exact RV.loadO rfl rfl (by first | simp | assumption) | exact RV.loadSF rfl (by assumption) (fun _ => rfl) (by omega) rfl rfl (by first | simp | assumption) | exact RV.loadS rfl (by assumption) (by omega) (by first | simp | assumption)) (.none rfl) rfl ?_
              refine AO.eff (EF.callF rfl (finish_spec B _ c a aq b bq p qb qt pb (newP bufs).tk.length (newR n).sl.length s bs ct D (fun x hx => hx) w si so qi qo [] hh (lget l i).2.2.1)) (.none rfl) rfl ?_
              rintro _ _ ⟨zs, Ao, co, po, part, o1, q1, rfl, _, _, _, _, rfl, hh1, _⟩
              refine AO.nil ?_
              refine AK.inBlock ?_
              -- ways meet at L0tTFFF
              refine AK.weak (.cons (by exact rfl) (.cons (by exact rfl) (.cons (by exact rfl) (.cons (by exact rfl) (.cons (by exact rfl) .nil))))) (by first | exact SubO.sub | exact List.Sublist.refl _ | exact .cons _ (List.Sublist.refl _) | exact .cons _ (.cons _ (List.Sublist.refl _)) | exact .cons _ (.cons _ (.cons _ (List.Sublist.refl _)))) (hjb2 (s, si, o1, qi, q1, bs, ct, Ab, cb, pb, po ++ (part ++ D)) ?_)
              · try dsimp only
                exact ⟨w.mono fun x hx => List.mem_append_right _ (List.mem_append_right _ hx), hh1⟩
    · intro hc2
      try simp only [decide_eq_true_eq, decide_eq_false_iff_not, Bool.not_eq_true', Bool.not_eq_false', beq_iff_eq] at hc2
      refine AK.exit rfl ?_
      refine AK.seq ?_
      refine AK.region ?_
      refine AO.eff (EF.callF rfl (lives_spec B _)) (.none rfl) rfl ?_
      rintro _ _ rfl
      refine AO.val (RV.assign rfl) (.none rfl) rfl ?_
      refine AO.nil ?_
      -- at L0tF
      clear hih0
      refine AK.ret (h' := []) Try.func5 (.tmp rfl .nil) ?_ (List.nil_sublist _)
      rfl
  · intro hg1
    try simp only [decide_eq_true_eq, decide_eq_false_iff_not, Bool.not_eq_true', Bool.not_eq_false', beq_iff_eq] at hg1
    refine AO.pass (.some rfl rfl rfl rfl) rfl ?_
    refine AO.pass (.some rfl rfl rfl rfl) rfl ?_
    refine AO.val (RV.pickF rfl rfl) (.none rfl) rfl ?_
    refine AO.nil ?_
    refine AK.condF rfl ?_
    refine AK.exit rfl ?_
    refine AK.seq ?_
    refine AK.region ?_
    refine AO.eff (EF.callF rfl (lives_spec B _)) (.none rfl) rfl ?_
    rintro _ _ rfl
    refine AO.val (RV.assign rfl) (.none rfl) rfl ?_
    refine AO.nil ?_
    -- at L0f
    clear hih0
    refine AK.ret (h' := []) Try.func5 (.tmp rfl .nil) ?_ (List.nil_sublist _)
    rfl

theorem own_ : ownKnob Try.prog.godebug = none := by kernel_rfl
theorem laidOut_ : laidOutB Try.prog = true := by kernel_rfl

set_option maxRecDepth 100000 in
theorem nicBounds_lifted (os : Os) (started : os.Started) (H : Type) (enc : TypeId × Value → H) :
    ReturnsInHanded {} Try.checked os 5 .any (Rows.nicBoundsSpec.pre6 enc Try.prog Try.f5 Rows.nicBoundsRow.domain false) (Rows.nicBoundsSpec.post enc Try.prog Try.f5 false true false false) := by
  refine returnsInHanded_of_change (C := Try.checked) own_ started (by kernel_rfl) Try.func5
    (ChangeSpec.witness6 (enc := enc) (C := Try.checked) false ⟨#[], #[(Value.int IntKind.i64 0), (Value.int IntKind.i64 0), (Value.slice none 0 0)], []⟩ 8 (by kernel_rfl) (by kernel_rfl) (by kernel_rfl) (by kernel_rfl)) ?_
  intro W base args ds gs before hval0 hW hcnd _
  have hval : ∀ (j : Nat) t v, Try.f5.params[j]? = some t → args[j]? = some v → Value.okWide Try.prog W .any base t v := hval0
  have hW' := hW
  obtain ⟨p, q, hA0, hV, rfl, hfz, hnd⟩ := hW
  have hA : DataW.TrodAll enc Try.prog W 0 (fun _ => true) true Try.f5.params.toList args.toList ds p := hA0
  rw [Try.params5] at hA hval
  obtain ⟨args⟩ := args
  simp only at hA
  obtain ⟨v0, vs0, d0, ds0, p0, q0, e0a, e0b, e0c, t0, r0⟩ := trodAll_cons hA
  obtain ⟨v1, vs1, d1, ds1, p1, q1, e1a, e1b, e1c, t1, r1⟩ := trodAll_cons r0
  obtain ⟨v2, vs2, d2, ds2, p2, q2, e2a, e2b, e2c, t2, r2⟩ := trodAll_cons r1
  subst e0a e0b e0c
  subst e1a e1b e1c
  subst e2a e2b e2c
  obtain ⟨rfl, rfl, rfl⟩ := trodAll_nil r2
  obtain ⟨rfl, rfl⟩ := trodVars_none hV
  have hlt := hW'.lt
  have k0 : Value.okWide Try.prog W .any base 3 v0 := hval 0 _ v0 rfl rfl
  obtain ⟨n, w0, n_lo, n_hi⟩ := Dec.argI k0 t0
  have k1 : Value.okWide Try.prog W .any base 3 v1 := hval 1 _ v1 rfl rfl
  obtain ⟨bufs, w1, bufs_lo, bufs_hi⟩ := Dec.argI k1 t1
  have k2 : Value.okWide Try.prog W .any base 22 v2 := hval 2 _ v2 rfl rfl
  obtain ⟨l, w2, hl⟩ := Dec.argS k2 t2 ((Dec.struct (t := 31) (.cons (off := 0) (sz := 1) (by rfl) (by kernel_rfl) (Dec.int (t := 3) (k := .i64)) (.cons (off := 1) (sz := 1) (by rfl) (by kernel_rfl) (Dec.int (t := 3) (k := .i64)) (.cons (off := 2) (sz := 1) (by rfl) (by kernel_rfl) (Dec.int (t := 3) (k := .i64)) (.cons (off := 3) (sz := 1) (by rfl) (by kernel_rfl) (Dec.slice (t := 28) (e := 5) (sz := 1) (Dec.int (t := 5) (k := .u8)) (by decide)) .nil)))) (by kernel_rfl))) (by decide)
  have htri : Tri Try.prog W 5 [v0, v1, v2] [] (fun v _ => v = .bool true) := by
    subst w0 w1 w2
    exact bounds_law W n bufs l.l hl.2.1 (by have := hl.2.1; have := hl.2.2.1; omega) hl.1 (fun x hx => ⟨(hl.2.2.2.1 x hx).2.2.2.1.src1, (hl.2.2.2.1 x hx).2.2.2.1.2.2.2.1, by have := (hl.2.2.2.1 x hx).2.2.2.1.2.1; have := (hl.2.2.2.1 x hx).2.2.2.1.2.2.1; omega⟩)
  clear w0 w1 w2
  refine (htri.run W (Models.start W)).mono fun e W' ⟨v, h2, he, m2, hv⟩ => ?_
  subst he; subst hv
  have hb := m2.below
  refine ⟨_, rfl, post_of_below (pa := (p0 ++ (p1 ++ (p2 ++ ([]))))) (pv := []) hW' (fun _ _ _ => trodAll_mk1 (shut_bool (Try.underlying4) true)) (fun sp hsp => ?_) (fun _ _ => rfl) rfl hb (ok_one (t := 4) (by kernel_rfl) rfl ?_)⟩
  · refine TAcons (WideElems.Trod_stays laidOut_ (by kernel_rfl) (of_decide_eq_true (by kernel_rfl)) t0 (fun x hx => hb.same (hlt x (by simp [hx]))) (fun x hx => hsp x (by simp [hx]))) ?_
    refine TAcons (WideElems.Trod_stays laidOut_ (by kernel_rfl) (of_decide_eq_true (by kernel_rfl)) t1 (fun x hx => hb.same (hlt x (by simp [hx]))) (fun x hx => hsp x (by simp [hx]))) ?_
    refine TAcons (WideElems.Trod_stays laidOut_ (by kernel_rfl) (of_decide_eq_true (by kernel_rfl)) t2 (fun x hx => hb.same (hlt x (by simp [hx]))) (fun x hx => hsp x (by simp [hx]))) ?_
    rfl
  · exact okBool Try.underlying4

theorem nicBounds_holds : Rows.NicBoundsSaid :=
  OpenClaim.holds_of_wide 5 Try.f5 rfl rfl rfl rfl rfl rfl rfl ⟨rfl, rfl, rfl, rfl, rfl⟩ rfl rfl rfl rfl rfl (by kernel_rfl) Try.func5 (by kernel_rfl)
    (of_decide_eq_true (by kernel_rfl)) (by unfold Func.isWrapper; first | (rw [if_pos (by decide +kernel)]; kernel_rfl) | (rw [if_neg (by decide +kernel)]; exact ⟨rfl, rfl⟩))
    (fun os started H enc _ => nicBounds_lifted os started H enc)

end Go.Proofs.Ytpobjhmbonojkaa
