/- Walks through the code: what each function that is named here gives back, from any memory that holds its arguments. Written by a program of the claim's author, out of the program's form in Lean. -/
import Derived.Test.YtpobjhmbonojkaaW3
set_option linter.unusedSimpArgs false
set_option linter.unusedVariables false
namespace Go.Proofs.Ytpobjhmbonojkaa
open Go.Sep Go.Sep.Ring Go.Sep.Pool Go.Sep.Sip Go.Sep.Nic Go.RowKit Go.WideShapes Go.ChangeShapes

set_option maxHeartbeats 4000000 in
theorem order_law (B : World) (n bufs : Int) {A : Option Addr} {cap : Nat} (l : List NDeed) (hcap : l.length ≤ cap) (hln : l.length ≤ 9223372036854775807) (hl : Src B [] A l.length 4 (flat encN l)) (hlB : ∀ x ∈ l, Src B [] x.2.2.2.1.A x.2.2.2.1.l.length 1 (x.2.2.2.1.l.map (fun x => Value.int .u8 x)) ∧ Bytes x.2.2.2.1.l ∧ x.2.2.2.1.l.length ≤ x.2.2.2.1.cap ∧ x.2.2.2.1.cap ≤ 9223372036854775807) : Tri Try.prog B 3 [.int .i64 n, .int .i64 bufs, .slice A l.length cap] [] fun v h' => v = .bool true := by
  have hLN : (((newP bufs).tk.length : Nat) : Int) = min (max bufs 0) 256 := newP_N bufs
  have hMN : (((newR n).sl.length : Nat) : Int) = min (max n 1) 64 := newR_N n
  refine Tri.enter (n := 130) Try.func3 rfl rfl rfl ?_
  simp only [argsE, Nat.reduceAdd]
  try dsimp only [argsE]
  refine AK.seq ?_
  refine AK.region ?_
  refine AO.val (RV.assign rfl) (.none rfl) rfl ?_
  refine AO.nil ?_
  refine AK.seq ?_
  refine AK.region ?_
  refine AO.val (RV.move rfl) (.none rfl) rfl ?_
  refine AO.val (RV.move rfl) (.none rfl) rfl ?_
  refine AO.eff (EF.callF rfl (new_spec B _ bufs)) (.none rfl) rfl ?_
  rintro _ _ ⟨p, qt, qb, rfl, rfl⟩
  refine AO.eff (EF.callF rfl (nic_new (Ab := none) (cb := 0) B _ p qb qt [] (newP bufs).tk.length (newP bufs) (List.replicate (newP bufs).tk.length (none, 0, 0)) (List.replicate (newP bufs).tk.length []) [] (by intro x hx; cases hx) ⟨pi_new bufs, rfl, List.length_replicate, .nil, Nat.le_refl 0, cont_new B _⟩ [] List.nodup_nil (by intro i hi; cases hi) n)) (.none rfl) rfl ?_
  rintro _ _ ⟨c, a, aq, b, bq, s1, t1, q1, A1, c1, p1, rfl, rfl, w1, hh1, hca1, hf1⟩
  refine AO.val (RV.assign rfl) (.none rfl) rfl ?_
  refine AO.nil ?_
  refine AK.seq ?_
  refine AK.seq ?_
  refine AK.region ?_
  refine AO.val (RV.move rfl) (.none rfl) rfl ?_
  refine AO.val (RV.eqlP rfl rfl) (.none rfl) rfl ?_
  refine AO.nil ?_
  refine AK.condF rfl ?_
  refine AK.skip ?_
  refine AK.seq ?_
  refine AK.region ?_
  refine AO.val (RV.assign rfl) (.none rfl) rfl ?_
  refine AO.val (RV.assign rfl) (.none rfl) rfl ?_
  refine AO.nil ?_
  refine AK.seq ?_
  refine AK.seq ?_
  refine AK.region ?_
  refine AO.val (RV.assign rfl) (.none rfl) rfl ?_
  refine AO.nil ?_
  refine AK.block ?_
  refine AK.loop (α := Int × PS × RS × RS × QS × QS × List Sl × List (List Int) × Option Addr × Nat × Own × List (InS Int) × Option Addr × Nat × Own × List (InS Int) × Option Addr × Nat × Own × Own) (E := fun (i, s, si, so, qi, qo, bs, ct, Ab, cb, pb, zc, Ac, cc, pc, zs, Az, cz, ps, D) => [(2, .slice A l.length cap), (7, .pointer (some ⟨c, 0, none⟩)), (8, .slice Ac zc.length cc), (9, .slice Az zs.length cz), (10, .int .i64 i)]) (H := fun (i, s, si, so, qi, qo, bs, ct, Ab, cb, pb, zc, Ac, cc, pc, zs, Az, cz, ps, D) => ((c, Blk.cells [.pointer (some ⟨a, 0, none⟩), .pointer (some ⟨b, 0, none⟩), .pointer (some ⟨p, 0, none⟩)] 56 (0, 0)) :: (a, Blk.cells [.slice (some ⟨aq, 0, none⟩) (newR n).sl.length (newR n).sl.length, .int .i64 (si).post, .int .i64 (si).work, .int .i64 (si).reap] 70 (0, 0)) :: (aq, Blk.cells (flat encS (si).sl) 72 (0, 0)) :: (b, Blk.cells [.slice (some ⟨bq, 0, none⟩) (newR n).sl.length (newR n).sl.length, .int .i64 (so).post, .int .i64 (so).work, .int .i64 (so).reap] 70 (0, 0)) :: (bq, Blk.cells (flat encS (so).sl) 72 (0, 0)) :: (pb ++ ((p, Blk.cells [.slice (some ⟨qb, 0, none⟩) (newP bufs).tk.length (newP bufs).tk.length, .slice (some ⟨qt, 0, none⟩) (newP bufs).tk.length (newP bufs).tk.length, .slice Ab (s).back.length cb, .int .i64 (s).fresh] 59 (0, 0)) :: (qt, Blk.cells (flat encBo (s).tk) 4 (0, 0)) :: (qb, Blk.cells (flat encSl (bs)) 28 (0, 0)) :: (pc ++ (ps ++ D)))))) (Inv := fun (i, s, si, so, qi, qo, bs, ct, Ab, cb, pb, zc, Ac, cc, pc, zs, Az, cz, ps, D) => 0 ≤ i ∧ i ≤ l.length ∧ PW 3 B (newP bufs).tk.length (s) (bs) (ct) (D) Ab cb pb ∧ Hold (newR n).sl.length s [] si so qi qo ∧ FR 28 B [] zc Ac cc pc (ca ct qi qo).came ∧ FR 28 B [] zs Az cz ps (ca ct qi qo).goes) (μ := fun (i, s, si, so, qi, qo, bs, ct, Ab, cb, pb, zc, Ac, cc, pc, zs, Az, cz, ps, D) => (l.length - i).toNat) (0, s1, t1, newR n, q1, newQ, (List.replicate (newP bufs).tk.length (none, 0, 0)), List.replicate (newP bufs).tk.length [], A1, c1, p1, [], none, 0, [], [], none, 0, [], []) ?_ (.cons (by exact rfl) (.cons (by exact rfl) (.cons (by exact rfl) (.cons (by exact rfl) (.cons (by exact rfl) .nil))))) ?_ ?_
  · refine ⟨by omega, by omega, w1, hh1, ?_, ?_⟩
    · rw [hca1]; exact .nil
    · rw [hca1]; exact .nil
  · exact (by first | exact SubO.sub | exact List.Sublist.refl _ | exact .cons _ (List.Sublist.refl _) | exact .cons _ (.cons _ (List.Sublist.refl _)) | exact .cons _ (.cons _ (.cons _ (List.Sublist.refl _))))
  rintro ⟨i, s, si, so, qi, qo, bs, ct, Ab, cb, pb, zc, Ac, cc, pc, zs, Az, cz, ps, D⟩ ⟨hi0, hin, w, hh, hC, hS⟩ hih0
  try dsimp only at hih0 ⊢
  have hrm := hh.roomin
  have hro := hh.roomout
  have hsz := hh.sz
  have hzc : zc.length = qi.ready.length := by have := hC.len; simpa [ca] using this
  have hzs : zs.length = qo.posted.length := by have := hS.len; simpa [ca] using this
  refine AK.seq ?_
  refine AK.seq ?_
  refine AK.region ?_
  refine AO.val (RV.move rfl) (.none rfl) rfl ?_
  refine AO.val (RV.move rfl) (.none rfl) rfl ?_
  refine AO.val (RV.lenS rfl) (.none rfl) rfl ?_
  refine AO.val (RV.lss rfl rfl) (.none rfl) rfl ?_
  refine AO.val (RV.move rfl) (.none rfl) rfl ?_
  refine AO.caseG rfl rfl rfl ?_ ?_
  · intro hg1
    try simp only [decide_eq_true_eq, decide_eq_false_iff_not, Bool.not_eq_true', Bool.not_eq_false', beq_iff_eq] at hg1
    refine AO.val (RV.move rfl) (.some rfl rfl rfl rfl) rfl ?_
    refine AO.val (RV.lss rfl rfl) (.some rfl rfl rfl rfl) rfl ?_
    refine AO.val (RV.pickT rfl rfl) (.none rfl) rfl ?_
    refine AO.nil ?_
    refine AK.cond rfl ?_ ?_
    · intro hc2
      try simp only [decide_eq_true_eq, decide_eq_false_iff_not, Bool.not_eq_true', Bool.not_eq_false', beq_iff_eq] at hc2
      obtain ⟨hx1, hx2, hx3, hx4⟩ := hlB _ (lget_in ⟨by omega, by omega⟩ : lget l i ∈ l)
      have hfs : Src B [] (lget l i).2.2.2.1.A ((lget l i).2.2.2.1.l.take (1600 : Int).toNat).length 1 (((lget l i).2.2.2.1.l.take (1600 : Int).toNat).map (fun x => Value.int .u8 x)) := few_src hx1 1600
      have hfb2 : Bytes ((lget l i).2.2.2.1.l.take (1600 : Int).toNat) := bytes_take hx2 _
      have hfl : ((lget l i).2.2.2.1.l.take (1600 : Int).toNat).length ≤ 1600 := by rw [List.length_take]; exact Nat.min_le_left _ _
      refine AK.skip ?_
      refine AK.seq ?_
      refine AK.block ?_
      refine AK.seq ?_
      refine AK.region ?_
      refine AO.val (RV.move rfl) (.none rfl) rfl ?_
      refine AO.val (RV.move rfl) (.none rfl) rfl ?_
      refine AO.val (by first | exact RV.indexS rfl rfl (by assumption) (by omega) rfl | exact RV.indexAddr rfl rfl (by omega)) (.none rfl) rfl ?_
      refine AO.val (by first | exact RV.fieldAddr rfl | exact RV.fieldAddrA rfl) (.none rfl) rfl ?_
      refine AO.val (by first | exact RV.loadO rfl rfl (by first | simp | assumption) | exact RV.loadSF rfl (by assumption) (fun _ => rfl) (by omega) rfl rfl (by first | simp | assumption) | exact RV.loadS rfl (by assumption) (by omega) (by first | simp | assumption)) (.none rfl) rfl ?_
      refine AO.eff (EF.callF rfl (few_spec B _ (lget l i).2.2.2.1.l 1600 (by omega) hx3)) (.none rfl) rfl ?_
      rintro _ _ ⟨rfl, rfl⟩
      refine AO.val (RV.assign rfl) (.none rfl) rfl ?_
      refine AO.nil ?_
      refine AK.seq ?_
      refine AK.region ?_
      refine AO.val (RV.move rfl) (.none rfl) rfl ?_
      refine AO.val (RV.move rfl) (.none rfl) rfl ?_
      refine AO.val (by first | exact RV.indexS rfl rfl (by assumption) (by omega) rfl | exact RV.indexAddr rfl rfl (by omega)) (.none rfl) rfl ?_
      refine AO.val (by first | exact RV.fieldAddr rfl | exact RV.fieldAddrA rfl) (.none rfl) rfl ?_
      refine AO.val (by first | exact RV.loadO rfl rfl (by first | simp | assumption) | exact RV.loadSF rfl (by assumption) (fun _ => rfl) (by omega) rfl rfl (by first | simp | assumption) | exact RV.loadS rfl (by assumption) (by omega) (by first | simp | assumption)) (.none rfl) rfl ?_
      refine AO.nil ?_
      refine AK.cut (α := PS × RS × RS × QS × QS × List Sl × List (List Int) × Option Addr × Nat × Own × List (InS Int) × Option Addr × Nat × Own × List (InS Int) × Option Addr × Nat × Own × Own) (E := fun (s, si, so, qi, qo, bs, ct, Ab, cb, pb, zc, Ac, cc, pc, zs, Az, cz, ps, D) => [(2, .slice A l.length cap), (7, .pointer (some ⟨c, 0, none⟩)), (8, .slice Ac zc.length cc), (9, .slice Az zs.length cz), (10, .int .i64 i)]) (H := fun (s, si, so, qi, qo, bs, ct, Ab, cb, pb, zc, Ac, cc, pc, zs, Az, cz, ps, D) => ((c, Blk.cells [.pointer (some ⟨a, 0, none⟩), .pointer (some ⟨b, 0, none⟩), .pointer (some ⟨p, 0, none⟩)] 56 (0, 0)) :: (a, Blk.cells [.slice (some ⟨aq, 0, none⟩) (newR n).sl.length (newR n).sl.length, .int .i64 (si).post, .int .i64 (si).work, .int .i64 (si).reap] 70 (0, 0)) :: (aq, Blk.cells (flat encS (si).sl) 72 (0, 0)) :: (b, Blk.cells [.slice (some ⟨bq, 0, none⟩) (newR n).sl.length (newR n).sl.length, .int .i64 (so).post, .int .i64 (so).work, .int .i64 (so).reap] 70 (0, 0)) :: (bq, Blk.cells (flat encS (so).sl) 72 (0, 0)) :: (pb ++ ((p, Blk.cells [.slice (some ⟨qb, 0, none⟩) (newP bufs).tk.length (newP bufs).tk.length, .slice (some ⟨qt, 0, none⟩) (newP bufs).tk.length (newP bufs).tk.length, .slice Ab (s).back.length cb, .int .i64 (s).fresh] 59 (0, 0)) :: (qt, Blk.cells (flat encBo (s).tk) 4 (0, 0)) :: (qb, Blk.cells (flat encSl (bs)) 28 (0, 0)) :: (pc ++ (ps ++ D)))))) (Inv := fun (s, si, so, qi, qo, bs, ct, Ab, cb, pb, zc, Ac, cc, pc, zs, Az, cz, ps, D) => PW 3 B (newP bufs).tk.length (s) (bs) (ct) (D) Ab cb pb ∧ Hold (newR n).sl.length s [] si so qi qo ∧ FR 28 B [] zc Ac cc pc (ca ct qi qo).came ∧ FR 28 B [] zs Az cz ps (ca ct qi qo).goes) ?_ ?_
      · rintro ⟨s, si, so, qi, qo, bs, ct, Ab, cb, pb, zc, Ac, cc, pc, zs, Az, cz, ps, D⟩ ⟨w, hh, hC, hS⟩
        try dsimp only
        refine AK.inBlock ?_
        refine AK.region ?_
        refine AO.val (RV.move rfl) (.none rfl) rfl ?_
        refine AO.val (by first | exact RV.addIn rfl rfl (by omega) | exact RV.add rfl rfl) (.none rfl) rfl ?_
        refine AO.val (RV.assign rfl) (.none rfl) rfl ?_
        refine AO.nil ?_
        -- round ends at L0tTJb2
        refine AK.weak (.cons (by exact rfl) (.cons (by exact rfl) (.cons (by exact rfl) (.cons (by exact rfl) (.cons (by exact rfl) .nil))))) (by first | exact SubO.sub | exact List.Sublist.refl _ | exact .cons _ (List.Sublist.refl _) | exact .cons _ (.cons _ (List.Sublist.refl _)) | exact .cons _ (.cons _ (.cons _ (List.Sublist.refl _)))) (hih0 (i + 1, s, si, so, qi, qo, bs, ct, Ab, cb, pb, zc, Ac, cc, pc, zs, Az, cz, ps, D) ?_ ?_)
        · try dsimp only
          exact ⟨by omega, by omega, w, hh, hC, hS⟩
        · try dsimp only
          omega
      · intro hjb2
        try dsimp only at hjb2
        refine AK.block ?_
        refine AK.seq ?_
        refine AK.region ?_
        refine AO.val (RV.eql rfl rfl) (.none rfl) rfl ?_
        refine AO.val (RV.assign rfl) (.none rfl) rfl ?_
        refine AO.nil ?_
        refine AK.cond rfl ?_ ?_
        · intro hc3
          try simp only [decide_eq_true_eq, decide_eq_false_iff_not, Bool.not_eq_true', Bool.not_eq_false', beq_iff_eq] at hc3
          refine AK.seq ?_
          refine AK.region ?_
          refine AO.val (RV.move rfl) (.none rfl) rfl ?_
          refine AO.val (RV.move rfl) (.none rfl) rfl ?_
          refine AO.eff (EF.callF rfl (arrive_spec B _ c a aq b bq p qb qt pb (newP bufs).tk.length (newR n).sl.length s bs ct D (fun x hx => List.mem_append_right _ (List.mem_append_right _ hx)) w si so qi qo [] hh ((lget l i).2.2.2.1.l.take (1600 : Int).toNat) hfs.sub hfb2 (by omega))) (.none rfl) rfl ?_
          rintro _ _ ⟨bs1, ct1, t1, q1, part, rfl, rfl, w1, hh1, hca1, _⟩
          refine AO.val (RV.eql rfl rfl) (.none rfl) rfl ?_
          refine AO.nil ?_
          refine AK.cond rfl ?_ ?_
          · intro hc4
            try simp only [decide_eq_true_eq, decide_eq_false_iff_not, Bool.not_eq_true', Bool.not_eq_false', beq_iff_eq] at hc4
            have hce := hc4
            refine AK.region ?_
            refine AO.val (RV.move rfl) (.none rfl) rfl ?_
            refine AO.val (RV.move rfl) (.none rfl) rfl ?_
            refine AO.eff (EF.buildSeq [.slice (lget l i).2.2.2.1.A ((lget l i).2.2.2.1.l.take (1600 : Int).toNat).length (lget l i).2.2.2.1.cap] rfl rfl rfl rfl) (.none rfl) rfl ?_
            rintro _ _ ⟨b77, hf77, rfl, rfl⟩
            refine AO.eff (EF.appendS (n' := (zc ++ [(⟨(lget l i).2.2.2.1.A, (lget l i).2.2.2.1.cap, ((lget l i).2.2.2.1.l.take (1600 : Int).toNat)⟩ : InS Int)]).length) (ys := (zc ++ [(⟨(lget l i).2.2.2.1.A, (lget l i).2.2.2.1.cap, ((lget l i).2.2.2.1.l.take (1600 : Int).toNat)⟩ : InS Int)]).map frV) rfl rfl hC.row (Src.of_new (el := 28) (cs := [.slice (lget l i).2.2.2.1.A ((lget l i).2.2.2.1.l.take (1600 : Int).toNat).length (lget l i).2.2.2.1.cap]) (by simp) 1 1 (Nat.le_refl _)) (by simp) (by simp) rfl (by decide) rfl (by omega) (by omega)) (.none rfl) rfl ?_
            rintro _ _ ⟨A78, c78, p78, rfl, hr78, hc78, rfl⟩
            refine AO.perm (ord_perm ..) ?_
            refine Nic.AO.drop (List.sublist_cons_self _ _) ?_
            refine AO.val (RV.assign rfl) (.none rfl) rfl ?_
            refine AO.nil ?_
            refine AK.inBlock ?_
            -- ways meet at L0tTTT
            obtain ⟨he1, he2⟩ := (arriveA_facts (ca ct qi qo) ((lget l i).2.2.2.1.l.take (1600 : Int).toNat)).1 hce
            refine AK.weak (.cons (by exact rfl) (.cons (by exact rfl) (.cons (by exact rfl) (.cons (by exact rfl) (.cons (by exact rfl) .nil))))) (by first | exact SubO.sub | exact List.Sublist.refl _ | exact .cons _ (List.Sublist.refl _) | exact .cons _ (.cons _ (List.Sublist.refl _)) | exact .cons _ (.cons _ (.cons _ (List.Sublist.refl _)))) (hjb2 (s, t1, so, q1, qo, bs1, ct1, Ab, cb, pb, zc ++ [(⟨(lget l i).2.2.2.1.A, (lget l i).2.2.2.1.cap, ((lget l i).2.2.2.1.l.take (1600 : Int).toNat)⟩ : InS Int)], A78, c78, p78, zs, Az, cz, ps, part ++ D) ?_)
            · try dsimp only
              refine ⟨w1, hh1, ?_, ?_⟩
              · rw [hca1, he1]; exact hC.push hfs hr78 hc78
              · rw [hca1, he2]; exact hS
          · intro hc4
            try simp only [decide_eq_true_eq, decide_eq_false_iff_not, Bool.not_eq_true', Bool.not_eq_false', beq_iff_eq] at hc4
            have hce := hc4
            refine AK.skip ?_
            refine AK.inBlock ?_
            -- ways meet at L0tTTF
            refine AK.perm (ord_perm3 ..) ?_
            have he1 := (arriveA_facts (ca ct qi qo) ((lget l i).2.2.2.1.l.take (1600 : Int).toNat)).2 hce
            refine AK.weak (.cons (by exact rfl) (.cons (by exact rfl) (.cons (by exact rfl) (.cons (by exact rfl) (.cons (by exact rfl) .nil))))) (by first | exact SubO.sub | exact List.Sublist.refl _ | exact .cons _ (List.Sublist.refl _) | exact .cons _ (.cons _ (List.Sublist.refl _)) | exact .cons _ (.cons _ (.cons _ (List.Sublist.refl _)))) (hjb2 (s, t1, so, q1, qo, bs1, ct1, Ab, cb, pb, zc, Ac, cc, pc, zs, Az, cz, ps, part ++ D) ?_)
            · try dsimp only
              refine ⟨w1, hh1, ?_, ?_⟩
              · rw [hca1, he1]; exact hC
              · rw [hca1, he1]; exact hS
        · intro hc3
          try simp only [decide_eq_true_eq, decide_eq_false_iff_not, Bool.not_eq_true', Bool.not_eq_false', beq_iff_eq] at hc3
          refine AK.seq ?_
          refine AK.region ?_
          refine AO.val (RV.eql rfl rfl) (.none rfl) rfl ?_
          refine AO.val (RV.assign rfl) (.none rfl) rfl ?_
          refine AO.nil ?_
          refine AK.cond rfl ?_ ?_
          · intro hc5
            try simp only [decide_eq_true_eq, decide_eq_false_iff_not, Bool.not_eq_true', Bool.not_eq_false', beq_iff_eq] at hc5
            refine AK.seq ?_
            refine AK.region ?_
            refine AO.val (RV.move rfl) (.none rfl) rfl ?_
            refine AO.eff (EF.callF rfl (poll_spec B _ c a aq b bq p qb qt pb (newP bufs).tk.length (newR n).sl.length s bs ct D (fun x hx => List.mem_append_right _ (List.mem_append_right _ hx)) w si so qi qo [] hh)) (.none rfl) rfl ?_
            rintro _ _ ⟨Ar, cr, part, s1, bs1, ct1, t1, o1, q1, r1, A1, c1, p1, rfl, hcr, hrr, hxb, hxl, rfl, w1, hh1, hca1, _, _⟩
            obtain ⟨hpk, hpg, hpn, hpc⟩ := pollA_facts (newR n).sl.length (ca ct qi qo) (freeP s)
            refine AO.val (RV.move rfl) (.none rfl) rfl ?_
            refine AO.val (RV.extract rfl rfl) (.none rfl) rfl ?_
            refine AO.val (RV.extract rfl rfl) (.none rfl) rfl ?_
            refine AO.val (RV.assign rfl) (.none rfl) rfl ?_
            refine AO.val (RV.assign rfl) (.none rfl) rfl ?_
            refine AO.nil ?_
            refine AK.seq ?_
            refine AK.seq ?_
            refine AK.region ?_
            refine AO.val (RV.move rfl) (.none rfl) rfl ?_
            refine AO.val (RV.move rfl) (.none rfl) rfl ?_
            refine AO.val (RV.lenS rfl) (.none rfl) rfl ?_
            refine AO.val (RV.gtr rfl rfl) (.none rfl) rfl ?_
            refine AO.val ((RV.neqB rfl rfl).to (v' := .bool false) (by rw [hpk, ← hC.len]; simp)) (.none rfl) rfl ?_
            refine AO.val (RV.move rfl) (.none rfl) rfl ?_
            refine AO.val (RV.move rfl) (.some rfl rfl rfl rfl) rfl ?_
            refine AO.val (RV.move rfl) (.some rfl rfl rfl rfl) rfl ?_
            refine AO.caseG rfl rfl rfl ?_ ?_
            · intro hg6
              try simp only [decide_eq_true_eq, decide_eq_false_iff_not, Bool.not_eq_true', Bool.not_eq_false', beq_iff_eq] at hg6
              have hcn : ¬ (ca ct qi qo).came = [] := by intro hcn; rw [hpk, hcn] at hg6; simp at hg6
              obtain ⟨x0, r0, rfl, hC0, hC1, hC2⟩ := hC.cons hcn
              obtain ⟨hpx, hpr⟩ := hpc _ _ hC0
              have hcp := hC.cap
              simp only [List.length_cons] at hcp
              have hok := hg6
              refine AO.val (RV.move rfl) (.some rfl rfl rfl rfl) rfl ?_
              refine AO.val (RV.move rfl) (.some rfl rfl rfl rfl) rfl ?_
              refine AO.val (RV.indexS rfl rfl (hC.row.src (h := pc) fun x hx => hx) (by simp) rfl) (.some rfl rfl rfl rfl) rfl ?_
              refine AO.val ((RV.loadS (enc := frV) (l := x0 :: r0) rfl (hC.row.src (h := pc) fun x hx => hx) (by simp) (by simp)).to (v' := frV x0) rfl) (.some rfl rfl rfl rfl) rfl ?_
              refine AO.eff (EF.callF rfl (same_spec (cap := cr) (cap2 := x0.cap) B _ (pollA (newR n).sl.length (ca ct qi qo) (freeP s)).2.1 x0.l (hrr.src fun x hx => by simp [hx]) hC1.sub (by omega))) (.some rfl rfl rfl rfl) rfl ?_
              rintro _ _ ⟨rfl, bS, rfl, hSm⟩
              have hSm2 := hSm.2 hpx
              subst hSm2
              refine AO.val (RV.not rfl) (.some rfl rfl rfl rfl) rfl ?_
              refine AO.val (RV.pickT rfl rfl) (.some rfl rfl rfl rfl) rfl ?_
              refine AO.val (RV.pickF rfl rfl) (.none rfl) rfl ?_
              refine AO.nil ?_
              refine AK.condF rfl ?_
              refine AK.skip ?_
              refine AK.seq ?_
              refine AK.region ?_
              refine AO.val ((RV.move rfl).to (v' := .bool true) (by rw [hok])) (.none rfl) rfl ?_
              refine AO.nil ?_
              refine AK.condT rfl ?_
              refine AK.region ?_
              refine AO.val (RV.move rfl) (.none rfl) rfl ?_
              refine AO.val ((RV.sliceL rfl rfl (by simp; omega) (by omega)).to (v' := .slice (if (cc : Int) = 1 then Ac else cutA Ac 1) r0.length (cc - 1)) (by rw [show (((x0 :: r0).length : Int) - 1).toNat = r0.length by simp, show ((cc : Int) - 1).toNat = cc - 1 by omega]; rfl)) (.none rfl) rfl ?_
              refine AO.val (RV.assign rfl) (.none rfl) rfl ?_
              refine AO.nil ?_
              refine AK.inBlock ?_
              -- ways meet at L0tTFTt
              refine AK.perm (ord_perm3 ..) ?_
              refine AK.weak (.cons (by exact rfl) (.cons (by exact rfl) (.cons (by exact rfl) (.cons (by exact rfl) (.cons (by exact rfl) .nil))))) (by first | exact SubO.sub | exact List.Sublist.refl _ | exact .cons _ (List.Sublist.refl _) | exact .cons _ (.cons _ (List.Sublist.refl _)) | exact .cons _ (.cons _ (.cons _ (List.Sublist.refl _)))) (hjb2 (s1, t1, o1, q1, r1, bs1, ct1, A1, c1, p1, r0, (if (cc : Int) = 1 then Ac else cutA Ac 1), cc - 1, pc, zs, Az, cz, ps, part ++ D) ?_)
              · try dsimp only
                refine ⟨w1.mono fun x hx => List.mem_append_right _ hx, hh1, ?_, ?_⟩
                · rw [hca1, hpr]; exact hC2
                · rw [hca1, hpg]; exact hS
            · intro hg6
              try simp only [decide_eq_true_eq, decide_eq_false_iff_not, Bool.not_eq_true', Bool.not_eq_false', beq_iff_eq] at hg6
              have hcn : (ca ct qi qo).came = [] := by cases hcm : (ca ct qi qo).came with
                                                                      | nil => rfl
                                                                      | cons y q => rw [hpk, hcm] at hg6; simp at hg6
              have hok := hg6
              refine AO.pass (.some rfl rfl rfl rfl) rfl ?_
              refine AO.pass (.some rfl rfl rfl rfl) rfl ?_
              refine AO.pass (.some rfl rfl rfl rfl) rfl ?_
              refine AO.pass (.some rfl rfl rfl rfl) rfl ?_
              refine AO.pass (.some rfl rfl rfl rfl) rfl ?_
              refine AO.pass (.some rfl rfl rfl rfl) rfl ?_
              refine AO.val (RV.pickF rfl rfl) (.some rfl rfl rfl rfl) rfl ?_
              refine AO.val (RV.pickF rfl rfl) (.none rfl) rfl ?_
              refine AO.nil ?_
              refine AK.condF rfl ?_
              refine AK.skip ?_
              refine AK.seq ?_
              refine AK.region ?_
              refine AO.val ((RV.move rfl).to (v' := .bool false) (by rw [hok])) (.none rfl) rfl ?_
              refine AO.nil ?_
              refine AK.condF rfl ?_
              refine AK.skip ?_
              refine AK.inBlock ?_
              -- ways meet at L0tTFTf
              refine AK.perm (ord_perm3 ..) ?_
              refine AK.weak (.cons (by exact rfl) (.cons (by exact rfl) (.cons (by exact rfl) (.cons (by exact rfl) (.cons (by exact rfl) .nil))))) (by first | exact SubO.sub | exact List.Sublist.refl _ | exact .cons _ (List.Sublist.refl _) | exact .cons _ (.cons _ (List.Sublist.refl _)) | exact .cons _ (.cons _ (.cons _ (List.Sublist.refl _)))) (hjb2 (s1, t1, o1, q1, r1, bs1, ct1, A1, c1, p1, zc, Ac, cc, pc, zs, Az, cz, ps, part ++ D) ?_)
              · try dsimp only
                refine ⟨w1.mono fun x hx => List.mem_append_right _ hx, hh1, ?_, ?_⟩
                · rw [hca1, hpn hcn]; rw [hcn] at hC; exact hC
                · rw [hca1, hpg]; exact hS
          · intro hc5
            try simp only [decide_eq_true_eq, decide_eq_false_iff_not, Bool.not_eq_true', Bool.not_eq_false', beq_iff_eq] at hc5
            refine AK.seq ?_
            refine AK.region ?_
            refine AO.val (RV.eql rfl rfl) (.none rfl) rfl ?_
            refine AO.val (RV.assign rfl) (.none rfl) rfl ?_
            refine AO.nil ?_
            refine AK.cond rfl ?_ ?_
            · intro hc7
              try simp only [decide_eq_true_eq, decide_eq_false_iff_not, Bool.not_eq_true', Bool.not_eq_false', beq_iff_eq] at hc7
              refine AK.seq ?_
              refine AK.region ?_
              refine AO.val (RV.move rfl) (.none rfl) rfl ?_
              refine AO.val (RV.move rfl) (.none rfl) rfl ?_
              refine AO.eff (EF.callF rfl (send_spec B _ c a aq b bq p qb qt pb (newP bufs).tk.length (newR n).sl.length s bs ct D (fun x hx => List.mem_append_right _ (List.mem_append_right _ hx)) w si so qi qo [] hh ((lget l i).2.2.2.1.l.take (1600 : Int).toNat) hfs.sub hfb2 (by omega))) (.none rfl) rfl ?_
              rintro _ _ ⟨s1, bs1, ct1, o1, q1, A1, c1, p1, part, rfl, rfl, w1, hh1, hca1, _, _⟩
              refine AO.val (RV.eql rfl rfl) (.none rfl) rfl ?_
              refine AO.nil ?_
              refine AK.cond rfl ?_ ?_
              · intro hc8
                try simp only [decide_eq_true_eq, decide_eq_false_iff_not, Bool.not_eq_true', Bool.not_eq_false', beq_iff_eq] at hc8
                have hce := hc8
                refine AK.region ?_
                refine AO.val (RV.move rfl) (.none rfl) rfl ?_
                refine AO.val (RV.move rfl) (.none rfl) rfl ?_
                refine AO.eff (EF.buildSeq [.slice (lget l i).2.2.2.1.A ((lget l i).2.2.2.1.l.take (1600 : Int).toNat).length (lget l i).2.2.2.1.cap] rfl rfl rfl rfl) (.none rfl) rfl ?_
                rintro _ _ ⟨b113, hf113, rfl, rfl⟩
                refine AO.eff (EF.appendS (n' := (zs ++ [(⟨(lget l i).2.2.2.1.A, (lget l i).2.2.2.1.cap, ((lget l i).2.2.2.1.l.take (1600 : Int).toNat)⟩ : InS Int)]).length) (ys := (zs ++ [(⟨(lget l i).2.2.2.1.A, (lget l i).2.2.2.1.cap, ((lget l i).2.2.2.1.l.take (1600 : Int).toNat)⟩ : InS Int)]).map frV) rfl rfl hS.row (Src.of_new (el := 28) (cs := [.slice (lget l i).2.2.2.1.A ((lget l i).2.2.2.1.l.take (1600 : Int).toNat).length (lget l i).2.2.2.1.cap]) (by simp) 1 1 (Nat.le_refl _)) (by simp) (by simp) rfl (by decide) rfl (by omega) (by omega)) (.none rfl) rfl ?_
                rintro _ _ ⟨A114, c114, p114, rfl, hr114, hc114, rfl⟩
                refine AO.perm (ord_perm2 ..) ?_
                refine Nic.AO.drop (List.sublist_cons_self _ _) ?_
                refine AO.val (RV.assign rfl) (.none rfl) rfl ?_
                refine AO.nil ?_
                refine AK.inBlock ?_
                -- ways meet at L0tTFFTT
                obtain ⟨hs1, hs2, _⟩ := sendA_facts (newR n).sl.length (ca ct qi qo) (freeP s) ((lget l i).2.2.2.1.l.take (1600 : Int).toNat)
                refine AK.weak (.cons (by exact rfl) (.cons (by exact rfl) (.cons (by exact rfl) (.cons (by exact rfl) (.cons (by exact rfl) .nil))))) (by first | exact SubO.sub | exact List.Sublist.refl _ | exact .cons _ (List.Sublist.refl _) | exact .cons _ (.cons _ (List.Sublist.refl _)) | exact .cons _ (.cons _ (.cons _ (List.Sublist.refl _)))) (hjb2 (s1, si, o1, qi, q1, bs1, ct1, A1, c1, p1, zc, Ac, cc, pc, zs ++ [(⟨(lget l i).2.2.2.1.A, (lget l i).2.2.2.1.cap, ((lget l i).2.2.2.1.l.take (1600 : Int).toNat)⟩ : InS Int)], A114, c114, p114, part ++ D) ?_)
                · try dsimp only
                  refine ⟨w1, hh1, ?_, ?_⟩
                  · rw [hca1, hs1]; exact hC
                  · rw [hca1, hs2 hce]; exact hS.push hfs hr114 hc114
              · intro hc8
                try simp only [decide_eq_true_eq, decide_eq_false_iff_not, Bool.not_eq_true', Bool.not_eq_false', beq_iff_eq] at hc8
                have hce := hc8
                refine AK.skip ?_
                refine AK.inBlock ?_
                -- ways meet at L0tTFFTF
                refine AK.perm (ord_perm3 ..) ?_
                obtain ⟨hs1, _, hs2⟩ := sendA_facts (newR n).sl.length (ca ct qi qo) (freeP s) ((lget l i).2.2.2.1.l.take (1600 : Int).toNat)
                refine AK.weak (.cons (by exact rfl) (.cons (by exact rfl) (.cons (by exact rfl) (.cons (by exact rfl) (.cons (by exact rfl) .nil))))) (by first | exact SubO.sub | exact List.Sublist.refl _ | exact .cons _ (List.Sublist.refl _) | exact .cons _ (.cons _ (List.Sublist.refl _)) | exact .cons _ (.cons _ (.cons _ (List.Sublist.refl _)))) (hjb2 (s1, si, o1, qi, q1, bs1, ct1, A1, c1, p1, zc, Ac, cc, pc, zs, Az, cz, ps, part ++ D) ?_)
                · try dsimp only
                  refine ⟨w1, hh1, ?_, ?_⟩
                  · rw [hca1, hs1]; exact hC
                  · rw [hca1, hs2 hce]; exact hS
            · intro hc7
              try simp only [decide_eq_true_eq, decide_eq_false_iff_not, Bool.not_eq_true', Bool.not_eq_false', beq_iff_eq] at hc7
              refine AK.seq ?_
              refine AK.region ?_
              refine AO.val (RV.move rfl) (.none rfl) rfl ?_
              refine AO.val (RV.move rfl) (.none rfl) rfl ?_
              refine AO.val (RV.move rfl) (.none rfl) rfl ?_
              refine AO.val (by first | exact RV.indexS rfl rfl (by assumption) (by omega) rfl | exact RV.indexAddr rfl rfl (by omega)) (.none rfl) rfl ?_
              refine AO.val (by first | exact RV.fieldAddr rfl | exact RV.fieldAddrA rfl) (.none rfl) rfl ?_
              refine AO.val (by first | exact RV.loadO rfl rfl (by first | simp | assumption) | exact RV.loadSF rfl (by assumption) (fun _ => rfl) (by omega) rfl rfl (by first | simp | assumption) | exact RV.loadS rfl (by assumption) (by omega) (by first | simp | assumption)) (.none rfl) rfl ?_
              refine AO.eff (EF.callF rfl (finish_spec B _ c a aq b bq p qb qt pb (newP bufs).tk.length (newR n).sl.length s bs ct D (fun x hx => List.mem_append_right _ (List.mem_append_right _ hx)) w si so qi qo [] hh (lget l i).2.2.1)) (.none rfl) rfl ?_
              rintro _ _ ⟨zf, Af, cf, pf, part, o1, q1, rfl, hcf, hrf, hzf, hfe, rfl, hh1, hca1⟩
              have hfe2 := congrArg List.length hfe
              simp only [finishA, List.length_map, List.length_take, ca] at hfe2
              refine AO.val (RV.lenS rfl) (.none rfl) rfl ?_
              refine AO.val (RV.move rfl) (.none rfl) rfl ?_
              refine AO.nil ?_
              refine AK.block ?_
              refine AK.loop (α := Int × List (InS Int) × Option Addr × Nat) (E := fun (k, z2, A2, c2) => [(2, .slice A l.length cap), (7, .pointer (some ⟨c, 0, none⟩)), (8, .slice Ac zc.length cc), (9, .slice A2 z2.length c2), (10, .int .i64 i), (49, .slice Af zf.length cf), (50, .int .i64 zf.length), (51, .int .i64 k)]) (H := fun (k, z2, A2, c2) => ((c, Blk.cells [.pointer (some ⟨a, 0, none⟩), .pointer (some ⟨b, 0, none⟩), .pointer (some ⟨p, 0, none⟩)] 56 (0, 0)) :: (a, Blk.cells [.slice (some ⟨aq, 0, none⟩) (newR n).sl.length (newR n).sl.length, .int .i64 (si).post, .int .i64 (si).work, .int .i64 (si).reap] 70 (0, 0)) :: (aq, Blk.cells (flat encS (si).sl) 72 (0, 0)) :: (b, Blk.cells [.slice (some ⟨bq, 0, none⟩) (newR n).sl.length (newR n).sl.length, .int .i64 (o1).post, .int .i64 (o1).work, .int .i64 (o1).reap] 70 (0, 0)) :: (bq, Blk.cells (flat encS (o1).sl) 72 (0, 0)) :: (pb ++ ((p, Blk.cells [.slice (some ⟨qb, 0, none⟩) (newP bufs).tk.length (newP bufs).tk.length, .slice (some ⟨qt, 0, none⟩) (newP bufs).tk.length (newP bufs).tk.length, .slice Ab (s).back.length cb, .int .i64 (s).fresh] 59 (0, 0)) :: (qt, Blk.cells (flat encBo (s).tk) 4 (0, 0)) :: (qb, Blk.cells (flat encSl (bs)) 28 (0, 0)) :: (pf ++ (part ++ (pc ++ (ps ++ D)))))))) (Inv := fun (k, z2, A2, c2) => 0 ≤ k ∧ k ≤ zf.length ∧ FR 28 B [] z2 A2 c2 ps ((ca ct qi qo).goes.drop k.toNat)) (μ := fun (k, z2, A2, c2) => (zf.length - k).toNat) (0, zs, Az, cz) ?_ (.cons (by exact rfl) (.cons (by exact rfl) (.cons (by exact rfl) (.cons (by exact rfl) (.cons (by exact rfl) (.cons (by exact rfl) (.cons (by exact rfl) (.cons (by exact rfl) .nil)))))))) ?_ ?_
              · exact ⟨by omega, by omega, hS⟩
              · exact (by first | exact SubO.sub | exact List.Sublist.refl _ | exact .cons _ (List.Sublist.refl _) | exact .cons _ (.cons _ (List.Sublist.refl _)) | exact .cons _ (.cons _ (.cons _ (List.Sublist.refl _))))
              rintro ⟨k, z2, A2, c2⟩ ⟨hk0, hk1, hZ⟩ hih1
              try dsimp only at hih1 ⊢
              refine AK.seq ?_
              refine AK.region ?_
              refine AO.val (RV.lss rfl rfl) (.none rfl) rfl ?_
              refine AO.nil ?_
              refine AK.seq ?_
              refine AK.cond rfl ?_ ?_
              · intro hc9
                try simp only [decide_eq_true_eq, decide_eq_false_iff_not, Bool.not_eq_true', Bool.not_eq_false', beq_iff_eq] at hc9
                obtain ⟨rr, hG1, hG2⟩ := fin_head hfe ⟨hk0, by omega⟩
                rw [hG1] at hZ
                obtain ⟨x0, r0, rfl, hC0, hC1, hC2⟩ := hZ.cons (by simp)
                have hcp := hZ.cap
                simp only [List.length_cons] at hcp
                injection hC0 with hxe hrr0
                rw [hrr0] at hG2
                refine AK.skip ?_
                refine AK.seq ?_
                refine AK.block ?_
                refine AK.seq ?_
                refine AK.region ?_
                refine AO.val (RV.indexS rfl rfl (hrf.src (h := pf) fun x hx => hx) (by omega) rfl) (.none rfl) rfl ?_
                refine AO.val (RV.loadS (enc := frV) (l := zf) rfl (hrf.src (h := pf) fun x hx => hx) (by omega) (by simp)) (.none rfl) rfl ?_
                refine AO.val (RV.assign rfl) (.none rfl) rfl ?_
                refine AO.nil ?_
                refine AK.seq ?_
                refine AK.seq ?_
                refine AK.region ?_
                refine AO.val (RV.move rfl) (.none rfl) rfl ?_
                refine AO.val (RV.lenS rfl) (.none rfl) rfl ?_
                refine AO.val ((RV.eql rfl rfl).to (v' := .bool false) (by simp; omega)) (.none rfl) rfl ?_
                refine AO.val (RV.move rfl) (.none rfl) rfl ?_
                refine AO.val (RV.move rfl) (.some rfl rfl rfl rfl) rfl ?_
                refine AO.val (RV.move rfl) (.some rfl rfl rfl rfl) rfl ?_
                refine AO.val (RV.indexS rfl rfl (hZ.row.src (h := ps) fun x hx => hx) (by simp) rfl) (.some rfl rfl rfl rfl) rfl ?_
                refine AO.val ((RV.loadS (enc := frV) (l := x0 :: r0) rfl (hZ.row.src (h := ps) fun x hx => hx) (by simp) (by simp)).to (v' := frV x0) rfl) (.some rfl rfl rfl rfl) rfl ?_
                refine AO.eff (EF.callF rfl (same_spec (cap := (lget zf k).cap) (cap2 := x0.cap) B _ (lget zf k).l x0.l ((hzf _ (lget_in ⟨by omega, by omega⟩)).1.mono fun x hx => by simp [hx]) hC1.sub (by have := (hzf _ (lget_in (l := zf) (i := k) ⟨by omega, by omega⟩)).2.2.1; omega))) (.some rfl rfl rfl rfl) rfl ?_
                rintro _ _ ⟨rfl, bS, rfl, hSm⟩
                have hSm2 := hSm.2 hxe
                subst hSm2
                refine AO.val (RV.not rfl) (.some rfl rfl rfl rfl) rfl ?_
                refine AO.val (RV.pickF rfl rfl) (.none rfl) rfl ?_
                refine AO.nil ?_
                refine AK.condF rfl ?_
                refine AK.skip ?_
                refine AK.region ?_
                refine AO.val (RV.move rfl) (.none rfl) rfl ?_
                refine AO.val ((RV.sliceL rfl rfl (by simp; omega) (by omega)).to (v' := .slice (if (c2 : Int) = 1 then A2 else cutA A2 1) r0.length (c2 - 1)) (by rw [show (((x0 :: r0).length : Int) - 1).toNat = r0.length by simp, show ((c2 : Int) - 1).toNat = c2 - 1 by omega]; rfl)) (.none rfl) rfl ?_
                refine AO.val (RV.assign rfl) (.none rfl) rfl ?_
                refine AO.nil ?_
                refine AK.inBlock ?_
                refine AK.region ?_
                refine AO.val (by first | exact RV.addIn rfl rfl (by omega) | exact RV.add rfl rfl) (.none rfl) rfl ?_
                refine AO.val (RV.move rfl) (.none rfl) rfl ?_
                refine AO.nil ?_
                -- round ends at L0tTFFFL1T
                refine AK.weak (.cons (by exact rfl) (.cons (by exact rfl) (.cons (by exact rfl) (.cons (by exact rfl) (.cons (by exact rfl) (.cons (by exact rfl) (.cons (by exact rfl) (.cons (by exact rfl) .nil)))))))) (by first | exact SubO.sub | exact List.Sublist.refl _ | exact .cons _ (List.Sublist.refl _) | exact .cons _ (.cons _ (List.Sublist.refl _)) | exact .cons _ (.cons _ (.cons _ (List.Sublist.refl _)))) (hih1 (k + 1, r0, (if (c2 : Int) = 1 then A2 else cutA A2 1), c2 - 1) ?_ ?_)
                · try dsimp only
                  exact ⟨by omega, by omega, by rw [hG2]; exact hC2⟩
                · try dsimp only
                  omega
              · intro hc9
                try simp only [decide_eq_true_eq, decide_eq_false_iff_not, Bool.not_eq_true', Bool.not_eq_false', beq_iff_eq] at hc9
                refine AK.exit rfl ?_
                refine AK.inBlock ?_
                -- ways meet at L0tTFFFL1F
                have hk3 : k = zf.length := by omega
                subst hk3
                rw [fin_rest hfe] at hZ
                refine AK.perm (ord_perm4 ..) ?_
                refine AK.weak (.cons (by exact rfl) (.cons (by exact rfl) (.cons (by exact rfl) (.cons (by exact rfl) (.cons (by exact rfl) .nil))))) (by first | exact SubO.sub | exact List.Sublist.refl _ | exact .cons _ (List.Sublist.refl _) | exact .cons _ (.cons _ (List.Sublist.refl _)) | exact .cons _ (.cons _ (.cons _ (List.Sublist.refl _)))) (hjb2 (s, si, o1, qi, q1, bs, ct, Ab, cb, pb, zc, Ac, cc, pc, z2, A2, c2, ps, pf ++ (part ++ D)) ?_)
                · try dsimp only
                  refine ⟨w.mono fun x hx => List.mem_append_right _ (List.mem_append_right _ hx), hh1, ?_, ?_⟩
                  · rw [hca1]; exact hC
                  · rw [hca1]; exact hZ
    · intro hc2
      try simp only [decide_eq_true_eq, decide_eq_false_iff_not, Bool.not_eq_true', Bool.not_eq_false', beq_iff_eq] at hc2
      refine AK.exit rfl ?_
      refine AK.seq ?_
      refine AK.region ?_
      refine AO.val (RV.move rfl) (.none rfl) rfl ?_
      refine AO.eff (EF.callF rfl (nic_waits B _ c a aq b bq p qb qt pb (newP bufs).tk.length (newR n).sl.length s bs ct D (fun x hx => List.mem_append_right _ (List.mem_append_right _ hx)) w si so qi qo [] hh)) (.none rfl) rfl ?_
      rintro _ _ ⟨rfl, rfl⟩
      refine AO.val (RV.move rfl) (.none rfl) rfl ?_
      refine AO.val (RV.lenS rfl) (.none rfl) rfl ?_
      refine AO.val ((RV.eql rfl rfl).to (v' := .bool true) (by simp; omega)) (.none rfl) rfl ?_
      refine AO.val (RV.move rfl) (.none rfl) rfl ?_
      refine AO.val (RV.move rfl) (.some rfl rfl rfl rfl) rfl ?_
      refine AO.eff (EF.callF rfl (nic_out B _ c a aq b bq p qb qt pb (newP bufs).tk.length (newR n).sl.length s bs ct D (fun x hx => List.mem_append_right _ (List.mem_append_right _ hx)) w si so qi qo [] hh)) (.some rfl rfl rfl rfl) rfl ?_
      rintro _ _ ⟨rfl, rfl⟩
      refine AO.val (RV.move rfl) (.some rfl rfl rfl rfl) rfl ?_
      refine AO.val (RV.lenS rfl) (.some rfl rfl rfl rfl) rfl ?_
      refine AO.val ((RV.eql rfl rfl).to (v' := .bool true) (by simp; omega)) (.some rfl rfl rfl rfl) rfl ?_
      refine AO.val (RV.pickT rfl rfl) (.none rfl) rfl ?_
      refine AO.val (RV.move rfl) (.none rfl) rfl ?_
      refine AO.eff (EF.callF rfl (lives_spec B _)) (.some rfl rfl rfl rfl) rfl ?_
      rintro _ _ rfl
      refine AO.val (RV.pickT rfl rfl) (.none rfl) rfl ?_
      refine AO.val (RV.assign rfl) (.none rfl) rfl ?_
      refine AO.nil ?_
      -- at L0tF
      clear hih0
      refine AK.ret (h' := []) Try.func3 (.tmp rfl .nil) ?_ (List.nil_sublist _)
      rfl
  · intro hg1
    try simp only [decide_eq_true_eq, decide_eq_false_iff_not, Bool.not_eq_true', Bool.not_eq_false', beq_iff_eq] at hg1
    refine AO.pass (.some rfl rfl rfl rfl) rfl ?_
    refine AO.pass (.some rfl rfl rfl rfl) rfl ?_
    refine AO.val (RV.pickF rfl rfl) (.none rfl) rfl ?_
    refine AO.nil ?_
    refine AK.condF rfl ?_
    refine AK.exit rfl ?_
    refine AK.seq ?_
    refine AK.region ?_
    refine AO.val (RV.move rfl) (.none rfl) rfl ?_
    refine AO.eff (EF.callF rfl (nic_waits B _ c a aq b bq p qb qt pb (newP bufs).tk.length (newR n).sl.length s bs ct D (fun x hx => List.mem_append_right _ (List.mem_append_right _ hx)) w si so qi qo [] hh)) (.none rfl) rfl ?_
    rintro _ _ ⟨rfl, rfl⟩
    refine AO.val (RV.move rfl) (.none rfl) rfl ?_
    refine AO.val (RV.lenS rfl) (.none rfl) rfl ?_
    refine AO.val ((RV.eql rfl rfl).to (v' := .bool true) (by simp; omega)) (.none rfl) rfl ?_
    refine AO.val (RV.move rfl) (.none rfl) rfl ?_
    refine AO.val (RV.move rfl) (.some rfl rfl rfl rfl) rfl ?_
    refine AO.eff (EF.callF rfl (nic_out B _ c a aq b bq p qb qt pb (newP bufs).tk.length (newR n).sl.length s bs ct D (fun x hx => List.mem_append_right _ (List.mem_append_right _ hx)) w si so qi qo [] hh)) (.some rfl rfl rfl rfl) rfl ?_
    rintro _ _ ⟨rfl, rfl⟩
    refine AO.val (RV.move rfl) (.some rfl rfl rfl rfl) rfl ?_
    refine AO.val (RV.lenS rfl) (.some rfl rfl rfl rfl) rfl ?_
    refine AO.val ((RV.eql rfl rfl).to (v' := .bool true) (by simp; omega)) (.some rfl rfl rfl rfl) rfl ?_
    refine AO.val (RV.pickT rfl rfl) (.none rfl) rfl ?_
    refine AO.val (RV.move rfl) (.none rfl) rfl ?_
    refine AO.eff (EF.callF rfl (lives_spec B _)) (.some rfl rfl rfl rfl) rfl ?_
    rintro _ _ rfl
    refine AO.val (RV.pickT rfl rfl) (.none rfl) rfl ?_
    refine AO.val (RV.assign rfl) (.none rfl) rfl ?_
    refine AO.nil ?_
    -- at L0f
    clear hih0
    refine AK.ret (h' := []) Try.func3 (.tmp rfl .nil) ?_ (List.nil_sublist _)
    rfl

set_option maxRecDepth 100000 in
theorem nicOrder_lifted (os : Os) (started : os.Started) (H : Type) (enc : TypeId × Value → H) :
    ReturnsInHanded {} Try.checked os 3 .any (Rows.nicOrderSpec.pre6 enc Try.prog Try.f3 Rows.nicOrderRow.domain false) (Rows.nicOrderSpec.post enc Try.prog Try.f3 false true false false) := by
  refine returnsInHanded_of_change (C := Try.checked) own_ started (by kernel_rfl) Try.func3
    (ChangeSpec.witness6 (enc := enc) (C := Try.checked) false ⟨#[], #[(Value.int IntKind.i64 0), (Value.int IntKind.i64 0), (Value.slice none 0 0)], []⟩ 8 (by kernel_rfl) (by kernel_rfl) (by kernel_rfl) (by kernel_rfl)) ?_
  intro W base args ds gs before hval0 hW hcnd _
  have hval : ∀ (j : Nat) t v, Try.f3.params[j]? = some t → args[j]? = some v → Value.okWide Try.prog W .any base t v := hval0
  have hW' := hW
  obtain ⟨p, q, hA0, hV, rfl, hfz, hnd⟩ := hW
  have hA : DataW.TrodAll enc Try.prog W 0 (fun _ => true) true Try.f3.params.toList args.toList ds p := hA0
  rw [Try.params3] at hA hval
  obtain ⟨args⟩ := args
  simp only at hA
  obtain ⟨v0, vs0, d0, ds0, p0, q0, e0a, e0b, e0c, t0, r0⟩ := trodAll_cons hA
  obtain ⟨v1, vs1, d1, ds1, p1, q1, e1a, e1b, e1c, t1, r1⟩ := trodAll_cons r0
  obtain ⟨v2, vs2, d2, ds2, p2, q2, e2a, e2b, e2c, t2, r2⟩ := trodAll_cons r1
  subst e0a e0b e0c
  subst e1a e1b e1c
  subst e2a e2b e2c
  obtain ⟨rfl, rfl, rfl⟩ := trodAll_nil r2
  obtain ⟨rfl, rfl⟩ := trodVars_none hV
  have hlt := hW'.lt
  have k0 : Value.okWide Try.prog W .any base 3 v0 := hval 0 _ v0 rfl rfl
  obtain ⟨n, w0, n_lo, n_hi⟩ := Dec.argI k0 t0
  have k1 : Value.okWide Try.prog W .any base 3 v1 := hval 1 _ v1 rfl rfl
  obtain ⟨bufs, w1, bufs_lo, bufs_hi⟩ := Dec.argI k1 t1
  have k2 : Value.okWide Try.prog W .any base 22 v2 := hval 2 _ v2 rfl rfl
  obtain ⟨l, w2, hl⟩ := Dec.argS k2 t2 ((Dec.struct (t := 31) (.cons (off := 0) (sz := 1) (by rfl) (by kernel_rfl) (Dec.int (t := 3) (k := .i64)) (.cons (off := 1) (sz := 1) (by rfl) (by kernel_rfl) (Dec.int (t := 3) (k := .i64)) (.cons (off := 2) (sz := 1) (by rfl) (by kernel_rfl) (Dec.int (t := 3) (k := .i64)) (.cons (off := 3) (sz := 1) (by rfl) (by kernel_rfl) (Dec.slice (t := 28) (e := 5) (sz := 1) (Dec.int (t := 5) (k := .u8)) (by decide)) .nil)))) (by kernel_rfl))) (by decide)
  have htri : Tri Try.prog W 3 [v0, v1, v2] [] (fun v _ => v = .bool true) := by
    subst w0 w1 w2
    exact order_law W n bufs l.l hl.2.1 (by have := hl.2.1; have := hl.2.2.1; omega) hl.1 (fun x hx => ⟨(hl.2.2.2.1 x hx).2.2.2.1.src1, (hl.2.2.2.1 x hx).2.2.2.1.2.2.2.1, (hl.2.2.2.1 x hx).2.2.2.1.2.1, (hl.2.2.2.1 x hx).2.2.2.1.2.2.1⟩)
  clear w0 w1 w2
  refine (htri.run W (Models.start W)).mono fun e W' ⟨v, h2, he, m2, hv⟩ => ?_
  subst he; subst hv
  have hb := m2.below
  refine ⟨_, rfl, post_of_below (pa := (p0 ++ (p1 ++ (p2 ++ ([]))))) (pv := []) hW' (fun _ _ _ => trodAll_mk1 (shut_bool (Try.underlying4) true)) (fun sp hsp => ?_) (fun _ _ => rfl) rfl hb (ok_one (t := 4) (by kernel_rfl) rfl ?_)⟩
  · refine TAcons (WideElems.Trod_stays laidOut_ (by kernel_rfl) (of_decide_eq_true (by kernel_rfl)) t0 (fun x hx => hb.same (hlt x (by simp [hx]))) (fun x hx => hsp x (by simp [hx]))) ?_
    refine TAcons (WideElems.Trod_stays laidOut_ (by kernel_rfl) (of_decide_eq_true (by kernel_rfl)) t1 (fun x hx => hb.same (hlt x (by simp [hx]))) (fun x hx => hsp x (by simp [hx]))) ?_
    refine TAcons (WideElems.Trod_stays laidOut_ (by kernel_rfl) (of_decide_eq_true (by kernel_rfl)) t2 (fun x hx => hb.same (hlt x (by simp [hx]))) (fun x hx => hsp x (by simp [hx]))) ?_
    rfl
  · exact okBool Try.underlying4

theorem nicOrder_holds : Rows.NicOrderSaid :=
  OpenClaim.holds_of_wide 3 Try.f3 rfl rfl rfl rfl rfl rfl rfl ⟨rfl, rfl, rfl, rfl, rfl⟩ rfl rfl rfl rfl rfl (by kernel_rfl) Try.func3 (by kernel_rfl)
    (of_decide_eq_true (by kernel_rfl)) (by unfold Func.isWrapper; first | (rw [if_pos (by decide +kernel)]; kernel_rfl) | (rw [if_neg (by decide +kernel)]; exact ⟨rfl, rfl⟩))
    (fun os started H enc _ => nicOrder_lifted os started H enc)

end Go.Proofs.Ytpobjhmbonojkaa
