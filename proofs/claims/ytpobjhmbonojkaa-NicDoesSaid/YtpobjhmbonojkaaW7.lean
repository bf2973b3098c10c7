/- Walks through the code: what each function that is named here gives back, from any memory that holds its arguments. Written by a program of the claim's author, out of the program's form in Lean. -/
import Derived.Test.YtpobjhmbonojkaaW6
import Derived.Test.YtpobjhmbonojkaaPlainQ26
set_option linter.unusedSimpArgs false
set_option linter.unusedVariables false
namespace Go.Proofs.Ytpobjhmbonojkaa
open Go.Sep Go.Sep.Ring Go.Sep.Pool Go.Sep.Sip Go.Sep.Nic Go.RowKit Go.WideShapes Go.ChangeShapes

def sdO (M p : Nat) : SD → Own
  | ⟨c, a, aq, b, bq, si, so, _, _⟩ => (c, Blk.cells [.pointer (some ⟨a, 0, none⟩), .pointer (some ⟨b, 0, none⟩), .pointer (some ⟨p, 0, none⟩)] 56 (0, 0)) :: (a, Blk.cells [.slice (some ⟨aq, 0, none⟩) M M, .int .i64 (si).post, .int .i64 (si).work, .int .i64 (si).reap] 70 (0, 0)) :: (aq, Blk.cells (flat encS (si).sl) 72 (0, 0)) :: (b, Blk.cells [.slice (some ⟨bq, 0, none⟩) M M, .int .i64 (so).post, .int .i64 (so).work, .int .i64 (so).reap] 70 (0, 0)) :: (bq, Blk.cells (flat encS (so).sl) 72 (0, 0)) :: ([])

theorem sdO_mk (M p c a aq b bq : Nat) (si so : RS) (qi qo : QS) : sdO M p ⟨c, a, aq, b, bq, si, so, qi, qo⟩ = (c, Blk.cells [.pointer (some ⟨a, 0, none⟩), .pointer (some ⟨b, 0, none⟩), .pointer (some ⟨p, 0, none⟩)] 56 (0, 0)) :: (a, Blk.cells [.slice (some ⟨aq, 0, none⟩) M M, .int .i64 (si).post, .int .i64 (si).work, .int .i64 (si).reap] 70 (0, 0)) :: (aq, Blk.cells (flat encS (si).sl) 72 (0, 0)) :: (b, Blk.cells [.slice (some ⟨bq, 0, none⟩) M M, .int .i64 (so).post, .int .i64 (so).work, .int .i64 (so).reap] 70 (0, 0)) :: (bq, Blk.cells (flat encS (so).sl) 72 (0, 0)) :: ([]) := rfl

set_option maxHeartbeats 8000000 in
theorem does_law (B : World) (n bufs : Int) {A : Option Addr} {cap : Nat} (l : List NDeed) (hcap : l.length ≤ cap) (hln : l.length ≤ 9223372036854775807) (hl : Src B [] A l.length 4 (flat encN l)) (hlB : ∀ x ∈ l, Src B [] x.2.2.2.1.A x.2.2.2.1.l.length 1 (x.2.2.2.1.l.map (fun x => Value.int .u8 x)) ∧ Bytes x.2.2.2.1.l ∧ x.2.2.2.1.l.length ≤ x.2.2.2.1.cap ∧ x.2.2.2.1.cap ≤ 9223372036854775807) : Tri Try.prog B 4 [.int .i64 n, .int .i64 bufs, .slice A l.length cap] [] fun v h' => v = .bool true := by
  have hLN : (((newP bufs).tk.length : Nat) : Int) = min (max bufs 0) 256 := newP_N bufs
  have hMN : (((newR n).sl.length : Nat) : Int) = min (max n 1) 64 := newR_N n
  refine Tri.enter (n := 181) Try.func4 rfl rfl rfl ?_
  simp only [argsE, Nat.reduceAdd]
  try dsimp only [argsE]
  refine AK.seq ?_
  refine AK.region ?_
  refine AO.val (RV.assign rfl) (.none rfl) rfl ?_
  refine AO.nil ?_
  refine AK.seq ?_
  refine AK.region ?_
  refine AO.val (RV.move rfl) (.none rfl) rfl ?_
  refine AO.eff (EF.callF rfl (new_spec B _ bufs)) (.none rfl) rfl ?_
  rintro _ _ ⟨p, qt, qb, rfl, rfl⟩
  refine AO.val (RV.assign rfl) (.none rfl) rfl ?_
  refine AO.nil ?_
  refine AK.seq ?_
  refine AK.region ?_
  refine AO.val (RV.move rfl) (.none rfl) rfl ?_
  refine AO.val (RV.move rfl) (.none rfl) rfl ?_
  refine AO.eff (EF.callF rfl (nic_new (Ab := none) (cb := 0) B _ p qb qt [] (newP bufs).tk.length (newP bufs) (List.replicate (newP bufs).tk.length (none, 0, 0)) (List.replicate (newP bufs).tk.length []) [] (by intro x hx; cases hx) ⟨pi_new bufs, rfl, List.length_replicate, .nil, Nat.le_refl 0, cont_new B _⟩ [] List.nodup_nil (by intro i hi; cases hi) n)) (.none rfl) rfl ?_
  rintro _ _ ⟨c0, a0, aq0, b0, bq0, s1, t1, q1, A1, e1, p1, rfl, rfl, w1, hh1, hca1, hf1⟩
  refine AO.val (RV.move rfl) (.none rfl) rfl ?_
  refine AO.val (RV.move rfl) (.none rfl) rfl ?_
  refine AO.eff (EF.callF rfl (Tri.perm (card_perm ..) (nic_new B _ p qb qt p1 (newP bufs).tk.length s1 (List.replicate (newP bufs).tk.length (none, 0, 0)) (List.replicate (newP bufs).tk.length []) [] (by intro x hx; cases hx) w1 (nums q1 newQ) (by simpa using hh1.nd) (fun i hi => hh1.has i (by simp [hi])) n))) (.none rfl) rfl ?_
  rintro _ _ ⟨c1, a1, aq1, b1, bq1, s2, t2, q2, A2, e2, p2, rfl, rfl, w2, hh2, hca2, hf2⟩
  refine AO.val (RV.buildArrSeq (z1 := .pointer none) [PTRV c0, PTRV c1] (by kernel_rfl) (by kernel_rfl) (by kernel_rfl) (by kernel_rfl)) (.none rfl) rfl ?_
  refine AO.eff (EF.alloc) (.none rfl) rfl ?_
  rintro _ _ ⟨b8, hf8, rfl, rfl⟩
  refine AO.effN (EF.storeArr (l := [c0, c1]) (f := PTRV) rfl rfl rfl (fun _ => rfl) rfl) (.none rfl) ?_
  rintro _ _ rfl
  refine AO.nil ?_
  refine AK.seq ?_
  refine AK.region ?_
  refine AO.val (RV.move rfl) (.none rfl) rfl ?_
  refine AO.val (RV.move rfl) (.none rfl) rfl ?_
  refine AO.eff (EF.callF rfl (cards_new B _ n bufs)) (.none rfl) rfl ?_
  rintro _ _ ⟨q, Ai, Ac, Ag, As, ci, cc, cg, cs, wi, wc, wg, ws, rfl, rfl, hci, hcc, hcg, hcs, hri, hrc, hrg, hrs⟩
  have hf1x : freeP s1 = (min (max bufs 0) 256) - min (min (max n 1) 64) (min (max bufs 0) 256) := by rw [hf1, free_newP]; simp [fillA, hMN]
  have hf2x : freeP s2 = freeP s1 - min (min (max n 1) 64) (freeP s1) := by rw [hf2]; simp [fillA, hMN]
  have hF2 : (insN (min (max n 1) 64) (min (max bufs 0) 256) 2).2 = freeP s2 := by rw [hf2x, hf1x]; rfl
  refine AO.val (RV.assign rfl) (.none rfl) rfl ?_
  refine AO.nil ?_
  refine AK.seq ?_
  refine AK.seq ?_
  refine AK.region ?_
  refine AO.val (RV.move rfl) (.none rfl) rfl ?_
  refine AO.val (RV.eqlP rfl rfl) (.none rfl) rfl ?_
  refine AO.val (RV.move rfl) (.none rfl) rfl ?_
  refine AO.val (RV.indexAddrL rfl rfl (by omega)) (.some rfl rfl rfl rfl) rfl ?_
  refine AO.val ((RV.loadAt (f := PTRV) (l := [c0, c1]) rfl (by simp) (by simp)).to (v' := .pointer (some ⟨c0, 0, none⟩)) rfl) (.some rfl rfl rfl rfl) rfl ?_
  refine AO.val (RV.eqlP rfl rfl) (.some rfl rfl rfl rfl) rfl ?_
  refine AO.val (RV.pickF rfl rfl) (.none rfl) rfl ?_
  refine AO.val (RV.move rfl) (.none rfl) rfl ?_
  refine AO.val (RV.indexAddrL rfl rfl (by omega)) (.some rfl rfl rfl rfl) rfl ?_
  refine AO.val ((RV.loadAt (f := PTRV) (l := [c0, c1]) rfl (by simp) (by simp)).to (v' := .pointer (some ⟨c1, 0, none⟩)) rfl) (.some rfl rfl rfl rfl) rfl ?_
  refine AO.val (RV.eqlP rfl rfl) (.some rfl rfl rfl rfl) rfl ?_
  refine AO.val (RV.pickF rfl rfl) (.none rfl) rfl ?_
  refine AO.nil ?_
  refine AK.condF rfl ?_
  refine AK.skip ?_
  refine AK.seq ?_
  refine AK.seq ?_
  refine AK.region ?_
  refine AO.val (RV.assign rfl) (.none rfl) rfl ?_
  refine AO.nil ?_
  refine AK.block ?_
  rw [hF2]
  refine AK.perm (doc_init ..) ?_
  refine AK.loop (α := Int × SD × SD × PS × List Sl × List (List Int) × Option Addr × Nat × Own × List Int × List Int × List Fr × List Fr × Own × Own × Own × Own × Own) (E := fun (i, x, y, s, bs, ct, Ab, cb, pb, ins, sps, cm, gm, wi, wc, wg, ws, D) => [(2, .slice A l.length cap), (7, .pointer (some ⟨p, 0, none⟩)), (8, .pointer (some ⟨b8, 0, none⟩)), (9, .pointer (some ⟨q, 0, none⟩)), (10, .int .i64 i)]) (H := fun (i, x, y, s, bs, ct, Ab, cb, pb, ins, sps, cm, gm, wi, wc, wg, ws, D) => (sdO (newR n).sl.length p x ++ (pb ++ ((p, Blk.cells [.slice (some ⟨qb, 0, none⟩) (newP bufs).tk.length (newP bufs).tk.length, .slice (some ⟨qt, 0, none⟩) (newP bufs).tk.length (newP bufs).tk.length, .slice Ab (s).back.length cb, .int .i64 (s).fresh] 59 (0, 0)) :: (qt, Blk.cells (flat encBo (s).tk) 4 (0, 0)) :: (qb, Blk.cells (flat encSl (bs)) 28 (0, 0)) :: (sdO (newR n).sl.length p y ++ ((q, Blk.cells [.int .i64 (min (max n 1) 64), .int .i64 (freeP s), .slice Ai 2 ci, .slice Ac 2 cc, .slice Ag 2 cg, .slice As 2 cs] 51 (0, 0)) :: (wi ++ (wc ++ (wg ++ (ws ++ ((b8, Blk.cells ([c0, c1].map PTRV) 41 (0, 0)) :: D))))))))))) (Inv := fun (i, x, y, s, bs, ct, Ab, cb, pb, ins, sps, cm, gm, wi, wc, wg, ws, D) => 0 ≤ i ∧ i ≤ l.length ∧ x.c = c0 ∧ y.c = c1 ∧ PW 3 B (newP bufs).tk.length (s) (bs) (ct) (D) Ab cb pb ∧ Side B (newR n).sl.length s ct D ins sps cm gm 0 x y.nums ∧ Side B (newR n).sl.length s ct D ins sps cm gm 1 y x.nums ∧ Row 3 1 (.slice Ai 2 ci) 2 ((ins).map Pool.I64) wi ∧ Row 27 1 (.slice Ac 2 cc) 2 ((cm).map frsV) wc ∧ Row 27 1 (.slice Ag 2 cg) 2 ((gm).map frsV) wg ∧ Row 3 1 (.slice As 2 cs) 2 ((sps).map Pool.I64) ws) (μ := fun (i, x, y, s, bs, ct, Ab, cb, pb, ins, sps, cm, gm, wi, wc, wg, ws, D) => (l.length - i).toNat) (0, ⟨c0, a0, aq0, b0, bq0, t1, newR n, q1, newQ⟩, ⟨c1, a1, aq1, b1, bq1, t2, newR n, q2, newQ⟩, s2, (List.replicate (newP bufs).tk.length (none, 0, 0)), List.replicate (newP bufs).tk.length [], A2, e2, p2, (insN (min (max n 1) 64) (min (max bufs 0) 256) 2).1, List.replicate 2 0, List.replicate 2 (⟨none, 0, []⟩ : Fr), List.replicate 2 (⟨none, 0, []⟩ : Fr), wi, wc, wg, ws, []) ?_ (.cons (by exact rfl) (.cons (by exact rfl) (.cons (by exact rfl) (.cons (by exact rfl) (.cons (by exact rfl) .nil))))) ?_ ?_
  · refine ⟨by omega, by omega, rfl, rfl, w2, side_new (Hold.other (K2 := ⟨c0, a0, aq0, b0, bq0, t1, newR n, q1, newQ⟩) hh2 hh1) hca1 hMN (by rw [free_newP]; rfl) rfl rfl rfl, side_new hh2 hca2 hMN (by rw [hf1x]; rfl) rfl rfl rfl, hri, hrc, hrg, hrs⟩
  · exact (by first | exact SubO.sub | exact List.Sublist.refl _ | exact .cons _ (List.Sublist.refl _) | exact .cons _ (.cons _ (List.Sublist.refl _)) | exact .cons _ (.cons _ (.cons _ (List.Sublist.refl _))))
  rintro ⟨i, x, y, s, bs, ct, Ab, cb, pb, ins, sps, cm, gm, wi, wc, wg, ws, D⟩ ⟨hi0, hin, hxc, hyc, w, hA0, hB0, hri, hrc, hrg, hrs⟩ hih0
  try dsimp only at hih0 ⊢
  refine AK.seq ?_
  refine AK.seq ?_
  refine AK.region ?_
  refine AO.val (RV.move rfl) (.none rfl) rfl ?_
  refine AO.val (RV.move rfl) (.none rfl) rfl ?_
  refine AO.val (RV.lenS rfl) (.none rfl) rfl ?_
  refine AO.val (RV.lss rfl rfl) (.none rfl) rfl ?_
  refine AO.val (RV.move rfl) (.none rfl) rfl ?_
  refine AO.caseG rfl rfl rfl ?_ ?_
  · intro hg1
    try simp only [decide_eq_true_eq, decide_eq_false_iff_not, Bool.not_eq_true', Bool.not_eq_false', beq_iff_eq] at hg1
    refine AO.val (RV.move rfl) (.some rfl rfl rfl rfl) rfl ?_
    refine AO.val (RV.lss rfl rfl) (.some rfl rfl rfl rfl) rfl ?_
    refine AO.val (RV.pickT rfl rfl) (.none rfl) rfl ?_
    refine AO.nil ?_
    refine AK.cond rfl ?_ ?_
    · intro hc2
      try simp only [decide_eq_true_eq, decide_eq_false_iff_not, Bool.not_eq_true', Bool.not_eq_false', beq_iff_eq] at hc2
      obtain ⟨hx1, hx2, hx3, hx4⟩ := hlB _ (lget_in ⟨by omega, by omega⟩ : lget l i ∈ l)
      have hfs : Src B [] (lget l i).2.2.2.1.A ((lget l i).2.2.2.1.l.take (1600 : Int).toNat).length 1 (((lget l i).2.2.2.1.l.take (1600 : Int).toNat).map (fun x => Value.int .u8 x)) := few_src hx1 1600
      have hfb2 : Bytes ((lget l i).2.2.2.1.l.take (1600 : Int).toNat) := bytes_take hx2 _
      have hfl : ((lget l i).2.2.2.1.l.take (1600 : Int).toNat).length ≤ 1600 := by rw [List.length_take]; exact Nat.min_le_left _ _
      have htm := tmod2 (lget l i).2.1
      refine AK.skip ?_
      refine AK.seq ?_
      refine AK.block ?_
      refine AK.seq ?_
      refine AK.region ?_
      refine AO.val (RV.move rfl) (.none rfl) rfl ?_
      refine AO.val (RV.move rfl) (.none rfl) rfl ?_
      refine AO.val (by first | exact RV.indexS rfl rfl (by assumption) (by omega) rfl | exact RV.indexAddr rfl rfl (by omega)) (.none rfl) rfl ?_
      refine AO.val (by first | exact RV.fieldAddr rfl | exact RV.fieldAddrA rfl) (.none rfl) rfl ?_
      refine AO.val (by first | exact RV.loadO rfl rfl (by first | simp | assumption) | exact RV.loadSF rfl (by assumption) (fun _ => rfl) (by omega) rfl rfl (by first | simp | assumption) | exact RV.loadS rfl (by assumption) (by omega) (by first | simp | assumption)) (.none rfl) rfl ?_
      refine AO.val (RV.rem rfl rfl (by omega)) (.none rfl) rfl ?_
      refine AO.val (RV.assign rfl) (.none rfl) rfl ?_
      refine AO.nil ?_
      refine AK.seq ?_
      refine AK.seq ?_
      refine AK.region ?_
      refine AO.val (RV.move rfl) (.none rfl) rfl ?_
      refine AO.val (RV.lss rfl rfl) (.none rfl) rfl ?_
      refine AO.nil ?_
      refine AK.cut (α := Int) (E := fun k => [(2, .slice A l.length cap), (7, .pointer (some ⟨p, 0, none⟩)), (8, .pointer (some ⟨b8, 0, none⟩)), (9, .pointer (some ⟨q, 0, none⟩)), (10, .int .i64 i), (11, .int .i64 k)]) (H := fun k => (sdO (newR n).sl.length p x ++ (pb ++ ((p, Blk.cells [.slice (some ⟨qb, 0, none⟩) (newP bufs).tk.length (newP bufs).tk.length, .slice (some ⟨qt, 0, none⟩) (newP bufs).tk.length (newP bufs).tk.length, .slice Ab (s).back.length cb, .int .i64 (s).fresh] 59 (0, 0)) :: (qt, Blk.cells (flat encBo (s).tk) 4 (0, 0)) :: (qb, Blk.cells (flat encSl (bs)) 28 (0, 0)) :: (sdO (newR n).sl.length p y ++ ((q, Blk.cells [.int .i64 (min (max n 1) 64), .int .i64 (freeP s), .slice Ai 2 ci, .slice Ac 2 cc, .slice Ag 2 cg, .slice As 2 cs] 51 (0, 0)) :: (wi ++ (wc ++ (wg ++ (ws ++ ((b8, Blk.cells ([c0, c1].map PTRV) 41 (0, 0)) :: D))))))))))) (Inv := fun k => k = 0 ∨ k = 1) ?_ ?_
      · rintro k hk
        try dsimp only
        refine AK.perm (own_sel k (sdO (newR n).sl.length p) ..) ?_
        obtain ⟨hA, hB⟩ := side_sel hk hA0 hB0
        obtain ⟨hKc, hK2c⟩ := sel_c hk hxc hyc
        generalize sel k x y = K at hA hB hKc ⊢
        generalize sel k y x = K2 at hA hB hK2c ⊢
        obtain ⟨c, a, aq, b, bq, si, so, qi, qo⟩ := K
        rw [sdO_mk (newR n).sl.length p c a aq b bq si so qi qo]
        simp only [List.cons_append, List.nil_append]
        simp only at hKc
        have hhA := hA.hold
        have hrm := hhA.roomin
        have hro := hhA.roomout
        have hsz := hhA.sz
        have hfr := hold_free hhA w.pi
        have hfn := free_nn w.pi
        have hNs : s.N = (newP bufs).tk.length := by rw [← w.hL]; rfl
        have hkb : 0 ≤ k ∧ k < ((2 : Nat) : Int) := by omega
        have hil : ins.length = 2 := by have := hri.len; simpa using this
        have hsl : sps.length = 2 := by have := hrs.len; simpa using this
        have hcml : cm.length = 2 := by have := hrc.len; simpa using this
        have hgml : gm.length = 2 := by have := hrg.len; simpa using this
        have hi1 := hA.inN
        have hs1 := hA.spent
        have hc1 := hA.came.len
        have hg1 := hA.goes.len
        rw [List.length_map] at hc1 hg1
        simp only at hrm hro hfr hi1 hs1 hc1 hg1
        have hcae := hA.ca
        simp only at hcae
        refine AK.seq ?_
        refine AK.draw [] [] mixed ?_
        refine AD.takeP 0 rfl (by kernel_rfl) (RV.move rfl) (.none rfl) rfl ?_
        refine AD.takeP 1 rfl (by kernel_rfl) (RV.indexAddrL rfl rfl (by omega)) (.none rfl) rfl ?_
        refine AD.take 2 rfl (by kernel_rfl) ((RV.loadAt (f := PTRV) (l := [c0, c1]) rfl (by simp; omega) (by simp)).to (v' := .pointer (some ⟨c, 0, none⟩)) (by rw [lget_sel hk, ← hKc])) (.none rfl) rfl ?_
        refine AD.takeP 3 rfl (by kernel_rfl) (RV.move rfl) (.none rfl) rfl ?_
        refine AD.takeP 4 rfl (by kernel_rfl) (RV.move rfl) (.none rfl) rfl ?_
        refine AD.takeP 5 rfl (by kernel_rfl) (by first | exact RV.indexS rfl rfl (by assumption) (by omega) rfl | exact RV.indexAddr rfl rfl (by omega)) (.none rfl) rfl ?_
        refine AD.takeP 6 rfl (by kernel_rfl) (by first | exact RV.fieldAddr rfl | exact RV.fieldAddrA rfl) (.none rfl) rfl ?_
        refine AD.takeP 7 rfl (by kernel_rfl) (by first | exact RV.loadO rfl rfl (by first | simp | assumption) | exact RV.loadSF rfl (by assumption) (fun _ => rfl) (by omega) rfl rfl (by first | simp | assumption) | exact RV.loadS rfl (by assumption) (by omega) (by first | simp | assumption)) (.none rfl) rfl ?_
        refine AD.one 8 (by kernel_rfl) (AE.eff rfl (EF.callF rfl (few_spec B _ (lget l i).2.2.2.1.l 1600 (by omega) hx3)) (.none rfl) rfl ?_)
        rintro _ _ ⟨rfl, rfl⟩
        refine ⟨(by first | exact .inr fun x hx hM => hx | exact .inr fun x hx hM => List.mem_cons_of_mem _ hx | exact .inr fun x hx hM => List.mem_append_right _ hx | exact .inr fun x hx hM => (card_perm ..).mem_iff.1 hx), ?_⟩
        refine AD.takeP 9 rfl (by kernel_rfl) (RV.assign rfl) (.none rfl) rfl ?_
        refine AD.takeP 10 rfl (by kernel_rfl) (RV.assign rfl) (.none rfl) rfl ?_
        refine AD.done (by kernel_rfl) ?_
        refine AK.seq ?_
        refine AK.seq ?_
        refine AK.region ?_
        refine AO.val (RV.move rfl) (.none rfl) rfl ?_
        refine AO.val (RV.move rfl) (.none rfl) rfl ?_
        refine AO.val (by first | exact RV.indexS rfl rfl (by assumption) (by omega) rfl | exact RV.indexAddr rfl rfl (by omega)) (.none rfl) rfl ?_
        refine AO.val (by first | exact RV.fieldAddr rfl | exact RV.fieldAddrA rfl) (.none rfl) rfl ?_
        refine AO.val (by first | exact RV.loadO rfl rfl (by first | simp | assumption) | exact RV.loadSF rfl (by assumption) (fun _ => rfl) (by omega) rfl rfl (by first | simp | assumption) | exact RV.loadS rfl (by assumption) (by omega) (by first | simp | assumption)) (.none rfl) rfl ?_
        refine AO.nil ?_
        refine AK.cut (α := PS × RS × RS × QS × QS × List Sl × List (List Int) × Option Addr × Nat × Own × List Int × List Int × List Fr × List Fr × Own × Own × Own × Own × Own) (E := fun (s, si, so, qi, qo, bs, ct, Ab, cb, pb, ins, sps, cm, gm, wi, wc, wg, ws, D) => [(2, .slice A l.length cap), (7, .pointer (some ⟨p, 0, none⟩)), (8, .pointer (some ⟨b8, 0, none⟩)), (9, .pointer (some ⟨q, 0, none⟩)), (10, .int .i64 i), (11, .int .i64 k), (12, .pointer (some ⟨c, 0, none⟩))]) (H := fun (s, si, so, qi, qo, bs, ct, Ab, cb, pb, ins, sps, cm, gm, wi, wc, wg, ws, D) => ((c, Blk.cells [.pointer (some ⟨a, 0, none⟩), .pointer (some ⟨b, 0, none⟩), .pointer (some ⟨p, 0, none⟩)] 56 (0, 0)) :: (a, Blk.cells [.slice (some ⟨aq, 0, none⟩) (newR n).sl.length (newR n).sl.length, .int .i64 (si).post, .int .i64 (si).work, .int .i64 (si).reap] 70 (0, 0)) :: (aq, Blk.cells (flat encS (si).sl) 72 (0, 0)) :: (b, Blk.cells [.slice (some ⟨bq, 0, none⟩) (newR n).sl.length (newR n).sl.length, .int .i64 (so).post, .int .i64 (so).work, .int .i64 (so).reap] 70 (0, 0)) :: (bq, Blk.cells (flat encS (so).sl) 72 (0, 0)) :: (pb ++ ((p, Blk.cells [.slice (some ⟨qb, 0, none⟩) (newP bufs).tk.length (newP bufs).tk.length, .slice (some ⟨qt, 0, none⟩) (newP bufs).tk.length (newP bufs).tk.length, .slice Ab (s).back.length cb, .int .i64 (s).fresh] 59 (0, 0)) :: (qt, Blk.cells (flat encBo (s).tk) 4 (0, 0)) :: (qb, Blk.cells (flat encSl (bs)) 28 (0, 0)) :: (sdO (newR n).sl.length p K2 ++ ((q, Blk.cells [.int .i64 (min (max n 1) 64), .int .i64 (freeP s), .slice Ai 2 ci, .slice Ac 2 cc, .slice Ag 2 cg, .slice As 2 cs] 51 (0, 0)) :: (wi ++ (wc ++ (wg ++ (ws ++ ((b8, Blk.cells ([c0, c1].map PTRV) 41 (0, 0)) :: D))))))))))) (Inv := fun (s, si, so, qi, qo, bs, ct, Ab, cb, pb, ins, sps, cm, gm, wi, wc, wg, ws, D) => PW 3 B (newP bufs).tk.length (s) (bs) (ct) (D) Ab cb pb ∧ Side B (newR n).sl.length s ct D ins sps cm gm k ⟨c, a, aq, b, bq, si, so, qi, qo⟩ K2.nums ∧ Side B (newR n).sl.length s ct D ins sps cm gm (1 - k) K2 (nums qi qo) ∧ Row 3 1 (.slice Ai 2 ci) 2 ((ins).map Pool.I64) wi ∧ Row 27 1 (.slice Ac 2 cc) 2 ((cm).map frsV) wc ∧ Row 27 1 (.slice Ag 2 cg) 2 ((gm).map frsV) wg ∧ Row 3 1 (.slice As 2 cs) 2 ((sps).map Pool.I64) ws) ?_ ?_
        · rintro ⟨s, si, so, qi, qo, bs, ct, Ab, cb, pb, ins, sps, cm, gm, wi, wc, wg, ws, D⟩ ⟨w, hA, hB, hri, hrc, hrg, hrs⟩
          try dsimp only
          clear hhA hrm hro hsz hfr hfn hNs hil hsl hcml hgml hi1 hs1 hc1 hg1 hcae hkb
          have hhA := hA.hold
          have hrm := hhA.roomin
          have hro := hhA.roomout
          have hsz := hhA.sz
          have hfr := hold_free hhA w.pi
          have hfn := free_nn w.pi
          have hNs : s.N = (newP bufs).tk.length := by rw [← w.hL]; rfl
          have hkb : 0 ≤ k ∧ k < ((2 : Nat) : Int) := by omega
          have hil : ins.length = 2 := by have := hri.len; simpa using this
          have hsl : sps.length = 2 := by have := hrs.len; simpa using this
          have hcml : cm.length = 2 := by have := hrc.len; simpa using this
          have hgml : gm.length = 2 := by have := hrg.len; simpa using this
          have hi1 := hA.inN
          have hs1 := hA.spent
          have hc1 := hA.came.len
          have hg1 := hA.goes.len
          rw [List.length_map] at hc1 hg1
          simp only at hrm hro hfr hi1 hs1 hc1 hg1
          have hcae := hA.ca
          simp only at hcae
          refine AK.seq ?_
          refine AK.draw [] [] mixed ?_
          refine AD.takeP 0 rfl (by kernel_rfl) (RV.move rfl) (.none rfl) rfl ?_
          refine AD.takeP 2 rfl (by kernel_rfl) (RV.move rfl) (.none rfl) rfl ?_
          refine AD.takeP 3 rfl (by kernel_rfl) (RV.nilCheck rfl) (.none rfl) rfl ?_
          refine AD.takeP 4 rfl (by kernel_rfl) (by first | exact RV.fieldAddr rfl | exact RV.fieldAddrA rfl) (.none rfl) rfl ?_
          refine AD.take 5 rfl (by kernel_rfl) (by first | exact RV.loadO rfl rfl (by first | simp | assumption) | exact RV.loadSF rfl (by assumption) (fun _ => rfl) (by omega) rfl rfl (by first | simp | assumption) | exact RV.loadS rfl (by assumption) (by omega) (by first | simp | assumption)) (.none rfl) rfl ?_
          refine AD.takeP 6 rfl (by kernel_rfl) (RV.move rfl) (.none rfl) rfl ?_
          refine AD.takeP 7 rfl (by kernel_rfl) (RV.indexS rfl rfl (hri.src fun x hx => hx) (by omega) rfl) (.none rfl) rfl ?_
          refine AD.take 8 rfl (by kernel_rfl) (RV.loadS (enc := Pool.I64) (l := ins) rfl (hri.src fun x hx => hx) (by omega) (by simp)) (.none rfl) rfl ?_
          refine AD.one 1 (by kernel_rfl) (AE.eff rfl (EF.callF rfl (nic_in B _ c a aq b bq p qb qt pb (newP bufs).tk.length (newR n).sl.length s bs ct D (fun x hx => by simp [hx]) w si so qi qo K2.nums hA.hold)) (.none rfl) rfl ?_)
          rintro _ _ ⟨rfl, rfl⟩
          refine ⟨(by first | exact .inr fun x hx hM => hx | exact .inr fun x hx hM => List.mem_cons_of_mem _ hx | exact .inr fun x hx hM => List.mem_append_right _ hx | exact .inr fun x hx hM => (card_perm ..).mem_iff.1 hx), ?_⟩
          refine AD.takeP 9 rfl (by kernel_rfl) ((RV.neq rfl rfl).to (v' := .bool false) (by rw [hi1]; simp)) (.none rfl) rfl ?_
          refine AD.takeP 10 rfl (by kernel_rfl) (RV.move rfl) (.none rfl) rfl ?_
          refine AD.takeP 11 rfl (by kernel_rfl) (RV.move rfl) (.some rfl rfl rfl rfl) rfl ?_
          refine AD.takeP 13 rfl (by kernel_rfl) (RV.move rfl) (.some rfl rfl rfl rfl) rfl ?_
          refine AD.takeP 14 rfl (by kernel_rfl) (RV.nilCheck rfl) (.some rfl rfl rfl rfl) rfl ?_
          refine AD.takeP 15 rfl (by kernel_rfl) (by first | exact RV.fieldAddr rfl | exact RV.fieldAddrA rfl) (.some rfl rfl rfl rfl) rfl ?_
          refine AD.take 16 rfl (by kernel_rfl) (by first | exact RV.loadO rfl rfl (by first | simp | assumption) | exact RV.loadSF rfl (by assumption) (fun _ => rfl) (by omega) rfl rfl (by first | simp | assumption) | exact RV.loadS rfl (by assumption) (by omega) (by first | simp | assumption)) (.some rfl rfl rfl rfl) rfl ?_
          refine AD.takeP 17 rfl (by kernel_rfl) (RV.move rfl) (.some rfl rfl rfl rfl) rfl ?_
          refine AD.takeP 18 rfl (by kernel_rfl) (RV.indexS rfl rfl (hrg.src fun x hx => hx) (by omega) rfl) (.some rfl rfl rfl rfl) rfl ?_
          refine AD.take 19 rfl (by kernel_rfl) (RV.loadS (enc := frsV) (l := gm) rfl (hrg.src fun x hx => hx) (by omega) (by simp)) (.some rfl rfl rfl rfl) rfl ?_
          refine AD.takeP 20 rfl (by kernel_rfl) (RV.lenS rfl) (.some rfl rfl rfl rfl) rfl ?_
          refine AD.one 12 (by kernel_rfl) (AE.eff rfl (EF.callF rfl (nic_out B _ c a aq b bq p qb qt pb (newP bufs).tk.length (newR n).sl.length s bs ct D (fun x hx => by simp [hx]) w si so qi qo K2.nums hA.hold)) (.some rfl rfl rfl rfl) rfl ?_)
          rintro _ _ ⟨rfl, rfl⟩
          refine ⟨(by first | exact .inr fun x hx hM => hx | exact .inr fun x hx hM => List.mem_cons_of_mem _ hx | exact .inr fun x hx hM => List.mem_append_right _ hx | exact .inr fun x hx hM => (card_perm ..).mem_iff.1 hx), ?_⟩
          refine AD.takeP 21 rfl (by kernel_rfl) ((RV.neq rfl rfl).to (v' := .bool false) (by simp; omega)) (.some rfl rfl rfl rfl) rfl ?_
          refine AD.takeP 22 rfl (by kernel_rfl) (RV.pickF rfl rfl) (.none rfl) rfl ?_
          refine AD.takeP 23 rfl (by kernel_rfl) (RV.move rfl) (.none rfl) rfl ?_
          refine AD.takeP 24 rfl (by kernel_rfl) (RV.move rfl) (.some rfl rfl rfl rfl) rfl ?_
          refine AD.takeP 26 rfl (by kernel_rfl) (RV.move rfl) (.some rfl rfl rfl rfl) rfl ?_
          refine AD.takeP 27 rfl (by kernel_rfl) (RV.nilCheck rfl) (.some rfl rfl rfl rfl) rfl ?_
          refine AD.takeP 28 rfl (by kernel_rfl) (by first | exact RV.fieldAddr rfl | exact RV.fieldAddrA rfl) (.some rfl rfl rfl rfl) rfl ?_
          refine AD.take 29 rfl (by kernel_rfl) (by first | exact RV.loadO rfl rfl (by first | simp | assumption) | exact RV.loadSF rfl (by assumption) (fun _ => rfl) (by omega) rfl rfl (by first | simp | assumption) | exact RV.loadS rfl (by assumption) (by omega) (by first | simp | assumption)) (.some rfl rfl rfl rfl) rfl ?_
          refine AD.takeP 30 rfl (by kernel_rfl) (RV.move rfl) (.some rfl rfl rfl rfl) rfl ?_
          refine AD.takeP 31 rfl (by kernel_rfl) (RV.indexS rfl rfl (hrc.src fun x hx => hx) (by omega) rfl) (.some rfl rfl rfl rfl) rfl ?_
          refine AD.take 32 rfl (by kernel_rfl) (RV.loadS (enc := frsV) (l := cm) rfl (hrc.src fun x hx => hx) (by omega) (by simp)) (.some rfl rfl rfl rfl) rfl ?_
          refine AD.takeP 33 rfl (by kernel_rfl) (RV.lenS rfl) (.some rfl rfl rfl rfl) rfl ?_
          refine AD.one 25 (by kernel_rfl) (AE.eff rfl (EF.callF rfl (nic_waits B _ c a aq b bq p qb qt pb (newP bufs).tk.length (newR n).sl.length s bs ct D (fun x hx => by simp [hx]) w si so qi qo K2.nums hA.hold)) (.some rfl rfl rfl rfl) rfl ?_)
          rintro _ _ ⟨rfl, rfl⟩
          refine ⟨(by first | exact .inr fun x hx hM => hx | exact .inr fun x hx hM => List.mem_cons_of_mem _ hx | exact .inr fun x hx hM => List.mem_append_right _ hx | exact .inr fun x hx hM => (card_perm ..).mem_iff.1 hx), ?_⟩
          refine AD.takeP 34 rfl (by kernel_rfl) ((RV.neq rfl rfl).to (v' := .bool false) (by simp; omega)) (.some rfl rfl rfl rfl) rfl ?_
          refine AD.takeP 35 rfl (by kernel_rfl) (RV.pickF rfl rfl) (.none rfl) rfl ?_
          refine AD.takeP 36 rfl (by kernel_rfl) (RV.move rfl) (.none rfl) rfl ?_
          refine AD.takeP 37 rfl (by kernel_rfl) (RV.move rfl) (.some rfl rfl rfl rfl) rfl ?_
          refine AD.takeP 39 rfl (by kernel_rfl) (RV.move rfl) (.some rfl rfl rfl rfl) rfl ?_
          refine AD.takeP 40 rfl (by kernel_rfl) (RV.nilCheck rfl) (.some rfl rfl rfl rfl) rfl ?_
          refine AD.takeP 41 rfl (by kernel_rfl) (by first | exact RV.fieldAddr rfl | exact RV.fieldAddrA rfl) (.some rfl rfl rfl rfl) rfl ?_
          refine AD.take 42 rfl (by kernel_rfl) (by first | exact RV.loadO rfl rfl (by first | simp | assumption) | exact RV.loadSF rfl (by assumption) (fun _ => rfl) (by omega) rfl rfl (by first | simp | assumption) | exact RV.loadS rfl (by assumption) (by omega) (by first | simp | assumption)) (.some rfl rfl rfl rfl) rfl ?_
          refine AD.one 38 (by kernel_rfl) (AE.eff rfl (EF.callF rfl (Tri.perm (card_perm ..) (free_spec B _ p qb qt pb (newP bufs).tk.length s bs w.pi w.hL w.hbl w.hr w.hcb))) (.some rfl rfl rfl rfl) rfl ?_)
          rintro _ _ ⟨rfl, rfl⟩
          refine ⟨(by first | exact .inr fun x hx hM => hx | exact .inr fun x hx hM => List.mem_cons_of_mem _ hx | exact .inr fun x hx hM => List.mem_append_right _ hx | exact .inr fun x hx hM => (card_perm ..).mem_iff.1 hx), ?_⟩
          refine AD.takeP 43 rfl (by kernel_rfl) ((RV.neq rfl rfl).to (v' := .bool false) (by simp)) (.some rfl rfl rfl rfl) rfl ?_
          refine AD.takeP 44 rfl (by kernel_rfl) (RV.pickF rfl rfl) (.none rfl) rfl ?_
          refine AD.done (by kernel_rfl) ?_
          refine AK.condF rfl ?_
          refine AK.skip ?_
          refine AK.inBlock ?_
          refine AK.region ?_
          refine AO.val (RV.move rfl) (.none rfl) rfl ?_
          refine AO.val (by first | exact RV.addIn rfl rfl (by omega) | exact RV.add rfl rfl) (.none rfl) rfl ?_
          refine AO.val (RV.assign rfl) (.none rfl) rfl ?_
          refine AO.nil ?_
          -- round ends at L0tTJc2Jb2
          obtain ⟨hz0, hz1⟩ := side_back hk hA hB
          obtain ⟨hzc0, hzc1⟩ := sel_cb (K := ⟨c, a, aq, b, bq, si, so, qi, qo⟩) hk hKc hK2c
          refine AK.perm (card_perm ..).symm ?_
          refine AK.perm (own_back k (sdO (newR n).sl.length p) ⟨c, a, aq, b, bq, si, so, qi, qo⟩ K2 (sdO_mk (newR n).sl.length p c a aq b bq si so qi qo) ..) ?_
          refine AK.weak (.cons (by exact rfl) (.cons (by exact rfl) (.cons (by exact rfl) (.cons (by exact rfl) (.cons (by exact rfl) .nil))))) (by first | exact SubO.sub | exact List.Sublist.refl _ | exact .cons _ (List.Sublist.refl _) | exact .cons _ (.cons _ (List.Sublist.refl _)) | exact .cons _ (.cons _ (.cons _ (List.Sublist.refl _)))) (hih0 (i + 1, sel k ⟨c, a, aq, b, bq, si, so, qi, qo⟩ K2, sel k K2 ⟨c, a, aq, b, bq, si, so, qi, qo⟩, s, bs, ct, Ab, cb, pb, ins, sps, cm, gm, wi, wc, wg, ws, D) ?_ ?_)
          · try dsimp only
            exact ⟨by omega, by omega, hzc0, hzc1, w, hz0, hz1, hri, hrc, hrg, hrs⟩
          · try dsimp only
            omega
        · intro hjb2
          try dsimp only at hjb2
          refine AK.block ?_
          refine AK.seq ?_
          refine AK.region ?_
          refine AO.val (RV.eql rfl rfl) (.none rfl) rfl ?_
          refine AO.val (RV.assign rfl) (.none rfl) rfl ?_
          refine AO.nil ?_
          refine AK.cond rfl ?_ ?_
          · intro hc3
            try simp only [decide_eq_true_eq, decide_eq_false_iff_not, Bool.not_eq_true', Bool.not_eq_false', beq_iff_eq] at hc3
            refine AK.seq ?_
            refine AK.region ?_
            refine AO.val (RV.move rfl) (.none rfl) rfl ?_
            refine AO.val (RV.move rfl) (.none rfl) rfl ?_
            refine AO.eff (EF.callF rfl (arrive_spec B _ c a aq b bq p qb qt pb (newP bufs).tk.length (newR n).sl.length s bs ct D (fun x hx => by simp [hx]) w si so qi qo K2.nums hA.hold ((lget l i).2.2.2.1.l.take (1600 : Int).toNat) hfs.sub hfb2 (by omega))) (.none rfl) rfl ?_
            rintro _ _ ⟨bs1, ct1, t1, q1, part, rfl, rfl, w1, hh1, hca1, hsm1⟩
            refine AO.val (RV.move rfl) (.none rfl) rfl ?_
            refine AO.val (RV.move rfl) (.none rfl) rfl ?_
            refine AO.val (RV.move rfl) (.none rfl) rfl ?_
            refine AO.eff (EF.callF rfl (Tri.perm (doc_perm2 ..) (cards_arrive B _ q (min (max n 1) 64) (freeP s) 2 wi wc wg ws ins sps cm gm hri hrc hrg hrs (by omega) (by omega) k hkb (by omega) (by omega) D (fun x hx => by simp [hx]) (qi.ready.map (lget ct)) (qo.posted.map (lget ct)) hA.came ((lget l i).2.2.2.1.l.take (1600 : Int).toNat) hfs.sub (by omega)))) (.none rfl) rfl ?_
            rintro _ _ ⟨w5i, w5c, prt, xf, rfl, rfl, hr5i, hr5c, hfx⟩
            rw [hcae] at hr5i hfx ⊢
            refine AO.val ((RV.neq rfl rfl).to (v' := .bool false) (by simp)) (.none rfl) rfl ?_
            refine AO.nil ?_
            refine AK.condF rfl ?_
            refine AK.skip ?_
            refine AK.inBlock ?_
            -- ways meet at L0tTJc2T
            refine AK.perm (doc_back1 ..) ?_
            refine AK.weak (.cons (by exact rfl) (.cons (by exact rfl) (.cons (by exact rfl) (.cons (by exact rfl) (.cons (by exact rfl) (.cons (by exact rfl) (.cons (by exact rfl) .nil))))))) (by first | exact SubO.sub | exact List.Sublist.refl _ | exact .cons _ (List.Sublist.refl _) | exact .cons _ (.cons _ (List.Sublist.refl _)) | exact .cons _ (.cons _ (.cons _ (List.Sublist.refl _)))) (hjb2 (s, t1, so, q1, qo, bs1, ct1, Ab, cb, pb, lset ins k (arriveA (ca ct qi qo) ((lget l i).2.2.2.1.l.take (1600 : Int).toNat)).1.inN, sps, lset cm k xf, gm, w5i, w5c, wg, ws, prt ++ (part ++ D)) ?_)
            · try dsimp only
              refine ⟨w1.mono fun x hx => List.mem_append_right _ hx, Side.of hh1 hca1 (lget_own ⟨hkb.1, by omega⟩ _) ?_ (by rw [lget_own ⟨hkb.1, by omega⟩]; exact hfx.mono fun x hx => by simp at hx ⊢; rcases hx with hx | hx <;> simp [hx]) ?_, hB.other hh1 hsm1 (fun x hx => by simp [hx]) (lget_other hk hil _) rfl (lget_other hk hcml _) rfl, hr5i, hr5c, hrg, hrs⟩
              · rw [hs1]; exact (arr_rest (ca ct qi qo) _).2
              · rw [(arr_rest _ _).1]; exact hA.goes.mono fun x hx => by simp [hx]
          · intro hc3
            try simp only [decide_eq_true_eq, decide_eq_false_iff_not, Bool.not_eq_true', Bool.not_eq_false', beq_iff_eq] at hc3
            refine AK.seq ?_
            refine AK.region ?_
            refine AO.val (RV.eql rfl rfl) (.none rfl) rfl ?_
            refine AO.val (RV.assign rfl) (.none rfl) rfl ?_
            refine AO.nil ?_
            refine AK.cond rfl ?_ ?_
            · intro hc4
              try simp only [decide_eq_true_eq, decide_eq_false_iff_not, Bool.not_eq_true', Bool.not_eq_false', beq_iff_eq] at hc4
              refine AK.seq ?_
              refine AK.region ?_
              refine AO.val (RV.move rfl) (.none rfl) rfl ?_
              refine AO.eff (EF.callF rfl (poll_spec B _ c a aq b bq p qb qt pb (newP bufs).tk.length (newR n).sl.length s bs ct D (fun x hx => by simp [hx]) w si so qi qo K2.nums hA.hold)) (.none rfl) rfl ?_
              rintro _ _ ⟨Ar, cr, part, s1, bs1, ct1, t1, o1, q1, r1, A1, e1, p1, rfl, hcr, hrr, hxb, hxl, rfl, w1, hh1, hca1, hf1, hsm1⟩
              refine AO.val (RV.move rfl) (.none rfl) rfl ?_
              refine AO.val (RV.extract rfl rfl) (.none rfl) rfl ?_
              refine AO.val (RV.extract rfl rfl) (.none rfl) rfl ?_
              refine AO.val (RV.assign rfl) (.none rfl) rfl ?_
              refine AO.val (RV.assign rfl) (.none rfl) rfl ?_
              refine AO.nil ?_
              refine AK.seq ?_
              refine AK.region ?_
              refine AO.val (RV.move rfl) (.none rfl) rfl ?_
              refine AO.val (RV.move rfl) (.none rfl) rfl ?_
              refine AO.eff (EF.callF rfl (Tri.perm (doc_perm2 ..) (cards_poll B _ q (min (max n 1) 64) (freeP s) 2 wi wc wg ws ins sps cm gm hri hrc hrg hrs (by omega) (by omega) k hkb (newR n).sl.length hMN (by omega) (by omega) (by omega) (by omega) (by omega) D (fun x hx => by simp [hx]) (qi.ready.map (lget ct)) (qo.posted.map (lget ct)) hA.came))) (.none rfl) rfl ?_
              rintro _ _ ⟨w5i, w5c, w5s, xf, Ay, cy, rfl, rfl, hys, hr5i, hr5c, hr5s, hfx⟩
              rw [hcae] at hys hr5i hfx ⊢
              refine AO.val (RV.move rfl) (.none rfl) rfl ?_
              refine AO.val (RV.extract rfl rfl) (.none rfl) rfl ?_
              refine AO.val (RV.extract rfl rfl) (.none rfl) rfl ?_
              refine AO.val (RV.assign rfl) (.none rfl) rfl ?_
              refine AO.val (RV.assign rfl) (.none rfl) rfl ?_
              refine AO.nil ?_
              refine AK.seq ?_
              refine AK.region ?_
              refine AO.val (RV.move rfl) (.none rfl) rfl ?_
              refine AO.val (RV.move rfl) (.none rfl) rfl ?_
              refine AO.eff (EF.callF rfl (same_spec (cap := cr) (cap2 := cy) B _ (pollA (newR n).sl.length (ca ct qi qo) (freeP s)).2.1 (pollA (newR n).sl.length (ca ct qi qo) (freeP s)).2.1 (hrr.src fun x hx => by simp [hx]) (hys.mono fun x hx => by simp [hx]) (by omega))) (.none rfl) rfl ?_
              rintro _ _ ⟨rfl, bS, rfl, hSm⟩
              have hSm2 := hSm.2 rfl
              subst hSm2
              refine AO.val (RV.not rfl) (.none rfl) rfl ?_
              refine AO.val (RV.move rfl) (.none rfl) rfl ?_
              refine AO.val (RV.move rfl) (.some rfl rfl rfl rfl) rfl ?_
              refine AO.val (RV.move rfl) (.some rfl rfl rfl rfl) rfl ?_
              refine AO.val ((RV.neqB rfl rfl).to (v' := .bool false) (by simp)) (.some rfl rfl rfl rfl) rfl ?_
              refine AO.val (RV.pickF rfl rfl) (.none rfl) rfl ?_
              refine AO.nil ?_
              refine AK.condF rfl ?_
              refine AK.skip ?_
              refine AK.inBlock ?_
              -- ways meet at L0tTJc2FT
              refine AK.perm (doc_back2 ..) ?_
              rw [← hf1]
              refine AK.weak (.cons (by exact rfl) (.cons (by exact rfl) (.cons (by exact rfl) (.cons (by exact rfl) (.cons (by exact rfl) (.cons (by exact rfl) (.cons (by exact rfl) .nil))))))) (by first | exact SubO.sub | exact List.Sublist.refl _ | exact .cons _ (List.Sublist.refl _) | exact .cons _ (.cons _ (List.Sublist.refl _)) | exact .cons _ (.cons _ (.cons _ (List.Sublist.refl _)))) (hjb2 (s1, t1, o1, q1, r1, bs1, ct1, A1, e1, p1, lset ins k (pollA (newR n).sl.length (ca ct qi qo) (freeP s)).1.1.inN, lset sps k 0, lset cm k xf, gm, w5i, w5c, wg, w5s, part ++ D) ?_)
              · try dsimp only
                refine ⟨w1.mono fun x hx => List.mem_append_right _ hx, Side.of hh1 hca1 (lget_own ⟨hkb.1, by omega⟩ _) ?_ (by rw [lget_own ⟨hkb.1, by omega⟩]; exact hfx.mono fun x hx => by simp [hx]) ?_, hB.other hh1 hsm1 (fun x hx => by simp [hx]) (lget_other hk hil _) (lget_other hk hsl _) (lget_other hk hcml _) rfl, hr5i, hr5c, hrg, hr5s⟩
                · rw [lget_own ⟨hkb.1, by omega⟩]; exact (poll_rest _ _ _).2.symm
                · rw [(poll_rest _ _ _).1]; exact hA.goes.mono fun x hx => by simp [hx]
            · intro hc4
              try simp only [decide_eq_true_eq, decide_eq_false_iff_not, Bool.not_eq_true', Bool.not_eq_false', beq_iff_eq] at hc4
              refine AK.seq ?_
              refine AK.region ?_
              refine AO.val (RV.eql rfl rfl) (.none rfl) rfl ?_
              refine AO.val (RV.assign rfl) (.none rfl) rfl ?_
              refine AO.nil ?_
              refine AK.cond rfl ?_ ?_
              · intro hc5
                try simp only [decide_eq_true_eq, decide_eq_false_iff_not, Bool.not_eq_true', Bool.not_eq_false', beq_iff_eq] at hc5
                refine AK.seq ?_
                refine AK.region ?_
                refine AO.val (RV.move rfl) (.none rfl) rfl ?_
                refine AO.val (RV.move rfl) (.none rfl) rfl ?_
                refine AO.eff (EF.callF rfl (send_spec B _ c a aq b bq p qb qt pb (newP bufs).tk.length (newR n).sl.length s bs ct D (fun x hx => by simp [hx]) w si so qi qo K2.nums hA.hold ((lget l i).2.2.2.1.l.take (1600 : Int).toNat) hfs.sub hfb2 (by omega))) (.none rfl) rfl ?_
                rintro _ _ ⟨s1, bs1, ct1, o1, q1, A1, e1, p1, part, rfl, rfl, w1, hh1, hca1, hf1, hsm1⟩
                refine AO.val (RV.move rfl) (.none rfl) rfl ?_
                refine AO.val (RV.move rfl) (.none rfl) rfl ?_
                refine AO.val (RV.move rfl) (.none rfl) rfl ?_
                refine AO.eff (EF.callF rfl (Tri.perm (doc_perm2 ..) (cards_send B _ q (min (max n 1) 64) (freeP s) 2 wi wc wg ws ins sps cm gm hri hrc hrg hrs (by omega) (by omega) k hkb (newR n).sl.length hMN (by omega) (by omega) (by omega) D (fun x hx => by simp [hx]) (qi.ready.map (lget ct)) (qo.posted.map (lget ct)) hA.goes ((lget l i).2.2.2.1.l.take (1600 : Int).toNat) hfs.sub (by omega)))) (.none rfl) rfl ?_
                rintro _ _ ⟨w5g, w5s, prt, xf, rfl, rfl, hr5g, hr5s, hfx⟩
                rw [hcae] at hfx ⊢
                refine AO.val ((RV.neq rfl rfl).to (v' := .bool false) (by simp)) (.none rfl) rfl ?_
                refine AO.nil ?_
                refine AK.condF rfl ?_
                refine AK.skip ?_
                refine AK.inBlock ?_
                -- ways meet at L0tTJc2FFT
                refine AK.perm (doc_back1 ..) ?_
                rw [← hf1]
                refine AK.weak (.cons (by exact rfl) (.cons (by exact rfl) (.cons (by exact rfl) (.cons (by exact rfl) (.cons (by exact rfl) (.cons (by exact rfl) (.cons (by exact rfl) .nil))))))) (by first | exact SubO.sub | exact List.Sublist.refl _ | exact .cons _ (List.Sublist.refl _) | exact .cons _ (.cons _ (List.Sublist.refl _)) | exact .cons _ (.cons _ (.cons _ (List.Sublist.refl _)))) (hjb2 (s1, si, o1, qi, q1, bs1, ct1, A1, e1, p1, ins, lset sps k 0, cm, lset gm k xf, wi, wc, w5g, w5s, prt ++ (part ++ D)) ?_)
                · try dsimp only
                  refine ⟨w1.mono fun x hx => List.mem_append_right _ hx, Side.of hh1 hca1 ?_ ?_ ?_ (by rw [lget_own ⟨hkb.1, by omega⟩]; exact hfx.mono fun x hx => by simp at hx ⊢; rcases hx with hx | hx <;> simp [hx]), hB.other hh1 hsm1 (fun x hx => by simp [hx]) rfl (lget_other hk hsl _) rfl (lget_other hk hgml _), hri, hrc, hr5g, hr5s⟩
                  · rw [hi1]; exact (send_rest _ (ca ct qi qo) _ _).1
                  · rw [lget_own ⟨hkb.1, by omega⟩]; exact (send_rest _ _ _ _).2.2.symm
                  · rw [(send_rest _ _ _ _).2.1]; exact hA.came.mono fun x hx => by simp [hx]
              · intro hc5
                try simp only [decide_eq_true_eq, decide_eq_false_iff_not, Bool.not_eq_true', Bool.not_eq_false', beq_iff_eq] at hc5
                refine AK.seq ?_
                refine AK.draw [] [6, 14, 15] mixed ?_
                refine AD.takeP 0 rfl (by kernel_rfl) (RV.move rfl) (.none rfl) rfl ?_
                refine AD.takeP 1 rfl (by kernel_rfl) (RV.move rfl) (.none rfl) rfl ?_
                refine AD.takeP 2 rfl (by kernel_rfl) (RV.move rfl) (.none rfl) rfl ?_
                refine AD.takeP 3 rfl (by kernel_rfl) (by first | exact RV.indexS rfl rfl (by assumption) (by omega) rfl | exact RV.indexAddr rfl rfl (by omega)) (.none rfl) rfl ?_
                refine AD.takeP 4 rfl (by kernel_rfl) (by first | exact RV.fieldAddr rfl | exact RV.fieldAddrA rfl) (.none rfl) rfl ?_
                refine AD.takeP 5 rfl (by kernel_rfl) (by first | exact RV.loadO rfl rfl (by first | simp | assumption) | exact RV.loadSF rfl (by assumption) (fun _ => rfl) (by omega) rfl rfl (by first | simp | assumption) | exact RV.loadS rfl (by assumption) (by omega) (by first | simp | assumption)) (.none rfl) rfl ?_
                refine AD.takeP 7 rfl (by kernel_rfl) (RV.move rfl) (.none rfl) rfl ?_
                refine AD.takeP 8 rfl (by kernel_rfl) (RV.move rfl) (.none rfl) rfl ?_
                refine AD.takeP 9 rfl (by kernel_rfl) (RV.move rfl) (.none rfl) rfl ?_
                refine AD.takeP 10 rfl (by kernel_rfl) (RV.move rfl) (.none rfl) rfl ?_
                refine AD.takeP 11 rfl (by kernel_rfl) (by first | exact RV.indexS rfl rfl (by assumption) (by omega) rfl | exact RV.indexAddr rfl rfl (by omega)) (.none rfl) rfl ?_
                refine AD.takeP 12 rfl (by kernel_rfl) (by first | exact RV.fieldAddr rfl | exact RV.fieldAddrA rfl) (.none rfl) rfl ?_
                refine AD.takeP 13 rfl (by kernel_rfl) (by first | exact RV.loadO rfl rfl (by first | simp | assumption) | exact RV.loadSF rfl (by assumption) (fun _ => rfl) (by omega) rfl rfl (by first | simp | assumption) | exact RV.loadS rfl (by assumption) (by omega) (by first | simp | assumption)) (.none rfl) rfl ?_
                refine AD.one 6 (by kernel_rfl) (AE.eff rfl (EF.callF rfl (finish_spec B _ c a aq b bq p qb qt pb (newP bufs).tk.length (newR n).sl.length s bs ct D (fun x hx => by simp [hx]) w si so qi qo K2.nums hA.hold (lget l i).2.2.1)) (.none rfl) rfl ?_)
                rintro _ _ ⟨zs, Ao, co, po, part, o1, q1, rfl, hco, hro1, hz, hze, rfl, hh1, hca1⟩
                have hzl := congrArg List.length hze
                simp only [finishA, List.length_map, List.length_take, ca] at hzl
                refine ⟨.inl (by kernel_rfl), ?_⟩
                refine AD.one 14 (by kernel_rfl) (AE.eff rfl (EF.callF rfl (Tri.perm (doc_perm3 ..) (cards_finish B _ q (min (max n 1) 64) (freeP s) 2 wi wc wg ws ins sps cm gm hri hrc hrg hrs k hkb (by omega) (by omega) D (fun x hx => by simp [hx]) (qi.ready.map (lget ct)) (qo.posted.map (lget ct)) hA.goes (lget l i).2.2.1))) (.none rfl) rfl ?_)
                rintro _ _ ⟨z2, Az, cz, pz, w5g, w5s, xf, rfl, hZ, rfl, hr5g, hr5s, hfx⟩
                rw [hcae] at hZ hr5s hfx
                refine ⟨.inl (by kernel_rfl), ?_⟩
                refine AD.one 15 (by kernel_rfl) (AE.eff rfl (EF.callF rfl (rows_same (c1 := co) (c2 := cz) B _ zs z2 (hro1.src fun x hx => by simp [hx]) (hZ.row.src fun x hx => by simp [hx]) (fun z hz2 => ⟨(hz z hz2).1.mono fun x hx => by simp [hx], (hz z hz2).2.2.1⟩) (fun z hz2 => (hZ.src z hz2).mono fun x hx => by simp [hx]) (hze.trans hZ.eq.symm) (by omega))) (.none rfl) rfl ?_)
                rintro _ _ ⟨rfl, rfl⟩
                refine ⟨.inl (by kernel_rfl), ?_⟩
                refine AD.takeP 16 rfl (by kernel_rfl) (RV.not rfl) (.none rfl) rfl ?_
                refine AD.done (by kernel_rfl) ?_
                refine AK.condF rfl ?_
                refine AK.skip ?_
                refine AK.inBlock ?_
                -- ways meet at L0tTJc2FFF
                refine AK.perm (doc_back3 ..) ?_
                refine AK.weak (.cons (by exact rfl) (.cons (by exact rfl) (.cons (by exact rfl) (.cons (by exact rfl) (.cons (by exact rfl) (.cons (by exact rfl) (.cons (by exact rfl) .nil))))))) (by first | exact SubO.sub | exact List.Sublist.refl _ | exact .cons _ (List.Sublist.refl _) | exact .cons _ (.cons _ (List.Sublist.refl _)) | exact .cons _ (.cons _ (.cons _ (List.Sublist.refl _)))) (hjb2 (s, si, o1, qi, q1, bs, ct, Ab, cb, pb, ins, lset sps k (finishA (ca ct qi qo) (lget l i).2.2.1).1.spent, cm, lset gm k xf, wi, wc, w5g, w5s, pz ++ (po ++ (part ++ D))) ?_)
                · try dsimp only
                  refine ⟨w.mono fun x hx => by simp [hx], Side.of hh1 hca1 hi1 (lget_own ⟨hkb.1, by omega⟩ _) (hA.came.mono fun x hx => by simp [hx]) (by rw [lget_own ⟨hkb.1, by omega⟩]; exact hfx.mono fun x hx => by simp [hx]), hB.other hh1 (Same.refl _ _) (fun x hx => by simp [hx]) rfl (lget_other hk hsl _) rfl (lget_other hk hgml _), hri, hrc, hr5g, hr5s⟩
      · intro hjc2
        try dsimp only at hjc2
        refine AK.cond rfl ?_ ?_
        · intro hc6
          try simp only [decide_eq_true_eq, decide_eq_false_iff_not, Bool.not_eq_true', Bool.not_eq_false', beq_iff_eq] at hc6
          refine AK.region ?_
          refine AO.val (RV.move rfl) (.none rfl) rfl ?_
          refine AO.val (RV.negK rfl (by simp only [kb]; omega)) (.none rfl) rfl ?_
          refine AO.val (RV.assign rfl) (.none rfl) rfl ?_
          refine AO.nil ?_
          -- ways meet at L0tTT
          refine AK.weak (.cons (by exact rfl) (.cons (by exact rfl) (.cons (by exact rfl) (.cons (by exact rfl) (.cons (by exact rfl) (.cons (by exact rfl) .nil)))))) (by first | exact SubO.sub | exact List.Sublist.refl _ | exact .cons _ (List.Sublist.refl _) | exact .cons _ (.cons _ (List.Sublist.refl _)) | exact .cons _ (.cons _ (.cons _ (List.Sublist.refl _)))) (hjc2 (-Int.tmod (lget l i).2.1 2) ?_)
          · try dsimp only
            exact htm.1 (by assumption)
        · intro hc6
          try simp only [decide_eq_true_eq, decide_eq_false_iff_not, Bool.not_eq_true', Bool.not_eq_false', beq_iff_eq] at hc6
          refine AK.skip ?_
          -- ways meet at L0tTF
          refine AK.weak (.cons (by exact rfl) (.cons (by exact rfl) (.cons (by exact rfl) (.cons (by exact rfl) (.cons (by exact rfl) (.cons (by exact rfl) .nil)))))) (by first | exact SubO.sub | exact List.Sublist.refl _ | exact .cons _ (List.Sublist.refl _) | exact .cons _ (.cons _ (List.Sublist.refl _)) | exact .cons _ (.cons _ (.cons _ (List.Sublist.refl _)))) (hjc2 (Int.tmod (lget l i).2.1 2) ?_)
          · try dsimp only
            exact htm.2 (by assumption)
    · intro hc2
      try simp only [decide_eq_true_eq, decide_eq_false_iff_not, Bool.not_eq_true', Bool.not_eq_false', beq_iff_eq] at hc2
      refine AK.exit rfl ?_
      refine AK.seq ?_
      refine AK.region ?_
      refine AO.eff (EF.callF rfl (lives_spec B _)) (.none rfl) rfl ?_
      rintro _ _ rfl
      refine AO.val (RV.assign rfl) (.none rfl) rfl ?_
      refine AO.nil ?_
      -- at L0tF
      clear hih0
      refine AK.ret (h' := []) Try.func4 (.tmp rfl .nil) ?_ (List.nil_sublist _)
      rfl
  · intro hg1
    try simp only [decide_eq_true_eq, decide_eq_false_iff_not, Bool.not_eq_true', Bool.not_eq_false', beq_iff_eq] at hg1
    refine AO.pass (.some rfl rfl rfl rfl) rfl ?_
    refine AO.pass (.some rfl rfl rfl rfl) rfl ?_
    refine AO.val (RV.pickF rfl rfl) (.none rfl) rfl ?_
    refine AO.nil ?_
    refine AK.condF rfl ?_
    refine AK.exit rfl ?_
    refine AK.seq ?_
    refine AK.region ?_
    refine AO.eff (EF.callF rfl (lives_spec B _)) (.none rfl) rfl ?_
    rintro _ _ rfl
    refine AO.val (RV.assign rfl) (.none rfl) rfl ?_
    refine AO.nil ?_
    -- at L0f
    clear hih0
    refine AK.ret (h' := []) Try.func4 (.tmp rfl .nil) ?_ (List.nil_sublist _)
    rfl

set_option maxRecDepth 100000 in
theorem nicDoes_lifted (os : Os) (started : os.Started) (H : Type) (enc : TypeId × Value → H) :
    ReturnsInHanded {} Try.checked os 4 .any (Rows.nicDoesSpec.pre6 enc Try.prog Try.f4 Rows.nicDoesRow.domain false) (Rows.nicDoesSpec.post enc Try.prog Try.f4 false true false false) := by
  refine returnsInHanded_of_change (C := Try.checked) own_ started (by kernel_rfl) Try.func4
    (ChangeSpec.witness6 (enc := enc) (C := Try.checked) false ⟨#[], #[(Value.int IntKind.i64 0), (Value.int IntKind.i64 0), (Value.slice none 0 0)], []⟩ 8 (by kernel_rfl) (by kernel_rfl) (by kernel_rfl) (by kernel_rfl)) ?_
  intro W base args ds gs before hval0 hW hcnd _
  have hval : ∀ (j : Nat) t v, Try.f4.params[j]? = some t → args[j]? = some v → Value.okWide Try.prog W .any base t v := hval0
  have hW' := hW
  obtain ⟨p, q, hA0, hV, rfl, hfz, hnd⟩ := hW
  have hA : DataW.TrodAll enc Try.prog W 0 (fun _ => true) true Try.f4.params.toList args.toList ds p := hA0
  rw [Try.params4] at hA hval
  obtain ⟨args⟩ := args
  simp only at hA
  obtain ⟨v0, vs0, d0, ds0, p0, q0, e0a, e0b, e0c, t0, r0⟩ := trodAll_cons hA
  obtain ⟨v1, vs1, d1, ds1, p1, q1, e1a, e1b, e1c, t1, r1⟩ := trodAll_cons r0
  obtain ⟨v2, vs2, d2, ds2, p2, q2, e2a, e2b, e2c, t2, r2⟩ := trodAll_cons r1
  subst e0a e0b e0c
  subst e1a e1b e1c
  subst e2a e2b e2c
  obtain ⟨rfl, rfl, rfl⟩ := trodAll_nil r2
  obtain ⟨rfl, rfl⟩ := trodVars_none hV
  have hlt := hW'.lt
  have k0 : Value.okWide Try.prog W .any base 3 v0 := hval 0 _ v0 rfl rfl
  obtain ⟨n, w0, n_lo, n_hi⟩ := Dec.argI k0 t0
  have k1 : Value.okWide Try.prog W .any base 3 v1 := hval 1 _ v1 rfl rfl
  obtain ⟨bufs, w1, bufs_lo, bufs_hi⟩ := Dec.argI k1 t1
  have k2 : Value.okWide Try.prog W .any base 22 v2 := hval 2 _ v2 rfl rfl
  obtain ⟨l, w2, hl⟩ := Dec.argS k2 t2 ((Dec.struct (t := 31) (.cons (off := 0) (sz := 1) (by rfl) (by kernel_rfl) (Dec.int (t := 3) (k := .i64)) (.cons (off := 1) (sz := 1) (by rfl) (by kernel_rfl) (Dec.int (t := 3) (k := .i64)) (.cons (off := 2) (sz := 1) (by rfl) (by kernel_rfl) (Dec.int (t := 3) (k := .i64)) (.cons (off := 3) (sz := 1) (by rfl) (by kernel_rfl) (Dec.slice (t := 28) (e := 5) (sz := 1) (Dec.int (t := 5) (k := .u8)) (by decide)) .nil)))) (by kernel_rfl))) (by decide)
  have htri : Tri Try.prog W 4 [v0, v1, v2] [] (fun v _ => v = .bool true) := by
    subst w0 w1 w2
    exact does_law W n bufs l.l hl.2.1 (by have := hl.2.1; have := hl.2.2.1; omega) hl.1 (fun x hx => ⟨(hl.2.2.2.1 x hx).2.2.2.1.src1, (hl.2.2.2.1 x hx).2.2.2.1.2.2.2.1, (hl.2.2.2.1 x hx).2.2.2.1.2.1, (hl.2.2.2.1 x hx).2.2.2.1.2.2.1⟩)
  clear w0 w1 w2
  refine (htri.run W (Models.start W)).mono fun e W' ⟨v, h2, he, m2, hv⟩ => ?_
  subst he; subst hv
  have hb := m2.below
  refine ⟨_, rfl, post_of_below (pa := (p0 ++ (p1 ++ (p2 ++ ([]))))) (pv := []) hW' (fun _ _ _ => trodAll_mk1 (shut_bool (Try.underlying4) true)) (fun sp hsp => ?_) (fun _ _ => rfl) rfl hb (ok_one (t := 4) (by kernel_rfl) rfl ?_)⟩
  · refine TAcons (WideElems.Trod_stays laidOut_ (by kernel_rfl) (of_decide_eq_true (by kernel_rfl)) t0 (fun x hx => hb.same (hlt x (by simp [hx]))) (fun x hx => hsp x (by simp [hx]))) ?_
    refine TAcons (WideElems.Trod_stays laidOut_ (by kernel_rfl) (of_decide_eq_true (by kernel_rfl)) t1 (fun x hx => hb.same (hlt x (by simp [hx]))) (fun x hx => hsp x (by simp [hx]))) ?_
    refine TAcons (WideElems.Trod_stays laidOut_ (by kernel_rfl) (of_decide_eq_true (by kernel_rfl)) t2 (fun x hx => hb.same (hlt x (by simp [hx]))) (fun x hx => hsp x (by simp [hx]))) ?_
    rfl
  · exact okBool Try.underlying4

theorem nicDoes_holds : Rows.NicDoesSaid :=
  OpenClaim.holds_of_wide 4 Try.f4 rfl rfl rfl rfl rfl rfl rfl ⟨rfl, rfl, rfl, rfl, rfl⟩ rfl rfl rfl rfl rfl (by kernel_rfl) Try.func4 (by kernel_rfl)
    (of_decide_eq_true (by kernel_rfl)) (by unfold Func.isWrapper; first | (rw [if_pos (by decide +kernel)]; kernel_rfl) | (rw [if_neg (by decide +kernel)]; exact ⟨rfl, rfl⟩))
    (fun os started H enc _ => nicDoes_lifted os started H enc)

end Go.Proofs.Ytpobjhmbonojkaa
