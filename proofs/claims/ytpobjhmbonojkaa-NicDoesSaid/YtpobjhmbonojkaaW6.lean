/- Walks through the code: what each function that is named here gives back, from any memory that holds its arguments. Written by a program of the claim's author, out of the program's form in Lean. -/
import Derived.Test.YtpobjhmbonojkaaW5
set_option linter.unusedSimpArgs false
set_option linter.unusedVariables false
namespace Go.Proofs.Ytpobjhmbonojkaa
open Go.Sep Go.Sep.Ring Go.Sep.Pool Go.Sep.Sip Go.Sep.Nic

theorem cards_finish (B : World) (h : Own) (q : Nat) (N F : Int) (nn : Nat) {Ai Ac Ag As : Option Addr} {ci cc cg cs : Nat} (wi wc wg ws : Own) (ins sps : List Int) (cm gm : List Fr) (hi : Row 3 1 (.slice Ai nn ci) nn ((ins).map Pool.I64) wi) (hc : Row 27 1 (.slice Ac nn cc) nn ((cm).map frsV) wc) (hg : Row 27 1 (.slice Ag nn cg) nn ((gm).map frsV) wg) (hs : Row 3 1 (.slice As nn cs) nn ((sps).map Pool.I64) ws) (k : Int) (hk : 0 ≤ k ∧ k < nn) (hsp : 0 ≤ lget sps k ∧ lget sps k ≤ 64) (hgl : (lget gm k).l.length ≤ 64) (D : Own) (hD : ∀ x ∈ D, x ∈ h) (L G : List (List Int)) (hfc : FC B D (lget gm k) G) (n : Int) : Tri Try.prog B 22 [.pointer (some ⟨q, 0, none⟩), .int .i64 k, .int .i64 n] ((q, Blk.cells [.int .i64 N, .int .i64 F, .slice Ai nn ci, .slice Ac nn cc, .slice Ag nn cg, .slice As nn cs] 51 (0, 0)) :: (wi ++ (wc ++ (wg ++ (ws ++ h))))) fun v h' => ∃ (zs : List (InS Int)) (Ao : Option Addr) (co : Nat) (po wg' ws' : Own) (x : Fr), v = .slice Ao zs.length co ∧ FR 28 B D zs Ao co po (finishA ⟨lget ins k, L, G, lget sps k⟩ n).2 ∧ h' = ((q, Blk.cells [.int .i64 N, .int .i64 F, .slice Ai nn ci, .slice Ac nn cc, .slice Ag nn cg, .slice As nn cs] 51 (0, 0)) :: (wi ++ (wc ++ (wg' ++ (ws' ++ (po ++ h)))))) ∧ Row 27 1 (.slice Ag nn cg) nn ((lset gm k x).map frsV) wg' ∧ Row 3 1 (.slice As nn cs) nn ((lset sps k (finishA ⟨lget ins k, L, G, lget sps k⟩ n).1.spent).map Pool.I64) ws' ∧ FC B D x (finishA ⟨lget ins k, L, G, lget sps k⟩ n).1.goes := by
  have hsl : sps.length = nn := by have := hs.len; simpa using this
  have hgml : gm.length = nn := by have := hg.len; simpa using this
  have hgG := hfc.len
  refine Tri.enter (n := 65) Try.func22 rfl rfl rfl ?_
  simp only [argsE, Nat.reduceAdd]
  try dsimp only [argsE]
  refine AK.seq ?_
  refine AK.region ?_
  refine AO.val (RV.assign rfl) (.none rfl) rfl ?_
  refine AO.nil ?_
  refine AK.seq ?_
  refine AK.region ?_
  refine AO.eff (EF.buildSeq [] rfl rfl rfl rfl) (.none rfl) rfl ?_
  rintro _ _ ⟨b8, hf8, rfl, rfl⟩
  refine AO.val (RV.assign rfl) (.none rfl) rfl ?_
  refine AO.nil ?_
  refine AK.seq ?_
  refine AK.block ?_
  refine AK.perm (fin_permQ ..) ?_
  refine AK.loop (α := List (InS Int) × Option Addr × Nat × Own × Own × Own × Fr) (E := fun (zs, Ao, co, po, wg1, ws1, x) => [(0, .pointer (some ⟨q, 0, none⟩)), (1, .int .i64 k), (2, .int .i64 n), (7, .slice Ao zs.length co)]) (H := fun (zs, Ao, co, po, wg1, ws1, x) => ((q, Blk.cells [.int .i64 N, .int .i64 F, .slice Ai nn ci, .slice Ac nn cc, .slice Ag nn cg, .slice As nn cs] 51 (0, 0)) :: (wi ++ (wc ++ (wg1 ++ (ws1 ++ (po ++ h))))))) (Inv := fun (zs, Ao, co, po, wg1, ws1, x) => FR 28 B D zs Ao co po (zs.map (·.l)) ∧ zs.map (·.l) ++ x.l.map (·.l) = G ∧ FC B D x (x.l.map (·.l)) ∧ Row 27 1 (.slice Ag nn cg) nn (((lset gm k x)).map frsV) wg1 ∧ Row 3 1 (.slice As nn cs) nn (((lset sps k (lget sps k + zs.length))).map Pool.I64) ws1 ∧ (zs.length : Int) ≤ max n 0) (μ := fun (zs, Ao, co, po, wg1, ws1, x) => x.l.length) ([], some ⟨b8, 0, none⟩, 0, [(b8, Blk.cells [] 28 (0, 0))], wg, ws, lget gm k) ?_ (.cons (by exact rfl) (.cons (by exact rfl) (.cons (by exact rfl) (.cons (by exact rfl) .nil)))) ?_ ?_
  · refine ⟨⟨Row.new (cs := []) rfl, Nat.le_refl 0, by simp, rfl⟩, hfc.eq, ⟨hfc.src, hfc.cap, hfc.each, rfl⟩, by rw [lset_lget ⟨hk.1, by omega⟩]; exact hg, ?_, by simp; omega⟩
    rw [show lset sps k (lget sps k + (([] : List (InS Int)).length : Int)) = sps by simp only [List.length_nil, Int.ofNat_zero, Int.natCast_zero, Int.add_zero]; exact lset_lget ⟨hk.1, by omega⟩]; exact hs
  · exact (by first | exact SubO.sub | exact List.Sublist.refl _ | exact .cons _ (List.Sublist.refl _) | exact .cons _ (.cons _ (List.Sublist.refl _)) | exact .cons _ (.cons _ (.cons _ (List.Sublist.refl _))))
  rintro ⟨zs, Ao, co, po, wg1, ws1, x⟩ ⟨hzr, hzq, hfx, hw1, hsv, hzn⟩ hih0
  try dsimp only at hih0 ⊢
  have h1g : Src B wg1 Ag nn 1 ((lset gm k x).map frsV) := hw1.src fun x hx => hx
  have h1s : Src B ws1 As nn 1 ((lset sps k (lget sps k + zs.length)).map Pool.I64) := hsv.src fun x hx => hx
  have hgx : lget (lset gm k x) k = x := lget_own ⟨hk.1, by omega⟩ _
  have hgs : lget (lset sps k (lget sps k + zs.length)) k = lget sps k + zs.length := lget_own ⟨hk.1, by omega⟩ _
  have hl1 : (lset gm k x).length = nn := by rw [lset_len]; exact hgml
  have hl2 : (lset sps k (lget sps k + zs.length)).length = nn := by rw [lset_len]; exact hsl
  have hzl : zs.length + x.l.length = G.length := by have := congrArg List.length hzq; simpa using this
  refine AK.seq ?_
  refine AK.seq ?_
  refine AK.region ?_
  refine AO.val (RV.move rfl) (.none rfl) rfl ?_
  refine AO.val (RV.lenS rfl) (.none rfl) rfl ?_
  refine AO.val (RV.move rfl) (.none rfl) rfl ?_
  refine AO.val (RV.lss rfl rfl) (.none rfl) rfl ?_
  refine AO.val (RV.move rfl) (.none rfl) rfl ?_
  refine AO.caseG rfl rfl rfl ?_ ?_
  · intro hg1
    try simp only [decide_eq_true_eq, decide_eq_false_iff_not, Bool.not_eq_true', Bool.not_eq_false', beq_iff_eq] at hg1
    refine AO.val (RV.move rfl) (.some rfl rfl rfl rfl) rfl ?_
    refine AO.val (RV.nilCheck rfl) (.some rfl rfl rfl rfl) rfl ?_
    refine AO.val (RV.fieldAddr rfl) (.some rfl rfl rfl rfl) rfl ?_
    refine AO.val (by first | exact RV.loadO rfl rfl (by first | simp | assumption) | exact RV.loadF rfl (fun _ => rfl) (by omega) rfl rfl (by first | simp | assumption) | exact RV.loadF0 rfl (fun _ => rfl) (by omega) rfl rfl (by first | simp | assumption) | exact RV.loadS rfl (by assumption) (by omega) (by first | simp | assumption)) (.some rfl rfl rfl rfl) rfl ?_
    refine AO.val (RV.move rfl) (.some rfl rfl rfl rfl) rfl ?_
    refine AO.val (RV.indexS rfl rfl h1g (by omega) rfl) (.some rfl rfl rfl rfl) rfl ?_
    refine AO.val ((RV.loadS (enc := frsV) (l := (lset gm k x)) rfl h1g (by omega) (by simp)).to (v' := frsV x) (by rw [hgx])) (.some rfl rfl rfl rfl) rfl ?_
    refine AO.val (RV.lenS rfl) (.some rfl rfl rfl rfl) rfl ?_
    refine AO.val (RV.gtr rfl rfl) (.some rfl rfl rfl rfl) rfl ?_
    refine AO.val (RV.pickT rfl rfl) (.none rfl) rfl ?_
    refine AO.nil ?_
    refine AK.cond rfl ?_ ?_
    · intro hc2
      try simp only [decide_eq_true_eq, decide_eq_false_iff_not, Bool.not_eq_true', Bool.not_eq_false', beq_iff_eq] at hc2
      obtain ⟨y, r, hZ⟩ := hfx.ne (by omega)
      obtain ⟨L2, hL2, hys, hfc2⟩ := hfx.cut hZ
      have hlr : x.l.length = r.length + 1 := by rw [hZ]; rfl
      refine AK.skip ?_
      refine AK.block ?_
      refine AK.seq ?_
      refine AK.region ?_
      refine AO.val (RV.move rfl) (.none rfl) rfl ?_
      refine AO.val (RV.move rfl) (.none rfl) rfl ?_
      refine AO.val (RV.nilCheck rfl) (.none rfl) rfl ?_
      refine AO.val (RV.fieldAddr rfl) (.none rfl) rfl ?_
      refine AO.val (by first | exact RV.loadO rfl rfl (by first | simp | assumption) | exact RV.loadF rfl (fun _ => rfl) (by omega) rfl rfl (by first | simp | assumption) | exact RV.loadF0 rfl (fun _ => rfl) (by omega) rfl rfl (by first | simp | assumption) | exact RV.loadS rfl (by assumption) (by omega) (by first | simp | assumption)) (.none rfl) rfl ?_
      refine AO.val (RV.move rfl) (.none rfl) rfl ?_
      refine AO.val (RV.indexS rfl rfl h1g (by omega) rfl) (.none rfl) rfl ?_
      refine AO.val ((RV.loadS (enc := frsV) (l := (lset gm k x)) rfl h1g (by omega) (by simp)).to (v' := frsV x) (by rw [hgx])) (.none rfl) rfl ?_
      refine AO.val (RV.indexS rfl rfl (hfx.src.mono hD) (by omega) rfl) (.none rfl) rfl ?_
      refine AO.val ((RV.loadS (enc := frV) (l := x.l) rfl (hfx.src.mono hD) (by omega) (by simp)).to (v' := frV y) (by rw [hZ]; rfl)) (.none rfl) rfl ?_
      refine AO.eff (EF.buildSeq [frV y] rfl rfl rfl rfl) (.none rfl) rfl ?_
      rintro _ _ ⟨b34, hf34, rfl, rfl⟩
      refine AO.eff (EF.appendS (n' := (zs ++ [y]).length) (ys := (zs ++ [y]).map frV) rfl rfl hzr.row (Src.of_new (el := 28) (cs := [frV y]) (by simp) 1 1 (Nat.le_refl _)) (by simp) (by simp) rfl (by decide) rfl (by omega) (by omega)) (.none rfl) rfl ?_
      rintro _ _ ⟨A35, c35, p35, rfl, hr35, hc35, rfl⟩
      refine AO.val (RV.assign rfl) (.none rfl) rfl ?_
      refine AO.nil ?_
      refine AK.seq ?_
      refine AK.draw [] [14] mixed ?_
      refine AD.takeP 0 rfl (by kernel_rfl) (RV.move rfl) (.none rfl) rfl ?_
      refine AD.takeP 1 rfl (by kernel_rfl) (RV.nilCheck rfl) (.none rfl) rfl ?_
      refine AD.takeP 2 rfl (by kernel_rfl) (RV.fieldAddr rfl) (.none rfl) rfl ?_
      refine AD.take 3 rfl (by kernel_rfl) (by first | exact RV.loadO rfl rfl (by first | simp | assumption) | exact RV.loadF rfl (fun _ => rfl) (by omega) rfl rfl (by first | simp | assumption) | exact RV.loadF0 rfl (fun _ => rfl) (by omega) rfl rfl (by first | simp | assumption) | exact RV.loadS rfl (by assumption) (by omega) (by first | simp | assumption)) (.none rfl) rfl ?_
      refine AD.takeP 4 rfl (by kernel_rfl) (RV.move rfl) (.none rfl) rfl ?_
      refine AD.takeP 5 rfl (by kernel_rfl) (RV.move rfl) (.none rfl) rfl ?_
      refine AD.takeP 6 rfl (by kernel_rfl) (RV.nilCheck rfl) (.none rfl) rfl ?_
      refine AD.takeP 7 rfl (by kernel_rfl) (RV.fieldAddr rfl) (.none rfl) rfl ?_
      refine AD.take 8 rfl (by kernel_rfl) (by first | exact RV.loadO rfl rfl (by first | simp | assumption) | exact RV.loadF rfl (fun _ => rfl) (by omega) rfl rfl (by first | simp | assumption) | exact RV.loadF0 rfl (fun _ => rfl) (by omega) rfl rfl (by first | simp | assumption) | exact RV.loadS rfl (by assumption) (by omega) (by first | simp | assumption)) (.none rfl) rfl ?_
      refine AD.takeP 9 rfl (by kernel_rfl) (RV.move rfl) (.none rfl) rfl ?_
      refine AD.takeP 10 rfl (by kernel_rfl) (RV.indexS rfl rfl h1g (by omega) rfl) (.none rfl) rfl ?_
      refine AD.take 11 rfl (by kernel_rfl) ((RV.loadS (enc := frsV) (l := (lset gm k x)) rfl h1g (by omega) (by simp)).to (v' := frsV x) (by rw [hgx])) (.none rfl) rfl ?_
      refine AD.takeP 12 rfl (by kernel_rfl) ((RV.sliceL rfl rfl (by rw [hZ]; simp; omega) (by have := hfx.cap; rw [hZ] at this; simp at this; omega)).to (v' := frsV (⟨if (x.cap : Int) = 1 then x.A else cutA x.A 1, x.cap - 1, r⟩ : Fr)) (by rw [hZ]; simp only [List.length_cons]; rw [show (((r.length + 1 : Nat) : Int) - 1).toNat = r.length by omega, show ((x.cap : Int) - 1).toNat = x.cap - 1 by omega]; rfl)) (.none rfl) rfl ?_
      refine AD.takeP 13 rfl (by kernel_rfl) (RV.indexS rfl rfl h1g (by omega) rfl) (.none rfl) rfl ?_
      refine AD.one 14 (by kernel_rfl) (AE.effN rfl (EF.storeR rfl rfl rfl rfl hw1 (by omega)) (.none rfl) ?_)
      rintro _ _ ⟨w2, hw2, rfl⟩
      refine ⟨.inl (by kernel_rfl), ?_⟩
      refine AD.done (by kernel_rfl) ?_
      refine AK.draw [] [14] mixed ?_
      refine AD.takeP 0 rfl (by kernel_rfl) (RV.move rfl) (.none rfl) rfl ?_
      refine AD.takeP 1 rfl (by kernel_rfl) (RV.nilCheck rfl) (.none rfl) rfl ?_
      refine AD.takeP 2 rfl (by kernel_rfl) (RV.fieldAddr rfl) (.none rfl) rfl ?_
      refine AD.take 3 rfl (by kernel_rfl) (by first | exact RV.loadO rfl rfl (by first | simp | assumption) | exact RV.loadF rfl (fun _ => rfl) (by omega) rfl rfl (by first | simp | assumption) | exact RV.loadF0 rfl (fun _ => rfl) (by omega) rfl rfl (by first | simp | assumption) | exact RV.loadS rfl (by assumption) (by omega) (by first | simp | assumption)) (.none rfl) rfl ?_
      refine AD.takeP 4 rfl (by kernel_rfl) (RV.move rfl) (.none rfl) rfl ?_
      refine AD.takeP 5 rfl (by kernel_rfl) (RV.move rfl) (.none rfl) rfl ?_
      refine AD.takeP 6 rfl (by kernel_rfl) (RV.nilCheck rfl) (.none rfl) rfl ?_
      refine AD.takeP 7 rfl (by kernel_rfl) (RV.fieldAddr rfl) (.none rfl) rfl ?_
      refine AD.take 8 rfl (by kernel_rfl) (by first | exact RV.loadO rfl rfl (by first | simp | assumption) | exact RV.loadF rfl (fun _ => rfl) (by omega) rfl rfl (by first | simp | assumption) | exact RV.loadF0 rfl (fun _ => rfl) (by omega) rfl rfl (by first | simp | assumption) | exact RV.loadS rfl (by assumption) (by omega) (by first | simp | assumption)) (.none rfl) rfl ?_
      refine AD.takeP 9 rfl (by kernel_rfl) (RV.move rfl) (.none rfl) rfl ?_
      refine AD.takeP 10 rfl (by kernel_rfl) (RV.indexS rfl rfl h1s (by omega) rfl) (.none rfl) rfl ?_
      refine AD.take 11 rfl (by kernel_rfl) ((RV.loadS (enc := Pool.I64) (l := (lset sps k (lget sps k + zs.length))) rfl h1s (by omega) (by simp)).to (v' := .int .i64 (lget sps k + zs.length)) (by rw [hgs])) (.none rfl) rfl ?_
      refine AD.takeP 12 rfl (by kernel_rfl) (by first | exact RV.addIn rfl rfl (by omega) | exact RV.add rfl rfl) (.none rfl) rfl ?_
      refine AD.takeP 13 rfl (by kernel_rfl) (RV.indexS rfl rfl h1s (by omega) rfl) (.none rfl) rfl ?_
      refine AD.one 14 (by kernel_rfl) (AE.effN rfl (EF.storeR rfl rfl rfl rfl hsv (by omega)) (.none rfl) ?_)
      rintro _ _ ⟨w3, hw3, rfl⟩
      refine ⟨.inl (by kernel_rfl), ?_⟩
      refine AD.done (by kernel_rfl) ?_
      refine AK.inBlock ?_
      -- round ends at L0tT
      refine AK.perm (cards_perm5 ..) ?_
      refine AK.weak (.cons (by exact rfl) (.cons (by exact rfl) (.cons (by exact rfl) (.cons (by exact rfl) .nil)))) (List.sublist_cons_self _ _) (hih0 (zs ++ [y], A35, c35, p35, w2, w3, (⟨if (x.cap : Int) = 1 then x.A else cutA x.A 1, x.cap - 1, r⟩ : Fr)) ?_ ?_)
      · try dsimp only
        have hF2 := hzr.push hys hr35 hc35
        refine ⟨by rw [List.map_append]; exact hF2, ?_, ⟨hfc2.src, hfc2.cap, hfc2.each, rfl⟩, ?_, ?_, by simp; omega⟩
        · rw [← hzq, hZ]; simp
        · have := set_map frsV (lset gm k x) k (⟨if (x.cap : Int) = 1 then x.A else cutA x.A 1, x.cap - 1, r⟩ : Fr)
          rw [lset_lset] at this; rw [this]; exact hw2
        · have := set_map Pool.I64 (lset sps k (lget sps k + zs.length)) k (lget sps k + zs.length + 1)
          rw [lset_lset] at this
          rw [show (lget sps k + ((zs ++ [y]).length : Int)) = lget sps k + zs.length + 1 by simp; omega, this]; exact hw3
      · try dsimp only
        rw [hlr]; exact Nat.lt_succ_self _
    · intro hc2
      try simp only [decide_eq_true_eq, decide_eq_false_iff_not, Bool.not_eq_true', Bool.not_eq_false', beq_iff_eq] at hc2
      refine AK.exit rfl ?_
      refine AK.seq ?_
      refine AK.region ?_
      refine AO.val (RV.move rfl) (.none rfl) rfl ?_
      refine AO.val (RV.assign rfl) (.none rfl) rfl ?_
      refine AO.nil ?_
      -- at L0tF
      clear hih0
      refine AK.ret (h' := ((q, Blk.cells [.int .i64 N, .int .i64 F, .slice Ai nn ci, .slice Ac nn cc, .slice Ag nn cg, .slice As nn cs] 51 (0, 0)) :: (wi ++ (wc ++ (wg1 ++ (ws1 ++ (po ++ h))))))) Try.func22 (.tmp rfl .nil) ?_ (by first | exact SubO.sub | exact List.Sublist.refl _ | exact .cons _ (List.Sublist.refl _) | exact .cons _ (.cons _ (List.Sublist.refl _)) | exact .cons _ (.cons _ (.cons _ (List.Sublist.refl _))))
      have e := fin_take hzq n (by simp only [List.length_map]; omega) (by first | (left; simp only [List.length_map]; omega) | (right; exact List.map_eq_nil_iff.2 (List.eq_nil_of_length_eq_zero (by omega))))
      simp only [finishA]
      rw [e.1, e.2, List.length_map]
      exact ⟨zs, Ao, co, po, wg1, ws1, x, rfl, hzr, rfl, hw1, hsv, hfx⟩
  · intro hg1
    try simp only [decide_eq_true_eq, decide_eq_false_iff_not, Bool.not_eq_true', Bool.not_eq_false', beq_iff_eq] at hg1
    refine AO.pass (.some rfl rfl rfl rfl) rfl ?_
    refine AO.pass (.some rfl rfl rfl rfl) rfl ?_
    refine AO.pass (.some rfl rfl rfl rfl) rfl ?_
    refine AO.pass (.some rfl rfl rfl rfl) rfl ?_
    refine AO.pass (.some rfl rfl rfl rfl) rfl ?_
    refine AO.pass (.some rfl rfl rfl rfl) rfl ?_
    refine AO.pass (.some rfl rfl rfl rfl) rfl ?_
    refine AO.pass (.some rfl rfl rfl rfl) rfl ?_
    refine AO.pass (.some rfl rfl rfl rfl) rfl ?_
    refine AO.val (RV.pickF rfl rfl) (.none rfl) rfl ?_
    refine AO.nil ?_
    refine AK.condF rfl ?_
    refine AK.exit rfl ?_
    refine AK.seq ?_
    refine AK.region ?_
    refine AO.val (RV.move rfl) (.none rfl) rfl ?_
    refine AO.val (RV.assign rfl) (.none rfl) rfl ?_
    refine AO.nil ?_
    -- at L0f
    clear hih0
    refine AK.ret (h' := ((q, Blk.cells [.int .i64 N, .int .i64 F, .slice Ai nn ci, .slice Ac nn cc, .slice Ag nn cg, .slice As nn cs] 51 (0, 0)) :: (wi ++ (wc ++ (wg1 ++ (ws1 ++ (po ++ h))))))) Try.func22 (.tmp rfl .nil) ?_ (by first | exact SubO.sub | exact List.Sublist.refl _ | exact .cons _ (List.Sublist.refl _) | exact .cons _ (.cons _ (List.Sublist.refl _)) | exact .cons _ (.cons _ (.cons _ (List.Sublist.refl _))))
    have e := fin_take hzq n (by simp only [List.length_map]; omega) (by first | (left; simp only [List.length_map]; omega) | (right; exact List.map_eq_nil_iff.2 (List.eq_nil_of_length_eq_zero (by omega))))
    simp only [finishA]
    rw [e.1, e.2, List.length_map]
    exact ⟨zs, Ao, co, po, wg1, ws1, x, rfl, hzr, rfl, hw1, hsv, hfx⟩

theorem cards_new (B : World) (h : Own) (n bufs : Int) : Tri Try.prog B 17 [.int .i64 2, .int .i64 n, .int .i64 bufs] h fun v h' => ∃ (b14 : Nat) (Ai Ac Ag As : Option Addr) (ci cc cg cs : Nat) (wi wc wg ws : Own), v = .pointer (some ⟨b14, 0, none⟩) ∧ h' = ((b14, Blk.cells [.int .i64 (min (max n 1) 64), .int .i64 (insN (min (max n 1) 64) (min (max bufs 0) 256) 2).2, .slice Ai 2 ci, .slice Ac 2 cc, .slice Ag 2 cg, .slice As 2 cs] 51 (0, 0)) :: (wi ++ (wc ++ (wg ++ (ws ++ h))))) ∧ 2 ≤ ci ∧ 2 ≤ cc ∧ 2 ≤ cg ∧ 2 ≤ cs ∧ Row 3 1 (.slice Ai 2 ci) 2 (((insN (min (max n 1) 64) (min (max bufs 0) 256) 2).1).map Pool.I64) wi ∧ Row 27 1 (.slice Ac 2 cc) 2 (((List.replicate 2 (⟨none, 0, []⟩ : Fr))).map frsV) wc ∧ Row 27 1 (.slice Ag 2 cg) 2 (((List.replicate 2 (⟨none, 0, []⟩ : Fr))).map frsV) wg ∧ Row 3 1 (.slice As 2 cs) 2 (((List.replicate 2 (0 : Int))).map Pool.I64) ws := by
  refine Tri.enter (n := 60) Try.func17 rfl rfl rfl ?_
  simp only [argsE, Nat.reduceAdd]
  try dsimp only [argsE]
  refine AK.seq ?_
  refine AK.region ?_
  refine AO.val (RV.assign rfl) (.none rfl) rfl ?_
  refine AO.nil ?_
  refine AK.seq ?_
  refine AK.region ?_
  refine AO.val (RV.move rfl) (.none rfl) rfl ?_
  refine AO.eff (EF.callF rfl (in_spec16 B _ n 1 64 (by decide))) (.none rfl) rfl ?_
  rintro _ _ ⟨rfl, rfl⟩
  refine AO.val (RV.move rfl) (.none rfl) rfl ?_
  refine AO.eff (EF.callF rfl (in_spec16 B _ bufs 0 256 (by decide))) (.none rfl) rfl ?_
  rintro _ _ ⟨rfl, rfl⟩
  refine AO.val (RV.build rfl (.cons rfl rfl rfl rfl (.cons rfl rfl rfl rfl .nil))) (.none rfl) rfl ?_
  refine AO.eff (EF.box rfl rfl) (.none rfl) rfl ?_
  rintro _ _ ⟨b14, hf14, rfl, rfl⟩
  refine AO.val (RV.assign rfl) (.none rfl) rfl ?_
  refine AO.nil ?_
  refine AK.seq ?_
  refine AK.seq ?_
  refine AK.region ?_
  refine AO.val (RV.assign rfl) (.none rfl) rfl ?_
  refine AO.nil ?_
  refine AK.block ?_
  refine AK.loop (α := Nat × Option Addr × Nat × Option Addr × Nat × Option Addr × Nat × Option Addr × Nat × Own × Own × Own × Own) (E := fun (kk, Ai, ci, Ac, cc, Ag, cg, As, cs, wi, wc, wg, ws) => [(0, .int .i64 2), (7, .pointer (some ⟨b14, 0, none⟩)), (8, .int .i64 (kk : Int))]) (H := fun (kk, Ai, ci, Ac, cc, Ag, cg, As, cs, wi, wc, wg, ws) => ((b14, Blk.cells [.int .i64 (min (max n 1) 64), .int .i64 (insN (min (max n 1) 64) (min (max bufs 0) 256) kk).2, .slice Ai kk ci, .slice Ac kk cc, .slice Ag kk cg, .slice As kk cs] 51 (0, 0)) :: (wi ++ (wc ++ (wg ++ (ws ++ h)))))) (Inv := fun (kk, Ai, ci, Ac, cc, Ag, cg, As, cs, wi, wc, wg, ws) => kk ≤ 2 ∧ kk ≤ ci ∧ kk ≤ cc ∧ kk ≤ cg ∧ kk ≤ cs ∧ Row 3 1 (.slice Ai kk ci) kk (((insN (min (max n 1) 64) (min (max bufs 0) 256) kk).1).map Pool.I64) wi ∧ Row 27 1 (.slice Ac kk cc) kk (((List.replicate kk (⟨none, 0, []⟩ : Fr))).map frsV) wc ∧ Row 27 1 (.slice Ag kk cg) kk (((List.replicate kk (⟨none, 0, []⟩ : Fr))).map frsV) wg ∧ Row 3 1 (.slice As kk cs) kk (((List.replicate kk (0 : Int))).map Pool.I64) ws) (μ := fun (kk, Ai, ci, Ac, cc, Ag, cg, As, cs, wi, wc, wg, ws) => 2 - kk) (0, none, 0, none, 0, none, 0, none, 0, [], [], [], []) ?_ (.cons (by exact rfl) (.cons (by exact rfl) (.cons (by exact rfl) .nil))) ?_ ?_
  · exact ⟨by omega, by omega, by omega, by omega, by omega, .nil, .nil, .nil, .nil⟩
  · exact (by first | exact SubO.sub | exact List.Sublist.refl _ | exact .cons _ (List.Sublist.refl _) | exact .cons _ (.cons _ (List.Sublist.refl _)) | exact .cons _ (.cons _ (.cons _ (List.Sublist.refl _))))
  rintro ⟨kk, Ai, ci, Ac, cc, Ag, cg, As, cs, wi, wc, wg, ws⟩ ⟨hkk, hci, hcc, hcg, hcs, hi, hc, hg, hs⟩ hih0
  try dsimp only at hih0 ⊢
  obtain ⟨hg1, hst⟩ := insN_step (N := (min (max n 1) 64)) (F := (min (max bufs 0) 256)) kk
  have hg2 := rep_step (⟨none, 0, []⟩ : Fr) kk
  have hnn := insN_nn (min (max n 1) 64) (min (max bufs 0) 256) (by omega) kk
  refine AK.seq ?_
  refine AK.seq ?_
  refine AK.region ?_
  refine AO.val (RV.move rfl) (.none rfl) rfl ?_
  refine AO.val (RV.move rfl) (.none rfl) rfl ?_
  refine AO.val (RV.lss rfl rfl) (.none rfl) rfl ?_
  refine AO.nil ?_
  refine AK.cond rfl ?_ ?_
  · intro hc1
    try simp only [decide_eq_true_eq, decide_eq_false_iff_not, Bool.not_eq_true', Bool.not_eq_false', beq_iff_eq] at hc1
    refine AK.skip ?_
    refine AK.seq ?_
    refine AK.block ?_
    refine AK.seq ?_
    refine AK.region ?_
    refine AO.val (RV.move rfl) (.none rfl) rfl ?_
    refine AO.val (RV.move rfl) (.none rfl) rfl ?_
    refine AO.val (RV.nilCheck rfl) (.none rfl) rfl ?_
    refine AO.val (RV.fieldAddr rfl) (.none rfl) rfl ?_
    refine AO.val (by first | exact RV.loadO rfl rfl (by first | simp | assumption) | exact RV.loadS rfl (by assumption) (by omega) (by first | simp | assumption)) (.none rfl) rfl ?_
    refine AO.eff (EF.buildSeq [(Value.int IntKind.i64 0)] rfl rfl rfl rfl) (.none rfl) rfl ?_
    rintro _ _ ⟨b25, hf25, rfl, rfl⟩
    refine AO.eff (EF.appendS (n' := kk + 1) (ys := ((insN (min (max n 1) 64) (min (max bufs 0) 256) kk).1 ++ [0]).map Pool.I64) rfl rfl hi (Src.of_new (el := 3) (cs := [.int .i64 0]) (by simp) 1 1 (Nat.le_refl _)) rfl (by simp) rfl (by decide) rfl (by omega) (by omega)) (.none rfl) rfl ?_
    rintro _ _ ⟨A26, c26, p26, rfl, hr26, hc26, rfl⟩
    refine AO.val (RV.nilCheck rfl) (.none rfl) rfl ?_
    refine AO.val (RV.fieldAddr rfl) (.none rfl) rfl ?_
    refine AO.effN (EF.storeO rfl rfl rfl rfl rfl rfl) (.none rfl) ?_
    rintro _ _ rfl
    refine AO.nil ?_
    refine AK.seq ?_
    refine AK.region ?_
    refine AO.val (RV.move rfl) (.none rfl) rfl ?_
    refine AO.val (RV.move rfl) (.none rfl) rfl ?_
    refine AO.val (RV.nilCheck rfl) (.none rfl) rfl ?_
    refine AO.val (RV.fieldAddr rfl) (.none rfl) rfl ?_
    refine AO.val (by first | exact RV.loadO rfl rfl (by first | simp | assumption) | exact RV.loadS rfl (by assumption) (by omega) (by first | simp | assumption)) (.none rfl) rfl ?_
    refine AO.eff (EF.buildSeq [(Value.slice none 0 0)] rfl rfl rfl rfl) (.none rfl) rfl ?_
    rintro _ _ ⟨b34, hf34, rfl, rfl⟩
    refine AO.eff (EF.appendS (n' := kk + 1) (ys := ((List.replicate kk (⟨none, 0, []⟩ : Fr)) ++ [(⟨none, 0, []⟩ : Fr)]).map frsV) rfl rfl hc (Src.of_new (el := 27) (cs := [.slice none 0 0]) (by simp) 1 1 (Nat.le_refl _)) rfl (by simp) rfl (by decide) rfl (by omega) (by omega)) (.none rfl) rfl ?_
    rintro _ _ ⟨A35, c35, p35, rfl, hr35, hc35, rfl⟩
    refine AO.val (RV.nilCheck rfl) (.none rfl) rfl ?_
    refine AO.val (RV.fieldAddr rfl) (.none rfl) rfl ?_
    refine AO.effN (EF.storeO rfl rfl rfl rfl rfl rfl) (.none rfl) ?_
    rintro _ _ rfl
    refine AO.nil ?_
    refine AK.seq ?_
    refine AK.region ?_
    refine AO.val (RV.move rfl) (.none rfl) rfl ?_
    refine AO.val (RV.move rfl) (.none rfl) rfl ?_
    refine AO.val (RV.nilCheck rfl) (.none rfl) rfl ?_
    refine AO.val (RV.fieldAddr rfl) (.none rfl) rfl ?_
    refine AO.val (by first | exact RV.loadO rfl rfl (by first | simp | assumption) | exact RV.loadS rfl (by assumption) (by omega) (by first | simp | assumption)) (.none rfl) rfl ?_
    refine AO.eff (EF.buildSeq [(Value.slice none 0 0)] rfl rfl rfl rfl) (.none rfl) rfl ?_
    rintro _ _ ⟨b43, hf43, rfl, rfl⟩
    refine AO.eff (EF.appendS (n' := kk + 1) (ys := ((List.replicate kk (⟨none, 0, []⟩ : Fr)) ++ [(⟨none, 0, []⟩ : Fr)]).map frsV) rfl rfl hg (Src.of_new (el := 27) (cs := [.slice none 0 0]) (by simp) 1 1 (Nat.le_refl _)) rfl (by simp) rfl (by decide) rfl (by omega) (by omega)) (.none rfl) rfl ?_
    rintro _ _ ⟨A44, c44, p44, rfl, hr44, hc44, rfl⟩
    refine AO.val (RV.nilCheck rfl) (.none rfl) rfl ?_
    refine AO.val (RV.fieldAddr rfl) (.none rfl) rfl ?_
    refine AO.effN (EF.storeO rfl rfl rfl rfl rfl rfl) (.none rfl) ?_
    rintro _ _ rfl
    refine AO.nil ?_
    refine AK.seq ?_
    refine AK.region ?_
    refine AO.val (RV.move rfl) (.none rfl) rfl ?_
    refine AO.val (RV.move rfl) (.none rfl) rfl ?_
    refine AO.val (RV.nilCheck rfl) (.none rfl) rfl ?_
    refine AO.val (RV.fieldAddr rfl) (.none rfl) rfl ?_
    refine AO.val (by first | exact RV.loadO rfl rfl (by first | simp | assumption) | exact RV.loadS rfl (by assumption) (by omega) (by first | simp | assumption)) (.none rfl) rfl ?_
    refine AO.eff (EF.buildSeq [(Value.int IntKind.i64 0)] rfl rfl rfl rfl) (.none rfl) rfl ?_
    rintro _ _ ⟨b52, hf52, rfl, rfl⟩
    refine AO.eff (EF.appendS (n' := kk + 1) (ys := ((List.replicate kk (0 : Int)) ++ [0]).map Pool.I64) rfl rfl hs (Src.of_new (el := 3) (cs := [.int .i64 0]) (by simp) 1 1 (Nat.le_refl _)) rfl (by simp) rfl (by decide) rfl (by omega) (by omega)) (.none rfl) rfl ?_
    rintro _ _ ⟨A53, c53, p53, rfl, hr53, hc53, rfl⟩
    refine AO.val (RV.nilCheck rfl) (.none rfl) rfl ?_
    refine AO.val (RV.fieldAddr rfl) (.none rfl) rfl ?_
    refine AO.effN (EF.storeO rfl rfl rfl rfl rfl rfl) (.none rfl) ?_
    rintro _ _ rfl
    refine AO.nil ?_
    refine AK.region ?_
    refine AO.val (RV.move rfl) (.none rfl) rfl ?_
    refine AO.val (RV.move rfl) (.none rfl) rfl ?_
    refine AO.eff (EF.callF rfl (Tri.perm (new_permQ ..) (cards_fill B _ b14 (min (max n 1) 64) (insN (min (max n 1) 64) (min (max bufs 0) 256) kk).2 (kk + 1) p26 p35 p44 p53 ((insN (min (max n 1) 64) (min (max bufs 0) 256) kk).1 ++ [0]) ((List.replicate kk (0 : Int)) ++ [0]) ((List.replicate kk (⟨none, 0, []⟩ : Fr)) ++ [(⟨none, 0, []⟩ : Fr)]) ((List.replicate kk (⟨none, 0, []⟩ : Fr)) ++ [(⟨none, 0, []⟩ : Fr)]) hr26 hr35 hr44 hr53 (by omega) (by omega) kk (by omega) (by rw [hg1]; omega) (by rw [hg2]; exact Nat.zero_le _) (by rw [hg1, hg2]; simp only [List.length_nil]; omega)))) (.none rfl) rfl ?_
    rintro _ _ ⟨w1, rfl, hw1⟩
    refine AO.nil ?_
    refine AK.inBlock ?_
    refine AK.region ?_
    refine AO.val (RV.move rfl) (.none rfl) rfl ?_
    refine AO.val (by first | exact RV.addIn rfl rfl (by omega) | exact RV.add rfl rfl) (.none rfl) rfl ?_
    refine AO.val (RV.assign rfl) (.none rfl) rfl ?_
    refine AO.nil ?_
    -- round ends at L0T
    refine AK.perm (new_permR ..) ?_
    rw [hst, hg1, hg2] at hw1
    rw [hg1, hg2]
    rw [show (min (max n 1) 64) - 0 - (([] : List (InS Int)).length : Int) = (min (max n 1) 64) by simp] at hw1 ⊢
    rw [Int.zero_add] at hw1
    refine AK.weak (.cons (by exact rfl) (.cons (by exact rfl) (.cons (by exact rfl) .nil))) (by (try dsimp only); exact .cons _ (.cons _ (.cons _ (List.sublist_cons_self _ _)))) (hih0 (kk + 1, A26, c26, A35, c35, A44, c44, A53, c53, w1, p35, p44, p53) ?_ ?_)
    · try dsimp only
      refine ⟨by omega, hc26, hc35, hc44, hc53, hw1, ?_, ?_, ?_⟩
      · rw [← rep_succ]; exact hr35
      · rw [← rep_succ]; exact hr44
      · rw [← rep_succ]; exact hr53
    · try dsimp only
      omega
  · intro hc1
    try simp only [decide_eq_true_eq, decide_eq_false_iff_not, Bool.not_eq_true', Bool.not_eq_false', beq_iff_eq] at hc1
    refine AK.exit rfl ?_
    refine AK.seq ?_
    refine AK.region ?_
    refine AO.val (RV.move rfl) (.none rfl) rfl ?_
    refine AO.val (RV.assign rfl) (.none rfl) rfl ?_
    refine AO.nil ?_
    -- at L0F
    clear hih0
    have hk2 : kk = 2 := by omega
    subst hk2
    refine AK.ret (h' := ((b14, Blk.cells [.int .i64 (min (max n 1) 64), .int .i64 (insN (min (max n 1) 64) (min (max bufs 0) 256) 2).2, .slice Ai 2 ci, .slice Ac 2 cc, .slice Ag 2 cg, .slice As 2 cs] 51 (0, 0)) :: (wi ++ (wc ++ (wg ++ (ws ++ h)))))) Try.func17 (.tmp rfl .nil) ?_ (by first | exact SubO.sub | exact List.Sublist.refl _ | exact .cons _ (List.Sublist.refl _) | exact .cons _ (.cons _ (List.Sublist.refl _)) | exact .cons _ (.cons _ (.cons _ (List.Sublist.refl _))))
    exact ⟨b14, Ai, Ac, Ag, As, ci, cc, cg, cs, wi, wc, wg, ws, rfl, rfl, hci, hcc, hcg, hcs, hi, hc, hg, hs⟩

theorem rows_same (B : World) (h : Own) (z1 z2 : List (InS Int)) {A1 A2 : Option Addr} {c1 c2 : Nat} (h1 : Src B h A1 z1.length 1 (z1.map frV)) (h2 : Src B h A2 z2.length 1 (z2.map frV)) (e1 : ∀ z ∈ z1, Src B h z.A z.l.length 1 (z.l.map (fun x => Value.int .u8 x)) ∧ z.l.length ≤ 1514) (e2 : ∀ z ∈ z2, Src B h z.A z.l.length 1 (z.l.map (fun x => Value.int .u8 x))) (he : z1.map (·.l) = z2.map (·.l)) (hz : z1.length ≤ 1000000) : Tri Try.prog B 21 [.slice A1 z1.length c1, .slice A2 z2.length c2] h fun v h' => h = h' ∧ v = .bool true := by
  have hl : z1.length = z2.length := by have := congrArg List.length he; simpa using this
  refine Tri.enter (n := 27) Try.func21 rfl rfl rfl ?_
  simp only [argsE, Nat.reduceAdd]
  try dsimp only [argsE]
  refine AK.seq ?_
  refine AK.region ?_
  refine AO.val (RV.assign rfl) (.none rfl) rfl ?_
  refine AO.nil ?_
  refine AK.seq ?_
  refine AK.seq ?_
  refine AK.region ?_
  refine AO.val (RV.move rfl) (.none rfl) rfl ?_
  refine AO.val (RV.lenS rfl) (.none rfl) rfl ?_
  refine AO.val (RV.move rfl) (.none rfl) rfl ?_
  refine AO.val (RV.lenS rfl) (.none rfl) rfl ?_
  refine AO.val ((RV.neq rfl rfl).to (v' := .bool false) (by simp; omega)) (.none rfl) rfl ?_
  refine AO.nil ?_
  refine AK.condF rfl ?_
  refine AK.skip ?_
  refine AK.seq ?_
  refine AK.seq ?_
  refine AK.region ?_
  refine AO.val (RV.assign rfl) (.none rfl) rfl ?_
  refine AO.nil ?_
  refine AK.block ?_
  refine AK.loop (α := Int) (E := fun j => [(0, .slice A1 z1.length c1), (1, .slice A2 z2.length c2), (5, .int .i64 j)]) (H := fun j => h) (Inv := fun j => 0 ≤ j ∧ j ≤ z1.length) (μ := fun j => (z1.length - j).toNat) 0 ?_ (.cons (by exact rfl) (.cons (by exact rfl) (.cons (by exact rfl) .nil))) ?_ ?_
  · exact ⟨by omega, by omega⟩
  · exact (by first | exact SubO.sub | exact List.Sublist.refl _ | exact .cons _ (List.Sublist.refl _) | exact .cons _ (.cons _ (List.Sublist.refl _)) | exact .cons _ (.cons _ (.cons _ (List.Sublist.refl _))))
  rintro j ⟨hj0, hj1⟩ hih0
  try dsimp only at hih0 ⊢
  refine AK.seq ?_
  refine AK.seq ?_
  refine AK.region ?_
  refine AO.val (RV.move rfl) (.none rfl) rfl ?_
  refine AO.val (RV.move rfl) (.none rfl) rfl ?_
  refine AO.val (RV.lenS rfl) (.none rfl) rfl ?_
  refine AO.val (RV.lss rfl rfl) (.none rfl) rfl ?_
  refine AO.nil ?_
  refine AK.cond rfl ?_ ?_
  · intro hc1
    try simp only [decide_eq_true_eq, decide_eq_false_iff_not, Bool.not_eq_true', Bool.not_eq_false', beq_iff_eq] at hc1
    refine AK.skip ?_
    refine AK.seq ?_
    refine AK.block ?_
    refine AK.seq ?_
    refine AK.draw [] [8] mixed ?_
    refine AD.takeP 0 rfl (by kernel_rfl) (RV.move rfl) (.none rfl) rfl ?_
    refine AD.takeP 1 rfl (by kernel_rfl) (RV.move rfl) (.none rfl) rfl ?_
    refine AD.takeP 2 rfl (by kernel_rfl) (RV.indexS rfl rfl h1 (by omega) rfl) (.none rfl) rfl ?_
    refine AD.take 3 rfl (by kernel_rfl) (RV.loadS (enc := frV) (l := z1) rfl h1 (by omega) (by simp)) (.none rfl) rfl ?_
    refine AD.takeP 4 rfl (by kernel_rfl) (RV.move rfl) (.none rfl) rfl ?_
    refine AD.takeP 5 rfl (by kernel_rfl) (RV.move rfl) (.none rfl) rfl ?_
    refine AD.takeP 6 rfl (by kernel_rfl) (RV.indexS rfl rfl h2 (by omega) rfl) (.none rfl) rfl ?_
    refine AD.take 7 rfl (by kernel_rfl) (RV.loadS (enc := frV) (l := z2) rfl h2 (by omega) (by simp)) (.none rfl) rfl ?_
    refine AD.one 8 (by kernel_rfl) (AE.eff rfl (EF.callF rfl (same_spec (cap := (lget z1 j).cap) (cap2 := (lget z2 j).cap) B _ (lget z1 j).l (lget z2 j).l (e1 _ (lget_in ⟨by omega, by omega⟩)).1 (e2 _ (lget_in ⟨by omega, by omega⟩)) (by have := (e1 _ (lget_in (l := z1) (i := j) ⟨by omega, by omega⟩)).2; omega))) (.none rfl) rfl ?_)
    rintro _ _ ⟨rfl, bS, rfl, hSm⟩
    have hSm2 := hSm.2 (row_at he ⟨by omega, by omega⟩)
    subst hSm2
    refine ⟨.inl (by kernel_rfl), ?_⟩
    refine AD.takeP 9 rfl (by kernel_rfl) (RV.not rfl) (.none rfl) rfl ?_
    refine AD.done (by kernel_rfl) ?_
    refine AK.condF rfl ?_
    refine AK.skip ?_
    refine AK.inBlock ?_
    refine AK.region ?_
    refine AO.val (RV.move rfl) (.none rfl) rfl ?_
    refine AO.val (by first | exact RV.addIn rfl rfl (by omega) | exact RV.add rfl rfl) (.none rfl) rfl ?_
    refine AO.val (RV.assign rfl) (.none rfl) rfl ?_
    refine AO.nil ?_
    -- round ends at L0T
    refine AK.weak (.cons (by exact rfl) (.cons (by exact rfl) (.cons (by exact rfl) .nil))) (by first | exact SubO.sub | exact List.Sublist.refl _ | exact .cons _ (List.Sublist.refl _) | exact .cons _ (.cons _ (List.Sublist.refl _)) | exact .cons _ (.cons _ (.cons _ (List.Sublist.refl _)))) (hih0 (j + 1) ?_ ?_)
    · try dsimp only
      exact ⟨by omega, by omega⟩
    · try dsimp only
      (try simp only); omega
  · intro hc1
    try simp only [decide_eq_true_eq, decide_eq_false_iff_not, Bool.not_eq_true', Bool.not_eq_false', beq_iff_eq] at hc1
    refine AK.exit rfl ?_
    refine AK.seq ?_
    refine AK.region ?_
    refine AO.val (RV.assign rfl) (.none rfl) rfl ?_
    refine AO.nil ?_
    -- at L0F
    clear hih0
    refine AK.ret (h' := h) Try.func21 (.tmp rfl .nil) ?_ (by first | exact SubO.sub | exact List.Sublist.refl _ | exact .cons _ (List.Sublist.refl _) | exact .cons _ (.cons _ (List.Sublist.refl _)) | exact .cons _ (.cons _ (.cons _ (List.Sublist.refl _))))
    exact ⟨rfl, rfl⟩

end Go.Proofs.Ytpobjhmbonojkaa
