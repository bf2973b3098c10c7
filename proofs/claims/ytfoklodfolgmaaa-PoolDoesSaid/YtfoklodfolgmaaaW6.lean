/- Walks through the code: what each function that is named here gives back, from any memory that holds its arguments. Written by a program of the claim's author, out of the program's form in Lean. -/
import Derived.Test.YtfoklodfolgmaaaW5
import Derived.Test.YtfoklodfolgmaaaPlainQ24
set_option linter.unusedSimpArgs false
set_option linter.unusedVariables false
namespace Go.Proofs.Ytfoklodfolgmaaa
open Go.Sep Go.Sep.Pool Go.Sep.Sip Go.RowKit Go.WideShapes Go.ChangeShapes

theorem rnew2_spec (B : World) (h : Own) (n : Int) (L : Nat) (hL : (L : Int) = (min (max n 0) 256)) : Tri Try.prog B 12 [.int .i64 n] h fun v h' => ∃ q Ar cr Aw cw pr pw, v = .pointer (some ⟨q, 0, none⟩) ∧ h' = pw ++ ((q, Blk.cells [.int .i64 L, .slice Ar L cr, .slice Aw L cw] 40 (0, 0)) :: (pr ++ h)) ∧ Row 3 1 (.slice Ar L cr) L ((descK L L).map I64) pr ∧ Row 26 1 (.slice Aw L cw) L ((List.replicate L ((none, 0, 0) : Sl)).map slV) pw ∧ L ≤ cr ∧ L ≤ cw := by
  have e : (min (max n 0) 256).toNat = L := by omega
  have h1 := rnew_spec B h n
  rw [e, ← hL] at h1
  exact h1
theorem perm_n (pw pr : Own) (q a c d : Nat × Blk) : (pw ++ q :: (pr ++ [a, c, d])).Perm ([] ++ (a :: c :: d :: (pw ++ q :: pr))) := by
  refine perm_count fun y => ?_
  simp only [List.count_append, List.count_cons, List.count_nil]; omega

set_option maxHeartbeats 4000000 in
theorem does_law (B : World) (n look : Int) {A : Option Addr} {cap : Nat} (l : List Deed) (hcap : l.length ≤ cap) (hln : l.length ≤ 9223372036854775807) (hl : Src B [] A l.length 3 (flat encD l)) (hlB : ∀ x ∈ l, Src B [] x.2.2.1.A x.2.2.1.l.length 1 (x.2.2.1.l.map (fun x => Value.int .u8 x)) ∧ Bytes x.2.2.1.l ∧ x.2.2.1.l.length ≤ x.2.2.1.cap) : Tri Try.prog B 4 [.int .i64 n, .slice A l.length cap, .int .i64 look] [] fun v h' => v = .bool true := by
  have hLN : (((newP n).tk.length : Nat) : Int) = (min (max n 0) 256) := newP_N n
  refine Tri.enter (n := 123) Try.func4 rfl rfl rfl ?_
  simp only [argsE, Nat.reduceAdd]
  try dsimp only [argsE]
  refine AK.seq ?_
  refine AK.region ?_
  refine AO.val (RV.assign rfl) (.none rfl) rfl ?_
  refine AO.nil ?_
  refine AK.seq ?_
  refine AK.region ?_
  refine AO.val (RV.move rfl) (.none rfl) rfl ?_
  refine AO.eff (EF.callF rfl (new_spec B _ n)) (.none rfl) rfl ?_
  rintro _ _ ⟨p, qt, qb, rfl, rfl⟩
  refine AO.val (RV.move rfl) (.none rfl) rfl ?_
  refine AO.eff (EF.callF rfl (rnew2_spec B _ n (newP n).tk.length hLN)) (.none rfl) rfl ?_
  rintro _ _ ⟨q, Ar0, cr0, Aw0, cw0, pr0, pw0, rfl, rfl, hrr0, hrw0, hcr0, hcw0⟩
  refine AO.val (RV.assign rfl) (.none rfl) rfl ?_
  refine AO.val (RV.assign rfl) (.none rfl) rfl ?_
  refine AO.nil ?_
  refine AK.seq ?_
  refine AK.seq ?_
  refine AK.draw [] [] mixed ?_
  refine AD.takeP 0 rfl (by kernel_rfl) (RV.move rfl) (.none rfl) rfl ?_
  refine AD.takeP 1 rfl (by kernel_rfl) (RV.eqlP rfl rfl) (.none rfl) rfl ?_
  refine AD.takeP 2 rfl (by kernel_rfl) (RV.move rfl) (.none rfl) rfl ?_
  refine AD.takeP 3 rfl (by kernel_rfl) (RV.move rfl) (.some rfl rfl rfl rfl) rfl ?_
  refine AD.takeP 5 rfl (by kernel_rfl) (RV.move rfl) (.some rfl rfl rfl rfl) rfl ?_
  refine AD.takeP 6 rfl (by kernel_rfl) (RV.nilCheck rfl) (.some rfl rfl rfl rfl) rfl ?_
  refine AD.takeP 7 rfl (by kernel_rfl) (by first | exact RV.fieldAddr rfl | exact RV.fieldAddrA rfl) (.some rfl rfl rfl rfl) rfl ?_
  refine AD.take 8 rfl (by kernel_rfl) (by first | exact RV.loadO rfl rfl (by first | simp | assumption) | exact RV.loadSF rfl (by assumption) (fun _ => rfl) (by omega) rfl rfl (by first | simp | assumption) | exact RV.loadS rfl (by assumption) (by omega) (by first | simp | assumption)) (.some rfl rfl rfl rfl) rfl ?_
  refine AD.one 4 (by kernel_rfl) (AE.eff rfl (EF.callF rfl (Tri.perm (perm_n _ _ _ _ _ _) (size_spec (Ab := none) (cb := 0) B _ p qb qt [] (newP n).tk.length (newP n) (List.replicate (newP n).tk.length (none, 0, 0)) (pi_new n) rfl List.length_replicate .nil (Nat.le_refl 0)))) (.some rfl rfl rfl rfl) rfl ?_)
  rintro _ _ ⟨rfl, rfl⟩
  simp only [List.append_assoc, List.cons_append, List.nil_append]
  refine ⟨(by first | exact .inr fun x hx hM => hx | exact .inr fun x hx hM => List.Perm.mem_iff (perm_n _ _ _ _ _ _) |>.1 hx | exact .inr fun x hx hM => List.mem_append_right _ hx | exact .inr fun x hx hM => keep_three hx (by rw [hM10] at hM; exact hM) | exact .inr fun x hx hM => keep_three2 hx (by rw [hM10] at hM; exact hM)), ?_⟩
  refine AD.takeP 9 rfl (by kernel_rfl) ((RV.neq rfl rfl).to (v' := .bool false) (by simp)) (.some rfl rfl rfl rfl) rfl ?_
  refine AD.takeP 10 rfl (by kernel_rfl) (RV.pickF rfl rfl) (.none rfl) rfl ?_
  refine AD.done (by kernel_rfl) ?_
  refine AK.condF rfl ?_
  refine AK.skip ?_
  refine AK.seq ?_
  refine AK.seq ?_
  refine AK.region ?_
  refine AO.val (RV.assign rfl) (.none rfl) rfl ?_
  refine AO.nil ?_
  refine AK.block ?_
  have hrn : rdP (newP n) = descK ((newP n).tk.length : Nat) (newP n).tk.length := by rw [rd_new, ← hLN, Int.toNat_natCast]
  refine AK.loop (α := Int × PS × List Sl × List Sl × List (List Int) × Option Addr × Nat × Own × Option Addr × Nat × Option Addr × Nat × Own × Own) (E := fun (i, s, bs, b2, ct, Ab, cb, pb, Ar, cr, Aw, cw, pw, D) => [(1, .slice A l.length cap), (2, .int .i64 look), (7, .pointer (some ⟨p, 0, none⟩)), (8, .pointer (some ⟨q, 0, none⟩)), (9, .int .i64 i)]) (H := fun (i, s, bs, b2, ct, Ab, cb, pb, Ar, cr, Aw, cw, pw, D) => pb ++ ((p, Blk.cells [.slice (some ⟨qb, 0, none⟩) (newP n).tk.length (newP n).tk.length, .slice (some ⟨qt, 0, none⟩) (newP n).tk.length (newP n).tk.length, .slice Ab (s).back.length cb, .int .i64 (s).fresh] 48 (0, 0)) :: (qt, Blk.cells (flat encBo (s).tk) 4 (0, 0)) :: (qb, Blk.cells (flat encSl (bs)) 26 (0, 0)) :: (pw ++ ((q, Blk.cells [.int .i64 (newP n).tk.length, .slice Ar (rdP s).length cr, .slice Aw (newP n).tk.length cw] 40 (0, 0)) :: (D))))) (Inv := fun (i, s, bs, b2, ct, Ab, cb, pb, Ar, cr, Aw, cw, pw, D) => 0 ≤ i ∧ i ≤ l.length ∧ PI s ∧ (s.tk.length = (newP n).tk.length ∧ bs.length = (newP n).tk.length ∧ b2.length = (newP n).tk.length) ∧ Row 3 1 (.slice Ab (s).back.length cb) (s).back.length ((s).back.map I64) pb ∧ s.back.length ≤ cb ∧ Cont B D bs ct ∧ Src B D Ar (rdP s).length 1 ((rdP s).map I64) ∧ (rdP s).length ≤ cr ∧ Row 26 1 (.slice Aw (newP n).tk.length cw) (newP n).tk.length (b2.map slV) pw ∧ (newP n).tk.length ≤ cw ∧ Cont B D b2 ct ∧ Empty s ct) (μ := fun (i, s, bs, b2, ct, Ab, cb, pb, Ar, cr, Aw, cw, pw, D) => (l.length - i).toNat) (0, newP n, List.replicate (newP n).tk.length (none, 0, 0), List.replicate (newP n).tk.length (none, 0, 0), List.replicate (newP n).tk.length [], none, 0, [], Ar0, cr0, Aw0, cw0, pw0, pr0) ?_ (.cons (by exact rfl) (.cons (by exact rfl) (.cons (by exact rfl) (.cons (by exact rfl) (.cons (by exact rfl) .nil))))) ?_ ?_
  · refine ⟨by omega, by omega, pi_new n, ⟨rfl, List.length_replicate, List.length_replicate⟩, .nil, Nat.le_refl 0, (cont_new B _).mono (by intro x hx; cases hx), ?_, ?_, hrw0, hcw0, (cont_new B _).mono (by intro x hx; cases hx), empty_new n _⟩
    · rw [hrn, descK_len]; exact hrr0.src (fun x hx => hx)
    · rw [hrn, descK_len]; exact hcr0
  · (try dsimp only)
    rw [hrn, descK_len]
    exact List.Sublist.refl _
  rintro ⟨i, s, bs, b2, ct, Ab, cb, pb, Ar, cr, Aw, cw, pw, D⟩ ⟨hi0, hin, pi, ⟨hL, hbl, hb2⟩, hr, hcb, hct, hsr, hcr, hw, hcw, hco2, hem⟩ hih0
  try dsimp only at hih0 ⊢
  refine AK.seq ?_
  refine AK.seq ?_
  refine AK.region ?_
  refine AO.val (RV.move rfl) (.none rfl) rfl ?_
  refine AO.val (RV.move rfl) (.none rfl) rfl ?_
  refine AO.val (RV.lenS rfl) (.none rfl) rfl ?_
  refine AO.val (RV.lss rfl rfl) (.none rfl) rfl ?_
  refine AO.val (RV.move rfl) (.none rfl) rfl ?_
  refine AO.caseG rfl rfl rfl ?_ ?_
  · intro hg1
    try simp only [decide_eq_true_eq, decide_eq_false_iff_not, Bool.not_eq_true', Bool.not_eq_false', beq_iff_eq] at hg1
    refine AO.val (RV.move rfl) (.some rfl rfl rfl rfl) rfl ?_
    refine AO.val (RV.lss rfl rfl) (.some rfl rfl rfl rfl) rfl ?_
    refine AO.val (RV.pickT rfl rfl) (.none rfl) rfl ?_
    refine AO.nil ?_
    refine AK.cond rfl ?_ ?_
    · intro hc2
      try simp only [decide_eq_true_eq, decide_eq_false_iff_not, Bool.not_eq_true', Bool.not_eq_false', beq_iff_eq] at hc2
      have hN : s.N = (newP n).tk.length := by rw [← hL]; rfl
      have hn256 : (newP n).tk.length ≤ 256 := by have := pi.n; omega
      have hrl := rd_len pi
      have hfb : freeP s ≤ (newP n).tk.length := by have := back_len pi; have := pi.f; unfold freeP; omega
      have hrd : (rdP s).length ≤ 256 := by omega
      have hrin : ∀ j : Int, 0 ≤ j → j < (rdP s).length → 0 ≤ lget (rdP s) j ∧ lget (rdP s) j < (newP n).tk.length := fun j h0 h1 => by have := rd_in pi j h0 h1; omega
      have hctl : (ct.length : Int) = s.N := by rw [hct.len, hbl, hN]
      obtain ⟨hx1, hx2, hx3⟩ := hlB _ (lget_deed ⟨by omega, by omega⟩ : lget l i ∈ l)
      have hfs : Src B [] (lget l i).2.2.1.A ((lget l i).2.2.1.l.take (1600 : Int).toNat).length 1 (((lget l i).2.2.1.l.take (1600 : Int).toNat).map (fun x => Value.int .u8 x)) := by
        have := hx1.take (min 1600 (lget l i).2.2.1.l.length) (by omega)
        rw [Nat.mul_one, ← List.map_take] at this
        rw [List.length_take, show (1600 : Int).toNat = 1600 from rfl]
        have e : (lget l i).2.2.1.l.take 1600 = (lget l i).2.2.1.l.take (min 1600 (lget l i).2.2.1.l.length) := by rw [List.take_eq_take_min]
        rw [e]; exact this
      have hfb2 : Bytes ((lget l i).2.2.1.l.take (1600 : Int).toNat) := bytes_take hx2 _
      have hfl : ((lget l i).2.2.1.l.take (1600 : Int).toNat).length ≤ 1600 := by rw [List.length_take]; exact Nat.min_le_left _ _
      refine AK.skip ?_
      refine AK.seq ?_
      refine AK.block ?_
      refine AK.seq ?_
      refine AK.region ?_
      refine AO.val (RV.move rfl) (.none rfl) rfl ?_
      refine AO.val (RV.move rfl) (.none rfl) rfl ?_
      refine AO.val (by first | exact RV.indexS rfl rfl (by assumption) (by omega) rfl | exact RV.indexAddr rfl rfl (by omega)) (.none rfl) rfl ?_
      refine AO.val (RV.loadSA rfl hl (fun _ => rfl) (by omega) (by simp)) (.none rfl) rfl ?_
      refine AO.eff (EF.alloc) (.none rfl) rfl ?_
      rintro _ _ ⟨b10, hf10, rfl, rfl⟩
      refine AO.effN (EF.storeO rfl rfl rfl rfl rfl rfl) (.none rfl) ?_
      rintro _ _ rfl
      refine AO.nil ?_
      refine AK.seq ?_
      refine AK.seq ?_
      refine AK.region ?_
      refine AO.val (by first | exact RV.fieldAddr rfl | exact RV.fieldAddrA rfl) (.none rfl) rfl ?_
      refine AO.val (by first | exact RV.loadO rfl rfl (by first | simp | assumption) | exact RV.loadSF rfl (by assumption) (fun _ => rfl) (by omega) rfl rfl (by first | simp | assumption) | exact RV.loadS rfl (by assumption) (by omega) (by first | simp | assumption)) (.none rfl) rfl ?_
      refine AO.nil ?_
      refine AK.nodup fun hnd => ?_
      obtain ⟨M10, hM10, hb10⟩ : ∃ M, M = (pb ++ [(p, Blk.cells [.slice (some ⟨qb, 0, none⟩) (newP n).tk.length (newP n).tk.length, .slice (some ⟨qt, 0, none⟩) (newP n).tk.length (newP n).tk.length, .slice Ab (s).back.length cb, .int .i64 (s).fresh] 48 (0, 0)), (qt, Blk.cells (flat encBo (s).tk) 4 (0, 0)), (qb, Blk.cells (flat encSl (bs)) 26 (0, 0))]).map (·.1) ∧ b10 ∉ M := ⟨_, rfl, nd_sub hnd fun x hx => by (rcases List.mem_append.1 hx with h | h; exact List.mem_append_left _ h; exact List.mem_append_right _ (List.mem_append_left _ h : _ ∈ [_, _, _] ++ _))⟩
      refine AK.perm (perm_p1 _ _ _ _ _ _ _ _) ?_
      have hct := hct.mono (D' := ((b10, Blk.cells [.int .i64 ((lget l i)).1, .int .i64 ((lget l i)).2.1, .slice ((lget l i)).2.2.1.A ((lget l i)).2.2.1.l.length ((lget l i)).2.2.1.cap] 28 (0, 0)) :: D)) fun x hx => List.mem_cons_of_mem _ hx
      have hsr := hsr.mono (h' := ((b10, Blk.cells [.int .i64 ((lget l i)).1, .int .i64 ((lget l i)).2.1, .slice ((lget l i)).2.2.1.A ((lget l i)).2.2.1.l.length ((lget l i)).2.2.1.cap] 28 (0, 0)) :: D)) fun x hx => List.mem_cons_of_mem _ hx
      have hco2 := hco2.mono (D' := ((b10, Blk.cells [.int .i64 ((lget l i)).1, .int .i64 ((lget l i)).2.1, .slice ((lget l i)).2.2.1.A ((lget l i)).2.2.1.l.length ((lget l i)).2.2.1.cap] 28 (0, 0)) :: D)) fun x hx => List.mem_cons_of_mem _ hx
      refine AK.cut (α := PS × List Sl × List Sl × List (List Int) × Option Addr × Nat × Own × Option Addr × Nat × Option Addr × Nat × Own × Own) (E := fun (s, bs, b2, ct, Ab, cb, pb, Ar, cr, Aw, cw, pw, E1) => [(1, .slice A l.length cap), (2, .int .i64 look), (7, .pointer (some ⟨p, 0, none⟩)), (8, .pointer (some ⟨q, 0, none⟩)), (9, .int .i64 i), (10, .pointer (some ⟨b10, 0, none⟩))]) (H := fun (s, bs, b2, ct, Ab, cb, pb, Ar, cr, Aw, cw, pw, E1) => pb ++ ((p, Blk.cells [.slice (some ⟨qb, 0, none⟩) (newP n).tk.length (newP n).tk.length, .slice (some ⟨qt, 0, none⟩) (newP n).tk.length (newP n).tk.length, .slice Ab (s).back.length cb, .int .i64 (s).fresh] 48 (0, 0)) :: (qt, Blk.cells (flat encBo (s).tk) 4 (0, 0)) :: (qb, Blk.cells (flat encSl (bs)) 26 (0, 0)) :: (pw ++ ((q, Blk.cells [.int .i64 (newP n).tk.length, .slice Ar (rdP s).length cr, .slice Aw (newP n).tk.length cw] 40 (0, 0)) :: ((E1 ++ ((b10, Blk.cells [.int .i64 ((lget l i)).1, .int .i64 ((lget l i)).2.1, .slice ((lget l i)).2.2.1.A ((lget l i)).2.2.1.l.length ((lget l i)).2.2.1.cap] 28 (0, 0)) :: D))))))) (Inv := fun (s, bs, b2, ct, Ab, cb, pb, Ar, cr, Aw, cw, pw, E1) => PI s ∧ (s.tk.length = (newP n).tk.length ∧ bs.length = (newP n).tk.length ∧ b2.length = (newP n).tk.length) ∧ Row 3 1 (.slice Ab (s).back.length cb) (s).back.length ((s).back.map I64) pb ∧ s.back.length ≤ cb ∧ Cont B (E1 ++ ((b10, Blk.cells [.int .i64 ((lget l i)).1, .int .i64 ((lget l i)).2.1, .slice ((lget l i)).2.2.1.A ((lget l i)).2.2.1.l.length ((lget l i)).2.2.1.cap] 28 (0, 0)) :: D)) bs ct ∧ Src B (E1 ++ ((b10, Blk.cells [.int .i64 ((lget l i)).1, .int .i64 ((lget l i)).2.1, .slice ((lget l i)).2.2.1.A ((lget l i)).2.2.1.l.length ((lget l i)).2.2.1.cap] 28 (0, 0)) :: D)) Ar (rdP s).length 1 ((rdP s).map I64) ∧ (rdP s).length ≤ cr ∧ Row 26 1 (.slice Aw (newP n).tk.length cw) (newP n).tk.length (b2.map slV) pw ∧ (newP n).tk.length ≤ cw ∧ Cont B (E1 ++ ((b10, Blk.cells [.int .i64 ((lget l i)).1, .int .i64 ((lget l i)).2.1, .slice ((lget l i)).2.2.1.A ((lget l i)).2.2.1.l.length ((lget l i)).2.2.1.cap] 28 (0, 0)) :: D)) b2 ct ∧ Empty s ct) ?_ ?_
      · rintro ⟨s, bs, b2, ct, Ab, cb, pb, Ar, cr, Aw, cw, pw, E1⟩ ⟨pi, ⟨hL, hbl, hb2⟩, hr, hcb, hct, hsr, hcr, hw, hcw, hco2, hem⟩
        try dsimp only
        clear hN hn256 hrl hfb hrd hrin hctl
        have hN : s.N = (newP n).tk.length := by rw [← hL]; rfl
        have hn256 : (newP n).tk.length ≤ 256 := by have := pi.n; omega
        have hrl := rd_len pi
        have hfb : freeP s ≤ (newP n).tk.length := by have := back_len pi; have := pi.f; unfold freeP; omega
        have hrd : (rdP s).length ≤ 256 := by omega
        have hrin : ∀ j : Int, 0 ≤ j → j < (rdP s).length → 0 ≤ lget (rdP s) j ∧ lget (rdP s) j < (newP n).tk.length := fun j h0 h1 => by have := rd_in pi j h0 h1; omega
        have hctl : (ct.length : Int) = s.N := by rw [hct.len, hbl, hN]
        refine AK.seq ?_
        refine AK.draw [] [16, 17, 23, 26, 27] mixed ?_
        refine AD.takeP 0 rfl (by kernel_rfl) (RV.move rfl) (.none rfl) rfl ?_
        refine AD.takeP 2 rfl (by kernel_rfl) (RV.move rfl) (.none rfl) rfl ?_
        refine AD.takeP 3 rfl (by kernel_rfl) (RV.nilCheck rfl) (.none rfl) rfl ?_
        refine AD.takeP 4 rfl (by kernel_rfl) (by first | exact RV.fieldAddr rfl | exact RV.fieldAddrA rfl) (.none rfl) rfl ?_
        refine AD.take 5 rfl (by kernel_rfl) (by first | exact RV.loadO rfl rfl (by first | simp | assumption) | exact RV.loadSF rfl (by assumption) (fun _ => rfl) (by omega) rfl rfl (by first | simp | assumption) | exact RV.loadS rfl (by assumption) (by omega) (by first | simp | assumption)) (.none rfl) rfl ?_
        refine AD.takeP 6 rfl (by kernel_rfl) (RV.lenS rfl) (.none rfl) rfl ?_
        refine AD.one 1 (by kernel_rfl) (AE.eff rfl (EF.callF rfl (free_spec B _ p qb qt pb (newP n).tk.length s bs pi hL hbl hr hcb)) (.none rfl) rfl ?_)
        rintro _ _ ⟨rfl, rfl⟩
        refine ⟨(by first | exact .inr fun x hx hM => hx | exact .inr fun x hx hM => List.Perm.mem_iff (perm_n _ _ _ _ _ _) |>.1 hx | exact .inr fun x hx hM => List.mem_append_right _ hx | exact .inr fun x hx hM => keep_three hx (by rw [hM10] at hM; exact hM) | exact .inr fun x hx hM => keep_three2 hx (by rw [hM10] at hM; exact hM)), ?_⟩
        refine AD.takeP 7 rfl (by kernel_rfl) ((RV.neq rfl rfl).to (v' := .bool false) (by simp; omega)) (.none rfl) rfl ?_
        refine AD.takeP 8 rfl (by kernel_rfl) (RV.move rfl) (.none rfl) rfl ?_
        refine AD.takeP 9 rfl (by kernel_rfl) (RV.move rfl) (.some rfl rfl rfl rfl) rfl ?_
        refine AD.takeP 10 rfl (by kernel_rfl) (by first | exact RV.fieldAddr rfl | exact RV.fieldAddrA rfl) (.some rfl rfl rfl rfl) rfl ?_
        refine AD.take 11 rfl (by kernel_rfl) (by first | exact RV.loadO rfl rfl (by first | simp | assumption) | exact RV.loadSF rfl (by assumption) (fun _ => rfl) (by omega) rfl rfl (by first | simp | assumption) | exact RV.loadS rfl (by assumption) (by omega) (by first | simp | assumption)) (.some rfl rfl rfl rfl) rfl ?_
        refine AD.takeP 13 rfl (by kernel_rfl) (RV.move rfl) (.some rfl rfl rfl rfl) rfl ?_
        refine AD.takeP 14 rfl (by kernel_rfl) (by first | exact RV.fieldAddr rfl | exact RV.fieldAddrA rfl) (.some rfl rfl rfl rfl) rfl ?_
        refine AD.take 15 rfl (by kernel_rfl) (by first | exact RV.loadO rfl rfl (by first | simp | assumption) | exact RV.loadSF rfl (by assumption) (fun _ => rfl) (by omega) rfl rfl (by first | simp | assumption) | exact RV.loadS rfl (by assumption) (by omega) (by first | simp | assumption)) (.some rfl rfl rfl rfl) rfl ?_
        refine AD.one 12 (by kernel_rfl) (AE.eff rfl (EF.callF rfl (read_spec B _ p qb qt pb (newP n).tk.length s bs ct pi hL hbl hr hcb (E1 ++ ((b10, Blk.cells [.int .i64 ((lget l i)).1, .int .i64 ((lget l i)).2.1, .slice ((lget l i)).2.2.1.A ((lget l i)).2.2.1.l.length ((lget l i)).2.2.1.cap] 28 (0, 0)) :: D)) (by first | exact fun x hx => List.mem_append_right _ (List.mem_cons_of_mem _ hx) | exact fun x hx => List.mem_append_right _ (List.mem_append_right _ (List.mem_cons_of_mem _ hx))) hct (lget l i).2.1)) (.some rfl rfl rfl rfl) rfl ?_)
        rintro _ _ ⟨Ad, cd, pd, rfl, hcd, hrdd, rfl⟩
        refine ⟨(by first | exact .inr fun x hx hM => hx | exact .inr fun x hx hM => List.Perm.mem_iff (perm_n _ _ _ _ _ _) |>.1 hx | exact .inr fun x hx hM => List.mem_append_right _ hx | exact .inr fun x hx hM => keep_three hx (by rw [hM10] at hM; exact hM) | exact .inr fun x hx hM => keep_three2 hx (by rw [hM10] at hM; exact hM)), ?_⟩
        refine AD.one 16 (by kernel_rfl) (AE.eff rfl (EF.callF rfl (Tri.perm (perm_p4 _ _ _ _ _ _) (rread_spec B (pd ++ (pb ++ [_, _, _])) (E1 ++ ((b10, Blk.cells [.int .i64 ((lget l i)).1, .int .i64 ((lget l i)).2.1, .slice ((lget l i)).2.2.1.A ((lget l i)).2.2.1.l.length ((lget l i)).2.2.1.cap] 28 (0, 0)) :: D)) q pw (newP n).tk.length (rdP s) b2 hsr hcr hw hcw hb2 hn256 hrd hrin (lget l i).2.1))) (.some rfl rfl rfl rfl) rfl ?_)
        rintro _ _ ⟨rfl, rfl⟩
        rw [rread_val pi hL hco2 hb2]
        simp only [List.append_assoc, List.cons_append, List.nil_append]
        refine ⟨.inl (by kernel_rfl), ?_⟩
        refine AD.one 17 (by kernel_rfl) (AE.eff rfl (EF.callF rfl (same_spec (cap := cd) (cap2 := rcap s b2 (lget l i).2.1) B _ (if hasP s (lget l i).2.1 = true then lget ct (lget l i).2.1 else []) (if hasP s (lget l i).2.1 = true then lget ct (lget l i).2.1 else []) (hrdd.src (h := pd) (fun x hx => hx)).sub ((rread_src pi hL hco2 hb2 (lget l i).2.1).mono fun x hx => by first | exact List.mem_append_right _ (List.mem_cons_of_mem _ hx) | exact List.mem_append_right _ (List.mem_append_right _ (List.mem_cons_of_mem _ hx)) | (simp only [List.mem_append, List.mem_cons] at hx ⊢; grind)) (rread_len pi hL hco2 hb2 (lget l i).2.1))) (.some rfl rfl rfl rfl) rfl ?_)
        rintro _ _ ⟨rfl, bS, rfl, hS⟩
        have hS2 := hS.2 rfl
        subst hS2
        refine ⟨.inl (by kernel_rfl), ?_⟩
        refine AD.takeP 18 rfl (by kernel_rfl) (RV.not rfl) (.some rfl rfl rfl rfl) rfl ?_
        refine AD.takeP 19 rfl (by kernel_rfl) (RV.pickF rfl rfl) (.none rfl) rfl ?_
        refine AD.takeP 20 rfl (by kernel_rfl) (RV.move rfl) (.none rfl) rfl ?_
        refine AD.takeP 21 rfl (by kernel_rfl) (RV.move rfl) (.some rfl rfl rfl rfl) rfl ?_
        refine AD.takeP 22 rfl (by kernel_rfl) (RV.move rfl) (.some rfl rfl rfl rfl) rfl ?_
        refine AD.takeP 24 rfl (by kernel_rfl) (RV.move rfl) (.some rfl rfl rfl rfl) rfl ?_
        refine AD.takeP 25 rfl (by kernel_rfl) (RV.move rfl) (.some rfl rfl rfl rfl) rfl ?_
        refine AD.one 23 (by kernel_rfl) (AE.eff rfl (EF.callF rfl (Tri.perm (perm_p5 _ _ _ _ _ _) (read_spec B _ p qb qt pb (newP n).tk.length s bs ct pi hL hbl hr hcb (E1 ++ ((b10, Blk.cells [.int .i64 ((lget l i)).1, .int .i64 ((lget l i)).2.1, .slice ((lget l i)).2.2.1.A ((lget l i)).2.2.1.l.length ((lget l i)).2.2.1.cap] 28 (0, 0)) :: D)) (by first | exact fun x hx => List.mem_append_right _ (List.mem_cons_of_mem _ hx) | exact fun x hx => List.mem_append_right _ (List.mem_append_right _ (List.mem_cons_of_mem _ hx))) hct look))) (.some rfl rfl rfl rfl) rfl ?_)
        rintro _ _ ⟨Ae, ce, pe, rfl, hce, hrde, rfl⟩
        refine ⟨.inl (by kernel_rfl), ?_⟩
        refine AD.one 26 (by kernel_rfl) (AE.eff rfl (EF.callF rfl (Tri.perm (perm_p6 _ _ _ _ _ _ _ _ _) (rread_spec B (pe ++ (pb ++ [_, _, _])) (pd ++ (E1 ++ ((b10, Blk.cells [.int .i64 ((lget l i)).1, .int .i64 ((lget l i)).2.1, .slice ((lget l i)).2.2.1.A ((lget l i)).2.2.1.l.length ((lget l i)).2.2.1.cap] 28 (0, 0)) :: D))) q pw (newP n).tk.length (rdP s) b2 (hsr.mono fun x hx => List.mem_append_right _ hx) hcr hw hcw hb2 hn256 hrd hrin look))) (.some rfl rfl rfl rfl) rfl ?_)
        rintro _ _ ⟨rfl, rfl⟩
        rw [rread_val pi hL hco2 hb2]
        simp only [List.append_assoc, List.cons_append, List.nil_append]
        refine ⟨.inl (by kernel_rfl), ?_⟩
        refine AD.one 27 (by kernel_rfl) (AE.eff rfl (EF.callF rfl (same_spec (cap := ce) (cap2 := rcap s b2 look) B _ (if hasP s look = true then lget ct look else []) (if hasP s look = true then lget ct look else []) (hrde.src (h := pe) (fun x hx => hx)).sub ((rread_src pi hL hco2 hb2 look).mono fun x hx => by first | exact List.mem_append_right _ (List.mem_cons_of_mem _ hx) | exact List.mem_append_right _ (List.mem_append_right _ (List.mem_cons_of_mem _ hx)) | (simp only [List.mem_append, List.mem_cons] at hx ⊢; grind)) (rread_len pi hL hco2 hb2 look))) (.some rfl rfl rfl rfl) rfl ?_)
        rintro _ _ ⟨rfl, bS, rfl, hS⟩
        have hS2 := hS.2 rfl
        subst hS2
        refine ⟨.inl (by kernel_rfl), ?_⟩
        refine AD.takeP 28 rfl (by kernel_rfl) (RV.not rfl) (.some rfl rfl rfl rfl) rfl ?_
        refine AD.takeP 29 rfl (by kernel_rfl) (RV.pickF rfl rfl) (.none rfl) rfl ?_
        refine AD.done (by kernel_rfl) ?_
        refine AK.condF rfl ?_
        refine AK.skip ?_
        refine AK.inBlock ?_
        refine AK.region ?_
        refine AO.val (RV.move rfl) (.none rfl) rfl ?_
        refine AO.val (by first | exact RV.addIn rfl rfl (by omega) | exact RV.add rfl rfl) (.none rfl) rfl ?_
        refine AO.val (RV.assign rfl) (.none rfl) rfl ?_
        refine AO.nil ?_
        -- round ends at L0tTJb2
        refine AK.weak (.cons (by exact rfl) (.cons (by exact rfl) (.cons (by exact rfl) (.cons (by exact rfl) (.cons (by exact rfl) .nil))))) (by simp only [List.append_assoc, List.cons_append]; exact List.sublist_append_right _ _) (hih0 (i + 1, s, bs, b2, ct, Ab, cb, pb, Ar, cr, Aw, cw, pw, pd ++ (E1 ++ ((b10, Blk.cells [.int .i64 ((lget l i)).1, .int .i64 ((lget l i)).2.1, .slice ((lget l i)).2.2.1.A ((lget l i)).2.2.1.l.length ((lget l i)).2.2.1.cap] 28 (0, 0)) :: D))) ?_ ?_)
        · try dsimp only
          exact ⟨by omega, by omega, pi, ⟨hL, hbl, hb2⟩, hr, hcb, hct.mono (fun x hx => List.mem_append_right _ hx), hsr.mono (fun x hx => List.mem_append_right _ hx), hcr, hw, hcw, hco2.mono (fun x hx => List.mem_append_right _ hx), hem⟩
        · try dsimp only
          omega
      · intro hjb2
        try dsimp only at hjb2
        refine AK.block ?_
        refine AK.seq ?_
        refine AK.region ?_
        refine AO.val (RV.eql rfl rfl) (.none rfl) rfl ?_
        refine AO.val (RV.assign rfl) (.none rfl) rfl ?_
        refine AO.nil ?_
        refine AK.cond rfl ?_ ?_
        · intro hc3
          try simp only [decide_eq_true_eq, decide_eq_false_iff_not, Bool.not_eq_true', Bool.not_eq_false', beq_iff_eq] at hc3
          refine AK.seq ?_
          refine AK.region ?_
          refine AO.val (RV.move rfl) (.none rfl) rfl ?_
          refine AO.eff (EF.callF rfl (take_spec B _ p qb qt pb (newP n).tk.length s bs pi hL hbl hr hcb)) (.none rfl) rfl ?_
          rintro _ _ ⟨rfl, Ab', cb', pb', rfl, hr', hcb'⟩
          refine AO.val (RV.move rfl) (.none rfl) rfl ?_
          refine AO.val (RV.extract rfl rfl) (.none rfl) rfl ?_
          refine AO.val (RV.extract rfl rfl) (.none rfl) rfl ?_
          refine AO.val (RV.assign rfl) (.none rfl) rfl ?_
          refine AO.val (RV.assign rfl) (.none rfl) rfl ?_
          refine AO.nil ?_
          refine AK.seq ?_
          refine AK.region ?_
          refine AO.val (RV.move rfl) (.none rfl) rfl ?_
          refine AO.eff (EF.callF rfl (Tri.perm (perm_p2 _ _ _ _ _) (rtake_spec B ((pb' ++ [_, _, _])) ((b10, Blk.cells [.int .i64 ((lget l i)).1, .int .i64 ((lget l i)).2.1, .slice ((lget l i)).2.2.1.A ((lget l i)).2.2.1.l.length ((lget l i)).2.2.1.cap] 28 (0, 0)) :: D) q pw (newP n).tk.length (rdP s) b2 hsr hcr hw hcw hb2 hn256 hrd hrin))) (.none rfl) rfl ?_
          rintro _ _ ⟨rfl, pw', rfl, hw'⟩
          simp only [List.append_assoc, List.cons_append, List.nil_append]
          refine AO.val (RV.move rfl) (.none rfl) rfl ?_
          refine AO.val (RV.extract rfl rfl) (.none rfl) rfl ?_
          refine AO.val (RV.extract rfl rfl) (.none rfl) rfl ?_
          refine AO.val (RV.assign rfl) (.none rfl) rfl ?_
          refine AO.val (RV.assign rfl) (.none rfl) rfl ?_
          refine AO.nil ?_
          refine AK.seq ?_
          refine AK.region ?_
          refine AO.val (RV.move rfl) (.none rfl) rfl ?_
          refine AO.val (RV.move rfl) (.none rfl) rfl ?_
          refine AO.val ((RV.neq rfl rfl).to (v' := .bool false) (by rw [(rd_take pi).2.1]; simp)) (.none rfl) rfl ?_
          refine AO.val (RV.move rfl) (.none rfl) rfl ?_
          refine AO.val (RV.move rfl) (.some rfl rfl rfl rfl) rfl ?_
          refine AO.val (RV.move rfl) (.some rfl rfl rfl rfl) rfl ?_
          refine AO.val ((RV.neqB rfl rfl).to (v' := .bool false) (by rw [(rd_take pi).1]; simp)) (.some rfl rfl rfl rfl) rfl ?_
          refine AO.val (RV.pickF rfl rfl) (.none rfl) rfl ?_
          refine AO.nil ?_
          refine AK.condF rfl ?_
          refine AK.skip ?_
          refine AK.inBlock ?_
          -- ways meet at L0tTT
          have hrt := (rd_take pi).2.2
          refine AK.weak (.cons (by exact rfl) (.cons (by exact rfl) (.cons (by exact rfl) (.cons (by exact rfl) (.cons (by exact rfl) (.cons (by exact rfl) .nil)))))) (by rw [hrt]; exact List.Sublist.refl _) (hjb2 ((takeP s).1, bs, (if 0 < (rdP s).length then lset b2 (lget (rdP s) (((rdP s).length : Int) - 1)) (none, 0, 0) else b2), ct, Ab', cb', pb', Ar, cr, Aw, cw, pw', []) ?_)
          · try dsimp only
            refine ⟨pi_take pi, ⟨(len_take s).trans hL, hbl, by split <;> simp [lset_len, hb2]⟩, hr', hcb', hct, ?_, ?_, hw', hcw, cont_take pi hL hb2 hco2 hem, empty_take pi hem⟩
            · rw [hrt, List.length_take, show min ((rdP s).length - 1) (rdP s).length = (rdP s).length - 1 by omega]
              have := hsr.take ((rdP s).length - 1) (by omega)
              rw [Nat.mul_one, ← List.map_take] at this
              exact this
            · rw [hrt, List.length_take]; omega
        · intro hc3
          try simp only [decide_eq_true_eq, decide_eq_false_iff_not, Bool.not_eq_true', Bool.not_eq_false', beq_iff_eq] at hc3
          refine AK.seq ?_
          refine AK.region ?_
          refine AO.val (RV.eql rfl rfl) (.none rfl) rfl ?_
          refine AO.val (RV.assign rfl) (.none rfl) rfl ?_
          refine AO.nil ?_
          refine AK.cond rfl ?_ ?_
          · intro hc4
            try simp only [decide_eq_true_eq, decide_eq_false_iff_not, Bool.not_eq_true', Bool.not_eq_false', beq_iff_eq] at hc4
            refine AK.seq ?_
            refine AK.draw (M10) [7] mixed ?_
            refine AD.takeP 0 rfl (by kernel_rfl) (RV.move rfl) (.none rfl) rfl ?_
            refine AD.takeP 1 rfl (by kernel_rfl) (by first | exact RV.fieldAddr rfl | exact RV.fieldAddrA rfl) (.none rfl) rfl ?_
            refine AD.take 2 rfl (by kernel_rfl) (by first | exact RV.loadO rfl rfl (by first | simp | assumption) | exact RV.loadSF rfl (by assumption) (fun _ => rfl) (by omega) rfl rfl (by first | simp | assumption) | exact RV.loadS rfl (by assumption) (by omega) (by first | simp | assumption)) (.none rfl) rfl ?_
            refine AD.takeP 4 rfl (by kernel_rfl) (RV.move rfl) (.none rfl) rfl ?_
            refine AD.takeP 5 rfl (by kernel_rfl) (by first | exact RV.fieldAddr rfl | exact RV.fieldAddrA rfl) (.none rfl) rfl ?_
            refine AD.take 6 rfl (by kernel_rfl) (by first | exact RV.loadO rfl rfl (by first | simp | assumption) | exact RV.loadSF rfl (by assumption) (fun _ => rfl) (by omega) rfl rfl (by first | simp | assumption) | exact RV.loadS rfl (by assumption) (by omega) (by first | simp | assumption)) (.none rfl) rfl ?_
            refine AD.one 3 (by kernel_rfl) (AE.eff rfl (EF.callF rfl (give2_spec B _ p qb qt pb (newP n).tk.length s bs ct pi hL hbl hr hcb ((b10, Blk.cells [.int .i64 ((lget l i)).1, .int .i64 ((lget l i)).2.1, .slice ((lget l i)).2.2.1.A ((lget l i)).2.2.1.l.length ((lget l i)).2.2.1.cap] 28 (0, 0)) :: D) (by first | exact fun x hx => List.mem_append_right _ (List.mem_cons_of_mem _ hx) | exact fun x hx => List.mem_append_right _ (List.mem_append_right _ (List.mem_cons_of_mem _ hx))) hct (lget l i).2.1)) (.none rfl) rfl ?_)
            rintro _ _ ⟨rfl, bs', Ab', cb', pb', hbl', hct', rfl, hr', hcb'⟩
            refine ⟨(by first | exact .inr fun x hx hM => hx | exact .inr fun x hx hM => List.Perm.mem_iff (perm_n _ _ _ _ _ _) |>.1 hx | exact .inr fun x hx hM => List.mem_append_right _ hx | exact .inr fun x hx hM => keep_three hx (by rw [hM10] at hM; exact hM) | exact .inr fun x hx hM => keep_three2 hx (by rw [hM10] at hM; exact hM)), ?_⟩
            refine AD.one 7 (by kernel_rfl) (AE.eff rfl (EF.callF rfl (Tri.perm (perm_p2 _ _ _ _ _) (rgive_spec B ((pb' ++ [_, _, _])) ((b10, Blk.cells [.int .i64 ((lget l i)).1, .int .i64 ((lget l i)).2.1, .slice ((lget l i)).2.2.1.A ((lget l i)).2.2.1.l.length ((lget l i)).2.2.1.cap] 28 (0, 0)) :: D) q pw (newP n).tk.length (rdP s) b2 hsr hcr hw hcw hb2 hn256 hrd hrin (lget l i).2.1))) (.none rfl) rfl ?_)
            rintro _ _ ⟨rfl, pw', Ar', cr', x9, rfl, hw', hsr', hcr'⟩
            simp only [List.append_assoc, List.cons_append, List.nil_append]
            refine ⟨.inl (by kernel_rfl), ?_⟩
            refine AD.takeP 8 rfl (by kernel_rfl) ((RV.neqB rfl rfl).to (v' := .bool false) (by rw [give_has, taken_eq pi hL]; simp)) (.none rfl) rfl ?_
            refine AD.done (by kernel_rfl) ?_
            refine AK.condF rfl ?_
            refine AK.skip ?_
            refine AK.inBlock ?_
            -- ways meet at L0tTFT
            have hrg : rdP (giveP s (lget l i).2.1).1 = (if takenQ (newP n).tk.length (rdP s) (lget l i).2.1 = true then rdP s ++ [(lget l i).2.1] else rdP s) := by rw [rd_give, taken_eq pi hL]
            refine AK.weak (.cons (by exact rfl) (.cons (by exact rfl) (.cons (by exact rfl) (.cons (by exact rfl) (.cons (by exact rfl) (.cons (by exact rfl) .nil)))))) (by rw [hrg]; exact List.Sublist.refl _) (hjb2 ((giveP s (lget l i).2.1).1, bs', (if takenQ (newP n).tk.length (rdP s) (lget l i).2.1 = true then lset b2 (lget l i).2.1 (none, 0, 0) else b2), (if hasP s (lget l i).2.1 = true then lset ct (lget l i).2.1 [] else ct), Ab', cb', pb', Ar', cr', Aw, cw, pw', x9) ?_)
            · try dsimp only
              refine ⟨pi_give pi _, ⟨(len_give s _).trans hL, hbl', by split <;> simp [lset_len, hb2]⟩, hr', hcb', hct'.mono (fun x hx => List.mem_append_right _ hx), by rw [hrg]; exact hsr', by rw [hrg]; exact hcr', hw', hcw, (cont_give pi hL hb2 hco2 _).mono (fun x hx => List.mem_append_right _ hx), empty_give hctl _ hem⟩
          · intro hc4
            try simp only [decide_eq_true_eq, decide_eq_false_iff_not, Bool.not_eq_true', Bool.not_eq_false', beq_iff_eq] at hc4
            refine AK.seq ?_
            refine AK.region ?_
            refine AO.val (by first | exact RV.fieldAddr rfl | exact RV.fieldAddrA rfl) (.none rfl) rfl ?_
            refine AO.val (by first | exact RV.loadO rfl rfl (by first | simp | assumption) | exact RV.loadSF rfl (by assumption) (fun _ => rfl) (by omega) rfl rfl (by first | simp | assumption) | exact RV.loadS rfl (by assumption) (by omega) (by first | simp | assumption)) (.none rfl) rfl ?_
            refine AO.eff (EF.callF rfl (few_spec B _ (lget l i).2.2.1.l 1600 (by omega) hx3)) (.none rfl) rfl ?_
            rintro _ _ ⟨rfl, rfl⟩
            refine AO.val (RV.assign rfl) (.none rfl) rfl ?_
            refine AO.nil ?_
            refine AK.seq ?_
            refine AK.draw (M10) [9] mixed ?_
            refine AD.takeP 0 rfl (by kernel_rfl) (RV.move rfl) (.none rfl) rfl ?_
            refine AD.takeP 1 rfl (by kernel_rfl) (by first | exact RV.fieldAddr rfl | exact RV.fieldAddrA rfl) (.none rfl) rfl ?_
            refine AD.take 2 rfl (by kernel_rfl) (by first | exact RV.loadO rfl rfl (by first | simp | assumption) | exact RV.loadSF rfl (by assumption) (fun _ => rfl) (by omega) rfl rfl (by first | simp | assumption) | exact RV.loadS rfl (by assumption) (by omega) (by first | simp | assumption)) (.none rfl) rfl ?_
            refine AD.takeP 3 rfl (by kernel_rfl) (RV.move rfl) (.none rfl) rfl ?_
            refine AD.takeP 5 rfl (by kernel_rfl) (RV.move rfl) (.none rfl) rfl ?_
            refine AD.takeP 6 rfl (by kernel_rfl) (by first | exact RV.fieldAddr rfl | exact RV.fieldAddrA rfl) (.none rfl) rfl ?_
            refine AD.take 7 rfl (by kernel_rfl) (by first | exact RV.loadO rfl rfl (by first | simp | assumption) | exact RV.loadSF rfl (by assumption) (fun _ => rfl) (by omega) rfl rfl (by first | simp | assumption) | exact RV.loadS rfl (by assumption) (by omega) (by first | simp | assumption)) (.none rfl) rfl ?_
            refine AD.takeP 8 rfl (by kernel_rfl) (RV.move rfl) (.none rfl) rfl ?_
            refine AD.one 4 (by kernel_rfl) (AE.eff rfl (EF.callF rfl (write_spec B _ p qb qt pb (newP n).tk.length s bs ct pi hL hbl hr hcb ((b10, Blk.cells [.int .i64 ((lget l i)).1, .int .i64 ((lget l i)).2.1, .slice ((lget l i)).2.2.1.A ((lget l i)).2.2.1.l.length ((lget l i)).2.2.1.cap] 28 (0, 0)) :: D) (by first | exact fun x hx => List.mem_append_right _ (List.mem_cons_of_mem _ hx) | exact fun x hx => List.mem_append_right _ (List.mem_append_right _ (List.mem_cons_of_mem _ hx))) hct (lget l i).2.1 ((lget l i).2.2.1.l.take (1600 : Int).toNat) hfs.sub hfb2 (by omega))) (.none rfl) rfl ?_)
            rintro _ _ ⟨rfl, bs', p9, hbl', hct', rfl⟩
            refine ⟨(by first | exact .inr fun x hx hM => hx | exact .inr fun x hx hM => List.Perm.mem_iff (perm_n _ _ _ _ _ _) |>.1 hx | exact .inr fun x hx hM => List.mem_append_right _ hx | exact .inr fun x hx hM => keep_three hx (by rw [hM10] at hM; exact hM) | exact .inr fun x hx hM => keep_three2 hx (by rw [hM10] at hM; exact hM)), ?_⟩
            refine AD.one 9 (by kernel_rfl) (AE.eff rfl (EF.callF rfl (Tri.perm (perm_p3 _ _ _ _ _ _ _ _) (rwrite_spec B ((pb ++ [_, _, _])) (p9 ++ ((b10, Blk.cells [.int .i64 ((lget l i)).1, .int .i64 ((lget l i)).2.1, .slice ((lget l i)).2.2.1.A ((lget l i)).2.2.1.l.length ((lget l i)).2.2.1.cap] 28 (0, 0)) :: D)) q pw (newP n).tk.length (rdP s) b2 (hsr.mono fun x hx => List.mem_append_right _ hx) hcr hw hcw hb2 hn256 hrd hrin (lget l i).2.1 ((lget l i).2.2.1.l.take (1600 : Int).toNat) hfs.sub hfb2 (by omega) (p9 ++ ((b10, Blk.cells [.int .i64 ((lget l i)).1, .int .i64 ((lget l i)).2.1, .slice ((lget l i)).2.2.1.A ((lget l i)).2.2.1.l.length ((lget l i)).2.2.1.cap] 28 (0, 0)) :: D)) ct (hco2.mono fun x hx => List.mem_append_right _ hx)))) (.none rfl) rfl ?_)
            rintro _ _ ⟨rfl, pw', x9, b2', hb2', hco2', rfl, hw'⟩
            simp only [List.append_assoc, List.cons_append, List.nil_append]
            refine ⟨.inl (by kernel_rfl), ?_⟩
            refine AD.takeP 10 rfl (by kernel_rfl) ((RV.neqB rfl rfl).to (v' := .bool false) (by rw [taken_eq pi hL]; simp)) (.none rfl) rfl ?_
            refine AD.done (by kernel_rfl) ?_
            refine AK.condF rfl ?_
            refine AK.skip ?_
            refine AK.inBlock ?_
            -- ways meet at L0tTFF
            refine AK.weak (.cons (by exact rfl) (.cons (by exact rfl) (.cons (by exact rfl) (.cons (by exact rfl) (.cons (by exact rfl) (.cons (by exact rfl) .nil)))))) (by rw [List.append_assoc]; exact List.Sublist.refl _) (hjb2 (s, bs', b2', (if (hasP s (lget l i).2.1 && decide (((lget l i).2.2.1.l.take (1600 : Int).toNat).length ≤ 1514)) = true then lset ct (lget l i).2.1 ((lget l i).2.2.1.l.take (1600 : Int).toNat) else ct), Ab, cb, pb, Ar, cr, Aw, cw, pw', x9 ++ p9) ?_)
            · try dsimp only
              refine ⟨pi, ⟨hL, hbl', hb2'⟩, hr, hcb, by rw [List.append_assoc]; exact hct'.mono (fun x hx => List.mem_append_right _ hx), by rw [List.append_assoc]; exact hsr.mono (fun x hx => List.mem_append_right _ (List.mem_append_right _ hx)), hcr, hw', hcw, by rw [List.append_assoc]; rw [taken_eq pi hL] at hco2'; exact hco2', empty_write hctl _ _ _ (fun h => by simp only [Bool.and_eq_true] at h; exact h.1) hem⟩
    · intro hc2
      try simp only [decide_eq_true_eq, decide_eq_false_iff_not, Bool.not_eq_true', Bool.not_eq_false', beq_iff_eq] at hc2
      refine AK.exit rfl ?_
      refine AK.seq ?_
      refine AK.region ?_
      refine AO.eff (EF.callF rfl (lives_spec B _)) (.none rfl) rfl ?_
      rintro _ _ rfl
      refine AO.val (RV.assign rfl) (.none rfl) rfl ?_
      refine AO.nil ?_
      -- at L0tF
      clear hih0
      refine AK.ret (h' := []) Try.func4 (.tmp rfl .nil) ?_ (List.nil_sublist _)
      rfl
  · intro hg1
    try simp only [decide_eq_true_eq, decide_eq_false_iff_not, Bool.not_eq_true', Bool.not_eq_false', beq_iff_eq] at hg1
    refine AO.pass (.some rfl rfl rfl rfl) rfl ?_
    refine AO.pass (.some rfl rfl rfl rfl) rfl ?_
    refine AO.val (RV.pickF rfl rfl) (.none rfl) rfl ?_
    refine AO.nil ?_
    refine AK.condF rfl ?_
    refine AK.exit rfl ?_
    refine AK.seq ?_
    refine AK.region ?_
    refine AO.eff (EF.callF rfl (lives_spec B _)) (.none rfl) rfl ?_
    rintro _ _ rfl
    refine AO.val (RV.assign rfl) (.none rfl) rfl ?_
    refine AO.nil ?_
    -- at L0f
    clear hih0
    refine AK.ret (h' := []) Try.func4 (.tmp rfl .nil) ?_ (List.nil_sublist _)
    rfl

set_option maxRecDepth 100000 in
theorem poolDoes_lifted (os : Os) (started : os.Started) (H : Type) (enc : TypeId × Value → H) :
    ReturnsInHanded {} Try.checked os 4 .any (Rows.poolDoesSpec.pre6 enc Try.prog Try.f4 Rows.poolDoesRow.domain false) (Rows.poolDoesSpec.post enc Try.prog Try.f4 false true false false) := by
  refine returnsInHanded_of_change (C := Try.checked) own_ started (by kernel_rfl) Try.func4
    (ChangeSpec.witness6 (enc := enc) (C := Try.checked) false ⟨#[], #[(Value.int IntKind.i64 0), (Value.slice none 0 0), (Value.int IntKind.i64 0)], []⟩ 8 (by kernel_rfl) (by kernel_rfl) (by kernel_rfl) (by kernel_rfl)) ?_
  intro W base args ds gs before hval0 hW hcnd _
  have hval : ∀ (j : Nat) t v, Try.f4.params[j]? = some t → args[j]? = some v → Value.okWide Try.prog W .any base t v := hval0
  have hW' := hW
  obtain ⟨p, q, hA0, hV, rfl, hfz, hnd⟩ := hW
  have hA : DataW.TrodAll enc Try.prog W 0 (fun _ => true) true Try.f4.params.toList args.toList ds p := hA0
  rw [Try.params4] at hA hval
  obtain ⟨args⟩ := args
  simp only at hA
  obtain ⟨v0, vs0, d0, ds0, p0, q0, e0a, e0b, e0c, t0, r0⟩ := trodAll_cons hA
  obtain ⟨v1, vs1, d1, ds1, p1, q1, e1a, e1b, e1c, t1, r1⟩ := trodAll_cons r0
  obtain ⟨v2, vs2, d2, ds2, p2, q2, e2a, e2b, e2c, t2, r2⟩ := trodAll_cons r1
  subst e0a e0b e0c
  subst e1a e1b e1c
  subst e2a e2b e2c
  obtain ⟨rfl, rfl, rfl⟩ := trodAll_nil r2
  obtain ⟨rfl, rfl⟩ := trodVars_none hV
  have hlt := hW'.lt
  have k0 : Value.okWide Try.prog W .any base 3 v0 := hval 0 _ v0 rfl rfl
  obtain ⟨n, w0, n_lo, n_hi⟩ := Dec.argI k0 t0
  have k1 : Value.okWide Try.prog W .any base 22 v1 := hval 1 _ v1 rfl rfl
  obtain ⟨l, w1, hl⟩ := Dec.argS k1 t1 ((Dec.struct (t := 28) (.cons (off := 0) (sz := 1) (by rfl) (by kernel_rfl) (Dec.int (t := 3) (k := .i64)) (.cons (off := 1) (sz := 1) (by rfl) (by kernel_rfl) (Dec.int (t := 3) (k := .i64)) (.cons (off := 2) (sz := 1) (by rfl) (by kernel_rfl) (Dec.slice (t := 26) (e := 5) (sz := 1) (Dec.int (t := 5) (k := .u8)) (by decide)) .nil))) (by kernel_rfl))) (by decide)
  have k2 : Value.okWide Try.prog W .any base 3 v2 := hval 2 _ v2 rfl rfl
  obtain ⟨look, w2, look_lo, look_hi⟩ := Dec.argI k2 t2
  have htri : Tri Try.prog W 4 [v0, v1, v2] [] (fun v _ => v = .bool true) := by
    subst w0 w1 w2
    exact does_law W n look l.l hl.2.1 (by have := hl.2.1; have := hl.2.2.1; omega) hl.1 (fun x hx => ⟨(hl.2.2.2.1 x hx).2.2.1.src1, (hl.2.2.2.1 x hx).2.2.1.2.2.2.1, (hl.2.2.2.1 x hx).2.2.1.2.1⟩)
  clear w0 w1 w2
  refine (htri.run W (Models.start W)).mono fun e W' ⟨v, h2, he, m2, hv⟩ => ?_
  subst he; subst hv
  have hb := m2.below
  refine ⟨_, rfl, post_of_below (pa := (p0 ++ (p1 ++ (p2 ++ ([]))))) (pv := []) hW' (fun _ _ _ => trodAll_mk1 (shut_bool (Try.underlying4) true)) (fun sp hsp => ?_) (fun _ _ => rfl) rfl hb (ok_one (t := 4) (by kernel_rfl) rfl ?_)⟩
  · refine TAcons (WideElems.Trod_stays laidOut_ (by kernel_rfl) (of_decide_eq_true (by kernel_rfl)) t0 (fun x hx => hb.same (hlt x (by simp [hx]))) (fun x hx => hsp x (by simp [hx]))) ?_
    refine TAcons (WideElems.Trod_stays laidOut_ (by kernel_rfl) (of_decide_eq_true (by kernel_rfl)) t1 (fun x hx => hb.same (hlt x (by simp [hx]))) (fun x hx => hsp x (by simp [hx]))) ?_
    refine TAcons (WideElems.Trod_stays laidOut_ (by kernel_rfl) (of_decide_eq_true (by kernel_rfl)) t2 (fun x hx => hb.same (hlt x (by simp [hx]))) (fun x hx => hsp x (by simp [hx]))) ?_
    rfl
  · exact okBool Try.underlying4

theorem poolDoes_holds : Rows.PoolDoesSaid :=
  OpenClaim.holds_of_wide 4 Try.f4 rfl rfl rfl rfl rfl rfl rfl ⟨rfl, rfl, rfl, rfl, rfl⟩ rfl rfl rfl rfl rfl (by kernel_rfl) Try.func4 (by kernel_rfl)
    (of_decide_eq_true (by kernel_rfl)) (by unfold Func.isWrapper; first | (rw [if_pos (by decide +kernel)]; kernel_rfl) | (rw [if_neg (by decide +kernel)]; exact ⟨rfl, rfl⟩))
    (fun os started H enc _ => poolDoes_lifted os started H enc)

end Go.Proofs.Ytfoklodfolgmaaa
