/- Walks through the code: what each function that is named here gives back, from any memory that holds its arguments. Written by a program of the claim's author, out of the program's form in Lean. -/
import Derived.Test.YtpobjhmbonojkaaW4
import Derived.Test.YtpobjhmbonojkaaPlainQ16
set_option linter.unusedSimpArgs false
set_option linter.unusedVariables false
namespace Go.Proofs.Ytpobjhmbonojkaa
open Go.Sep Go.Sep.Ring Go.Sep.Pool Go.Sep.Sip Go.Sep.Nic

theorem cards_reap (B : World) (h : Own) (q : Nat) (N F : Int) (nn : Nat) {Ai Ac Ag As : Option Addr} {ci cc cg cs : Nat} (wi wc wg ws : Own) (ins sps : List Int) (cm gm : List Fr) (hi : Row 3 1 (.slice Ai nn ci) nn ((ins).map Pool.I64) wi) (hc : Row 27 1 (.slice Ac nn cc) nn ((cm).map frsV) wc) (hg : Row 27 1 (.slice Ag nn cg) nn ((gm).map frsV) wg) (hs : Row 3 1 (.slice As nn cs) nn ((sps).map Pool.I64) ws) (hN : 0 ≤ N ∧ N ≤ 64) (hF : 0 ≤ F ∧ F ≤ 1000) (k : Int) (hk : 0 ≤ k ∧ k < nn) (hsp : 0 ≤ lget sps k ∧ lget sps k ≤ 64) : Tri Try.prog B 44 [.pointer (some ⟨q, 0, none⟩), .int .i64 k] ((q, Blk.cells [.int .i64 N, .int .i64 F, .slice Ai nn ci, .slice Ac nn cc, .slice Ag nn cg, .slice As nn cs] 51 (0, 0)) :: (wi ++ (wc ++ (wg ++ (ws ++ h))))) fun v h' => ∃ ws', h' = ((q, Blk.cells [.int .i64 N, .int .i64 (F + lget sps k), .slice Ai nn ci, .slice Ac nn cc, .slice Ag nn cg, .slice As nn cs] 51 (0, 0)) :: (wi ++ (wc ++ (wg ++ (ws' ++ h))))) ∧ Row 3 1 (.slice As nn cs) nn ((lset sps k 0).map Pool.I64) ws' := by
  have hil : ins.length = nn := by have := hi.len; simpa using this
  have hsl : sps.length = nn := by have := hs.len; simpa using this
  have hcml : cm.length = nn := by have := hc.len; simpa using this
  have hgml : gm.length = nn := by have := hg.len; simpa using this
  have hsi : Src B wi Ai nn 1 (ins.map Pool.I64) := hi.src fun x hx => hx
  have hsc : Src B wc Ac nn 1 (cm.map frsV) := hc.src fun x hx => hx
  have hsg : Src B wg Ag nn 1 (gm.map frsV) := hg.src fun x hx => hx
  have hss : Src B ws As nn 1 (sps.map Pool.I64) := hs.src fun x hx => hx
  refine Tri.enter (n := 25) Try.func44 rfl rfl rfl ?_
  simp only [argsE, Nat.reduceAdd]
  try dsimp only [argsE]
  refine AK.seq ?_
  refine AK.draw [] [15] mixed ?_
  refine AD.takeP 0 rfl (by kernel_rfl) (RV.move rfl) (.none rfl) rfl ?_
  refine AD.takeP 1 rfl (by kernel_rfl) (RV.move rfl) (.none rfl) rfl ?_
  refine AD.takeP 2 rfl (by kernel_rfl) (RV.nilCheck rfl) (.none rfl) rfl ?_
  refine AD.takeP 3 rfl (by kernel_rfl) (RV.fieldAddr rfl) (.none rfl) rfl ?_
  refine AD.take 4 rfl (by kernel_rfl) (by first | exact RV.loadO rfl rfl (by first | simp | assumption) | exact RV.loadF rfl (fun _ => rfl) (by omega) rfl rfl (by first | simp | assumption) | exact RV.loadF0 rfl (fun _ => rfl) (by omega) rfl rfl (by first | simp | assumption) | exact RV.loadS rfl (by assumption) (by omega) (by first | simp | assumption)) (.none rfl) rfl ?_
  refine AD.takeP 5 rfl (by kernel_rfl) (RV.move rfl) (.none rfl) rfl ?_
  refine AD.takeP 6 rfl (by kernel_rfl) (RV.nilCheck rfl) (.none rfl) rfl ?_
  refine AD.takeP 7 rfl (by kernel_rfl) (RV.fieldAddr rfl) (.none rfl) rfl ?_
  refine AD.take 8 rfl (by kernel_rfl) (by first | exact RV.loadO rfl rfl (by first | simp | assumption) | exact RV.loadF rfl (fun _ => rfl) (by omega) rfl rfl (by first | simp | assumption) | exact RV.loadF0 rfl (fun _ => rfl) (by omega) rfl rfl (by first | simp | assumption) | exact RV.loadS rfl (by assumption) (by omega) (by first | simp | assumption)) (.none rfl) rfl ?_
  refine AD.takeP 9 rfl (by kernel_rfl) (RV.move rfl) (.none rfl) rfl ?_
  refine AD.takeP 10 rfl (by kernel_rfl) (RV.indexS rfl rfl hss (by omega) rfl) (.none rfl) rfl ?_
  refine AD.take 11 rfl (by kernel_rfl) (RV.loadS (enc := Pool.I64) (l := sps) rfl hss (by omega) (by simp)) (.none rfl) rfl ?_
  refine AD.takeP 12 rfl (by kernel_rfl) (by first | exact RV.addIn rfl rfl (by omega) | exact RV.add rfl rfl) (.none rfl) rfl ?_
  refine AD.takeP 13 rfl (by kernel_rfl) (RV.nilCheck rfl) (.none rfl) rfl ?_
  refine AD.takeP 14 rfl (by kernel_rfl) (RV.fieldAddr rfl) (.none rfl) rfl ?_
  refine AD.one 15 (by kernel_rfl) (AE.effN rfl (EF.storeO rfl rfl rfl rfl rfl rfl) (.none rfl) ?_)
  rintro _ _ rfl
  refine ⟨.inl (by kernel_rfl), ?_⟩
  refine AD.done (by kernel_rfl) ?_
  refine AK.region ?_
  refine AO.val (RV.move rfl) (.none rfl) rfl ?_
  refine AO.val (RV.nilCheck rfl) (.none rfl) rfl ?_
  refine AO.val (RV.fieldAddr rfl) (.none rfl) rfl ?_
  refine AO.val (by first | exact RV.loadO rfl rfl (by first | simp | assumption) | exact RV.loadF rfl (fun _ => rfl) (by omega) rfl rfl (by first | simp | assumption) | exact RV.loadF0 rfl (fun _ => rfl) (by omega) rfl rfl (by first | simp | assumption) | exact RV.loadS rfl (by assumption) (by omega) (by first | simp | assumption)) (.none rfl) rfl ?_
  refine AO.val (RV.move rfl) (.none rfl) rfl ?_
  refine AO.val (RV.indexS rfl rfl hss (by omega) rfl) (.none rfl) rfl ?_
  refine AO.effN (EF.storeR rfl rfl rfl rfl hs (by omega)) (.none rfl) ?_
  rintro _ _ ⟨w2, hw2, rfl⟩
  refine AO.nil ?_
  -- at 
  refine AK.perm (cards_perm1 ..) ?_
  refine AK.fin (h' := ((q, Blk.cells [.int .i64 N, .int .i64 (F + lget sps k), .slice Ai nn ci, .slice Ac nn cc, .slice Ag nn cg, .slice As nn cs] 51 (0, 0)) :: (wi ++ (wc ++ (wg ++ (w2 ++ h)))))) Try.func44 .nil ?_ (by first | exact SubO.sub | exact List.Sublist.refl _ | exact .cons _ (List.Sublist.refl _) | exact .cons _ (.cons _ (List.Sublist.refl _)) | exact .cons _ (.cons _ (.cons _ (List.Sublist.refl _))))
  refine ⟨w2, rfl, ?_⟩
  rw [show (lset sps k 0).map Pool.I64 = (sps.map Pool.I64).set k.toNat (.int .i64 0) by simp [lset, List.map_set]]; exact hw2

theorem cards_fill (B : World) (h : Own) (q : Nat) (N F : Int) (nn : Nat) {Ai Ac Ag As : Option Addr} {ci cc cg cs : Nat} (wi wc wg ws : Own) (ins sps : List Int) (cm gm : List Fr) (hi : Row 3 1 (.slice Ai nn ci) nn ((ins).map Pool.I64) wi) (hc : Row 27 1 (.slice Ac nn cc) nn ((cm).map frsV) wc) (hg : Row 27 1 (.slice Ag nn cg) nn ((gm).map frsV) wg) (hs : Row 3 1 (.slice As nn cs) nn ((sps).map Pool.I64) ws) (hN : 0 ≤ N ∧ N ≤ 64) (hF : 0 ≤ F ∧ F ≤ 1000) (k : Int) (hk : 0 ≤ k ∧ k < nn) (hin : 0 ≤ lget ins k ∧ lget ins k ≤ 64) (hcl : (lget cm k).l.length ≤ 64) (hle : lget ins k + (lget cm k).l.length ≤ N) : Tri Try.prog B 42 [.pointer (some ⟨q, 0, none⟩), .int .i64 k] ((q, Blk.cells [.int .i64 N, .int .i64 F, .slice Ai nn ci, .slice Ac nn cc, .slice Ag nn cg, .slice As nn cs] 51 (0, 0)) :: (wi ++ (wc ++ (wg ++ (ws ++ h))))) fun v h' => ∃ wi', h' = ((q, Blk.cells [.int .i64 N, .int .i64 (F - min (N - lget ins k - (lget cm k).l.length) F), .slice Ai nn ci, .slice Ac nn cc, .slice Ag nn cg, .slice As nn cs] 51 (0, 0)) :: (wi' ++ (wc ++ (wg ++ (ws ++ h))))) ∧ Row 3 1 (.slice Ai nn ci) nn ((lset ins k (lget ins k + min (N - lget ins k - (lget cm k).l.length) F)).map Pool.I64) wi' := by
  have hil : ins.length = nn := by have := hi.len; simpa using this
  have hsl : sps.length = nn := by have := hs.len; simpa using this
  have hcml : cm.length = nn := by have := hc.len; simpa using this
  have hgml : gm.length = nn := by have := hg.len; simpa using this
  have hsi : Src B wi Ai nn 1 (ins.map Pool.I64) := hi.src fun x hx => hx
  have hsc : Src B wc Ac nn 1 (cm.map frsV) := hc.src fun x hx => hx
  have hsg : Src B wg Ag nn 1 (gm.map frsV) := hg.src fun x hx => hx
  have hss : Src B ws As nn 1 (sps.map Pool.I64) := hs.src fun x hx => hx
  refine Tri.enter (n := 54) Try.func42 rfl rfl rfl ?_
  simp only [argsE, Nat.reduceAdd]
  try dsimp only [argsE]
  refine AK.block ?_
  refine AK.loop (α := Int × Own) (E := fun (j, w1) => [(0, .pointer (some ⟨q, 0, none⟩)), (1, .int .i64 k)]) (H := fun (j, w1) => ((q, Blk.cells [.int .i64 N, .int .i64 (F - j), .slice Ai nn ci, .slice Ac nn cc, .slice Ag nn cg, .slice As nn cs] 51 (0, 0)) :: (w1 ++ (wc ++ (wg ++ (ws ++ h)))))) (Inv := fun (j, w1) => 0 ≤ j ∧ j ≤ min (N - lget ins k - (lget cm k).l.length) F ∧ Row 3 1 (.slice Ai nn ci) nn (((lset ins k (lget ins k + j))).map Pool.I64) w1) (μ := fun (j, w1) => (F - j).toNat) (0, wi) ?_ (.cons (by exact rfl) (.cons (by exact rfl) .nil)) ?_ ?_
  · refine ⟨by omega, by omega, ?_⟩
    rw [show lset ins k (lget ins k + 0) = ins by rw [Int.add_zero]; exact lset_lget ⟨hk.1, by omega⟩]; exact hi
  · (try dsimp only)
    rw [Int.sub_zero]
    exact List.Sublist.refl _
  rintro ⟨j, w1⟩ ⟨hj0, hj1, hw1⟩ hih0
  try dsimp only at hih0 ⊢
  have h1s : Src B w1 Ai nn 1 ((lset ins k (lget ins k + j)).map Pool.I64) := hw1.src fun x hx => hx
  have hgj : lget (lset ins k (lget ins k + j)) k = lget ins k + j := by rw [lget_lset _ _ _ _ ⟨hk.1, by omega⟩ hk.1, if_pos rfl]
  have hjl : (lset ins k (lget ins k + j)).length = nn := by rw [lset_len]; exact hil
  refine AK.seq ?_
  refine AK.seq ?_
  refine AK.draw [] [] mixed ?_
  refine AD.takeP 0 rfl (by kernel_rfl) (RV.move rfl) (.none rfl) rfl ?_
  refine AD.takeP 1 rfl (by kernel_rfl) (RV.nilCheck rfl) (.none rfl) rfl ?_
  refine AD.takeP 2 rfl (by kernel_rfl) (RV.fieldAddr rfl) (.none rfl) rfl ?_
  refine AD.take 3 rfl (by kernel_rfl) (by first | exact RV.loadO rfl rfl (by first | simp | assumption) | exact RV.loadF rfl (fun _ => rfl) (by omega) rfl rfl (by first | simp | assumption) | exact RV.loadF0 rfl (fun _ => rfl) (by omega) rfl rfl (by first | simp | assumption) | exact RV.loadS rfl (by assumption) (by omega) (by first | simp | assumption)) (.none rfl) rfl ?_
  refine AD.takeP 4 rfl (by kernel_rfl) (RV.move rfl) (.none rfl) rfl ?_
  refine AD.takeP 5 rfl (by kernel_rfl) (RV.indexS rfl rfl h1s (by omega) rfl) (.none rfl) rfl ?_
  refine AD.take 6 rfl (by kernel_rfl) ((RV.loadS (enc := Pool.I64) (l := (lset ins k (lget ins k + j))) rfl h1s (by omega) (by simp)).to (v' := .int .i64 (lget ins k + j)) (by rw [hgj])) (.none rfl) rfl ?_
  refine AD.takeP 7 rfl (by kernel_rfl) (RV.move rfl) (.none rfl) rfl ?_
  refine AD.takeP 8 rfl (by kernel_rfl) (RV.nilCheck rfl) (.none rfl) rfl ?_
  refine AD.takeP 9 rfl (by kernel_rfl) (RV.fieldAddr rfl) (.none rfl) rfl ?_
  refine AD.take 10 rfl (by kernel_rfl) (by first | exact RV.loadO rfl rfl (by first | simp | assumption) | exact RV.loadF rfl (fun _ => rfl) (by omega) rfl rfl (by first | simp | assumption) | exact RV.loadF0 rfl (fun _ => rfl) (by omega) rfl rfl (by first | simp | assumption) | exact RV.loadS rfl (by assumption) (by omega) (by first | simp | assumption)) (.none rfl) rfl ?_
  refine AD.takeP 11 rfl (by kernel_rfl) (RV.move rfl) (.none rfl) rfl ?_
  refine AD.takeP 12 rfl (by kernel_rfl) (RV.indexS rfl rfl hsc (by omega) rfl) (.none rfl) rfl ?_
  refine AD.take 13 rfl (by kernel_rfl) (RV.loadS (enc := frsV) (l := cm) rfl hsc (by omega) (by simp)) (.none rfl) rfl ?_
  refine AD.takeP 14 rfl (by kernel_rfl) (RV.lenS rfl) (.none rfl) rfl ?_
  refine AD.takeP 15 rfl (by kernel_rfl) (by first | exact RV.addIn rfl rfl (by omega) | exact RV.add rfl rfl) (.none rfl) rfl ?_
  refine AD.takeP 16 rfl (by kernel_rfl) (RV.move rfl) (.none rfl) rfl ?_
  refine AD.takeP 17 rfl (by kernel_rfl) (RV.nilCheck rfl) (.none rfl) rfl ?_
  refine AD.takeP 18 rfl (by kernel_rfl) (RV.fieldAddr rfl) (.none rfl) rfl ?_
  refine AD.take 19 rfl (by kernel_rfl) (by first | exact RV.loadO rfl rfl (by first | simp | assumption) | exact RV.loadF rfl (fun _ => rfl) (by omega) rfl rfl (by first | simp | assumption) | exact RV.loadF0 rfl (fun _ => rfl) (by omega) rfl rfl (by first | simp | assumption) | exact RV.loadS rfl (by assumption) (by omega) (by first | simp | assumption)) (.none rfl) rfl ?_
  refine AD.takeP 20 rfl (by kernel_rfl) (RV.lss rfl rfl) (.none rfl) rfl ?_
  refine AD.takeP 21 rfl (by kernel_rfl) (RV.move rfl) (.none rfl) rfl ?_
  refine AD.caseG (d := 25) (j := 21) rfl rfl ?_ ?_
  · intro hg1
    try simp only [decide_eq_true_eq, decide_eq_false_iff_not, Bool.not_eq_true', Bool.not_eq_false', beq_iff_eq] at hg1
    refine AD.takeP 22 rfl (by kernel_rfl) (RV.move rfl) (.some rfl rfl rfl rfl) rfl ?_
    refine AD.takeP 23 rfl (by kernel_rfl) (RV.nilCheck rfl) (.some rfl rfl rfl rfl) rfl ?_
    refine AD.takeP 24 rfl (by kernel_rfl) (RV.fieldAddr rfl) (.some rfl rfl rfl rfl) rfl ?_
    refine AD.take 25 rfl (by kernel_rfl) (by first | exact RV.loadO rfl rfl (by first | simp | assumption) | exact RV.loadF rfl (fun _ => rfl) (by omega) rfl rfl (by first | simp | assumption) | exact RV.loadF0 rfl (fun _ => rfl) (by omega) rfl rfl (by first | simp | assumption) | exact RV.loadS rfl (by assumption) (by omega) (by first | simp | assumption)) (.some rfl rfl rfl rfl) rfl ?_
    refine AD.takeP 26 rfl (by kernel_rfl) (RV.gtr rfl rfl) (.some rfl rfl rfl rfl) rfl ?_
    refine AD.takeP 27 rfl (by kernel_rfl) (RV.pickT rfl rfl) (.none rfl) rfl ?_
    refine AD.done (by kernel_rfl) ?_
    refine AK.cond rfl ?_ ?_
    · intro hc2
      try simp only [decide_eq_true_eq, decide_eq_false_iff_not, Bool.not_eq_true', Bool.not_eq_false', beq_iff_eq] at hc2
      refine AK.skip ?_
      refine AK.block ?_
      refine AK.seq ?_
      refine AK.draw [] [14] mixed ?_
      refine AD.takeP 0 rfl (by kernel_rfl) (RV.move rfl) (.none rfl) rfl ?_
      refine AD.takeP 1 rfl (by kernel_rfl) (RV.nilCheck rfl) (.none rfl) rfl ?_
      refine AD.takeP 2 rfl (by kernel_rfl) (RV.fieldAddr rfl) (.none rfl) rfl ?_
      refine AD.take 3 rfl (by kernel_rfl) (by first | exact RV.loadO rfl rfl (by first | simp | assumption) | exact RV.loadF rfl (fun _ => rfl) (by omega) rfl rfl (by first | simp | assumption) | exact RV.loadF0 rfl (fun _ => rfl) (by omega) rfl rfl (by first | simp | assumption) | exact RV.loadS rfl (by assumption) (by omega) (by first | simp | assumption)) (.none rfl) rfl ?_
      refine AD.takeP 4 rfl (by kernel_rfl) (RV.move rfl) (.none rfl) rfl ?_
      refine AD.takeP 5 rfl (by kernel_rfl) (RV.move rfl) (.none rfl) rfl ?_
      refine AD.takeP 6 rfl (by kernel_rfl) (RV.nilCheck rfl) (.none rfl) rfl ?_
      refine AD.takeP 7 rfl (by kernel_rfl) (RV.fieldAddr rfl) (.none rfl) rfl ?_
      refine AD.take 8 rfl (by kernel_rfl) (by first | exact RV.loadO rfl rfl (by first | simp | assumption) | exact RV.loadF rfl (fun _ => rfl) (by omega) rfl rfl (by first | simp | assumption) | exact RV.loadF0 rfl (fun _ => rfl) (by omega) rfl rfl (by first | simp | assumption) | exact RV.loadS rfl (by assumption) (by omega) (by first | simp | assumption)) (.none rfl) rfl ?_
      refine AD.takeP 9 rfl (by kernel_rfl) (RV.move rfl) (.none rfl) rfl ?_
      refine AD.takeP 10 rfl (by kernel_rfl) (RV.indexS rfl rfl h1s (by omega) rfl) (.none rfl) rfl ?_
      refine AD.take 11 rfl (by kernel_rfl) ((RV.loadS (enc := Pool.I64) (l := (lset ins k (lget ins k + j))) rfl h1s (by omega) (by simp)).to (v' := .int .i64 (lget ins k + j)) (by rw [hgj])) (.none rfl) rfl ?_
      refine AD.takeP 12 rfl (by kernel_rfl) (by first | exact RV.addIn rfl rfl (by omega) | exact RV.add rfl rfl) (.none rfl) rfl ?_
      refine AD.takeP 13 rfl (by kernel_rfl) (RV.indexS rfl rfl h1s (by omega) rfl) (.none rfl) rfl ?_
      refine AD.one 14 (by kernel_rfl) (AE.effN rfl (EF.storeR rfl rfl rfl rfl hw1 (by omega)) (.none rfl) ?_)
      rintro _ _ ⟨w2, hw2, rfl⟩
      refine ⟨.inl (by kernel_rfl), ?_⟩
      refine AD.done (by kernel_rfl) ?_
      refine AK.region ?_
      refine AO.val (RV.move rfl) (.none rfl) rfl ?_
      refine AO.val (RV.move rfl) (.none rfl) rfl ?_
      refine AO.val (RV.nilCheck rfl) (.none rfl) rfl ?_
      refine AO.val (RV.fieldAddr rfl) (.none rfl) rfl ?_
      refine AO.val (by first | exact RV.loadO rfl rfl (by first | simp | assumption) | exact RV.loadF rfl (fun _ => rfl) (by omega) rfl rfl (by first | simp | assumption) | exact RV.loadF0 rfl (fun _ => rfl) (by omega) rfl rfl (by first | simp | assumption) | exact RV.loadS rfl (by assumption) (by omega) (by first | simp | assumption)) (.none rfl) rfl ?_
      refine AO.val (by first | exact RV.subIn rfl rfl (by omega) | exact RV.sub rfl rfl) (.none rfl) rfl ?_
      refine AO.val (RV.nilCheck rfl) (.none rfl) rfl ?_
      refine AO.val (RV.fieldAddr rfl) (.none rfl) rfl ?_
      refine AO.effN (EF.storeO rfl rfl rfl rfl rfl rfl) (.none rfl) ?_
      rintro _ _ rfl
      refine AO.nil ?_
      refine AK.inBlock ?_
      -- round ends at L0tT
      refine AK.perm List.perm_middle ?_
      refine AK.weak (.cons (by exact rfl) (.cons (by exact rfl) .nil)) (by (try dsimp only); rw [show F - (j + 1) = F - j - 1 by omega]; exact List.Sublist.refl _) (hih0 (j + 1, w2) ?_ ?_)
      · try dsimp only
        refine ⟨by omega, by omega, ?_⟩
        rw [show (lset ins k (lget ins k + (j + 1))).map Pool.I64 = ((lset ins k (lget ins k + j)).map Pool.I64).set k.toNat (.int .i64 (lget ins k + j + 1)) by simp [lset, List.map_set, Int.add_assoc]]; exact hw2
      · try dsimp only
        omega
    · intro hc2
      try simp only [decide_eq_true_eq, decide_eq_false_iff_not, Bool.not_eq_true', Bool.not_eq_false', beq_iff_eq] at hc2
      refine AK.exit rfl ?_
      -- at L0tF
      clear hih0
      refine AK.fin (h' := ((q, Blk.cells [.int .i64 N, .int .i64 (F - j), .slice Ai nn ci, .slice Ac nn cc, .slice Ag nn cg, .slice As nn cs] 51 (0, 0)) :: (w1 ++ (wc ++ (wg ++ (ws ++ h)))))) Try.func42 .nil ?_ (by first | exact SubO.sub | exact List.Sublist.refl _ | exact .cons _ (List.Sublist.refl _) | exact .cons _ (.cons _ (List.Sublist.refl _)) | exact .cons _ (.cons _ (.cons _ (List.Sublist.refl _))))
      have e : j = min (N - lget ins k - (lget cm k).l.length) F := by omega
      subst e
      exact ⟨w1, rfl, hw1⟩
  · intro hg1
    try simp only [decide_eq_true_eq, decide_eq_false_iff_not, Bool.not_eq_true', Bool.not_eq_false', beq_iff_eq] at hg1
    refine AD.pass 22 rfl (by kernel_rfl) (.some rfl rfl rfl rfl) rfl ?_
    refine AD.pass 23 rfl (by kernel_rfl) (.some rfl rfl rfl rfl) rfl ?_
    refine AD.pass 24 rfl (by kernel_rfl) (.some rfl rfl rfl rfl) rfl ?_
    refine AD.pass 25 rfl (by kernel_rfl) (.some rfl rfl rfl rfl) rfl ?_
    refine AD.pass 26 rfl (by kernel_rfl) (.some rfl rfl rfl rfl) rfl ?_
    refine AD.takeP 27 rfl (by kernel_rfl) (RV.pickF rfl rfl) (.none rfl) rfl ?_
    refine AD.done (by kernel_rfl) ?_
    refine AK.condF rfl ?_
    refine AK.exit rfl ?_
    -- at L0f
    clear hih0
    refine AK.fin (h' := ((q, Blk.cells [.int .i64 N, .int .i64 (F - j), .slice Ai nn ci, .slice Ac nn cc, .slice Ag nn cg, .slice As nn cs] 51 (0, 0)) :: (w1 ++ (wc ++ (wg ++ (ws ++ h)))))) Try.func42 .nil ?_ (by first | exact SubO.sub | exact List.Sublist.refl _ | exact .cons _ (List.Sublist.refl _) | exact .cons _ (.cons _ (List.Sublist.refl _)) | exact .cons _ (.cons _ (.cons _ (List.Sublist.refl _))))
    have e : j = min (N - lget ins k - (lget cm k).l.length) F := by omega
    subst e
    exact ⟨w1, rfl, hw1⟩

theorem cards_arrive (B : World) (h : Own) (q : Nat) (N F : Int) (nn : Nat) {Ai Ac Ag As : Option Addr} {ci cc cg cs : Nat} (wi wc wg ws : Own) (ins sps : List Int) (cm gm : List Fr) (hi : Row 3 1 (.slice Ai nn ci) nn ((ins).map Pool.I64) wi) (hc : Row 27 1 (.slice Ac nn cc) nn ((cm).map frsV) wc) (hg : Row 27 1 (.slice Ag nn cg) nn ((gm).map frsV) wg) (hs : Row 3 1 (.slice As nn cs) nn ((sps).map Pool.I64) ws) (hN : 0 ≤ N ∧ N ≤ 64) (hF : 0 ≤ F ∧ F ≤ 1000) (k : Int) (hk : 0 ≤ k ∧ k < nn) (hin : 0 ≤ lget ins k ∧ lget ins k ≤ 64) (hcl : (lget cm k).l.length ≤ 64) (D : Own) (hD : ∀ x ∈ D, x ∈ h) (L G : List (List Int)) (hfc : FC B D (lget cm k) L) {A : Option Addr} {cap : Nat} (l : List Int) (hl : Src B h A l.length 1 (l.map (fun x => Value.int .u8 x))) (hln : l.length ≤ 9223372036854775807) : Tri Try.prog B 18 [.pointer (some ⟨q, 0, none⟩), .int .i64 k, .slice A l.length cap] ((q, Blk.cells [.int .i64 N, .int .i64 F, .slice Ai nn ci, .slice Ac nn cc, .slice Ag nn cg, .slice As nn cs] 51 (0, 0)) :: (wi ++ (wc ++ (wg ++ (ws ++ h))))) fun v h' => ∃ wi' wc' part x, h' = ((q, Blk.cells [.int .i64 N, .int .i64 F, .slice Ai nn ci, .slice Ac nn cc, .slice Ag nn cg, .slice As nn cs] 51 (0, 0)) :: (wi' ++ (wc' ++ (wg ++ (ws ++ (part ++ h)))))) ∧ v = .int .i64 (arriveA ⟨lget ins k, L, G, lget sps k⟩ l).2 ∧ Row 3 1 (.slice Ai nn ci) nn ((lset ins k (arriveA ⟨lget ins k, L, G, lget sps k⟩ l).1.inN).map Pool.I64) wi' ∧ Row 27 1 (.slice Ac nn cc) nn ((lset cm k x).map frsV) wc' ∧ FC B (part ++ D) x (arriveA ⟨lget ins k, L, G, lget sps k⟩ l).1.came := by
  have hil : ins.length = nn := by have := hi.len; simpa using this
  have hsl : sps.length = nn := by have := hs.len; simpa using this
  have hcml : cm.length = nn := by have := hc.len; simpa using this
  have hgml : gm.length = nn := by have := hg.len; simpa using this
  have hsi : Src B wi Ai nn 1 (ins.map Pool.I64) := hi.src fun x hx => hx
  have hsc : Src B wc Ac nn 1 (cm.map frsV) := hc.src fun x hx => hx
  have hsg : Src B wg Ag nn 1 (gm.map frsV) := hg.src fun x hx => hx
  have hss : Src B ws As nn 1 (sps.map Pool.I64) := hs.src fun x hx => hx
  refine Tri.enter (n := 54) Try.func18 rfl rfl rfl ?_
  simp only [argsE, Nat.reduceAdd]
  try dsimp only [argsE]
  refine AK.seq ?_
  refine AK.region ?_
  refine AO.val (RV.assign rfl) (.none rfl) rfl ?_
  refine AO.nil ?_
  refine AK.seq ?_
  refine AK.seq ?_
  refine AK.region ?_
  refine AO.val (RV.move rfl) (.none rfl) rfl ?_
  refine AO.val (RV.lenS rfl) (.none rfl) rfl ?_
  refine AO.val (RV.gtr rfl rfl) (.none rfl) rfl ?_
  refine AO.nil ?_
  refine AK.cond rfl ?_ ?_
  · intro hc1
    try simp only [decide_eq_true_eq, decide_eq_false_iff_not, Bool.not_eq_true', Bool.not_eq_false', beq_iff_eq] at hc1
    refine AK.seq ?_
    refine AK.region ?_
    refine AO.val (RV.assign rfl) (.none rfl) rfl ?_
    refine AO.nil ?_
    -- at T
    refine AK.ret (h' := ((q, Blk.cells [.int .i64 N, .int .i64 F, .slice Ai nn ci, .slice Ac nn cc, .slice Ag nn cg, .slice As nn cs] 51 (0, 0)) :: (wi ++ (wc ++ (wg ++ (ws ++ h)))))) Try.func18 (.tmp rfl .nil) ?_ (by first | exact SubO.sub | exact List.Sublist.refl _ | exact .cons _ (List.Sublist.refl _) | exact .cons _ (.cons _ (List.Sublist.refl _)) | exact .cons _ (.cons _ (.cons _ (List.Sublist.refl _))))
    have e : (arriveA ⟨lget ins k, L, G, lget sps k⟩ l) = (⟨lget ins k, L, G, lget sps k⟩, 14) := by simp only [arriveA]; rw [if_pos (by omega)]
    rw [e]
    exact ⟨wi, wc, [], lget cm k, rfl, rfl, by rw [show lset ins k (lget ins k) = ins from lset_lget ⟨hk.1, by omega⟩]; exact hi, by rw [lset_lget ⟨hk.1, by omega⟩]; exact hc, hfc⟩
  · intro hc1
    try simp only [decide_eq_true_eq, decide_eq_false_iff_not, Bool.not_eq_true', Bool.not_eq_false', beq_iff_eq] at hc1
    refine AK.skip ?_
    refine AK.seq ?_
    refine AK.seq ?_
    refine AK.region ?_
    refine AO.val (RV.move rfl) (.none rfl) rfl ?_
    refine AO.val (RV.nilCheck rfl) (.none rfl) rfl ?_
    refine AO.val (RV.fieldAddr rfl) (.none rfl) rfl ?_
    refine AO.val (by first | exact RV.loadO rfl rfl (by first | simp | assumption) | exact RV.loadF rfl (fun _ => rfl) (by omega) rfl rfl (by first | simp | assumption) | exact RV.loadF0 rfl (fun _ => rfl) (by omega) rfl rfl (by first | simp | assumption) | exact RV.loadS rfl (by assumption) (by omega) (by first | simp | assumption)) (.none rfl) rfl ?_
    refine AO.val (RV.move rfl) (.none rfl) rfl ?_
    refine AO.val (RV.indexS rfl rfl hsi (by omega) rfl) (.none rfl) rfl ?_
    refine AO.val (RV.loadS (enc := Pool.I64) (l := ins) rfl hsi (by omega) (by simp)) (.none rfl) rfl ?_
    refine AO.val (RV.eql rfl rfl) (.none rfl) rfl ?_
    refine AO.nil ?_
    refine AK.cond rfl ?_ ?_
    · intro hc2
      try simp only [decide_eq_true_eq, decide_eq_false_iff_not, Bool.not_eq_true', Bool.not_eq_false', beq_iff_eq] at hc2
      refine AK.seq ?_
      refine AK.region ?_
      refine AO.val (RV.assign rfl) (.none rfl) rfl ?_
      refine AO.nil ?_
      -- at FT
      refine AK.ret (h' := ((q, Blk.cells [.int .i64 N, .int .i64 F, .slice Ai nn ci, .slice Ac nn cc, .slice Ag nn cg, .slice As nn cs] 51 (0, 0)) :: (wi ++ (wc ++ (wg ++ (ws ++ h)))))) Try.func18 (.tmp rfl .nil) ?_ (by first | exact SubO.sub | exact List.Sublist.refl _ | exact .cons _ (List.Sublist.refl _) | exact .cons _ (.cons _ (List.Sublist.refl _)) | exact .cons _ (.cons _ (.cons _ (List.Sublist.refl _))))
      have e : (arriveA ⟨lget ins k, L, G, lget sps k⟩ l) = (⟨lget ins k, L, G, lget sps k⟩, 7) := by simp only [arriveA]; rw [if_neg (by omega), if_pos (by omega)]
      rw [e]
      exact ⟨wi, wc, [], lget cm k, rfl, rfl, by rw [show lset ins k (lget ins k) = ins from lset_lget ⟨hk.1, by omega⟩]; exact hi, by rw [lset_lget ⟨hk.1, by omega⟩]; exact hc, hfc⟩
    · intro hc2
      try simp only [decide_eq_true_eq, decide_eq_false_iff_not, Bool.not_eq_true', Bool.not_eq_false', beq_iff_eq] at hc2
      refine AK.skip ?_
      refine AK.seq ?_
      refine AK.draw [] [14] mixed ?_
      refine AD.takeP 0 rfl (by kernel_rfl) (RV.move rfl) (.none rfl) rfl ?_
      refine AD.takeP 1 rfl (by kernel_rfl) (RV.nilCheck rfl) (.none rfl) rfl ?_
      refine AD.takeP 2 rfl (by kernel_rfl) (RV.fieldAddr rfl) (.none rfl) rfl ?_
      refine AD.take 3 rfl (by kernel_rfl) (by first | exact RV.loadO rfl rfl (by first | simp | assumption) | exact RV.loadF rfl (fun _ => rfl) (by omega) rfl rfl (by first | simp | assumption) | exact RV.loadF0 rfl (fun _ => rfl) (by omega) rfl rfl (by first | simp | assumption) | exact RV.loadS rfl (by assumption) (by omega) (by first | simp | assumption)) (.none rfl) rfl ?_
      refine AD.takeP 4 rfl (by kernel_rfl) (RV.move rfl) (.none rfl) rfl ?_
      refine AD.takeP 5 rfl (by kernel_rfl) (RV.move rfl) (.none rfl) rfl ?_
      refine AD.takeP 6 rfl (by kernel_rfl) (RV.nilCheck rfl) (.none rfl) rfl ?_
      refine AD.takeP 7 rfl (by kernel_rfl) (RV.fieldAddr rfl) (.none rfl) rfl ?_
      refine AD.take 8 rfl (by kernel_rfl) (by first | exact RV.loadO rfl rfl (by first | simp | assumption) | exact RV.loadF rfl (fun _ => rfl) (by omega) rfl rfl (by first | simp | assumption) | exact RV.loadF0 rfl (fun _ => rfl) (by omega) rfl rfl (by first | simp | assumption) | exact RV.loadS rfl (by assumption) (by omega) (by first | simp | assumption)) (.none rfl) rfl ?_
      refine AD.takeP 9 rfl (by kernel_rfl) (RV.move rfl) (.none rfl) rfl ?_
      refine AD.takeP 10 rfl (by kernel_rfl) (RV.indexS rfl rfl hsi (by omega) rfl) (.none rfl) rfl ?_
      refine AD.take 11 rfl (by kernel_rfl) (RV.loadS (enc := Pool.I64) (l := ins) rfl hsi (by omega) (by simp)) (.none rfl) rfl ?_
      refine AD.takeP 12 rfl (by kernel_rfl) (by first | exact RV.subIn rfl rfl (by omega) | exact RV.sub rfl rfl) (.none rfl) rfl ?_
      refine AD.takeP 13 rfl (by kernel_rfl) (RV.indexS rfl rfl hsi (by omega) rfl) (.none rfl) rfl ?_
      refine AD.one 14 (by kernel_rfl) (AE.effN rfl (EF.storeR rfl rfl rfl rfl hi (by omega)) (.none rfl) ?_)
      rintro _ _ ⟨w2, hw2, rfl⟩
      refine ⟨.inl (by kernel_rfl), ?_⟩
      refine AD.done (by kernel_rfl) ?_
      refine AK.seq ?_
      refine AK.region ?_
      refine AO.eff (EF.buildSeq [] rfl rfl rfl rfl) (.none rfl) rfl ?_
      rintro _ _ ⟨b33, hf33, rfl, rfl⟩
      refine AO.val (RV.assign rfl) (.none rfl) rfl ?_
      refine AO.nil ?_
      refine AK.seq ?_
      refine AK.region ?_
      refine AO.val (RV.move rfl) (.none rfl) rfl ?_
      refine AO.val (RV.move rfl) (.none rfl) rfl ?_
      refine AO.val (RV.nilCheck rfl) (.none rfl) rfl ?_
      refine AO.val (RV.fieldAddr rfl) (.none rfl) rfl ?_
      refine AO.val (by first | exact RV.loadO rfl rfl (by first | simp | assumption) | exact RV.loadF rfl (fun _ => rfl) (by omega) rfl rfl (by first | simp | assumption) | exact RV.loadF0 rfl (fun _ => rfl) (by omega) rfl rfl (by first | simp | assumption) | exact RV.loadS rfl (by assumption) (by omega) (by first | simp | assumption)) (.none rfl) rfl ?_
      refine AO.val (RV.move rfl) (.none rfl) rfl ?_
      refine AO.val (RV.indexS rfl rfl hsc (by omega) rfl) (.none rfl) rfl ?_
      refine AO.val (RV.loadS (enc := frsV) (l := cm) rfl hsc (by omega) (by simp)) (.none rfl) rfl ?_
      refine AO.eff (EF.appendS (n' := (lget cm k).l.length) (ys := (lget cm k).l.map frV) rfl rfl (Row.new (cs := []) rfl) (hfc.src.mono fun x hx => by simp [hD x hx]) (Nat.zero_add _).symm rfl rfl (by decide) (by simp [Value.oneCell']) (by omega) (by omega)) (.none rfl) rfl ?_
      rintro _ _ ⟨A42, c42, p42, rfl, hr42, hc42, rfl⟩
      refine Nic.AO.nodup fun hnd => ?_
      obtain ⟨M42, hM42, hq42⟩ : ∃ M, M = p42.map (·.1) ∧ q ∉ M := ⟨_, rfl, part_ne hnd⟩
      refine AO.val (RV.assign rfl) (.none rfl) rfl ?_
      refine AO.nil ?_
      refine AK.seq ?_
      refine AK.draw (M42) [11] mixed ?_
      refine AD.takeP 0 rfl (by kernel_rfl) (RV.move rfl) (.none rfl) rfl ?_
      refine AD.takeP 1 rfl (by kernel_rfl) (RV.nilCheck rfl) (.none rfl) rfl ?_
      refine AD.takeP 2 rfl (by kernel_rfl) (RV.fieldAddr rfl) (.none rfl) rfl ?_
      refine AD.take 3 rfl (by kernel_rfl) (by first | exact RV.loadO rfl rfl (by first | simp | assumption) | exact RV.loadF rfl (fun _ => rfl) (by omega) rfl rfl (by first | simp | assumption) | exact RV.loadF0 rfl (fun _ => rfl) (by omega) rfl rfl (by first | simp | assumption) | exact RV.loadS rfl (by assumption) (by omega) (by first | simp | assumption)) (.none rfl) rfl ?_
      refine AD.takeP 4 rfl (by kernel_rfl) (RV.move rfl) (.none rfl) rfl ?_
      refine AD.takeP 5 rfl (by kernel_rfl) (RV.move rfl) (.none rfl) rfl ?_
      refine AD.takeP 6 rfl (by kernel_rfl) (RV.move rfl) (.none rfl) rfl ?_
      refine AD.one 7 (by kernel_rfl) (AE.eff rfl (EF.callF rfl ((add_spec (A2 := none) (cap2 := 0) B _ l [] (hl.mono fun x hx => by simp [hx]) ⟨rfl, by simp⟩ (by simp; omega)).mono fun v h2 r => r.to (n' := l.length) (ys := l.map (fun x => Value.int .u8 x)) (by simp) (by simp))) (.none rfl) rfl ?_)
      rintro _ _ ⟨A50, c50, p50, rfl, hr50, hc50, rfl⟩
      refine ⟨(by first | exact .inr fun x hx hM => hx | exact .inr fun x hx hM => List.mem_cons_of_mem _ hx | exact .inr fun x hx hM => List.mem_append_right _ hx | exact .inr fun x hx hM => keep_app hx (by rw [hM42] at hM; exact hM)), ?_⟩
      refine AD.one 8 (by kernel_rfl) (AE.eff rfl (EF.buildSeq [.slice A50 l.length c50] rfl rfl rfl rfl) (.none rfl) rfl ?_)
      rintro _ _ ⟨b51, hf51, rfl, rfl⟩
      refine ⟨(by first | exact .inr fun x hx hM => hx | exact .inr fun x hx hM => List.mem_cons_of_mem _ hx | exact .inr fun x hx hM => List.mem_append_right _ hx | exact .inr fun x hx hM => keep_app hx (by rw [hM42] at hM; exact hM)), ?_⟩
      refine AD.one 9 (by kernel_rfl) (AE.eff rfl (EF.appendS (n' := ((lget cm k).l ++ [(⟨A50, c50, l⟩ : InS Int)]).length) (ys := ((lget cm k).l ++ [(⟨A50, c50, l⟩ : InS Int)]).map frV) rfl rfl hr42 (Src.of_new (el := 28) (cs := [.slice A50 l.length c50]) (by simp) 1 1 (Nat.le_refl _)) (by simp) (by simp) rfl (by decide) rfl (by omega) (by omega)) (.none rfl) rfl ?_)
      rintro _ _ ⟨A52, c52, p52, rfl, hr52, hc52, rfl⟩
      refine ⟨(by first | exact .inr fun x hx hM => hx | exact .inr fun x hx hM => List.mem_cons_of_mem _ hx | exact .inr fun x hx hM => List.mem_append_right _ hx | exact .inr fun x hx hM => keep_app hx (by rw [hM42] at hM; exact hM)), ?_⟩
      refine AD.takeP 10 rfl (by kernel_rfl) (RV.indexS rfl rfl hsc (by omega) rfl) (.none rfl) rfl ?_
      refine AD.one 11 (by kernel_rfl) (AE.effN rfl (EF.storeR rfl rfl rfl rfl hc (by omega)) (.none rfl) ?_)
      rintro _ _ ⟨w3, hw3, rfl⟩
      refine ⟨.inl (by kernel_rfl), ?_⟩
      refine AD.done (by kernel_rfl) ?_
      refine AK.seq ?_
      refine AK.region ?_
      refine AO.val (RV.assign rfl) (.none rfl) rfl ?_
      refine AO.nil ?_
      -- at FF
      refine AK.perm (cards_perm2 ..) ?_
      refine AK.ret (h' := ((q, Blk.cells [.int .i64 N, .int .i64 F, .slice Ai nn ci, .slice Ac nn cc, .slice Ag nn cg, .slice As nn cs] 51 (0, 0)) :: (w2 ++ (w3 ++ (wg ++ (ws ++ ((p52 ++ p50) ++ h))))))) Try.func18 (.tmp rfl .nil) ?_ (List.sublist_cons_self _ _)
      have e : (arriveA ⟨lget ins k, L, G, lget sps k⟩ l) = (⟨lget ins k - 1, L ++ [l], G, lget sps k⟩, 0) := by simp only [arriveA]; rw [if_neg (by omega), if_neg (by omega)]
      rw [e]
      refine ⟨w2, w3, p52 ++ p50, (⟨A52, c52, (lget cm k).l ++ [(⟨A50, c50, l⟩ : InS Int)]⟩ : Fr), rfl, rfl, ?_, ?_, ?_⟩
      · rw [set_map]; exact hw2
      · rw [set_map]; exact hw3
      · exact hfc.push (A := A52) (c := c52) (y := (⟨A50, c50, l⟩ : InS Int)) (fun x hx => List.mem_append_right _ hx) (hr50.src fun x hx => by simp [hx]) (hr52.src fun x hx => by simp [hx]) hc52

theorem cards_send (B : World) (h : Own) (q : Nat) (N F : Int) (nn : Nat) {Ai Ac Ag As : Option Addr} {ci cc cg cs : Nat} (wi wc wg ws : Own) (ins sps : List Int) (cm gm : List Fr) (hi : Row 3 1 (.slice Ai nn ci) nn ((ins).map Pool.I64) wi) (hc : Row 27 1 (.slice Ac nn cc) nn ((cm).map frsV) wc) (hg : Row 27 1 (.slice Ag nn cg) nn ((gm).map frsV) wg) (hs : Row 3 1 (.slice As nn cs) nn ((sps).map Pool.I64) ws) (hN : 0 ≤ N ∧ N ≤ 64) (hF : 0 ≤ F ∧ F ≤ 1000) (k : Int) (hk : 0 ≤ k ∧ k < nn) (M : Nat) (hM : (M : Int) = N) (hsp : 0 ≤ lget sps k ∧ lget sps k ≤ 64) (hgl : (lget gm k).l.length ≤ 64) (hF2 : F ≤ 256) (D : Own) (hD : ∀ x ∈ D, x ∈ h) (L G : List (List Int)) (hfc : FC B D (lget gm k) G) {A : Option Addr} {cap : Nat} (l : List Int) (hl : Src B h A l.length 1 (l.map (fun x => Value.int .u8 x))) (hln : l.length ≤ 9223372036854775807) : Tri Try.prog B 20 [.pointer (some ⟨q, 0, none⟩), .int .i64 k, .slice A l.length cap] ((q, Blk.cells [.int .i64 N, .int .i64 F, .slice Ai nn ci, .slice Ac nn cc, .slice Ag nn cg, .slice As nn cs] 51 (0, 0)) :: (wi ++ (wc ++ (wg ++ (ws ++ h))))) fun v h' => ∃ wg' ws' part x, h' = ((q, Blk.cells [.int .i64 N, .int .i64 (sendA M ⟨lget ins k, L, G, lget sps k⟩ F l).1.2, .slice Ai nn ci, .slice Ac nn cc, .slice Ag nn cg, .slice As nn cs] 51 (0, 0)) :: (wi ++ (wc ++ (wg' ++ (ws' ++ (part ++ h)))))) ∧ v = .int .i64 (sendA M ⟨lget ins k, L, G, lget sps k⟩ F l).2 ∧ Row 27 1 (.slice Ag nn cg) nn ((lset gm k x).map frsV) wg' ∧ Row 3 1 (.slice As nn cs) nn ((lset sps k 0).map Pool.I64) ws' ∧ FC B (part ++ D) x (sendA M ⟨lget ins k, L, G, lget sps k⟩ F l).1.1.goes := by
  have hil : ins.length = nn := by have := hi.len; simpa using this
  have hsl : sps.length = nn := by have := hs.len; simpa using this
  have hcml : cm.length = nn := by have := hc.len; simpa using this
  have hgml : gm.length = nn := by have := hg.len; simpa using this
  have hsi : Src B wi Ai nn 1 (ins.map Pool.I64) := hi.src fun x hx => hx
  have hsc : Src B wc Ac nn 1 (cm.map frsV) := hc.src fun x hx => hx
  have hsg : Src B wg Ag nn 1 (gm.map frsV) := hg.src fun x hx => hx
  have hss : Src B ws As nn 1 (sps.map Pool.I64) := hs.src fun x hx => hx
  refine Tri.enter (n := 61) Try.func20 rfl rfl rfl ?_
  simp only [argsE, Nat.reduceAdd]
  try dsimp only [argsE]
  refine AK.seq ?_
  refine AK.region ?_
  refine AO.val (RV.assign rfl) (.none rfl) rfl ?_
  refine AO.nil ?_
  refine AK.seq ?_
  refine AK.region ?_
  refine AO.val (RV.move rfl) (.none rfl) rfl ?_
  refine AO.val (RV.move rfl) (.none rfl) rfl ?_
  refine AO.eff (EF.callF rfl (cards_reap B h q N F nn wi wc wg ws ins sps cm gm hi hc hg hs hN (by omega) k hk hsp)) (.none rfl) rfl ?_
  rintro _ _ ⟨ws1, rfl, hs1⟩
  refine AO.nil ?_
  refine AK.seq ?_
  refine AK.seq ?_
  refine AK.region ?_
  refine AO.val (RV.move rfl) (.none rfl) rfl ?_
  refine AO.val (RV.lenS rfl) (.none rfl) rfl ?_
  refine AO.val (RV.gtr rfl rfl) (.none rfl) rfl ?_
  refine AO.nil ?_
  refine AK.cond rfl ?_ ?_
  · intro hc1
    try simp only [decide_eq_true_eq, decide_eq_false_iff_not, Bool.not_eq_true', Bool.not_eq_false', beq_iff_eq] at hc1
    refine AK.seq ?_
    refine AK.region ?_
    refine AO.val (RV.assign rfl) (.none rfl) rfl ?_
    refine AO.nil ?_
    -- at T
    refine AK.ret (h' := ((q, Blk.cells [.int .i64 N, .int .i64 (F + lget sps k), .slice Ai nn ci, .slice Ac nn cc, .slice Ag nn cg, .slice As nn cs] 51 (0, 0)) :: (wi ++ (wc ++ (wg ++ (ws1 ++ h)))))) Try.func20 (.tmp rfl .nil) ?_ (by first | exact SubO.sub | exact List.Sublist.refl _ | exact .cons _ (List.Sublist.refl _) | exact .cons _ (.cons _ (List.Sublist.refl _)) | exact .cons _ (.cons _ (.cons _ (List.Sublist.refl _))))
    have e : (sendA M ⟨lget ins k, L, G, lget sps k⟩ F l) = ((⟨lget ins k, L, G, 0⟩, F + lget sps k), 14) := by simp only [sendA, reapA]; rw [if_pos (by omega)]
    rw [e]
    exact ⟨wg, ws1, [], lget gm k, rfl, rfl, by rw [lset_lget ⟨hk.1, by omega⟩]; exact hg, hs1, hfc⟩
  · intro hc1
    try simp only [decide_eq_true_eq, decide_eq_false_iff_not, Bool.not_eq_true', Bool.not_eq_false', beq_iff_eq] at hc1
    have hgG := hfc.len
    refine AK.skip ?_
    refine AK.seq ?_
    refine AK.seq ?_
    refine AK.draw [] [] mixed ?_
    refine AD.takeP 0 rfl (by kernel_rfl) (RV.move rfl) (.none rfl) rfl ?_
    refine AD.takeP 1 rfl (by kernel_rfl) (RV.nilCheck rfl) (.none rfl) rfl ?_
    refine AD.takeP 2 rfl (by kernel_rfl) (RV.fieldAddr rfl) (.none rfl) rfl ?_
    refine AD.take 3 rfl (by kernel_rfl) (by first | exact RV.loadO rfl rfl (by first | simp | assumption) | exact RV.loadF rfl (fun _ => rfl) (by omega) rfl rfl (by first | simp | assumption) | exact RV.loadF0 rfl (fun _ => rfl) (by omega) rfl rfl (by first | simp | assumption) | exact RV.loadS rfl (by assumption) (by omega) (by first | simp | assumption)) (.none rfl) rfl ?_
    refine AD.takeP 4 rfl (by kernel_rfl) (RV.move rfl) (.none rfl) rfl ?_
    refine AD.takeP 5 rfl (by kernel_rfl) (RV.indexS rfl rfl hsg (by omega) rfl) (.none rfl) rfl ?_
    refine AD.take 6 rfl (by kernel_rfl) (RV.loadS (enc := frsV) (l := gm) rfl hsg (by omega) (by simp)) (.none rfl) rfl ?_
    refine AD.takeP 7 rfl (by kernel_rfl) (RV.lenS rfl) (.none rfl) rfl ?_
    refine AD.takeP 8 rfl (by kernel_rfl) (RV.move rfl) (.none rfl) rfl ?_
    refine AD.takeP 9 rfl (by kernel_rfl) (RV.nilCheck rfl) (.none rfl) rfl ?_
    refine AD.takeP 10 rfl (by kernel_rfl) (RV.fieldAddr rfl) (.none rfl) rfl ?_
    refine AD.take 11 rfl (by kernel_rfl) (by first | exact RV.loadO rfl rfl (by first | simp | assumption) | exact RV.loadF rfl (fun _ => rfl) (by omega) rfl rfl (by first | simp | assumption) | exact RV.loadF0 rfl (fun _ => rfl) (by omega) rfl rfl (by first | simp | assumption) | exact RV.loadS rfl (by assumption) (by omega) (by first | simp | assumption)) (.none rfl) rfl ?_
    refine AD.takeP 12 rfl (by kernel_rfl) (RV.geq rfl rfl) (.none rfl) rfl ?_
    refine AD.done (by kernel_rfl) ?_
    refine AK.cond rfl ?_ ?_
    · intro hc2
      try simp only [decide_eq_true_eq, decide_eq_false_iff_not, Bool.not_eq_true', Bool.not_eq_false', beq_iff_eq] at hc2
      have hgG := hfc.len
      refine AK.seq ?_
      refine AK.region ?_
      refine AO.val (RV.assign rfl) (.none rfl) rfl ?_
      refine AO.nil ?_
      -- at FT
      refine AK.ret (h' := ((q, Blk.cells [.int .i64 N, .int .i64 (F + lget sps k), .slice Ai nn ci, .slice Ac nn cc, .slice Ag nn cg, .slice As nn cs] 51 (0, 0)) :: (wi ++ (wc ++ (wg ++ (ws1 ++ h)))))) Try.func20 (.tmp rfl .nil) ?_ (by first | exact SubO.sub | exact List.Sublist.refl _ | exact .cons _ (List.Sublist.refl _) | exact .cons _ (.cons _ (List.Sublist.refl _)) | exact .cons _ (.cons _ (.cons _ (List.Sublist.refl _))))
      have e : (sendA M ⟨lget ins k, L, G, lget sps k⟩ F l) = ((⟨lget ins k, L, G, 0⟩, F + lget sps k), 7) := by simp only [sendA, reapA]; rw [if_neg (by omega), if_pos (by omega)]
      rw [e]
      exact ⟨wg, ws1, [], lget gm k, rfl, rfl, by rw [lset_lget ⟨hk.1, by omega⟩]; exact hg, hs1, hfc⟩
    · intro hc2
      try simp only [decide_eq_true_eq, decide_eq_false_iff_not, Bool.not_eq_true', Bool.not_eq_false', beq_iff_eq] at hc2
      refine AK.skip ?_
      refine AK.seq ?_
      refine AK.seq ?_
      refine AK.region ?_
      refine AO.val (RV.move rfl) (.none rfl) rfl ?_
      refine AO.val (RV.nilCheck rfl) (.none rfl) rfl ?_
      refine AO.val (RV.fieldAddr rfl) (.none rfl) rfl ?_
      refine AO.val (by first | exact RV.loadO rfl rfl (by first | simp | assumption) | exact RV.loadF rfl (fun _ => rfl) (by omega) rfl rfl (by first | simp | assumption) | exact RV.loadF0 rfl (fun _ => rfl) (by omega) rfl rfl (by first | simp | assumption) | exact RV.loadS rfl (by assumption) (by omega) (by first | simp | assumption)) (.none rfl) rfl ?_
      refine AO.val (RV.eql rfl rfl) (.none rfl) rfl ?_
      refine AO.nil ?_
      refine AK.cond rfl ?_ ?_
      · intro hc3
        try simp only [decide_eq_true_eq, decide_eq_false_iff_not, Bool.not_eq_true', Bool.not_eq_false', beq_iff_eq] at hc3
        refine AK.seq ?_
        refine AK.region ?_
        refine AO.val (RV.assign rfl) (.none rfl) rfl ?_
        refine AO.nil ?_
        -- at FFT
        refine AK.ret (h' := ((q, Blk.cells [.int .i64 N, .int .i64 (F + lget sps k), .slice Ai nn ci, .slice Ac nn cc, .slice Ag nn cg, .slice As nn cs] 51 (0, 0)) :: (wi ++ (wc ++ (wg ++ (ws1 ++ h)))))) Try.func20 (.tmp rfl .nil) ?_ (by first | exact SubO.sub | exact List.Sublist.refl _ | exact .cons _ (List.Sublist.refl _) | exact .cons _ (.cons _ (List.Sublist.refl _)) | exact .cons _ (.cons _ (.cons _ (List.Sublist.refl _))))
        have e : (sendA M ⟨lget ins k, L, G, lget sps k⟩ F l) = ((⟨lget ins k, L, G, 0⟩, F + lget sps k), 15) := by simp only [sendA, reapA]; rw [if_neg (by omega), if_neg (by omega), if_pos (by omega)]
        rw [e]
        exact ⟨wg, ws1, [], lget gm k, rfl, rfl, by rw [lset_lget ⟨hk.1, by omega⟩]; exact hg, hs1, hfc⟩
      · intro hc3
        try simp only [decide_eq_true_eq, decide_eq_false_iff_not, Bool.not_eq_true', Bool.not_eq_false', beq_iff_eq] at hc3
        refine AK.skip ?_
        refine AK.seq ?_
        refine AK.region ?_
        refine AO.val (RV.move rfl) (.none rfl) rfl ?_
        refine AO.val (RV.move rfl) (.none rfl) rfl ?_
        refine AO.val (RV.nilCheck rfl) (.none rfl) rfl ?_
        refine AO.val (RV.fieldAddr rfl) (.none rfl) rfl ?_
        refine AO.val (by first | exact RV.loadO rfl rfl (by first | simp | assumption) | exact RV.loadF rfl (fun _ => rfl) (by omega) rfl rfl (by first | simp | assumption) | exact RV.loadF0 rfl (fun _ => rfl) (by omega) rfl rfl (by first | simp | assumption) | exact RV.loadS rfl (by assumption) (by omega) (by first | simp | assumption)) (.none rfl) rfl ?_
        refine AO.val (by first | exact RV.subIn rfl rfl (by omega) | exact RV.sub rfl rfl) (.none rfl) rfl ?_
        refine AO.val (RV.nilCheck rfl) (.none rfl) rfl ?_
        refine AO.val (RV.fieldAddr rfl) (.none rfl) rfl ?_
        refine AO.effN (EF.storeO rfl rfl rfl rfl rfl rfl) (.none rfl) ?_
        rintro _ _ rfl
        refine AO.nil ?_
        refine AK.seq ?_
        refine AK.region ?_
        refine AO.eff (EF.buildSeq [] rfl rfl rfl rfl) (.none rfl) rfl ?_
        rintro _ _ ⟨b40, hf40, rfl, rfl⟩
        refine AO.val (RV.assign rfl) (.none rfl) rfl ?_
        refine AO.nil ?_
        refine AK.seq ?_
        refine AK.region ?_
        refine AO.val (RV.move rfl) (.none rfl) rfl ?_
        refine AO.val (RV.move rfl) (.none rfl) rfl ?_
        refine AO.val (RV.nilCheck rfl) (.none rfl) rfl ?_
        refine AO.val (RV.fieldAddr rfl) (.none rfl) rfl ?_
        refine AO.val (by first | exact RV.loadO rfl rfl (by first | simp | assumption) | exact RV.loadF rfl (fun _ => rfl) (by omega) rfl rfl (by first | simp | assumption) | exact RV.loadF0 rfl (fun _ => rfl) (by omega) rfl rfl (by first | simp | assumption) | exact RV.loadS rfl (by assumption) (by omega) (by first | simp | assumption)) (.none rfl) rfl ?_
        refine AO.val (RV.move rfl) (.none rfl) rfl ?_
        refine AO.val (RV.indexS rfl rfl hsg (by omega) rfl) (.none rfl) rfl ?_
        refine AO.val (RV.loadS (enc := frsV) (l := gm) rfl hsg (by omega) (by simp)) (.none rfl) rfl ?_
        refine AO.eff (EF.appendS (n' := (lget gm k).l.length) (ys := (lget gm k).l.map frV) rfl rfl (Row.new (cs := []) rfl) (hfc.src.mono fun x hx => by simp [hD x hx]) (Nat.zero_add _).symm rfl rfl (by decide) (by simp [Value.oneCell']) (by omega) (by omega)) (.none rfl) rfl ?_
        rintro _ _ ⟨A49, c49, p49, rfl, hr49, hc49, rfl⟩
        refine Nic.AO.nodup fun hnd => ?_
        obtain ⟨M42, hM42, hq42⟩ : ∃ M, M = p49.map (·.1) ∧ q ∉ M := ⟨_, rfl, part_ne (w := []) hnd⟩
        refine AO.val (RV.assign rfl) (.none rfl) rfl ?_
        refine AO.nil ?_
        refine AK.seq ?_
        refine AK.draw (M42) [11] mixed ?_
        refine AD.takeP 0 rfl (by kernel_rfl) (RV.move rfl) (.none rfl) rfl ?_
        refine AD.takeP 1 rfl (by kernel_rfl) (RV.nilCheck rfl) (.none rfl) rfl ?_
        refine AD.takeP 2 rfl (by kernel_rfl) (RV.fieldAddr rfl) (.none rfl) rfl ?_
        refine AD.take 3 rfl (by kernel_rfl) (by first | exact RV.loadO rfl rfl (by first | simp | assumption) | exact RV.loadF rfl (fun _ => rfl) (by omega) rfl rfl (by first | simp | assumption) | exact RV.loadF0 rfl (fun _ => rfl) (by omega) rfl rfl (by first | simp | assumption) | exact RV.loadS rfl (by assumption) (by omega) (by first | simp | assumption)) (.none rfl) rfl ?_
        refine AD.takeP 4 rfl (by kernel_rfl) (RV.move rfl) (.none rfl) rfl ?_
        refine AD.takeP 5 rfl (by kernel_rfl) (RV.move rfl) (.none rfl) rfl ?_
        refine AD.takeP 6 rfl (by kernel_rfl) (RV.move rfl) (.none rfl) rfl ?_
        refine AD.one 7 (by kernel_rfl) (AE.eff rfl (EF.callF rfl ((add_spec (A2 := none) (cap2 := 0) B _ l [] (hl.mono fun x hx => by simp [hx]) ⟨rfl, by simp⟩ (by simp; omega)).mono fun v h2 r => r.to (n' := l.length) (ys := l.map (fun x => Value.int .u8 x)) (by simp) (by simp))) (.none rfl) rfl ?_)
        rintro _ _ ⟨A57, c57, p57, rfl, hr57, hc57, rfl⟩
        refine ⟨(by first | exact .inr fun x hx hM => hx | exact .inr fun x hx hM => List.mem_cons_of_mem _ hx | exact .inr fun x hx hM => List.mem_append_right _ hx | exact .inr fun x hx hM => keep_app hx (by rw [hM42] at hM; exact hM)), ?_⟩
        refine AD.one 8 (by kernel_rfl) (AE.eff rfl (EF.buildSeq [.slice A57 l.length c57] rfl rfl rfl rfl) (.none rfl) rfl ?_)
        rintro _ _ ⟨b58, hf58, rfl, rfl⟩
        refine ⟨(by first | exact .inr fun x hx hM => hx | exact .inr fun x hx hM => List.mem_cons_of_mem _ hx | exact .inr fun x hx hM => List.mem_append_right _ hx | exact .inr fun x hx hM => keep_app hx (by rw [hM42] at hM; exact hM)), ?_⟩
        refine AD.one 9 (by kernel_rfl) (AE.eff rfl (EF.appendS (n' := ((lget gm k).l ++ [(⟨A57, c57, l⟩ : InS Int)]).length) (ys := ((lget gm k).l ++ [(⟨A57, c57, l⟩ : InS Int)]).map frV) rfl rfl hr49 (Src.of_new (el := 28) (cs := [.slice A57 l.length c57]) (by simp) 1 1 (Nat.le_refl _)) (by simp) (by simp) rfl (by decide) rfl (by omega) (by omega)) (.none rfl) rfl ?_)
        rintro _ _ ⟨A59, c59, p59, rfl, hr59, hc59, rfl⟩
        refine ⟨(by first | exact .inr fun x hx hM => hx | exact .inr fun x hx hM => List.mem_cons_of_mem _ hx | exact .inr fun x hx hM => List.mem_append_right _ hx | exact .inr fun x hx hM => keep_app hx (by rw [hM42] at hM; exact hM)), ?_⟩
        refine AD.takeP 10 rfl (by kernel_rfl) (RV.indexS rfl rfl hsg (by omega) rfl) (.none rfl) rfl ?_
        refine AD.one 11 (by kernel_rfl) (AE.effN rfl (EF.storeR rfl rfl rfl rfl hg (by omega)) (.none rfl) ?_)
        rintro _ _ ⟨w3, hw3, rfl⟩
        refine ⟨.inl (by kernel_rfl), ?_⟩
        refine AD.done (by kernel_rfl) ?_
        refine AK.seq ?_
        refine AK.region ?_
        refine AO.val (RV.assign rfl) (.none rfl) rfl ?_
        refine AO.nil ?_
        -- at FFF
        refine AK.perm (cards_perm3 ..) ?_
        refine AK.ret (h' := ((q, Blk.cells [.int .i64 N, .int .i64 (F + lget sps k - 1), .slice Ai nn ci, .slice Ac nn cc, .slice Ag nn cg, .slice As nn cs] 51 (0, 0)) :: (wi ++ (wc ++ (w3 ++ (ws1 ++ ((p59 ++ p57) ++ h))))))) Try.func20 (.tmp rfl .nil) ?_ (List.sublist_cons_self _ _)
        have e : (sendA M ⟨lget ins k, L, G, lget sps k⟩ F l) = ((⟨lget ins k, L, G ++ [l], 0⟩, F + lget sps k - 1), 0) := by simp only [sendA]; rw [if_neg (by omega), if_neg (by omega), if_neg (by omega)]
        rw [e]
        refine ⟨w3, ws1, p59 ++ p57, (⟨A59, c59, (lget gm k).l ++ [(⟨A57, c57, l⟩ : InS Int)]⟩ : Fr), rfl, rfl, ?_, hs1, ?_⟩
        · rw [set_map]; exact hw3
        · exact hfc.push (A := A59) (c := c59) (y := (⟨A57, c57, l⟩ : InS Int)) (fun x hx => List.mem_append_right _ hx) (hr57.src fun x hx => by simp [hx]) (hr59.src fun x hx => by simp [hx]) hc59

theorem cards_poll (B : World) (h : Own) (q : Nat) (N F : Int) (nn : Nat) {Ai Ac Ag As : Option Addr} {ci cc cg cs : Nat} (wi wc wg ws : Own) (ins sps : List Int) (cm gm : List Fr) (hi : Row 3 1 (.slice Ai nn ci) nn ((ins).map Pool.I64) wi) (hc : Row 27 1 (.slice Ac nn cc) nn ((cm).map frsV) wc) (hg : Row 27 1 (.slice Ag nn cg) nn ((gm).map frsV) wg) (hs : Row 3 1 (.slice As nn cs) nn ((sps).map Pool.I64) ws) (hN : 0 ≤ N ∧ N ≤ 64) (hF : 0 ≤ F ∧ F ≤ 1000) (k : Int) (hk : 0 ≤ k ∧ k < nn) (M : Nat) (hM : (M : Int) = N) (hin : 0 ≤ lget ins k ∧ lget ins k ≤ 64) (hsp : 0 ≤ lget sps k ∧ lget sps k ≤ 64) (hcl : (lget cm k).l.length ≤ 64) (hle : lget ins k + (lget cm k).l.length ≤ N) (hF2 : F ≤ 256) (D : Own) (hD : ∀ x ∈ D, x ∈ h) (L G : List (List Int)) (hfc : FC B D (lget cm k) L) : Tri Try.prog B 19 [.pointer (some ⟨q, 0, none⟩), .int .i64 k] ((q, Blk.cells [.int .i64 N, .int .i64 F, .slice Ai nn ci, .slice Ac nn cc, .slice Ag nn cg, .slice As nn cs] 51 (0, 0)) :: (wi ++ (wc ++ (wg ++ (ws ++ h))))) fun v h' => ∃ wi' wc' ws' x A' c', h' = ((q, Blk.cells [.int .i64 N, .int .i64 (pollA M ⟨lget ins k, L, G, lget sps k⟩ F).1.2, .slice Ai nn ci, .slice Ac nn cc, .slice Ag nn cg, .slice As nn cs] 51 (0, 0)) :: (wi' ++ (wc' ++ (wg ++ (ws' ++ h))))) ∧ v = .tuple #[.slice A' (pollA M ⟨lget ins k, L, G, lget sps k⟩ F).2.1.length c', .bool (pollA M ⟨lget ins k, L, G, lget sps k⟩ F).2.2] ∧ Src B D A' (pollA M ⟨lget ins k, L, G, lget sps k⟩ F).2.1.length 1 ((pollA M ⟨lget ins k, L, G, lget sps k⟩ F).2.1.map (fun x => Value.int .u8 x)) ∧ Row 3 1 (.slice Ai nn ci) nn ((lset ins k (pollA M ⟨lget ins k, L, G, lget sps k⟩ F).1.1.inN).map Pool.I64) wi' ∧ Row 27 1 (.slice Ac nn cc) nn ((lset cm k x).map frsV) wc' ∧ Row 3 1 (.slice As nn cs) nn ((lset sps k 0).map Pool.I64) ws' ∧ FC B D x (pollA M ⟨lget ins k, L, G, lget sps k⟩ F).1.1.came := by
  have hil : ins.length = nn := by have := hi.len; simpa using this
  have hsl : sps.length = nn := by have := hs.len; simpa using this
  have hcml : cm.length = nn := by have := hc.len; simpa using this
  have hgml : gm.length = nn := by have := hg.len; simpa using this
  have hsi : Src B wi Ai nn 1 (ins.map Pool.I64) := hi.src fun x hx => hx
  have hsc : Src B wc Ac nn 1 (cm.map frsV) := hc.src fun x hx => hx
  have hsg : Src B wg Ag nn 1 (gm.map frsV) := hg.src fun x hx => hx
  have hss : Src B ws As nn 1 (sps.map Pool.I64) := hs.src fun x hx => hx
  refine Tri.enter (n := 57) Try.func19 rfl rfl rfl ?_
  simp only [argsE, Nat.reduceAdd]
  try dsimp only [argsE]
  refine AK.seq ?_
  refine AK.region ?_
  refine AO.val (RV.assign rfl) (.none rfl) rfl ?_
  refine AO.val (RV.assign rfl) (.none rfl) rfl ?_
  refine AO.nil ?_
  refine AK.seq ?_
  refine AK.region ?_
  refine AO.val (RV.move rfl) (.none rfl) rfl ?_
  refine AO.val (RV.move rfl) (.none rfl) rfl ?_
  refine AO.eff (EF.callF rfl (cards_reap B h q N F nn wi wc wg ws ins sps cm gm hi hc hg hs hN (by omega) k hk hsp)) (.none rfl) rfl ?_
  rintro _ _ ⟨ws1, rfl, hs1⟩
  refine AO.nil ?_
  refine AK.seq ?_
  refine AK.region ?_
  refine AO.val (RV.move rfl) (.none rfl) rfl ?_
  refine AO.val (RV.move rfl) (.none rfl) rfl ?_
  refine AO.eff (EF.callF rfl (cards_fill B h q N (F + lget sps k) nn wi wc wg ws1 ins (lset sps k 0) cm gm hi hc hg hs1 hN (by omega) k hk hin hcl hle)) (.none rfl) rfl ?_
  rintro _ _ ⟨w1, rfl, hw1⟩
  refine AO.nil ?_
  refine AK.seq ?_
  refine AK.seq ?_
  refine AK.region ?_
  refine AO.val (RV.move rfl) (.none rfl) rfl ?_
  refine AO.val (RV.nilCheck rfl) (.none rfl) rfl ?_
  refine AO.val (RV.fieldAddr rfl) (.none rfl) rfl ?_
  refine AO.val (by first | exact RV.loadO rfl rfl (by first | simp | assumption) | exact RV.loadF rfl (fun _ => rfl) (by omega) rfl rfl (by first | simp | assumption) | exact RV.loadF0 rfl (fun _ => rfl) (by omega) rfl rfl (by first | simp | assumption) | exact RV.loadS rfl (by assumption) (by omega) (by first | simp | assumption)) (.none rfl) rfl ?_
  refine AO.val (RV.move rfl) (.none rfl) rfl ?_
  refine AO.val (RV.indexS rfl rfl hsc (by omega) rfl) (.none rfl) rfl ?_
  refine AO.val (RV.loadS (enc := frsV) (l := cm) rfl hsc (by omega) (by simp)) (.none rfl) rfl ?_
  refine AO.val (RV.lenS rfl) (.none rfl) rfl ?_
  refine AO.val (RV.eql rfl rfl) (.none rfl) rfl ?_
  refine AO.nil ?_
  refine AK.cond rfl ?_ ?_
  · intro hc1
    try simp only [decide_eq_true_eq, decide_eq_false_iff_not, Bool.not_eq_true', Bool.not_eq_false', beq_iff_eq] at hc1
    have hL0 : L = [] := by
      have := hfc.len
      exact List.eq_nil_of_length_eq_zero (by omega)
    refine AK.seq ?_
    refine AK.region ?_
    refine AO.val (RV.assign rfl) (.none rfl) rfl ?_
    refine AO.val (RV.assign rfl) (.none rfl) rfl ?_
    refine AO.nil ?_
    -- at T
    refine AK.ret (h' := ((q, Blk.cells [.int .i64 N, .int .i64 (F + lget sps k - (min (N - lget ins k - (lget cm k).l.length) (F + lget sps k))), .slice Ai nn ci, .slice Ac nn cc, .slice Ag nn cg, .slice As nn cs] 51 (0, 0)) :: (w1 ++ (wc ++ (wg ++ (ws1 ++ h)))))) Try.func19 (.tmp rfl (.tmp rfl .nil)) ?_ (by first | exact SubO.sub | exact List.Sublist.refl _ | exact .cons _ (List.Sublist.refl _) | exact .cons _ (.cons _ (List.Sublist.refl _)) | exact .cons _ (.cons _ (.cons _ (List.Sublist.refl _))))
    subst hL0
    have hl0 : (lget cm k).l.length = 0 := hfc.len
    rw [poll_zero, hM]
    have eT : (min (N - lget ins k - (lget cm k).l.length) (F + lget sps k)) = min (N - lget ins k) (F + lget sps k) := by rw [hl0]; simp
    rw [eT] at hw1 ⊢
    exact ⟨w1, wc, ws1, lget cm k, none, 0, rfl, rfl, ⟨rfl, by simp⟩, hw1, by rw [lset_lget ⟨hk.1, by omega⟩]; exact hc, hs1, hfc⟩
  · intro hc1
    try simp only [decide_eq_true_eq, decide_eq_false_iff_not, Bool.not_eq_true', Bool.not_eq_false', beq_iff_eq] at hc1
    obtain ⟨y, r, hZ⟩ := hfc.ne (by omega)
    obtain ⟨L2, hL2, hys, hfc2⟩ := hfc.cut hZ
    have hlr : (lget cm k).l.length = r.length + 1 := by rw [hZ]; rfl
    have hlr2 : r.length = L2.length := hfc2.len
    have hg1 : lget (lset ins k (lget ins k + (min (N - lget ins k - (lget cm k).l.length) (F + lget sps k)))) k = lget ins k + (min (N - lget ins k - (lget cm k).l.length) (F + lget sps k)) := lget_own ⟨hk.1, by omega⟩ _
    have hg3 : lget (lset cm k (⟨if ((lget cm k).cap : Int) = 1 then (lget cm k).A else cutA (lget cm k).A 1, (lget cm k).cap - 1, r⟩ : Fr)) k = (⟨if ((lget cm k).cap : Int) = 1 then (lget cm k).A else cutA (lget cm k).A 1, (lget cm k).cap - 1, r⟩ : Fr) := lget_own ⟨hk.1, by omega⟩ _
    refine AK.skip ?_
    refine AK.seq ?_
    refine AK.region ?_
    refine AO.val (RV.move rfl) (.none rfl) rfl ?_
    refine AO.val (RV.nilCheck rfl) (.none rfl) rfl ?_
    refine AO.val (RV.fieldAddr rfl) (.none rfl) rfl ?_
    refine AO.val (by first | exact RV.loadO rfl rfl (by first | simp | assumption) | exact RV.loadF rfl (fun _ => rfl) (by omega) rfl rfl (by first | simp | assumption) | exact RV.loadF0 rfl (fun _ => rfl) (by omega) rfl rfl (by first | simp | assumption) | exact RV.loadS rfl (by assumption) (by omega) (by first | simp | assumption)) (.none rfl) rfl ?_
    refine AO.val (RV.move rfl) (.none rfl) rfl ?_
    refine AO.val (RV.indexS rfl rfl hsc (by omega) rfl) (.none rfl) rfl ?_
    refine AO.val (RV.loadS (enc := frsV) (l := cm) rfl hsc (by omega) (by simp)) (.none rfl) rfl ?_
    refine AO.val (RV.indexS rfl rfl (hfc.src.mono hD) (by omega) rfl) (.none rfl) rfl ?_
    refine AO.val ((RV.loadS (enc := frV) (l := (lget cm k).l) rfl (hfc.src.mono hD) (by omega) (by simp)).to (v' := frV y) (by rw [hZ]; rfl)) (.none rfl) rfl ?_
    refine AO.val (RV.assign rfl) (.none rfl) rfl ?_
    refine AO.nil ?_
    refine AK.seq ?_
    refine AK.draw [] [14] mixed ?_
    refine AD.takeP 0 rfl (by kernel_rfl) (RV.move rfl) (.none rfl) rfl ?_
    refine AD.takeP 1 rfl (by kernel_rfl) (RV.nilCheck rfl) (.none rfl) rfl ?_
    refine AD.takeP 2 rfl (by kernel_rfl) (RV.fieldAddr rfl) (.none rfl) rfl ?_
    refine AD.take 3 rfl (by kernel_rfl) (by first | exact RV.loadO rfl rfl (by first | simp | assumption) | exact RV.loadF rfl (fun _ => rfl) (by omega) rfl rfl (by first | simp | assumption) | exact RV.loadF0 rfl (fun _ => rfl) (by omega) rfl rfl (by first | simp | assumption) | exact RV.loadS rfl (by assumption) (by omega) (by first | simp | assumption)) (.none rfl) rfl ?_
    refine AD.takeP 4 rfl (by kernel_rfl) (RV.move rfl) (.none rfl) rfl ?_
    refine AD.takeP 5 rfl (by kernel_rfl) (RV.move rfl) (.none rfl) rfl ?_
    refine AD.takeP 6 rfl (by kernel_rfl) (RV.nilCheck rfl) (.none rfl) rfl ?_
    refine AD.takeP 7 rfl (by kernel_rfl) (RV.fieldAddr rfl) (.none rfl) rfl ?_
    refine AD.take 8 rfl (by kernel_rfl) (by first | exact RV.loadO rfl rfl (by first | simp | assumption) | exact RV.loadF rfl (fun _ => rfl) (by omega) rfl rfl (by first | simp | assumption) | exact RV.loadF0 rfl (fun _ => rfl) (by omega) rfl rfl (by first | simp | assumption) | exact RV.loadS rfl (by assumption) (by omega) (by first | simp | assumption)) (.none rfl) rfl ?_
    refine AD.takeP 9 rfl (by kernel_rfl) (RV.move rfl) (.none rfl) rfl ?_
    refine AD.takeP 10 rfl (by kernel_rfl) (RV.indexS rfl rfl hsc (by omega) rfl) (.none rfl) rfl ?_
    refine AD.take 11 rfl (by kernel_rfl) (RV.loadS (enc := frsV) (l := cm) rfl hsc (by omega) (by simp)) (.none rfl) rfl ?_
    refine AD.takeP 12 rfl (by kernel_rfl) ((RV.sliceL rfl rfl (by rw [hZ]; simp; omega) (by have := hfc.cap; rw [hZ] at this; simp at this; omega)).to (v' := frsV (⟨if ((lget cm k).cap : Int) = 1 then (lget cm k).A else cutA (lget cm k).A 1, (lget cm k).cap - 1, r⟩ : Fr)) (by rw [hZ]; simp only [List.length_cons]; rw [show (((r.length + 1 : Nat) : Int) - 1).toNat = r.length by omega, show (((lget cm k).cap : Int) - 1).toNat = (lget cm k).cap - 1 by omega]; rfl)) (.none rfl) rfl ?_
    refine AD.takeP 13 rfl (by kernel_rfl) (RV.indexS rfl rfl hsc (by omega) rfl) (.none rfl) rfl ?_
    refine AD.one 14 (by kernel_rfl) (AE.effN rfl (EF.storeR rfl rfl rfl rfl hc (by omega)) (.none rfl) ?_)
    rintro _ _ ⟨w3, hw3, rfl⟩
    refine ⟨.inl (by kernel_rfl), ?_⟩
    refine AD.done (by kernel_rfl) ?_
    refine AK.seq ?_
    refine AK.region ?_
    refine AO.val (RV.move rfl) (.none rfl) rfl ?_
    refine AO.val (RV.move rfl) (.none rfl) rfl ?_
    refine AO.val (RV.nilCheck rfl) (.none rfl) rfl ?_
    refine AO.val (RV.fieldAddr rfl) (.none rfl) rfl ?_
    refine AO.val (by first | exact RV.loadO rfl rfl (by first | simp | assumption) | exact RV.loadF rfl (fun _ => rfl) (by omega) rfl rfl (by first | simp | assumption) | exact RV.loadF0 rfl (fun _ => rfl) (by omega) rfl rfl (by first | simp | assumption) | exact RV.loadS rfl (by assumption) (by omega) (by first | simp | assumption)) (.none rfl) rfl ?_
    refine AO.val (by first | exact RV.addIn rfl rfl (by omega) | exact RV.add rfl rfl) (.none rfl) rfl ?_
    refine AO.val (RV.nilCheck rfl) (.none rfl) rfl ?_
    refine AO.val (RV.fieldAddr rfl) (.none rfl) rfl ?_
    refine AO.effN (EF.storeO rfl rfl rfl rfl rfl rfl) (.none rfl) ?_
    rintro _ _ rfl
    refine AO.nil ?_
    refine AK.seq ?_
    refine AK.region ?_
    refine AO.val (RV.move rfl) (.none rfl) rfl ?_
    refine AO.val (RV.move rfl) (.none rfl) rfl ?_
    refine AO.eff (EF.callF rfl (Tri.perm (cards_perm4 ..) (cards_fill B h q N (F + lget sps k - (min (N - lget ins k - (lget cm k).l.length) (F + lget sps k)) + 1) nn w1 w3 wg ws1 (lset ins k (lget ins k + (min (N - lget ins k - (lget cm k).l.length) (F + lget sps k)))) (lset sps k 0) (lset cm k (⟨if ((lget cm k).cap : Int) = 1 then (lget cm k).A else cutA (lget cm k).A 1, (lget cm k).cap - 1, r⟩ : Fr)) gm hw1 (by rw [set_map]; exact hw3) hg hs1 hN (by omega) k hk (by rw [hg1]; omega) (by rw [hg3]; simp only; omega) (by rw [hg1, hg3]; simp only; omega)))) (.none rfl) rfl ?_
    rintro _ _ ⟨w4, rfl, hw4⟩
    refine AO.nil ?_
    refine AK.seq ?_
    refine AK.region ?_
    refine AO.val (RV.move rfl) (.none rfl) rfl ?_
    refine AO.val (RV.assign rfl) (.none rfl) rfl ?_
    refine AO.val (RV.assign rfl) (.none rfl) rfl ?_
    refine AO.nil ?_
    -- at F
    refine AK.ret (h' := ((q, Blk.cells [.int .i64 N, .int .i64 (F + lget sps k - (min (N - lget ins k - (lget cm k).l.length) (F + lget sps k)) + 1 - min (N - lget (lset ins k (lget ins k + (min (N - lget ins k - (lget cm k).l.length) (F + lget sps k)))) k - (lget (lset cm k (⟨if ((lget cm k).cap : Int) = 1 then (lget cm k).A else cutA (lget cm k).A 1, (lget cm k).cap - 1, r⟩ : Fr)) k).l.length) (F + lget sps k - (min (N - lget ins k - (lget cm k).l.length) (F + lget sps k)) + 1)), .slice Ai nn ci, .slice Ac nn cc, .slice Ag nn cg, .slice As nn cs] 51 (0, 0)) :: (w4 ++ (w3 ++ (wg ++ (ws1 ++ h)))))) Try.func19 (.tmp rfl (.tmp rfl .nil)) ?_ (by first | exact SubO.sub | exact List.Sublist.refl _ | exact .cons _ (List.Sublist.refl _) | exact .cons _ (.cons _ (List.Sublist.refl _)) | exact .cons _ (.cons _ (.cons _ (List.Sublist.refl _))))
    subst hL2
    rw [poll_cons M _ _ _ _ _ _ (min (N - lget ins k - (lget cm k).l.length) (F + lget sps k)) (min (N - lget (lset ins k (lget ins k + (min (N - lget ins k - (lget cm k).l.length) (F + lget sps k)))) k - (lget (lset cm k (⟨if ((lget cm k).cap : Int) = 1 then (lget cm k).A else cutA (lget cm k).A 1, (lget cm k).cap - 1, r⟩ : Fr)) k).l.length) (F + lget sps k - (min (N - lget ins k - (lget cm k).l.length) (F + lget sps k)) + 1)) (by rw [hM]; omega) (by rw [hg1, hg3, hM, ← hlr2])]
    refine ⟨w4, w3, ws1, (⟨if ((lget cm k).cap : Int) = 1 then (lget cm k).A else cutA (lget cm k).A 1, (lget cm k).cap - 1, r⟩ : Fr), y.A, y.cap, rfl, rfl, hys, ?_, by rw [set_map]; exact hw3, hs1, hfc2⟩
    rw [lset_lset, hg1] at hw4
    rw [hg1]
    exact hw4

end Go.Proofs.Ytpobjhmbonojkaa
