/- Walks through the code: what each function that is named here gives back, from any memory that holds its arguments. Written by a program of the claim's author, out of the program's form in Lean. -/
import Derived.Test.YtpobjhmbonojkaaFacts
import Derived.Test.YtpobjhmbonojkaaPlain15
set_option linter.unusedSimpArgs false
set_option linter.unusedVariables false
namespace Go.Proofs.Ytpobjhmbonojkaa
open Go.Sep Go.Sep.Ring

theorem ring_size (B : World) (pre h : Own) (p q : Nat) (L : Nat) (s : RS) (ok : s.Ok) (hL : s.sl.length = L)  : Tri Try.prog B 45 [.pointer (some ⟨p, 0, none⟩)] (pre ++ (p, Blk.cells [.slice (some ⟨q, 0, none⟩) L L, .int .i64 (s).post, .int .i64 (s).work, .int .i64 (s).reap] 70 (0, 0)) :: (q, Blk.cells (flat encS (s).sl) 72 (0, 0)) :: h) fun v h' => (pre ++ (p, Blk.cells [.slice (some ⟨q, 0, none⟩) L L, .int .i64 (s).post, .int .i64 (s).work, .int .i64 (s).reap] 70 (0, 0)) :: (q, Blk.cells (flat encS (s).sl) 72 (0, 0)) :: h) = h' ∧ v = .int .i64 L := by
  have hN : s.N = (s.sl.length : Int) := rfl
  have okn := ok.n
  have okp := ok.post
  have okw := ok.work
  have okr := ok.reap
  rw [hN, hL] at okn okp okw okr
  refine Tri.enter (n := 10) Try.func45 rfl rfl rfl ?_
  simp only [argsE, Nat.reduceAdd]
  try dsimp only [argsE]
  refine AK.seq ?_
  refine AK.region ?_
  refine AO.val (RV.assign rfl) (.none rfl) rfl ?_
  refine AO.nil ?_
  refine AK.seq ?_
  refine AK.seq ?_
  refine AK.region ?_
  refine AO.val (RV.move rfl) (.none rfl) rfl ?_
  refine AO.val (RV.eqlP rfl rfl) (.none rfl) rfl ?_
  refine AO.nil ?_
  refine AK.condF rfl ?_
  refine AK.skip ?_
  refine AK.seq ?_
  refine AK.region ?_
  refine AO.val (RV.move rfl) (.none rfl) rfl ?_
  refine AO.val (RV.nilCheck rfl) (.none rfl) rfl ?_
  refine AO.val (RV.fieldAddr rfl) (.none rfl) rfl ?_
  refine AO.val (by first | exact RV.loadO rfl rfl (by first | simp | assumption) | exact RV.loadS rfl (by assumption) (by omega) (by first | simp | assumption)) (.none rfl) rfl ?_
  refine AO.val (RV.lenS rfl) (.none rfl) rfl ?_
  refine AO.val (RV.assign rfl) (.none rfl) rfl ?_
  refine AO.nil ?_
  -- at 
  refine AK.ret (h' := (pre ++ (p, Blk.cells [.slice (some ⟨q, 0, none⟩) L L, .int .i64 (s).post, .int .i64 (s).work, .int .i64 (s).reap] 70 (0, 0)) :: (q, Blk.cells (flat encS (s).sl) 72 (0, 0)) :: h)) Try.func45 (.tmp rfl .nil) ?_ (by first | exact SubO.sub | exact List.Sublist.refl _ | exact .cons _ (List.Sublist.refl _) | exact .cons _ (.cons _ (List.Sublist.refl _)) | exact .cons _ (.cons _ (.cons _ (List.Sublist.refl _))))
  exact ⟨rfl, rfl⟩

theorem ring_behind (B : World) (pre h : Own) (p q : Nat) (L : Nat) (s : RS) (ok : s.Ok) (hL : s.sl.length = L) (k : Int) (hk : 0 ≤ k ∧ k < L) : Tri Try.prog B 47 [.pointer (some ⟨p, 0, none⟩), .int .i64 k] (pre ++ (p, Blk.cells [.slice (some ⟨q, 0, none⟩) L L, .int .i64 (s).post, .int .i64 (s).work, .int .i64 (s).reap] 70 (0, 0)) :: (q, Blk.cells (flat encS (s).sl) 72 (0, 0)) :: h) fun v h' => (pre ++ (p, Blk.cells [.slice (some ⟨q, 0, none⟩) L L, .int .i64 (s).post, .int .i64 (s).work, .int .i64 (s).reap] 70 (0, 0)) :: (q, Blk.cells (flat encS (s).sl) 72 (0, 0)) :: h) = h' ∧ v = .int .i64 ((k + 1) % L) := by
  have hN : s.N = (s.sl.length : Int) := rfl
  have okn := ok.n
  have okp := ok.post
  have okw := ok.work
  have okr := ok.reap
  rw [hN, hL] at okn okp okw okr
  refine Tri.enter (n := 13) Try.func47 rfl rfl rfl ?_
  simp only [argsE, Nat.reduceAdd]
  try dsimp only [argsE]
  refine AK.seq ?_
  refine AK.region ?_
  refine AO.val (RV.assign rfl) (.none rfl) rfl ?_
  refine AO.nil ?_
  refine AK.seq ?_
  refine AK.region ?_
  refine AO.val (RV.move rfl) (.none rfl) rfl ?_
  refine AO.val (by first | exact RV.addIn rfl rfl (by omega) | exact RV.add rfl rfl) (.none rfl) rfl ?_
  refine AO.val (RV.move rfl) (.none rfl) rfl ?_
  refine AO.val (RV.nilCheck rfl) (.none rfl) rfl ?_
  refine AO.val (RV.fieldAddr rfl) (.none rfl) rfl ?_
  refine AO.val (by first | exact RV.loadO rfl rfl (by first | simp | assumption) | exact RV.loadS rfl (by assumption) (by omega) (by first | simp | assumption)) (.none rfl) rfl ?_
  refine AO.val (RV.lenS rfl) (.none rfl) rfl ?_
  refine AO.val (by first | exact RV.remIn rfl rfl (by omega) | exact RV.rem rfl rfl (by omega)) (.none rfl) rfl ?_
  refine AO.val (RV.assign rfl) (.none rfl) rfl ?_
  refine AO.nil ?_
  -- at 
  refine AK.ret (h' := (pre ++ (p, Blk.cells [.slice (some ⟨q, 0, none⟩) L L, .int .i64 (s).post, .int .i64 (s).work, .int .i64 (s).reap] 70 (0, 0)) :: (q, Blk.cells (flat encS (s).sl) 72 (0, 0)) :: h)) Try.func47 (.tmp rfl .nil) ?_ (by first | exact SubO.sub | exact List.Sublist.refl _ | exact .cons _ (List.Sublist.refl _) | exact .cons _ (.cons _ (List.Sublist.refl _)) | exact .cons _ (.cons _ (.cons _ (List.Sublist.refl _))))
  exact ⟨rfl, rfl⟩

theorem ring_post (B : World) (pre h : Own) (p q : Nat) (L : Nat) (s : RS) (ok : s.Ok) (hL : s.sl.length = L) (i : Int) : Tri Try.prog B 38 [.pointer (some ⟨p, 0, none⟩), .int .i64 i] (pre ++ (p, Blk.cells [.slice (some ⟨q, 0, none⟩) L L, .int .i64 (s).post, .int .i64 (s).work, .int .i64 (s).reap] 70 (0, 0)) :: (q, Blk.cells (flat encS (s).sl) 72 (0, 0)) :: h) fun v h' => h' = pre ++ (p, Blk.cells [.slice (some ⟨q, 0, none⟩) L L, .int .i64 ((postR s i).1).post, .int .i64 ((postR s i).1).work, .int .i64 ((postR s i).1).reap] 70 (0, 0)) :: (q, Blk.cells (flat encS ((postR s i).1).sl) 72 (0, 0)) :: h ∧ v = .bool (postR s i).2 := by
  have hN : s.N = (s.sl.length : Int) := rfl
  have okn := ok.n
  have okp := ok.post
  have okw := ok.work
  have okr := ok.reap
  rw [hN, hL] at okn okp okw okr
  refine Tri.enter (n := 41) Try.func38 rfl rfl rfl ?_
  simp only [argsE, Nat.reduceAdd]
  try dsimp only [argsE]
  refine AK.seq ?_
  refine AK.region ?_
  refine AO.val (RV.assign rfl) (.none rfl) rfl ?_
  refine AO.nil ?_
  refine AK.seq ?_
  refine AK.seq ?_
  refine AK.draw [] [] mixed ?_
  refine AD.takeP 0 rfl (by kernel_rfl) (RV.move rfl) (.none rfl) rfl ?_
  refine AD.one 1 (by kernel_rfl) (AE.eff rfl (EF.callF rfl (ring_size B pre h p q L s ok hL)) (.none rfl) rfl ?_)
  rintro _ _ ⟨rfl, rfl⟩
  refine ⟨(by first | exact .inr fun x hx hM => hx | exact .inr fun x hx hM => List.mem_cons_of_mem _ hx | exact .inr fun x hx hM => List.mem_append_right _ hx), ?_⟩
  refine AD.takeP 2 rfl (by kernel_rfl) (RV.eql rfl rfl) (.none rfl) rfl ?_
  refine AD.takeP 3 rfl (by kernel_rfl) (RV.move rfl) (.none rfl) rfl ?_
  refine AD.caseG (d := 8) (j := 3) rfl rfl ?_ ?_
  · intro hg1
    try simp only [decide_eq_true_eq, decide_eq_false_iff_not, Bool.not_eq_true', Bool.not_eq_false', beq_iff_eq] at hg1
    exfalso; omega
  · intro hg1
    try simp only [decide_eq_true_eq, decide_eq_false_iff_not, Bool.not_eq_true', Bool.not_eq_false', beq_iff_eq] at hg1
    refine AD.takeP 4 rfl (by kernel_rfl) (RV.move rfl) (.some rfl rfl rfl rfl) rfl ?_
    refine AD.takeP 5 rfl (by kernel_rfl) (RV.nilCheck rfl) (.some rfl rfl rfl rfl) rfl ?_
    refine AD.takeP 6 rfl (by kernel_rfl) (RV.fieldAddr rfl) (.some rfl rfl rfl rfl) rfl ?_
    refine AD.take 7 rfl (by kernel_rfl) (by first | exact RV.loadO rfl rfl (by first | simp | assumption) | exact RV.loadF rfl (fun _ => rfl) (by omega) rfl rfl (by first | simp | assumption) | exact RV.loadF0 rfl (fun _ => rfl) (by omega) rfl rfl (by first | simp | assumption) | exact RV.loadS rfl (by assumption) (by omega) (by first | simp | assumption)) (.some rfl rfl rfl rfl) rfl ?_
    refine AD.takeP 8 rfl (by kernel_rfl) (RV.move rfl) (.some rfl rfl rfl rfl) rfl ?_
    refine AD.takeP 9 rfl (by kernel_rfl) (RV.nilCheck rfl) (.some rfl rfl rfl rfl) rfl ?_
    refine AD.takeP 10 rfl (by kernel_rfl) (RV.fieldAddr rfl) (.some rfl rfl rfl rfl) rfl ?_
    refine AD.take 11 rfl (by kernel_rfl) (by first | exact RV.loadO rfl rfl (by first | simp | assumption) | exact RV.loadF rfl (fun _ => rfl) (by omega) rfl rfl (by first | simp | assumption) | exact RV.loadF0 rfl (fun _ => rfl) (by omega) rfl rfl (by first | simp | assumption) | exact RV.loadS rfl (by assumption) (by omega) (by first | simp | assumption)) (.some rfl rfl rfl rfl) rfl ?_
    refine AD.takeP 12 rfl (by kernel_rfl) (by first | exact RV.indexO rfl rfl (by omega) | exact RV.indexS rfl rfl (by assumption) (by omega) rfl | exact RV.indexAddr rfl rfl (by omega)) (.some rfl rfl rfl rfl) rfl ?_
    refine AD.takeP 13 rfl (by kernel_rfl) (RV.fieldAddr rfl) (.some rfl rfl rfl rfl) rfl ?_
    refine AD.take 14 rfl (by kernel_rfl) (by first | exact RV.loadO rfl rfl (by first | simp | assumption) | exact RV.loadF rfl (fun _ => rfl) (by omega) rfl rfl (by first | simp | assumption) | exact RV.loadF0 rfl (fun _ => rfl) (by omega) rfl rfl (by first | simp | assumption) | exact RV.loadS rfl (by assumption) (by omega) (by first | simp | assumption)) (.some rfl rfl rfl rfl) rfl ?_
    refine AD.takeP 15 rfl (by kernel_rfl) (RV.pickF rfl rfl) (.none rfl) rfl ?_
    refine AD.done (by kernel_rfl) ?_
    refine AK.cond rfl ?_ ?_
    · intro hc2
      try simp only [decide_eq_true_eq, decide_eq_false_iff_not, Bool.not_eq_true', Bool.not_eq_false', beq_iff_eq] at hc2
      refine AK.seq ?_
      refine AK.region ?_
      refine AO.val (RV.assign rfl) (.none rfl) rfl ?_
      refine AO.nil ?_
      -- at fT
      refine AK.ret (h' := (pre ++ (p, Blk.cells [.slice (some ⟨q, 0, none⟩) L L, .int .i64 (s).post, .int .i64 (s).work, .int .i64 (s).reap] 70 (0, 0)) :: (q, Blk.cells (flat encS (s).sl) 72 (0, 0)) :: h)) Try.func38 (.tmp rfl .nil) ?_ (by first | exact SubO.sub | exact List.Sublist.refl _ | exact .cons _ (List.Sublist.refl _) | exact .cons _ (.cons _ (List.Sublist.refl _)) | exact .cons _ (.cons _ (.cons _ (List.Sublist.refl _))))
      exact ⟨by simp only [postR, hc2, if_true], by simp only [postR, hc2, if_true]; rfl⟩
    · intro hc2
      try simp only [decide_eq_true_eq, decide_eq_false_iff_not, Bool.not_eq_true', Bool.not_eq_false', beq_iff_eq] at hc2
      refine AK.skip ?_
      refine AK.seq ?_
      refine AK.draw [] [11] mixed ?_
      refine AD.takeP 0 rfl (by kernel_rfl) (RV.move rfl) (.none rfl) rfl ?_
      refine AD.takeP 1 rfl (by kernel_rfl) (RV.nilCheck rfl) (.none rfl) rfl ?_
      refine AD.takeP 2 rfl (by kernel_rfl) (RV.fieldAddr rfl) (.none rfl) rfl ?_
      refine AD.take 3 rfl (by kernel_rfl) (by first | exact RV.loadO rfl rfl (by first | simp | assumption) | exact RV.loadF rfl (fun _ => rfl) (by omega) rfl rfl (by first | simp | assumption) | exact RV.loadF0 rfl (fun _ => rfl) (by omega) rfl rfl (by first | simp | assumption) | exact RV.loadS rfl (by assumption) (by omega) (by first | simp | assumption)) (.none rfl) rfl ?_
      refine AD.takeP 4 rfl (by kernel_rfl) (RV.move rfl) (.none rfl) rfl ?_
      refine AD.takeP 5 rfl (by kernel_rfl) (RV.nilCheck rfl) (.none rfl) rfl ?_
      refine AD.takeP 6 rfl (by kernel_rfl) (RV.fieldAddr rfl) (.none rfl) rfl ?_
      refine AD.take 7 rfl (by kernel_rfl) (by first | exact RV.loadO rfl rfl (by first | simp | assumption) | exact RV.loadF rfl (fun _ => rfl) (by omega) rfl rfl (by first | simp | assumption) | exact RV.loadF0 rfl (fun _ => rfl) (by omega) rfl rfl (by first | simp | assumption) | exact RV.loadS rfl (by assumption) (by omega) (by first | simp | assumption)) (.none rfl) rfl ?_
      refine AD.takeP 8 rfl (by kernel_rfl) (RV.move rfl) (.none rfl) rfl ?_
      refine AD.takeP 9 rfl (by kernel_rfl) (RV.build rfl (.cons rfl rfl rfl rfl (.cons rfl rfl rfl rfl (.cons rfl rfl rfl rfl .nil)))) (.none rfl) rfl ?_
      refine AD.takeP 10 rfl (by kernel_rfl) (by first | exact RV.indexO rfl rfl (by omega) | exact RV.indexS rfl rfl (by assumption) (by omega) rfl | exact RV.indexAddr rfl rfl (by omega)) (.none rfl) rfl ?_
      refine AD.one 11 (by kernel_rfl) (AE.effN rfl (EF.storeF0 ((i, true, true)) rfl rfl (fun _ => rfl) (by omega) rfl rfl rfl (Nat.le_of_ble_eq_true rfl) rfl) (.none rfl) ?_)
      rintro _ _ rfl
      refine ⟨.inl (by kernel_rfl), ?_⟩
      refine AD.done (by kernel_rfl) ?_
      refine AK.seq ?_
      refine AK.region ?_
      refine AO.val (RV.move rfl) (.none rfl) rfl ?_
      refine AO.val (RV.move rfl) (.none rfl) rfl ?_
      refine AO.val (RV.move rfl) (.none rfl) rfl ?_
      refine AO.val (RV.nilCheck rfl) (.none rfl) rfl ?_
      refine AO.val (RV.fieldAddr rfl) (.none rfl) rfl ?_
      refine AO.val (by first | exact RV.loadO rfl rfl (by first | simp | assumption) | exact RV.loadF rfl (fun _ => rfl) (by omega) rfl rfl (by first | simp | assumption) | exact RV.loadF0 rfl (fun _ => rfl) (by omega) rfl rfl (by first | simp | assumption) | exact RV.loadS rfl (by assumption) (by omega) (by first | simp | assumption)) (.none rfl) rfl ?_
      refine AO.eff (EF.callF rfl (ring_behind B pre h p q L ⟨lset s.sl s.post (i, true, true), s.post, s.work, s.reap⟩ (ok.set _ _) (by rw [lset_len]; exact hL) _ okp)) (.none rfl) rfl ?_
      rintro _ _ ⟨rfl, rfl⟩
      refine AO.val (RV.nilCheck rfl) (.none rfl) rfl ?_
      refine AO.val (RV.fieldAddr rfl) (.none rfl) rfl ?_
      refine AO.effN (EF.storeO rfl rfl rfl rfl rfl rfl) (.none rfl) ?_
      rintro _ _ rfl
      refine AO.nil ?_
      refine AK.seq ?_
      refine AK.region ?_
      refine AO.val (RV.assign rfl) (.none rfl) rfl ?_
      refine AO.nil ?_
      -- at fF
      refine AK.ret (h' := pre ++ (p, Blk.cells [.slice (some ⟨q, 0, none⟩) L L, .int .i64 ((⟨lset s.sl s.post (i, true, true), (s.post + 1) % L, s.work, s.reap⟩ : RS)).post, .int .i64 ((⟨lset s.sl s.post (i, true, true), (s.post + 1) % L, s.work, s.reap⟩ : RS)).work, .int .i64 ((⟨lset s.sl s.post (i, true, true), (s.post + 1) % L, s.work, s.reap⟩ : RS)).reap] 70 (0, 0)) :: (q, Blk.cells (flat encS ((⟨lset s.sl s.post (i, true, true), (s.post + 1) % L, s.work, s.reap⟩ : RS)).sl) 72 (0, 0)) :: h) Try.func38 (.tmp rfl .nil) ?_ (by first | exact SubO.sub | exact List.Sublist.refl _ | exact .cons _ (List.Sublist.refl _) | exact .cons _ (.cons _ (List.Sublist.refl _)) | exact .cons _ (.cons _ (.cons _ (List.Sublist.refl _))))
      have hps : postR s i = ((⟨lset s.sl s.post (i, true, true), (s.post + 1) % L, s.work, s.reap⟩ : RS), true) := by simp [postR, hc2, hN, hL]
      rw [hps]; exact ⟨rfl, rfl⟩

theorem ring_next (B : World) (pre h : Own) (p q : Nat) (L : Nat) (s : RS) (ok : s.Ok) (hL : s.sl.length = L)  : Tri Try.prog B 29 [.pointer (some ⟨p, 0, none⟩)] (pre ++ (p, Blk.cells [.slice (some ⟨q, 0, none⟩) L L, .int .i64 (s).post, .int .i64 (s).work, .int .i64 (s).reap] 70 (0, 0)) :: (q, Blk.cells (flat encS (s).sl) 72 (0, 0)) :: h) fun v h' => (pre ++ (p, Blk.cells [.slice (some ⟨q, 0, none⟩) L L, .int .i64 (s).post, .int .i64 (s).work, .int .i64 (s).reap] 70 (0, 0)) :: (q, Blk.cells (flat encS (s).sl) 72 (0, 0)) :: h) = h' ∧ v = .tuple #[.int .i64 (nextR s).1, .bool (nextR s).2] := by
  have hN : s.N = (s.sl.length : Int) := rfl
  have okn := ok.n
  have okp := ok.post
  have okw := ok.work
  have okr := ok.reap
  rw [hN, hL] at okn okp okw okr
  refine Tri.enter (n := 32) Try.func29 rfl rfl rfl ?_
  simp only [argsE, Nat.reduceAdd]
  try dsimp only [argsE]
  refine AK.seq ?_
  refine AK.region ?_
  refine AO.val (RV.assign rfl) (.none rfl) rfl ?_
  refine AO.val (RV.assign rfl) (.none rfl) rfl ?_
  refine AO.nil ?_
  refine AK.seq ?_
  refine AK.seq ?_
  refine AK.draw [] [] mixed ?_
  refine AD.takeP 0 rfl (by kernel_rfl) (RV.move rfl) (.none rfl) rfl ?_
  refine AD.one 1 (by kernel_rfl) (AE.eff rfl (EF.callF rfl (ring_size B pre h p q L s ok hL)) (.none rfl) rfl ?_)
  rintro _ _ ⟨rfl, rfl⟩
  refine ⟨(by first | exact .inr fun x hx hM => hx | exact .inr fun x hx hM => List.mem_cons_of_mem _ hx | exact .inr fun x hx hM => List.mem_append_right _ hx), ?_⟩
  refine AD.takeP 2 rfl (by kernel_rfl) (RV.eql rfl rfl) (.none rfl) rfl ?_
  refine AD.takeP 3 rfl (by kernel_rfl) (RV.move rfl) (.none rfl) rfl ?_
  refine AD.caseG (d := 7) (j := 3) rfl rfl ?_ ?_
  · intro hg1
    try simp only [decide_eq_true_eq, decide_eq_false_iff_not, Bool.not_eq_true', Bool.not_eq_false', beq_iff_eq] at hg1
    exfalso; omega
  · intro hg1
    try simp only [decide_eq_true_eq, decide_eq_false_iff_not, Bool.not_eq_true', Bool.not_eq_false', beq_iff_eq] at hg1
    refine AD.takeP 4 rfl (by kernel_rfl) (RV.move rfl) (.some rfl rfl rfl rfl) rfl ?_
    refine AD.takeP 5 rfl (by kernel_rfl) (RV.nilCheck rfl) (.some rfl rfl rfl rfl) rfl ?_
    refine AD.takeP 6 rfl (by kernel_rfl) (RV.fieldAddr rfl) (.some rfl rfl rfl rfl) rfl ?_
    refine AD.take 7 rfl (by kernel_rfl) (by first | exact RV.loadO rfl rfl (by first | simp | assumption) | exact RV.loadF rfl (fun _ => rfl) (by omega) rfl rfl (by first | simp | assumption) | exact RV.loadF0 rfl (fun _ => rfl) (by omega) rfl rfl (by first | simp | assumption) | exact RV.loadS rfl (by assumption) (by omega) (by first | simp | assumption)) (.some rfl rfl rfl rfl) rfl ?_
    refine AD.takeP 8 rfl (by kernel_rfl) (RV.move rfl) (.some rfl rfl rfl rfl) rfl ?_
    refine AD.takeP 9 rfl (by kernel_rfl) (RV.nilCheck rfl) (.some rfl rfl rfl rfl) rfl ?_
    refine AD.takeP 10 rfl (by kernel_rfl) (RV.fieldAddr rfl) (.some rfl rfl rfl rfl) rfl ?_
    refine AD.take 11 rfl (by kernel_rfl) (by first | exact RV.loadO rfl rfl (by first | simp | assumption) | exact RV.loadF rfl (fun _ => rfl) (by omega) rfl rfl (by first | simp | assumption) | exact RV.loadF0 rfl (fun _ => rfl) (by omega) rfl rfl (by first | simp | assumption) | exact RV.loadS rfl (by assumption) (by omega) (by first | simp | assumption)) (.some rfl rfl rfl rfl) rfl ?_
    refine AD.takeP 12 rfl (by kernel_rfl) (by first | exact RV.indexO rfl rfl (by omega) | exact RV.indexS rfl rfl (by assumption) (by omega) rfl | exact RV.indexAddr rfl rfl (by omega)) (.some rfl rfl rfl rfl) rfl ?_
    refine AD.takeP 13 rfl (by kernel_rfl) (RV.fieldAddr rfl) (.some rfl rfl rfl rfl) rfl ?_
    refine AD.take 14 rfl (by kernel_rfl) (by first | exact RV.loadO rfl rfl (by first | simp | assumption) | exact RV.loadF rfl (fun _ => rfl) (by omega) rfl rfl (by first | simp | assumption) | exact RV.loadF0 rfl (fun _ => rfl) (by omega) rfl rfl (by first | simp | assumption) | exact RV.loadS rfl (by assumption) (by omega) (by first | simp | assumption)) (.some rfl rfl rfl rfl) rfl ?_
    refine AD.takeP 15 rfl (by kernel_rfl) (RV.not rfl) (.some rfl rfl rfl rfl) rfl ?_
    refine AD.takeP 16 rfl (by kernel_rfl) (RV.pickF rfl rfl) (.none rfl) rfl ?_
    refine AD.done (by kernel_rfl) ?_
    refine AK.cond rfl ?_ ?_
    · intro hc2
      try simp only [decide_eq_true_eq, decide_eq_false_iff_not, Bool.not_eq_true', Bool.not_eq_false', beq_iff_eq] at hc2
      refine AK.seq ?_
      refine AK.region ?_
      refine AO.val (RV.assign rfl) (.none rfl) rfl ?_
      refine AO.val (RV.assign rfl) (.none rfl) rfl ?_
      refine AO.nil ?_
      -- at fT
      refine AK.ret (h' := (pre ++ (p, Blk.cells [.slice (some ⟨q, 0, none⟩) L L, .int .i64 (s).post, .int .i64 (s).work, .int .i64 (s).reap] 70 (0, 0)) :: (q, Blk.cells (flat encS (s).sl) 72 (0, 0)) :: h)) Try.func29 (.tmp rfl (.tmp rfl .nil)) ?_ (by first | exact SubO.sub | exact List.Sublist.refl _ | exact .cons _ (List.Sublist.refl _) | exact .cons _ (.cons _ (List.Sublist.refl _)) | exact .cons _ (.cons _ (.cons _ (List.Sublist.refl _))))
      refine ⟨rfl, ?_⟩
      simp [nextR, *, oneOr]
    · intro hc2
      try simp only [decide_eq_true_eq, decide_eq_false_iff_not, Bool.not_eq_true', Bool.not_eq_false', beq_iff_eq] at hc2
      refine AK.skip ?_
      refine AK.seq ?_
      refine AK.draw [] [] mixed ?_
      refine AD.takeP 0 rfl (by kernel_rfl) (RV.move rfl) (.none rfl) rfl ?_
      refine AD.takeP 1 rfl (by kernel_rfl) (RV.nilCheck rfl) (.none rfl) rfl ?_
      refine AD.takeP 2 rfl (by kernel_rfl) (RV.fieldAddr rfl) (.none rfl) rfl ?_
      refine AD.take 3 rfl (by kernel_rfl) (by first | exact RV.loadO rfl rfl (by first | simp | assumption) | exact RV.loadF rfl (fun _ => rfl) (by omega) rfl rfl (by first | simp | assumption) | exact RV.loadF0 rfl (fun _ => rfl) (by omega) rfl rfl (by first | simp | assumption) | exact RV.loadS rfl (by assumption) (by omega) (by first | simp | assumption)) (.none rfl) rfl ?_
      refine AD.takeP 4 rfl (by kernel_rfl) (RV.move rfl) (.none rfl) rfl ?_
      refine AD.takeP 5 rfl (by kernel_rfl) (RV.nilCheck rfl) (.none rfl) rfl ?_
      refine AD.takeP 6 rfl (by kernel_rfl) (RV.fieldAddr rfl) (.none rfl) rfl ?_
      refine AD.take 7 rfl (by kernel_rfl) (by first | exact RV.loadO rfl rfl (by first | simp | assumption) | exact RV.loadF rfl (fun _ => rfl) (by omega) rfl rfl (by first | simp | assumption) | exact RV.loadF0 rfl (fun _ => rfl) (by omega) rfl rfl (by first | simp | assumption) | exact RV.loadS rfl (by assumption) (by omega) (by first | simp | assumption)) (.none rfl) rfl ?_
      refine AD.takeP 8 rfl (by kernel_rfl) (by first | exact RV.indexO rfl rfl (by omega) | exact RV.indexS rfl rfl (by assumption) (by omega) rfl | exact RV.indexAddr rfl rfl (by omega)) (.none rfl) rfl ?_
      refine AD.takeP 9 rfl (by kernel_rfl) (RV.fieldAddr rfl) (.none rfl) rfl ?_
      refine AD.take 10 rfl (by kernel_rfl) (by first | exact RV.loadO rfl rfl (by first | simp | assumption) | exact RV.loadF rfl (fun _ => rfl) (by omega) rfl rfl (by first | simp | assumption) | exact RV.loadF0 rfl (fun _ => rfl) (by omega) rfl rfl (by first | simp | assumption) | exact RV.loadS rfl (by assumption) (by omega) (by first | simp | assumption)) (.none rfl) rfl ?_
      refine AD.takeP 11 rfl (by kernel_rfl) (RV.assign rfl) (.none rfl) rfl ?_
      refine AD.takeP 12 rfl (by kernel_rfl) (RV.assign rfl) (.none rfl) rfl ?_
      refine AD.done (by kernel_rfl) ?_
      -- at fF
      refine AK.ret (h' := (pre ++ (p, Blk.cells [.slice (some ⟨q, 0, none⟩) L L, .int .i64 (s).post, .int .i64 (s).work, .int .i64 (s).reap] 70 (0, 0)) :: (q, Blk.cells (flat encS (s).sl) 72 (0, 0)) :: h)) Try.func29 (.tmp rfl (.tmp rfl .nil)) ?_ (by first | exact SubO.sub | exact List.Sublist.refl _ | exact .cons _ (List.Sublist.refl _) | exact .cons _ (.cons _ (List.Sublist.refl _)) | exact .cons _ (.cons _ (.cons _ (List.Sublist.refl _))))
      refine ⟨rfl, ?_⟩
      simp [nextR, *, oneOr]

theorem ring_done (B : World) (pre h : Own) (p q : Nat) (L : Nat) (s : RS) (ok : s.Ok) (hL : s.sl.length = L)  : Tri Try.prog B 31 [.pointer (some ⟨p, 0, none⟩)] (pre ++ (p, Blk.cells [.slice (some ⟨q, 0, none⟩) L L, .int .i64 (s).post, .int .i64 (s).work, .int .i64 (s).reap] 70 (0, 0)) :: (q, Blk.cells (flat encS (s).sl) 72 (0, 0)) :: h) fun v h' => h' = pre ++ (p, Blk.cells [.slice (some ⟨q, 0, none⟩) L L, .int .i64 ((doneR s).1).post, .int .i64 ((doneR s).1).work, .int .i64 ((doneR s).1).reap] 70 (0, 0)) :: (q, Blk.cells (flat encS ((doneR s).1).sl) 72 (0, 0)) :: h ∧ v = .bool (doneR s).2 := by
  have hN : s.N = (s.sl.length : Int) := rfl
  have okn := ok.n
  have okp := ok.post
  have okw := ok.work
  have okr := ok.reap
  rw [hN, hL] at okn okp okw okr
  refine Tri.enter (n := 31) Try.func31 rfl rfl rfl ?_
  simp only [argsE, Nat.reduceAdd]
  try dsimp only [argsE]
  refine AK.seq ?_
  refine AK.region ?_
  refine AO.val (RV.assign rfl) (.none rfl) rfl ?_
  refine AO.nil ?_
  refine AK.seq ?_
  refine AK.seq ?_
  refine AK.region ?_
  refine AO.val (RV.move rfl) (.none rfl) rfl ?_
  refine AO.eff (EF.callF rfl (ring_next B pre h p q L s ok hL)) (.none rfl) rfl ?_
  rintro _ _ ⟨rfl, rfl⟩
  have hnx : (nextR s).2 = (lget s.sl s.work).2.1 := by unfold nextR; split <;> simp [*]
  rw [hnx]
  refine AO.val (RV.move rfl) (.none rfl) rfl ?_
  refine AO.val (RV.extract rfl rfl) (.none rfl) rfl ?_
  refine AO.val (RV.extract rfl rfl) (.none rfl) rfl ?_
  refine AO.val (RV.assign rfl) (.none rfl) rfl ?_
  refine AO.val (RV.assign rfl) (.none rfl) rfl ?_
  refine AO.nil ?_
  refine AK.seq ?_
  refine AK.region ?_
  refine AO.val (RV.move rfl) (.none rfl) rfl ?_
  refine AO.val (RV.not rfl) (.none rfl) rfl ?_
  refine AO.nil ?_
  refine AK.cond rfl ?_ ?_
  · intro hc1
    try simp only [decide_eq_true_eq, decide_eq_false_iff_not, Bool.not_eq_true', Bool.not_eq_false', beq_iff_eq] at hc1
    refine AK.seq ?_
    refine AK.region ?_
    refine AO.val (RV.assign rfl) (.none rfl) rfl ?_
    refine AO.nil ?_
    -- at T
    refine AK.ret (h' := (pre ++ (p, Blk.cells [.slice (some ⟨q, 0, none⟩) L L, .int .i64 (s).post, .int .i64 (s).work, .int .i64 (s).reap] 70 (0, 0)) :: (q, Blk.cells (flat encS (s).sl) 72 (0, 0)) :: h)) Try.func31 (.tmp rfl .nil) ?_ (by first | exact SubO.sub | exact List.Sublist.refl _ | exact .cons _ (List.Sublist.refl _) | exact .cons _ (.cons _ (List.Sublist.refl _)) | exact .cons _ (.cons _ (.cons _ (List.Sublist.refl _))))
    have hps : doneR s = (s, false) := by simp [doneR, hc1]
    rw [hps]; exact ⟨rfl, rfl⟩
  · intro hc1
    try simp only [decide_eq_true_eq, decide_eq_false_iff_not, Bool.not_eq_true', Bool.not_eq_false', beq_iff_eq] at hc1
    refine AK.skip ?_
    refine AK.seq ?_
    refine AK.draw [] [10] mixed ?_
    refine AD.takeP 0 rfl (by kernel_rfl) (RV.move rfl) (.none rfl) rfl ?_
    refine AD.takeP 1 rfl (by kernel_rfl) (RV.nilCheck rfl) (.none rfl) rfl ?_
    refine AD.takeP 2 rfl (by kernel_rfl) (RV.fieldAddr rfl) (.none rfl) rfl ?_
    refine AD.take 3 rfl (by kernel_rfl) (by first | exact RV.loadO rfl rfl (by first | simp | assumption) | exact RV.loadF rfl (fun _ => rfl) (by omega) rfl rfl (by first | simp | assumption) | exact RV.loadF0 rfl (fun _ => rfl) (by omega) rfl rfl (by first | simp | assumption) | exact RV.loadS rfl (by assumption) (by omega) (by first | simp | assumption)) (.none rfl) rfl ?_
    refine AD.takeP 4 rfl (by kernel_rfl) (RV.move rfl) (.none rfl) rfl ?_
    refine AD.takeP 5 rfl (by kernel_rfl) (RV.nilCheck rfl) (.none rfl) rfl ?_
    refine AD.takeP 6 rfl (by kernel_rfl) (RV.fieldAddr rfl) (.none rfl) rfl ?_
    refine AD.take 7 rfl (by kernel_rfl) (by first | exact RV.loadO rfl rfl (by first | simp | assumption) | exact RV.loadF rfl (fun _ => rfl) (by omega) rfl rfl (by first | simp | assumption) | exact RV.loadF0 rfl (fun _ => rfl) (by omega) rfl rfl (by first | simp | assumption) | exact RV.loadS rfl (by assumption) (by omega) (by first | simp | assumption)) (.none rfl) rfl ?_
    refine AD.takeP 8 rfl (by kernel_rfl) (by first | exact RV.indexO rfl rfl (by omega) | exact RV.indexS rfl rfl (by assumption) (by omega) rfl | exact RV.indexAddr rfl rfl (by omega)) (.none rfl) rfl ?_
    refine AD.takeP 9 rfl (by kernel_rfl) (RV.fieldAddr rfl) (.none rfl) rfl ?_
    refine AD.one 10 (by kernel_rfl) (AE.effN rfl (EF.storeF (((lget s.sl s.work).1, false, (lget s.sl s.work).2.2)) rfl rfl (fun _ => rfl) (by omega) rfl rfl rfl (Nat.le_of_ble_eq_true rfl) rfl) (.none rfl) ?_)
    rintro _ _ rfl
    refine ⟨.inl (by kernel_rfl), ?_⟩
    refine AD.done (by kernel_rfl) ?_
    refine AK.seq ?_
    refine AK.region ?_
    refine AO.val (RV.move rfl) (.none rfl) rfl ?_
    refine AO.val (RV.move rfl) (.none rfl) rfl ?_
    refine AO.val (RV.move rfl) (.none rfl) rfl ?_
    refine AO.val (RV.nilCheck rfl) (.none rfl) rfl ?_
    refine AO.val (RV.fieldAddr rfl) (.none rfl) rfl ?_
    refine AO.val (by first | exact RV.loadO rfl rfl (by first | simp | assumption) | exact RV.loadF rfl (fun _ => rfl) (by omega) rfl rfl (by first | simp | assumption) | exact RV.loadF0 rfl (fun _ => rfl) (by omega) rfl rfl (by first | simp | assumption) | exact RV.loadS rfl (by assumption) (by omega) (by first | simp | assumption)) (.none rfl) rfl ?_
    refine AO.eff (EF.callF rfl (ring_behind B pre h p q L ⟨lset s.sl s.work ((lget s.sl s.work).1, false, (lget s.sl s.work).2.2), s.post, s.work, s.reap⟩ (ok.set _ _) (by rw [lset_len]; exact hL) _ okw)) (.none rfl) rfl ?_
    rintro _ _ ⟨rfl, rfl⟩
    refine AO.val (RV.nilCheck rfl) (.none rfl) rfl ?_
    refine AO.val (RV.fieldAddr rfl) (.none rfl) rfl ?_
    refine AO.effN (EF.storeO rfl rfl rfl rfl rfl rfl) (.none rfl) ?_
    rintro _ _ rfl
    refine AO.nil ?_
    refine AK.seq ?_
    refine AK.region ?_
    refine AO.val (RV.assign rfl) (.none rfl) rfl ?_
    refine AO.nil ?_
    -- at F
    refine AK.ret (h' := pre ++ (p, Blk.cells [.slice (some ⟨q, 0, none⟩) L L, .int .i64 ((⟨lset s.sl s.work ((lget s.sl s.work).1, false, (lget s.sl s.work).2.2), s.post, (s.work + 1) % L, s.reap⟩ : RS)).post, .int .i64 ((⟨lset s.sl s.work ((lget s.sl s.work).1, false, (lget s.sl s.work).2.2), s.post, (s.work + 1) % L, s.reap⟩ : RS)).work, .int .i64 ((⟨lset s.sl s.work ((lget s.sl s.work).1, false, (lget s.sl s.work).2.2), s.post, (s.work + 1) % L, s.reap⟩ : RS)).reap] 70 (0, 0)) :: (q, Blk.cells (flat encS ((⟨lset s.sl s.work ((lget s.sl s.work).1, false, (lget s.sl s.work).2.2), s.post, (s.work + 1) % L, s.reap⟩ : RS)).sl) 72 (0, 0)) :: h) Try.func31 (.tmp rfl .nil) ?_ (by first | exact SubO.sub | exact List.Sublist.refl _ | exact .cons _ (List.Sublist.refl _) | exact .cons _ (.cons _ (List.Sublist.refl _)) | exact .cons _ (.cons _ (.cons _ (List.Sublist.refl _))))
    have hps : doneR s = ((⟨lset s.sl s.work ((lget s.sl s.work).1, false, (lget s.sl s.work).2.2), s.post, (s.work + 1) % L, s.reap⟩ : RS), true) := by simp [doneR, hc1, hN, hL]
    rw [hps]; exact ⟨rfl, rfl⟩

theorem ring_reap (B : World) (pre h : Own) (p q : Nat) (L : Nat) (s : RS) (ok : s.Ok) (hL : s.sl.length = L)  : Tri Try.prog B 33 [.pointer (some ⟨p, 0, none⟩)] (pre ++ (p, Blk.cells [.slice (some ⟨q, 0, none⟩) L L, .int .i64 (s).post, .int .i64 (s).work, .int .i64 (s).reap] 70 (0, 0)) :: (q, Blk.cells (flat encS (s).sl) 72 (0, 0)) :: h) fun v h' => h' = pre ++ (p, Blk.cells [.slice (some ⟨q, 0, none⟩) L L, .int .i64 ((reapR s).1).post, .int .i64 ((reapR s).1).work, .int .i64 ((reapR s).1).reap] 70 (0, 0)) :: (q, Blk.cells (flat encS ((reapR s).1).sl) 72 (0, 0)) :: h ∧ v = .tuple #[.int .i64 (reapR s).2.1, .bool (reapR s).2.2] := by
  have hN : s.N = (s.sl.length : Int) := rfl
  have okn := ok.n
  have okp := ok.post
  have okw := ok.work
  have okr := ok.reap
  rw [hN, hL] at okn okp okw okr
  refine Tri.enter (n := 66) Try.func33 rfl rfl rfl ?_
  simp only [argsE, Nat.reduceAdd]
  try dsimp only [argsE]
  refine AK.seq ?_
  refine AK.region ?_
  refine AO.val (RV.assign rfl) (.none rfl) rfl ?_
  refine AO.val (RV.assign rfl) (.none rfl) rfl ?_
  refine AO.nil ?_
  refine AK.seq ?_
  refine AK.seq ?_
  refine AK.draw [] [] mixed ?_
  refine AD.takeP 0 rfl (by kernel_rfl) (RV.move rfl) (.none rfl) rfl ?_
  refine AD.one 1 (by kernel_rfl) (AE.eff rfl (EF.callF rfl (ring_size B pre h p q L s ok hL)) (.none rfl) rfl ?_)
  rintro _ _ ⟨rfl, rfl⟩
  refine ⟨(by first | exact .inr fun x hx hM => hx | exact .inr fun x hx hM => List.mem_cons_of_mem _ hx | exact .inr fun x hx hM => List.mem_append_right _ hx), ?_⟩
  refine AD.takeP 2 rfl (by kernel_rfl) (RV.eql rfl rfl) (.none rfl) rfl ?_
  refine AD.takeP 3 rfl (by kernel_rfl) (RV.move rfl) (.none rfl) rfl ?_
  refine AD.caseG (d := 8) (j := 3) rfl rfl ?_ ?_
  · intro hg1
    try simp only [decide_eq_true_eq, decide_eq_false_iff_not, Bool.not_eq_true', Bool.not_eq_false', beq_iff_eq] at hg1
    exfalso; omega
  · intro hg1
    try simp only [decide_eq_true_eq, decide_eq_false_iff_not, Bool.not_eq_true', Bool.not_eq_false', beq_iff_eq] at hg1
    refine AD.takeP 4 rfl (by kernel_rfl) (RV.move rfl) (.some rfl rfl rfl rfl) rfl ?_
    refine AD.takeP 5 rfl (by kernel_rfl) (RV.nilCheck rfl) (.some rfl rfl rfl rfl) rfl ?_
    refine AD.takeP 6 rfl (by kernel_rfl) (RV.fieldAddr rfl) (.some rfl rfl rfl rfl) rfl ?_
    refine AD.take 7 rfl (by kernel_rfl) (by first | exact RV.loadO rfl rfl (by first | simp | assumption) | exact RV.loadF rfl (fun _ => rfl) (by omega) rfl rfl (by first | simp | assumption) | exact RV.loadF0 rfl (fun _ => rfl) (by omega) rfl rfl (by first | simp | assumption) | exact RV.loadS rfl (by assumption) (by omega) (by first | simp | assumption)) (.some rfl rfl rfl rfl) rfl ?_
    refine AD.takeP 8 rfl (by kernel_rfl) (RV.move rfl) (.some rfl rfl rfl rfl) rfl ?_
    refine AD.takeP 9 rfl (by kernel_rfl) (RV.nilCheck rfl) (.some rfl rfl rfl rfl) rfl ?_
    refine AD.takeP 10 rfl (by kernel_rfl) (RV.fieldAddr rfl) (.some rfl rfl rfl rfl) rfl ?_
    refine AD.take 11 rfl (by kernel_rfl) (by first | exact RV.loadO rfl rfl (by first | simp | assumption) | exact RV.loadF rfl (fun _ => rfl) (by omega) rfl rfl (by first | simp | assumption) | exact RV.loadF0 rfl (fun _ => rfl) (by omega) rfl rfl (by first | simp | assumption) | exact RV.loadS rfl (by assumption) (by omega) (by first | simp | assumption)) (.some rfl rfl rfl rfl) rfl ?_
    refine AD.takeP 12 rfl (by kernel_rfl) (by first | exact RV.indexO rfl rfl (by omega) | exact RV.indexS rfl rfl (by assumption) (by omega) rfl | exact RV.indexAddr rfl rfl (by omega)) (.some rfl rfl rfl rfl) rfl ?_
    refine AD.takeP 13 rfl (by kernel_rfl) (RV.fieldAddr rfl) (.some rfl rfl rfl rfl) rfl ?_
    refine AD.take 14 rfl (by kernel_rfl) (by first | exact RV.loadO rfl rfl (by first | simp | assumption) | exact RV.loadF rfl (fun _ => rfl) (by omega) rfl rfl (by first | simp | assumption) | exact RV.loadF0 rfl (fun _ => rfl) (by omega) rfl rfl (by first | simp | assumption) | exact RV.loadS rfl (by assumption) (by omega) (by first | simp | assumption)) (.some rfl rfl rfl rfl) rfl ?_
    refine AD.takeP 15 rfl (by kernel_rfl) (RV.pickF rfl rfl) (.none rfl) rfl ?_
    refine AD.takeP 16 rfl (by kernel_rfl) (RV.move rfl) (.none rfl) rfl ?_
    refine AD.caseG (d := 21) (j := 16) rfl rfl ?_ ?_
    · intro hg2
      try simp only [decide_eq_true_eq, decide_eq_false_iff_not, Bool.not_eq_true', Bool.not_eq_false', beq_iff_eq] at hg2
      refine AD.pass 17 rfl (by kernel_rfl) (.some rfl rfl rfl rfl) rfl ?_
      refine AD.pass 18 rfl (by kernel_rfl) (.some rfl rfl rfl rfl) rfl ?_
      refine AD.pass 19 rfl (by kernel_rfl) (.some rfl rfl rfl rfl) rfl ?_
      refine AD.pass 20 rfl (by kernel_rfl) (.some rfl rfl rfl rfl) rfl ?_
      refine AD.pass 21 rfl (by kernel_rfl) (.some rfl rfl rfl rfl) rfl ?_
      refine AD.pass 22 rfl (by kernel_rfl) (.some rfl rfl rfl rfl) rfl ?_
      refine AD.pass 23 rfl (by kernel_rfl) (.some rfl rfl rfl rfl) rfl ?_
      refine AD.pass 24 rfl (by kernel_rfl) (.some rfl rfl rfl rfl) rfl ?_
      refine AD.pass 25 rfl (by kernel_rfl) (.some rfl rfl rfl rfl) rfl ?_
      refine AD.pass 26 rfl (by kernel_rfl) (.some rfl rfl rfl rfl) rfl ?_
      refine AD.pass 27 rfl (by kernel_rfl) (.some rfl rfl rfl rfl) rfl ?_
      refine AD.pass 28 rfl (by kernel_rfl) (.some rfl rfl rfl rfl) rfl ?_
      refine AD.takeP 29 rfl (by kernel_rfl) (RV.pickT rfl rfl) (.none rfl) rfl ?_
      refine AD.done (by kernel_rfl) ?_
      refine AK.condT rfl ?_
      refine AK.seq ?_
      refine AK.region ?_
      refine AO.val (RV.assign rfl) (.none rfl) rfl ?_
      refine AO.val (RV.assign rfl) (.none rfl) rfl ?_
      refine AO.nil ?_
      -- at ft
      refine AK.ret (h' := (pre ++ (p, Blk.cells [.slice (some ⟨q, 0, none⟩) L L, .int .i64 (s).post, .int .i64 (s).work, .int .i64 (s).reap] 70 (0, 0)) :: (q, Blk.cells (flat encS (s).sl) 72 (0, 0)) :: h)) Try.func33 (.tmp rfl (.tmp rfl .nil)) ?_ (by first | exact SubO.sub | exact List.Sublist.refl _ | exact .cons _ (List.Sublist.refl _) | exact .cons _ (.cons _ (List.Sublist.refl _)) | exact .cons _ (.cons _ (.cons _ (List.Sublist.refl _))))
      have hps : reapR s = (s, 0, false) := by simp [reapR, isReady, *]
      rw [hps]; exact ⟨rfl, rfl⟩
    · intro hg2
      try simp only [decide_eq_true_eq, decide_eq_false_iff_not, Bool.not_eq_true', Bool.not_eq_false', beq_iff_eq] at hg2
      refine AD.takeP 17 rfl (by kernel_rfl) (RV.move rfl) (.some rfl rfl rfl rfl) rfl ?_
      refine AD.takeP 18 rfl (by kernel_rfl) (RV.nilCheck rfl) (.some rfl rfl rfl rfl) rfl ?_
      refine AD.takeP 19 rfl (by kernel_rfl) (RV.fieldAddr rfl) (.some rfl rfl rfl rfl) rfl ?_
      refine AD.take 20 rfl (by kernel_rfl) (by first | exact RV.loadO rfl rfl (by first | simp | assumption) | exact RV.loadF rfl (fun _ => rfl) (by omega) rfl rfl (by first | simp | assumption) | exact RV.loadF0 rfl (fun _ => rfl) (by omega) rfl rfl (by first | simp | assumption) | exact RV.loadS rfl (by assumption) (by omega) (by first | simp | assumption)) (.some rfl rfl rfl rfl) rfl ?_
      refine AD.takeP 21 rfl (by kernel_rfl) (RV.move rfl) (.some rfl rfl rfl rfl) rfl ?_
      refine AD.takeP 22 rfl (by kernel_rfl) (RV.nilCheck rfl) (.some rfl rfl rfl rfl) rfl ?_
      refine AD.takeP 23 rfl (by kernel_rfl) (RV.fieldAddr rfl) (.some rfl rfl rfl rfl) rfl ?_
      refine AD.take 24 rfl (by kernel_rfl) (by first | exact RV.loadO rfl rfl (by first | simp | assumption) | exact RV.loadF rfl (fun _ => rfl) (by omega) rfl rfl (by first | simp | assumption) | exact RV.loadF0 rfl (fun _ => rfl) (by omega) rfl rfl (by first | simp | assumption) | exact RV.loadS rfl (by assumption) (by omega) (by first | simp | assumption)) (.some rfl rfl rfl rfl) rfl ?_
      refine AD.takeP 25 rfl (by kernel_rfl) (by first | exact RV.indexO rfl rfl (by omega) | exact RV.indexS rfl rfl (by assumption) (by omega) rfl | exact RV.indexAddr rfl rfl (by omega)) (.some rfl rfl rfl rfl) rfl ?_
      refine AD.takeP 26 rfl (by kernel_rfl) (RV.fieldAddr rfl) (.some rfl rfl rfl rfl) rfl ?_
      refine AD.take 27 rfl (by kernel_rfl) (by first | exact RV.loadO rfl rfl (by first | simp | assumption) | exact RV.loadF rfl (fun _ => rfl) (by omega) rfl rfl (by first | simp | assumption) | exact RV.loadF0 rfl (fun _ => rfl) (by omega) rfl rfl (by first | simp | assumption) | exact RV.loadS rfl (by assumption) (by omega) (by first | simp | assumption)) (.some rfl rfl rfl rfl) rfl ?_
      refine AD.takeP 28 rfl (by kernel_rfl) (RV.not rfl) (.some rfl rfl rfl rfl) rfl ?_
      refine AD.takeP 29 rfl (by kernel_rfl) (RV.pickF rfl rfl) (.none rfl) rfl ?_
      refine AD.done (by kernel_rfl) ?_
      refine AK.cond rfl ?_ ?_
      · intro hc3
        try simp only [decide_eq_true_eq, decide_eq_false_iff_not, Bool.not_eq_true', Bool.not_eq_false', beq_iff_eq] at hc3
        refine AK.seq ?_
        refine AK.region ?_
        refine AO.val (RV.assign rfl) (.none rfl) rfl ?_
        refine AO.val (RV.assign rfl) (.none rfl) rfl ?_
        refine AO.nil ?_
        -- at ffT
        refine AK.ret (h' := (pre ++ (p, Blk.cells [.slice (some ⟨q, 0, none⟩) L L, .int .i64 (s).post, .int .i64 (s).work, .int .i64 (s).reap] 70 (0, 0)) :: (q, Blk.cells (flat encS (s).sl) 72 (0, 0)) :: h)) Try.func33 (.tmp rfl (.tmp rfl .nil)) ?_ (by first | exact SubO.sub | exact List.Sublist.refl _ | exact .cons _ (List.Sublist.refl _) | exact .cons _ (.cons _ (List.Sublist.refl _)) | exact .cons _ (.cons _ (.cons _ (List.Sublist.refl _))))
        have hps : reapR s = (s, 0, false) := by simp [reapR, isReady, *]
        rw [hps]; exact ⟨rfl, rfl⟩
      · intro hc3
        try simp only [decide_eq_true_eq, decide_eq_false_iff_not, Bool.not_eq_true', Bool.not_eq_false', beq_iff_eq] at hc3
        refine AK.skip ?_
        refine AK.seq ?_
        refine AK.draw [] [] mixed ?_
        refine AD.takeP 0 rfl (by kernel_rfl) (RV.move rfl) (.none rfl) rfl ?_
        refine AD.takeP 1 rfl (by kernel_rfl) (RV.nilCheck rfl) (.none rfl) rfl ?_
        refine AD.takeP 2 rfl (by kernel_rfl) (RV.fieldAddr rfl) (.none rfl) rfl ?_
        refine AD.take 3 rfl (by kernel_rfl) (by first | exact RV.loadO rfl rfl (by first | simp | assumption) | exact RV.loadF rfl (fun _ => rfl) (by omega) rfl rfl (by first | simp | assumption) | exact RV.loadF0 rfl (fun _ => rfl) (by omega) rfl rfl (by first | simp | assumption) | exact RV.loadS rfl (by assumption) (by omega) (by first | simp | assumption)) (.none rfl) rfl ?_
        refine AD.takeP 4 rfl (by kernel_rfl) (RV.move rfl) (.none rfl) rfl ?_
        refine AD.takeP 5 rfl (by kernel_rfl) (RV.nilCheck rfl) (.none rfl) rfl ?_
        refine AD.takeP 6 rfl (by kernel_rfl) (RV.fieldAddr rfl) (.none rfl) rfl ?_
        refine AD.take 7 rfl (by kernel_rfl) (by first | exact RV.loadO rfl rfl (by first | simp | assumption) | exact RV.loadF rfl (fun _ => rfl) (by omega) rfl rfl (by first | simp | assumption) | exact RV.loadF0 rfl (fun _ => rfl) (by omega) rfl rfl (by first | simp | assumption) | exact RV.loadS rfl (by assumption) (by omega) (by first | simp | assumption)) (.none rfl) rfl ?_
        refine AD.takeP 8 rfl (by kernel_rfl) (by first | exact RV.indexO rfl rfl (by omega) | exact RV.indexS rfl rfl (by assumption) (by omega) rfl | exact RV.indexAddr rfl rfl (by omega)) (.none rfl) rfl ?_
        refine AD.takeP 9 rfl (by kernel_rfl) (RV.fieldAddr rfl) (.none rfl) rfl ?_
        refine AD.take 10 rfl (by kernel_rfl) (by first | exact RV.loadO rfl rfl (by first | simp | assumption) | exact RV.loadF rfl (fun _ => rfl) (by omega) rfl rfl (by first | simp | assumption) | exact RV.loadF0 rfl (fun _ => rfl) (by omega) rfl rfl (by first | simp | assumption) | exact RV.loadS rfl (by assumption) (by omega) (by first | simp | assumption)) (.none rfl) rfl ?_
        refine AD.takeP 11 rfl (by kernel_rfl) (RV.assign rfl) (.none rfl) rfl ?_
        refine AD.done (by kernel_rfl) ?_
        refine AK.seq ?_
        refine AK.draw [] [10] mixed ?_
        refine AD.takeP 0 rfl (by kernel_rfl) (RV.move rfl) (.none rfl) rfl ?_
        refine AD.takeP 1 rfl (by kernel_rfl) (RV.nilCheck rfl) (.none rfl) rfl ?_
        refine AD.takeP 2 rfl (by kernel_rfl) (RV.fieldAddr rfl) (.none rfl) rfl ?_
        refine AD.take 3 rfl (by kernel_rfl) (by first | exact RV.loadO rfl rfl (by first | simp | assumption) | exact RV.loadF rfl (fun _ => rfl) (by omega) rfl rfl (by first | simp | assumption) | exact RV.loadF0 rfl (fun _ => rfl) (by omega) rfl rfl (by first | simp | assumption) | exact RV.loadS rfl (by assumption) (by omega) (by first | simp | assumption)) (.none rfl) rfl ?_
        refine AD.takeP 4 rfl (by kernel_rfl) (RV.move rfl) (.none rfl) rfl ?_
        refine AD.takeP 5 rfl (by kernel_rfl) (RV.nilCheck rfl) (.none rfl) rfl ?_
        refine AD.takeP 6 rfl (by kernel_rfl) (RV.fieldAddr rfl) (.none rfl) rfl ?_
        refine AD.take 7 rfl (by kernel_rfl) (by first | exact RV.loadO rfl rfl (by first | simp | assumption) | exact RV.loadF rfl (fun _ => rfl) (by omega) rfl rfl (by first | simp | assumption) | exact RV.loadF0 rfl (fun _ => rfl) (by omega) rfl rfl (by first | simp | assumption) | exact RV.loadS rfl (by assumption) (by omega) (by first | simp | assumption)) (.none rfl) rfl ?_
        refine AD.takeP 8 rfl (by kernel_rfl) (RV.build rfl .nil) (.none rfl) rfl ?_
        refine AD.takeP 9 rfl (by kernel_rfl) (by first | exact RV.indexO rfl rfl (by omega) | exact RV.indexS rfl rfl (by assumption) (by omega) rfl | exact RV.indexAddr rfl rfl (by omega)) (.none rfl) rfl ?_
        refine AD.one 10 (by kernel_rfl) (AE.effN rfl (EF.storeF0 ((0, false, false)) rfl rfl (fun _ => rfl) (by omega) rfl rfl rfl (Nat.le_of_ble_eq_true rfl) rfl) (.none rfl) ?_)
        rintro _ _ rfl
        refine ⟨.inl (by kernel_rfl), ?_⟩
        refine AD.done (by kernel_rfl) ?_
        refine AK.seq ?_
        refine AK.region ?_
        refine AO.val (RV.move rfl) (.none rfl) rfl ?_
        refine AO.val (RV.move rfl) (.none rfl) rfl ?_
        refine AO.val (RV.move rfl) (.none rfl) rfl ?_
        refine AO.val (RV.nilCheck rfl) (.none rfl) rfl ?_
        refine AO.val (RV.fieldAddr rfl) (.none rfl) rfl ?_
        refine AO.val (by first | exact RV.loadO rfl rfl (by first | simp | assumption) | exact RV.loadF rfl (fun _ => rfl) (by omega) rfl rfl (by first | simp | assumption) | exact RV.loadF0 rfl (fun _ => rfl) (by omega) rfl rfl (by first | simp | assumption) | exact RV.loadS rfl (by assumption) (by omega) (by first | simp | assumption)) (.none rfl) rfl ?_
        refine AO.eff (EF.callF rfl (ring_behind B pre h p q L ⟨lset s.sl s.reap (0, false, false), s.post, s.work, s.reap⟩ (ok.set _ _) (by rw [lset_len]; exact hL) _ okr)) (.none rfl) rfl ?_
        rintro _ _ ⟨rfl, rfl⟩
        refine AO.val (RV.nilCheck rfl) (.none rfl) rfl ?_
        refine AO.val (RV.fieldAddr rfl) (.none rfl) rfl ?_
        refine AO.effN (EF.storeO rfl rfl rfl rfl rfl rfl) (.none rfl) ?_
        rintro _ _ rfl
        refine AO.nil ?_
        refine AK.seq ?_
        refine AK.region ?_
        refine AO.val (RV.move rfl) (.none rfl) rfl ?_
        refine AO.val (RV.assign rfl) (.none rfl) rfl ?_
        refine AO.val (RV.assign rfl) (.none rfl) rfl ?_
        refine AO.nil ?_
        -- at ffF
        refine AK.ret (h' := pre ++ (p, Blk.cells [.slice (some ⟨q, 0, none⟩) L L, .int .i64 ((⟨lset s.sl s.reap (0, false, false), s.post, s.work, (s.reap + 1) % L⟩ : RS)).post, .int .i64 ((⟨lset s.sl s.reap (0, false, false), s.post, s.work, (s.reap + 1) % L⟩ : RS)).work, .int .i64 ((⟨lset s.sl s.reap (0, false, false), s.post, s.work, (s.reap + 1) % L⟩ : RS)).reap] 70 (0, 0)) :: (q, Blk.cells (flat encS ((⟨lset s.sl s.reap (0, false, false), s.post, s.work, (s.reap + 1) % L⟩ : RS)).sl) 72 (0, 0)) :: h) Try.func33 (.tmp rfl (.tmp rfl .nil)) ?_ (by first | exact SubO.sub | exact List.Sublist.refl _ | exact .cons _ (List.Sublist.refl _) | exact .cons _ (.cons _ (List.Sublist.refl _)) | exact .cons _ (.cons _ (.cons _ (List.Sublist.refl _))))
        have hps : reapR s = ((⟨lset s.sl s.reap (0, false, false), s.post, s.work, (s.reap + 1) % L⟩ : RS), (lget s.sl s.reap).1, true) := by simp [reapR, isReady, hN, hL, *]
        rw [hps]; exact ⟨rfl, rfl⟩

theorem ring_count (B : World) (pre h : Own) (p q : Nat) (L : Nat) (s : RS) (ok : s.Ok) (hL : s.sl.length = L) (g : Nat) [CallIs Try.prog g] (pr : Slot → Bool) (hg : ∀ (h : Own) (x : Slot), Tri Try.prog B g [.agg (encS x).toArray] h fun v h' => h = h' ∧ v = .bool (pr x)) : Tri Try.prog B 48 [.pointer (some ⟨p, 0, none⟩), .func (.func g) #[] #[]] (pre ++ (p, Blk.cells [.slice (some ⟨q, 0, none⟩) L L, .int .i64 (s).post, .int .i64 (s).work, .int .i64 (s).reap] 70 (0, 0)) :: (q, Blk.cells (flat encS (s).sl) 72 (0, 0)) :: h) fun v h' => (pre ++ (p, Blk.cells [.slice (some ⟨q, 0, none⟩) L L, .int .i64 (s).post, .int .i64 (s).work, .int .i64 (s).reap] 70 (0, 0)) :: (q, Blk.cells (flat encS (s).sl) 72 (0, 0)) :: h) = h' ∧ v = .int .i64 (cnt pr s.sl) := by
  have hN : s.N = (s.sl.length : Int) := rfl
  have okn := ok.n
  have okp := ok.post
  have okw := ok.work
  have okr := ok.reap
  rw [hN, hL] at okn okp okw okr
  refine Tri.enter (n := 25) Try.func48 rfl rfl rfl ?_
  simp only [argsE, Nat.reduceAdd]
  try dsimp only [argsE]
  refine AK.seq ?_
  refine AK.region ?_
  refine AO.val (RV.assign rfl) (.none rfl) rfl ?_
  refine AO.nil ?_
  refine AK.seq ?_
  refine AK.region ?_
  refine AO.val (RV.assign rfl) (.none rfl) rfl ?_
  refine AO.nil ?_
  refine AK.seq ?_
  refine AK.seq ?_
  refine AK.region ?_
  refine AO.val (RV.move rfl) (.none rfl) rfl ?_
  refine AO.eff (EF.callF rfl (ring_size B pre h p q L s ok hL)) (.none rfl) rfl ?_
  rintro _ _ ⟨rfl, rfl⟩
  refine AO.val (RV.move rfl) (.none rfl) rfl ?_
  refine AO.nil ?_
  refine AK.block ?_
  refine AK.loop (α := Int) (E := fun i => [(0, .pointer (some ⟨p, 0, none⟩)), (1, .func (.func g) #[] #[]), (5, .int .i64 (cnt pr (s.sl.take i.toNat))), (8, .int .i64 L), (9, .int .i64 i)]) (H := fun i => pre ++ (p, Blk.cells [.slice (some ⟨q, 0, none⟩) L L, .int .i64 (s).post, .int .i64 (s).work, .int .i64 (s).reap] 70 (0, 0)) :: (q, Blk.cells (flat encS (s).sl) 72 (0, 0)) :: h) (Inv := fun i => 0 ≤ i ∧ i ≤ L) (μ := fun i => (L - i).toNat) 0 ?_ (.cons (by exact rfl) (.cons (by exact rfl) (.cons (by exact rfl) (.cons (by exact rfl) (.cons (by exact rfl) .nil))))) ?_ ?_
  · exact ⟨by omega, by omega⟩
  · exact (by first | exact SubO.sub | exact List.Sublist.refl _ | exact .cons _ (List.Sublist.refl _) | exact .cons _ (.cons _ (List.Sublist.refl _)) | exact .cons _ (.cons _ (.cons _ (List.Sublist.refl _))))
  rintro i ⟨hi0, hin⟩ hih0
  try dsimp only at hih0 ⊢
  have hct := cnt_take pr s.sl i hi0
  have hcb := cnt_le pr (s.sl.take i.toNat)
  have htk : (s.sl.take i.toNat).length ≤ L := by rw [List.length_take, hL]; omega
  refine AK.seq ?_
  refine AK.region ?_
  refine AO.val (RV.lss rfl rfl) (.none rfl) rfl ?_
  refine AO.nil ?_
  refine AK.seq ?_
  refine AK.cond rfl ?_ ?_
  · intro hc1
    try simp only [decide_eq_true_eq, decide_eq_false_iff_not, Bool.not_eq_true', Bool.not_eq_false', beq_iff_eq] at hc1
    refine AK.skip ?_
    refine AK.seq ?_
    refine AK.block ?_
    refine AK.seq ?_
    refine AK.region ?_
    refine AO.val (RV.move rfl) (.none rfl) rfl ?_
    refine AO.val (RV.assign rfl) (.none rfl) rfl ?_
    refine AO.nil ?_
    refine AK.seq ?_
    refine AK.region ?_
    refine AO.val (RV.move rfl) (.none rfl) rfl ?_
    refine AO.val (RV.move rfl) (.none rfl) rfl ?_
    refine AO.val (RV.nilCheck rfl) (.none rfl) rfl ?_
    refine AO.val (RV.fieldAddr rfl) (.none rfl) rfl ?_
    refine AO.val (by first | exact RV.loadO rfl rfl (by first | simp | assumption) | exact RV.loadF rfl (fun _ => rfl) (by omega) rfl rfl (by first | simp | assumption) | exact RV.loadF0 rfl (fun _ => rfl) (by omega) rfl rfl (by first | simp | assumption) | exact RV.loadS rfl (by assumption) (by omega) (by first | simp | assumption)) (.none rfl) rfl ?_
    refine AO.val (RV.move rfl) (.none rfl) rfl ?_
    refine AO.val (by first | exact RV.indexO rfl rfl (by omega) | exact RV.indexS rfl rfl (by assumption) (by omega) rfl | exact RV.indexAddr rfl rfl (by omega)) (.none rfl) rfl ?_
    refine AO.val (by first | exact RV.loadAggO rfl rfl (by first | simp | assumption) | exact RV.loadAggP rfl rfl rfl (by first | simp | assumption) | exact RV.loadFA rfl (fun _ => rfl) (by omega) (by first | simp | assumption)) (.none rfl) rfl ?_
    refine AO.eff (EF.call (fst := []) (cap := []) rfl rfl (hg _ _)) (.none rfl) rfl ?_
    rintro _ _ ⟨rfl, rfl⟩
    refine AO.nil ?_
    refine AK.cond rfl ?_ ?_
    · intro hc2
      try simp only [decide_eq_true_eq, decide_eq_false_iff_not, Bool.not_eq_true', Bool.not_eq_false', beq_iff_eq] at hc2
      refine AK.region ?_
      refine AO.val (RV.move rfl) (.none rfl) rfl ?_
      refine AO.val (by first | exact RV.addIn rfl rfl (by omega) | exact RV.add rfl rfl) (.none rfl) rfl ?_
      refine AO.val (RV.assign rfl) (.none rfl) rfl ?_
      refine AO.nil ?_
      refine AK.inBlock ?_
      refine AK.region ?_
      refine AO.val (by first | exact RV.addIn rfl rfl (by omega) | exact RV.add rfl rfl) (.none rfl) rfl ?_
      refine AO.val (RV.move rfl) (.none rfl) rfl ?_
      refine AO.nil ?_
      -- round ends at L0TT
      have hct2 := hct (by omega)
      rw [if_pos (by assumption)] at hct2
      refine AK.weak (.cons (by exact rfl) (.cons (by exact rfl) (.cons (by rw [hct2]; exact rfl) (.cons (by exact rfl) (.cons (by exact rfl) .nil))))) (by first | exact SubO.sub | exact List.Sublist.refl _ | exact .cons _ (List.Sublist.refl _) | exact .cons _ (.cons _ (List.Sublist.refl _)) | exact .cons _ (.cons _ (.cons _ (List.Sublist.refl _)))) (hih0 (i + 1) ?_ ?_)
      · try dsimp only
        exact ⟨by omega, by omega⟩
      · try dsimp only
        omega
    · intro hc2
      try simp only [decide_eq_true_eq, decide_eq_false_iff_not, Bool.not_eq_true', Bool.not_eq_false', beq_iff_eq] at hc2
      refine AK.skip ?_
      refine AK.inBlock ?_
      refine AK.region ?_
      refine AO.val (by first | exact RV.addIn rfl rfl (by omega) | exact RV.add rfl rfl) (.none rfl) rfl ?_
      refine AO.val (RV.move rfl) (.none rfl) rfl ?_
      refine AO.nil ?_
      -- round ends at L0TF
      have hct2 := hct (by omega)
      rw [if_neg (by simp_all), Int.add_zero] at hct2
      refine AK.weak (.cons (by exact rfl) (.cons (by exact rfl) (.cons (by rw [hct2]; exact rfl) (.cons (by exact rfl) (.cons (by exact rfl) .nil))))) (by first | exact SubO.sub | exact List.Sublist.refl _ | exact .cons _ (List.Sublist.refl _) | exact .cons _ (.cons _ (List.Sublist.refl _)) | exact .cons _ (.cons _ (.cons _ (List.Sublist.refl _)))) (hih0 (i + 1) ?_ ?_)
      · try dsimp only
        exact ⟨by omega, by omega⟩
      · try dsimp only
        omega
  · intro hc1
    try simp only [decide_eq_true_eq, decide_eq_false_iff_not, Bool.not_eq_true', Bool.not_eq_false', beq_iff_eq] at hc1
    refine AK.exit rfl ?_
    refine AK.seq ?_
    refine AK.region ?_
    refine AO.val (RV.move rfl) (.none rfl) rfl ?_
    refine AO.val (RV.assign rfl) (.none rfl) rfl ?_
    refine AO.nil ?_
    -- at L0F
    clear hih0
    refine AK.ret (h' := (pre ++ (p, Blk.cells [.slice (some ⟨q, 0, none⟩) L L, .int .i64 (s).post, .int .i64 (s).work, .int .i64 (s).reap] 70 (0, 0)) :: (q, Blk.cells (flat encS (s).sl) 72 (0, 0)) :: h)) Try.func48 (.tmp rfl .nil) ?_ (by first | exact SubO.sub | exact List.Sublist.refl _ | exact .cons _ (List.Sublist.refl _) | exact .cons _ (.cons _ (List.Sublist.refl _)) | exact .cons _ (.cons _ (.cons _ (List.Sublist.refl _))))
    refine ⟨rfl, ?_⟩
    rw [show s.sl.take i.toNat = s.sl from List.take_of_length_le (by omega)]; rfl

theorem posted_1 (B : World) (h : Own) (x : Slot) : Tri Try.prog B 51 [.agg (encS x).toArray] h fun v h' => h = h' ∧ v = .bool (isOwn x) := by
  refine Tri.enter (n := 5) Try.func51 rfl rfl rfl ?_
  simp only [argsE, Nat.reduceAdd]
  try dsimp only [argsE]
  refine AK.seq ?_
  refine AK.region ?_
  refine AO.eff (EF.box rfl rfl) (.none rfl) rfl ?_
  rintro _ _ ⟨b1, hf1, rfl, rfl⟩
  refine AO.val (RV.assign rfl) (.none rfl) rfl ?_
  refine AO.nil ?_
  refine AK.seq ?_
  refine AK.region ?_
  refine AO.val (RV.fieldAddr rfl) (.none rfl) rfl ?_
  refine AO.val (by first | exact RV.loadO rfl rfl (by first | simp | assumption) | exact RV.loadS rfl (by assumption) (by omega) (by first | simp | assumption)) (.none rfl) rfl ?_
  refine AO.val (RV.assign rfl) (.none rfl) rfl ?_
  refine AO.nil ?_
  -- at 
  refine AK.ret (h' := h) Try.func51 (.tmp rfl .nil) ?_ (by first | exact SubO.sub | exact List.Sublist.refl _ | exact .cons _ (List.Sublist.refl _) | exact .cons _ (.cons _ (List.Sublist.refl _)) | exact .cons _ (.cons _ (.cons _ (List.Sublist.refl _))))
  refine ⟨rfl, ?_⟩
  simp [isOwn, oneOr, *]

theorem ring_posted (B : World) (pre h : Own) (p q : Nat) (L : Nat) (s : RS) (ok : s.Ok) (hL : s.sl.length = L)  : Tri Try.prog B 41 [.pointer (some ⟨p, 0, none⟩)] (pre ++ (p, Blk.cells [.slice (some ⟨q, 0, none⟩) L L, .int .i64 (s).post, .int .i64 (s).work, .int .i64 (s).reap] 70 (0, 0)) :: (q, Blk.cells (flat encS (s).sl) 72 (0, 0)) :: h) fun v h' => (pre ++ (p, Blk.cells [.slice (some ⟨q, 0, none⟩) L L, .int .i64 (s).post, .int .i64 (s).work, .int .i64 (s).reap] 70 (0, 0)) :: (q, Blk.cells (flat encS (s).sl) 72 (0, 0)) :: h) = h' ∧ v = .int .i64 (cnt isOwn s.sl) := by
  refine Tri.enter (n := 5) Try.func41 rfl rfl rfl ?_
  simp only [argsE, Nat.reduceAdd]
  try dsimp only [argsE]
  refine AK.seq ?_
  refine AK.region ?_
  refine AO.val (RV.assign rfl) (.none rfl) rfl ?_
  refine AO.nil ?_
  refine AK.seq ?_
  refine AK.region ?_
  refine AO.val (RV.move rfl) (.none rfl) rfl ?_
  refine AO.eff (EF.callF rfl (ring_count B pre h p q L s ok hL 51 isOwn (fun h x => (posted_1 B h x).mono fun v h2 hh => hh))) (.none rfl) rfl ?_
  rintro _ _ ⟨rfl, rfl⟩
  refine AO.val (RV.assign rfl) (.none rfl) rfl ?_
  refine AO.nil ?_
  -- at 
  refine AK.ret (h' := (pre ++ (p, Blk.cells [.slice (some ⟨q, 0, none⟩) L L, .int .i64 (s).post, .int .i64 (s).work, .int .i64 (s).reap] 70 (0, 0)) :: (q, Blk.cells (flat encS (s).sl) 72 (0, 0)) :: h)) Try.func41 (.tmp rfl .nil) ?_ (by first | exact SubO.sub | exact List.Sublist.refl _ | exact .cons _ (List.Sublist.refl _) | exact .cons _ (.cons _ (List.Sublist.refl _)) | exact .cons _ (.cons _ (.cons _ (List.Sublist.refl _))))
  exact ⟨rfl, rfl⟩

theorem ready_1 (B : World) (h : Own) (x : Slot) : Tri Try.prog B 50 [.agg (encS x).toArray] h fun v h' => h = h' ∧ v = .bool (isReady x) := by
  refine Tri.enter (n := 10) Try.func50 rfl rfl rfl ?_
  simp only [argsE, Nat.reduceAdd]
  try dsimp only [argsE]
  refine AK.seq ?_
  refine AK.region ?_
  refine AO.eff (EF.box rfl rfl) (.none rfl) rfl ?_
  rintro _ _ ⟨b1, hf1, rfl, rfl⟩
  refine AO.val (RV.assign rfl) (.none rfl) rfl ?_
  refine AO.nil ?_
  refine AK.seq ?_
  refine AK.region ?_
  refine AO.val (RV.fieldAddr rfl) (.none rfl) rfl ?_
  refine AO.val (by first | exact RV.loadO rfl rfl (by first | simp | assumption) | exact RV.loadS rfl (by assumption) (by omega) (by first | simp | assumption)) (.none rfl) rfl ?_
  refine AO.val (RV.move rfl) (.none rfl) rfl ?_
  refine AO.caseG rfl rfl rfl ?_ ?_
  · intro hg1
    try simp only [decide_eq_true_eq, decide_eq_false_iff_not, Bool.not_eq_true', Bool.not_eq_false', beq_iff_eq] at hg1
    refine AO.val (RV.fieldAddr rfl) (.some rfl rfl rfl rfl) rfl ?_
    refine AO.val (by first | exact RV.loadO rfl rfl (by first | simp | assumption) | exact RV.loadS rfl (by assumption) (by omega) (by first | simp | assumption)) (.some rfl rfl rfl rfl) rfl ?_
    refine AO.val (RV.not rfl) (.some rfl rfl rfl rfl) rfl ?_
    refine AO.val (RV.pickT rfl rfl) (.none rfl) rfl ?_
    refine AO.val (RV.assign rfl) (.none rfl) rfl ?_
    refine AO.nil ?_
    -- at t
    refine AK.ret (h' := h) Try.func50 (.tmp rfl .nil) ?_ (by first | exact SubO.sub | exact List.Sublist.refl _ | exact .cons _ (List.Sublist.refl _) | exact .cons _ (.cons _ (List.Sublist.refl _)) | exact .cons _ (.cons _ (.cons _ (List.Sublist.refl _))))
    refine ⟨rfl, ?_⟩
    simp [isReady, oneOr, *]
  · intro hg1
    try simp only [decide_eq_true_eq, decide_eq_false_iff_not, Bool.not_eq_true', Bool.not_eq_false', beq_iff_eq] at hg1
    refine AO.pass (.some rfl rfl rfl rfl) rfl ?_
    refine AO.pass (.some rfl rfl rfl rfl) rfl ?_
    refine AO.pass (.some rfl rfl rfl rfl) rfl ?_
    refine AO.val (RV.pickF rfl rfl) (.none rfl) rfl ?_
    refine AO.val (RV.assign rfl) (.none rfl) rfl ?_
    refine AO.nil ?_
    -- at f
    refine AK.ret (h' := h) Try.func50 (.tmp rfl .nil) ?_ (by first | exact SubO.sub | exact List.Sublist.refl _ | exact .cons _ (List.Sublist.refl _) | exact .cons _ (.cons _ (List.Sublist.refl _)) | exact .cons _ (.cons _ (.cons _ (List.Sublist.refl _))))
    refine ⟨rfl, ?_⟩
    simp [isReady, oneOr, *]

theorem ring_ready (B : World) (pre h : Own) (p q : Nat) (L : Nat) (s : RS) (ok : s.Ok) (hL : s.sl.length = L)  : Tri Try.prog B 40 [.pointer (some ⟨p, 0, none⟩)] (pre ++ (p, Blk.cells [.slice (some ⟨q, 0, none⟩) L L, .int .i64 (s).post, .int .i64 (s).work, .int .i64 (s).reap] 70 (0, 0)) :: (q, Blk.cells (flat encS (s).sl) 72 (0, 0)) :: h) fun v h' => (pre ++ (p, Blk.cells [.slice (some ⟨q, 0, none⟩) L L, .int .i64 (s).post, .int .i64 (s).work, .int .i64 (s).reap] 70 (0, 0)) :: (q, Blk.cells (flat encS (s).sl) 72 (0, 0)) :: h) = h' ∧ v = .int .i64 (cnt isReady s.sl) := by
  refine Tri.enter (n := 5) Try.func40 rfl rfl rfl ?_
  simp only [argsE, Nat.reduceAdd]
  try dsimp only [argsE]
  refine AK.seq ?_
  refine AK.region ?_
  refine AO.val (RV.assign rfl) (.none rfl) rfl ?_
  refine AO.nil ?_
  refine AK.seq ?_
  refine AK.region ?_
  refine AO.val (RV.move rfl) (.none rfl) rfl ?_
  refine AO.eff (EF.callF rfl (ring_count B pre h p q L s ok hL 50 isReady (fun h x => (ready_1 B h x).mono fun v h2 hh => hh))) (.none rfl) rfl ?_
  rintro _ _ ⟨rfl, rfl⟩
  refine AO.val (RV.assign rfl) (.none rfl) rfl ?_
  refine AO.nil ?_
  -- at 
  refine AK.ret (h' := (pre ++ (p, Blk.cells [.slice (some ⟨q, 0, none⟩) L L, .int .i64 (s).post, .int .i64 (s).work, .int .i64 (s).reap] 70 (0, 0)) :: (q, Blk.cells (flat encS (s).sl) 72 (0, 0)) :: h)) Try.func40 (.tmp rfl .nil) ?_ (by first | exact SubO.sub | exact List.Sublist.refl _ | exact .cons _ (List.Sublist.refl _) | exact .cons _ (.cons _ (List.Sublist.refl _)) | exact .cons _ (.cons _ (.cons _ (List.Sublist.refl _))))
  exact ⟨rfl, rfl⟩

theorem room_1 (B : World) (h : Own) (x : Slot) : Tri Try.prog B 49 [.agg (encS x).toArray] h fun v h' => h = h' ∧ v = .bool (isRoom x) := by
  refine Tri.enter (n := 6) Try.func49 rfl rfl rfl ?_
  simp only [argsE, Nat.reduceAdd]
  try dsimp only [argsE]
  refine AK.seq ?_
  refine AK.region ?_
  refine AO.eff (EF.box rfl rfl) (.none rfl) rfl ?_
  rintro _ _ ⟨b1, hf1, rfl, rfl⟩
  refine AO.val (RV.assign rfl) (.none rfl) rfl ?_
  refine AO.nil ?_
  refine AK.seq ?_
  refine AK.region ?_
  refine AO.val (RV.fieldAddr rfl) (.none rfl) rfl ?_
  refine AO.val (by first | exact RV.loadO rfl rfl (by first | simp | assumption) | exact RV.loadS rfl (by assumption) (by omega) (by first | simp | assumption)) (.none rfl) rfl ?_
  refine AO.val (RV.not rfl) (.none rfl) rfl ?_
  refine AO.val (RV.assign rfl) (.none rfl) rfl ?_
  refine AO.nil ?_
  -- at 
  refine AK.ret (h' := h) Try.func49 (.tmp rfl .nil) ?_ (by first | exact SubO.sub | exact List.Sublist.refl _ | exact .cons _ (List.Sublist.refl _) | exact .cons _ (.cons _ (List.Sublist.refl _)) | exact .cons _ (.cons _ (.cons _ (List.Sublist.refl _))))
  refine ⟨rfl, ?_⟩
  simp [isRoom, oneOr, *]

theorem ring_room (B : World) (pre h : Own) (p q : Nat) (L : Nat) (s : RS) (ok : s.Ok) (hL : s.sl.length = L)  : Tri Try.prog B 36 [.pointer (some ⟨p, 0, none⟩)] (pre ++ (p, Blk.cells [.slice (some ⟨q, 0, none⟩) L L, .int .i64 (s).post, .int .i64 (s).work, .int .i64 (s).reap] 70 (0, 0)) :: (q, Blk.cells (flat encS (s).sl) 72 (0, 0)) :: h) fun v h' => (pre ++ (p, Blk.cells [.slice (some ⟨q, 0, none⟩) L L, .int .i64 (s).post, .int .i64 (s).work, .int .i64 (s).reap] 70 (0, 0)) :: (q, Blk.cells (flat encS (s).sl) 72 (0, 0)) :: h) = h' ∧ v = .int .i64 (cnt isRoom s.sl) := by
  refine Tri.enter (n := 5) Try.func36 rfl rfl rfl ?_
  simp only [argsE, Nat.reduceAdd]
  try dsimp only [argsE]
  refine AK.seq ?_
  refine AK.region ?_
  refine AO.val (RV.assign rfl) (.none rfl) rfl ?_
  refine AO.nil ?_
  refine AK.seq ?_
  refine AK.region ?_
  refine AO.val (RV.move rfl) (.none rfl) rfl ?_
  refine AO.eff (EF.callF rfl (ring_count B pre h p q L s ok hL 49 isRoom (fun h x => (room_1 B h x).mono fun v h2 hh => hh))) (.none rfl) rfl ?_
  rintro _ _ ⟨rfl, rfl⟩
  refine AO.val (RV.assign rfl) (.none rfl) rfl ?_
  refine AO.nil ?_
  -- at 
  refine AK.ret (h' := (pre ++ (p, Blk.cells [.slice (some ⟨q, 0, none⟩) L L, .int .i64 (s).post, .int .i64 (s).work, .int .i64 (s).reap] 70 (0, 0)) :: (q, Blk.cells (flat encS (s).sl) 72 (0, 0)) :: h)) Try.func36 (.tmp rfl .nil) ?_ (by first | exact SubO.sub | exact List.Sublist.refl _ | exact .cons _ (List.Sublist.refl _) | exact .cons _ (.cons _ (List.Sublist.refl _)) | exact .cons _ (.cons _ (.cons _ (List.Sublist.refl _))))
  exact ⟨rfl, rfl⟩

theorem ring_new (B : World) (h : Own) (n : Int) : Tri Try.prog B 27 [.int .i64 n] h fun v h' => ∃ p q, h' = (p, Blk.cells [.slice (some ⟨q, 0, none⟩) (newR n).sl.length (newR n).sl.length, .int .i64 ((newR n)).post, .int .i64 ((newR n)).work, .int .i64 ((newR n)).reap] 70 (0, 0)) :: (q, Blk.cells (flat encS ((newR n)).sl) 72 (0, 0)) :: h ∧ v = .pointer (some ⟨p, 0, none⟩) := by
  have hfl : zerosL (min (max n 1) 64).toNat [.int .i64 0, .bool false, .bool false] = flat encS (newR n).sl := flat_rep _
  have hle : (min (max n 1) 64).toNat = (newR n).sl.length := by simp [newR]
  refine Tri.enter (n := 9) Try.func27 rfl rfl rfl ?_
  simp only [argsE, Nat.reduceAdd]
  try dsimp only [argsE]
  refine AK.seq ?_
  refine AK.region ?_
  refine AO.val (RV.assign rfl) (.none rfl) rfl ?_
  refine AO.nil ?_
  refine AK.seq ?_
  refine AK.region ?_
  refine AO.val (RV.move rfl) (.none rfl) rfl ?_
  refine AO.val (RV.max2 rfl rfl) (.none rfl) rfl ?_
  refine AO.val (RV.min2 rfl rfl) (.none rfl) rfl ?_
  refine AO.eff (EF.makeSlice rfl rfl rfl (by omega) (by omega) (by omega)) (.none rfl) rfl ?_
  rintro _ _ ⟨b6, hf6, rfl, rfl⟩
  rw [hfl]
  simp only [hle]
  refine AO.val (RV.build rfl (.cons rfl rfl rfl rfl .nil)) (.none rfl) rfl ?_
  refine AO.eff (EF.box rfl rfl) (.none rfl) rfl ?_
  rintro _ _ ⟨b8, hf8, rfl, rfl⟩
  refine AO.val (RV.assign rfl) (.none rfl) rfl ?_
  refine AO.nil ?_
  -- at 
  refine AK.ret (h' := (b8, Blk.cells [.slice (some ⟨b6, 0, none⟩) (newR n).sl.length (newR n).sl.length, .int .i64 0, .int .i64 0, .int .i64 0] 70 (0, 0)) :: (b6, Blk.cells (flat encS (newR n).sl) 72 (0, 0)) :: h) Try.func27 (.tmp rfl .nil) ?_ (by first | exact SubO.sub | exact List.Sublist.refl _ | exact .cons _ (List.Sublist.refl _) | exact .cons _ (.cons _ (List.Sublist.refl _)) | exact .cons _ (.cons _ (.cons _ (List.Sublist.refl _))))
  exact ⟨b8, b6, rfl, rfl⟩

end Go.Proofs.Ytpobjhmbonojkaa
