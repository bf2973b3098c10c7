/- Walks through the code: what each function that is named here gives back, from any memory that holds its arguments. Written by a program of the claim's author, out of the program's form in Lean. -/
import Derived.Test.YtjhflpangoddaaaW1
set_option linter.unusedSimpArgs false
set_option linter.unusedVariables false
namespace Go.Proofs.Ytjhflpangoddaaa
open Go.Sep Go.Sep.Ring

theorem posted_1 (B : World) (h : Own) (x : Slot) : Tri Try.prog B 26 [.agg (encS x).toArray] h fun v h' => h = h' ∧ v = .bool (isOwn x) := by
  refine Tri.enter (n := 5) Try.func26 rfl rfl rfl ?_
  simp only [argsE, Nat.reduceAdd]
  try dsimp only [argsE]
  refine AK.seq ?_
  refine AK.region ?_
  refine AO.eff (EF.box rfl rfl) (.none rfl) rfl ?_
  rintro _ _ ⟨b1, hf1, rfl, rfl⟩
  refine AO.val (RV.assign rfl) (.none rfl) rfl ?_
  refine AO.nil ?_
  refine AK.seq ?_
  refine AK.region ?_
  refine AO.val (RV.fieldAddr rfl) (.none rfl) rfl ?_
  refine AO.val (by first | exact RV.loadO rfl rfl (by simp) | exact RV.loadS rfl (by assumption) (by omega) (by simp)) (.none rfl) rfl ?_
  refine AO.val (RV.assign rfl) (.none rfl) rfl ?_
  refine AO.nil ?_
  -- at 
  refine AK.ret (h' := h) Try.func26 (.tmp rfl .nil) ?_ (by first | exact SubO.sub | exact List.Sublist.refl _ | exact .cons _ (List.Sublist.refl _) | exact .cons _ (.cons _ (List.Sublist.refl _)) | exact .cons _ (.cons _ (.cons _ (List.Sublist.refl _))))
  refine ⟨rfl, ?_⟩
  simp [isOwn, oneOr, *]

theorem posted_spec (B : World) (pre h : Own) (p q : Nat) (L : Nat) (s : RS) (ok : s.Ok) (hL : s.sl.length = L)  : Tri Try.prog B 17 [.pointer (some ⟨p, 0, none⟩)] (pre ++ (p, Blk.cells [.slice (some ⟨q, 0, none⟩) L L, .int .i64 (s).post, .int .i64 (s).work, .int .i64 (s).reap] 41 (0, 0)) :: (q, Blk.cells (flat encS (s).sl) 44 (0, 0)) :: h) fun v h' => (pre ++ (p, Blk.cells [.slice (some ⟨q, 0, none⟩) L L, .int .i64 (s).post, .int .i64 (s).work, .int .i64 (s).reap] 41 (0, 0)) :: (q, Blk.cells (flat encS (s).sl) 44 (0, 0)) :: h) = h' ∧ v = .int .i64 (cnt isOwn s.sl) := by
  refine Tri.enter (n := 5) Try.func17 rfl rfl rfl ?_
  simp only [argsE, Nat.reduceAdd]
  try dsimp only [argsE]
  refine AK.seq ?_
  refine AK.region ?_
  refine AO.val (RV.assign rfl) (.none rfl) rfl ?_
  refine AO.nil ?_
  refine AK.seq ?_
  refine AK.region ?_
  refine AO.val (RV.move rfl) (.none rfl) rfl ?_
  refine AO.eff (EF.callF rfl (count_spec B pre h p q L s ok hL 26 isOwn (fun h x => (posted_1 B h x).mono fun v h2 hh => hh))) (.none rfl) rfl ?_
  rintro _ _ ⟨rfl, rfl⟩
  refine AO.val (RV.assign rfl) (.none rfl) rfl ?_
  refine AO.nil ?_
  -- at 
  refine AK.ret (h' := (pre ++ (p, Blk.cells [.slice (some ⟨q, 0, none⟩) L L, .int .i64 (s).post, .int .i64 (s).work, .int .i64 (s).reap] 41 (0, 0)) :: (q, Blk.cells (flat encS (s).sl) 44 (0, 0)) :: h)) Try.func17 (.tmp rfl .nil) ?_ (by first | exact SubO.sub | exact List.Sublist.refl _ | exact .cons _ (List.Sublist.refl _) | exact .cons _ (.cons _ (List.Sublist.refl _)) | exact .cons _ (.cons _ (.cons _ (List.Sublist.refl _))))
  exact ⟨rfl, rfl⟩

theorem ready_1 (B : World) (h : Own) (x : Slot) : Tri Try.prog B 27 [.agg (encS x).toArray] h fun v h' => h = h' ∧ v = .bool (isReady x) := by
  refine Tri.enter (n := 10) Try.func27 rfl rfl rfl ?_
  simp only [argsE, Nat.reduceAdd]
  try dsimp only [argsE]
  refine AK.seq ?_
  refine AK.region ?_
  refine AO.eff (EF.box rfl rfl) (.none rfl) rfl ?_
  rintro _ _ ⟨b1, hf1, rfl, rfl⟩
  refine AO.val (RV.assign rfl) (.none rfl) rfl ?_
  refine AO.nil ?_
  refine AK.seq ?_
  refine AK.region ?_
  refine AO.val (RV.fieldAddr rfl) (.none rfl) rfl ?_
  refine AO.val (by first | exact RV.loadO rfl rfl (by simp) | exact RV.loadS rfl (by assumption) (by omega) (by simp)) (.none rfl) rfl ?_
  refine AO.val (RV.move rfl) (.none rfl) rfl ?_
  refine AO.caseG rfl rfl rfl ?_ ?_
  · intro hg1
    try simp only [decide_eq_true_eq, decide_eq_false_iff_not, Bool.not_eq_true', Bool.not_eq_false', beq_iff_eq] at hg1
    refine AO.val (RV.fieldAddr rfl) (.some rfl rfl rfl rfl) rfl ?_
    refine AO.val (by first | exact RV.loadO rfl rfl (by simp) | exact RV.loadS rfl (by assumption) (by omega) (by simp)) (.some rfl rfl rfl rfl) rfl ?_
    refine AO.val (RV.not rfl) (.some rfl rfl rfl rfl) rfl ?_
    refine AO.val (RV.pickT rfl rfl) (.none rfl) rfl ?_
    refine AO.val (RV.assign rfl) (.none rfl) rfl ?_
    refine AO.nil ?_
    -- at t
    refine AK.ret (h' := h) Try.func27 (.tmp rfl .nil) ?_ (by first | exact SubO.sub | exact List.Sublist.refl _ | exact .cons _ (List.Sublist.refl _) | exact .cons _ (.cons _ (List.Sublist.refl _)) | exact .cons _ (.cons _ (.cons _ (List.Sublist.refl _))))
    refine ⟨rfl, ?_⟩
    simp [isReady, oneOr, *]
  · intro hg1
    try simp only [decide_eq_true_eq, decide_eq_false_iff_not, Bool.not_eq_true', Bool.not_eq_false', beq_iff_eq] at hg1
    refine AO.pass (.some rfl rfl rfl rfl) rfl ?_
    refine AO.pass (.some rfl rfl rfl rfl) rfl ?_
    refine AO.pass (.some rfl rfl rfl rfl) rfl ?_
    refine AO.val (RV.pickF rfl rfl) (.none rfl) rfl ?_
    refine AO.val (RV.assign rfl) (.none rfl) rfl ?_
    refine AO.nil ?_
    -- at f
    refine AK.ret (h' := h) Try.func27 (.tmp rfl .nil) ?_ (by first | exact SubO.sub | exact List.Sublist.refl _ | exact .cons _ (List.Sublist.refl _) | exact .cons _ (.cons _ (List.Sublist.refl _)) | exact .cons _ (.cons _ (.cons _ (List.Sublist.refl _))))
    refine ⟨rfl, ?_⟩
    simp [isReady, oneOr, *]

theorem ready_spec (B : World) (pre h : Own) (p q : Nat) (L : Nat) (s : RS) (ok : s.Ok) (hL : s.sl.length = L)  : Tri Try.prog B 18 [.pointer (some ⟨p, 0, none⟩)] (pre ++ (p, Blk.cells [.slice (some ⟨q, 0, none⟩) L L, .int .i64 (s).post, .int .i64 (s).work, .int .i64 (s).reap] 41 (0, 0)) :: (q, Blk.cells (flat encS (s).sl) 44 (0, 0)) :: h) fun v h' => (pre ++ (p, Blk.cells [.slice (some ⟨q, 0, none⟩) L L, .int .i64 (s).post, .int .i64 (s).work, .int .i64 (s).reap] 41 (0, 0)) :: (q, Blk.cells (flat encS (s).sl) 44 (0, 0)) :: h) = h' ∧ v = .int .i64 (cnt isReady s.sl) := by
  refine Tri.enter (n := 5) Try.func18 rfl rfl rfl ?_
  simp only [argsE, Nat.reduceAdd]
  try dsimp only [argsE]
  refine AK.seq ?_
  refine AK.region ?_
  refine AO.val (RV.assign rfl) (.none rfl) rfl ?_
  refine AO.nil ?_
  refine AK.seq ?_
  refine AK.region ?_
  refine AO.val (RV.move rfl) (.none rfl) rfl ?_
  refine AO.eff (EF.callF rfl (count_spec B pre h p q L s ok hL 27 isReady (fun h x => (ready_1 B h x).mono fun v h2 hh => hh))) (.none rfl) rfl ?_
  rintro _ _ ⟨rfl, rfl⟩
  refine AO.val (RV.assign rfl) (.none rfl) rfl ?_
  refine AO.nil ?_
  -- at 
  refine AK.ret (h' := (pre ++ (p, Blk.cells [.slice (some ⟨q, 0, none⟩) L L, .int .i64 (s).post, .int .i64 (s).work, .int .i64 (s).reap] 41 (0, 0)) :: (q, Blk.cells (flat encS (s).sl) 44 (0, 0)) :: h)) Try.func18 (.tmp rfl .nil) ?_ (by first | exact SubO.sub | exact List.Sublist.refl _ | exact .cons _ (List.Sublist.refl _) | exact .cons _ (.cons _ (List.Sublist.refl _)) | exact .cons _ (.cons _ (.cons _ (List.Sublist.refl _))))
  exact ⟨rfl, rfl⟩

theorem room_1 (B : World) (h : Own) (x : Slot) : Tri Try.prog B 28 [.agg (encS x).toArray] h fun v h' => h = h' ∧ v = .bool (isRoom x) := by
  refine Tri.enter (n := 6) Try.func28 rfl rfl rfl ?_
  simp only [argsE, Nat.reduceAdd]
  try dsimp only [argsE]
  refine AK.seq ?_
  refine AK.region ?_
  refine AO.eff (EF.box rfl rfl) (.none rfl) rfl ?_
  rintro _ _ ⟨b1, hf1, rfl, rfl⟩
  refine AO.val (RV.assign rfl) (.none rfl) rfl ?_
  refine AO.nil ?_
  refine AK.seq ?_
  refine AK.region ?_
  refine AO.val (RV.fieldAddr rfl) (.none rfl) rfl ?_
  refine AO.val (by first | exact RV.loadO rfl rfl (by simp) | exact RV.loadS rfl (by assumption) (by omega) (by simp)) (.none rfl) rfl ?_
  refine AO.val (RV.not rfl) (.none rfl) rfl ?_
  refine AO.val (RV.assign rfl) (.none rfl) rfl ?_
  refine AO.nil ?_
  -- at 
  refine AK.ret (h' := h) Try.func28 (.tmp rfl .nil) ?_ (by first | exact SubO.sub | exact List.Sublist.refl _ | exact .cons _ (List.Sublist.refl _) | exact .cons _ (.cons _ (List.Sublist.refl _)) | exact .cons _ (.cons _ (.cons _ (List.Sublist.refl _))))
  refine ⟨rfl, ?_⟩
  simp [isRoom, oneOr, *]

theorem room_spec (B : World) (pre h : Own) (p q : Nat) (L : Nat) (s : RS) (ok : s.Ok) (hL : s.sl.length = L)  : Tri Try.prog B 19 [.pointer (some ⟨p, 0, none⟩)] (pre ++ (p, Blk.cells [.slice (some ⟨q, 0, none⟩) L L, .int .i64 (s).post, .int .i64 (s).work, .int .i64 (s).reap] 41 (0, 0)) :: (q, Blk.cells (flat encS (s).sl) 44 (0, 0)) :: h) fun v h' => (pre ++ (p, Blk.cells [.slice (some ⟨q, 0, none⟩) L L, .int .i64 (s).post, .int .i64 (s).work, .int .i64 (s).reap] 41 (0, 0)) :: (q, Blk.cells (flat encS (s).sl) 44 (0, 0)) :: h) = h' ∧ v = .int .i64 (cnt isRoom s.sl) := by
  refine Tri.enter (n := 5) Try.func19 rfl rfl rfl ?_
  simp only [argsE, Nat.reduceAdd]
  try dsimp only [argsE]
  refine AK.seq ?_
  refine AK.region ?_
  refine AO.val (RV.assign rfl) (.none rfl) rfl ?_
  refine AO.nil ?_
  refine AK.seq ?_
  refine AK.region ?_
  refine AO.val (RV.move rfl) (.none rfl) rfl ?_
  refine AO.eff (EF.callF rfl (count_spec B pre h p q L s ok hL 28 isRoom (fun h x => (room_1 B h x).mono fun v h2 hh => hh))) (.none rfl) rfl ?_
  rintro _ _ ⟨rfl, rfl⟩
  refine AO.val (RV.assign rfl) (.none rfl) rfl ?_
  refine AO.nil ?_
  -- at 
  refine AK.ret (h' := (pre ++ (p, Blk.cells [.slice (some ⟨q, 0, none⟩) L L, .int .i64 (s).post, .int .i64 (s).work, .int .i64 (s).reap] 41 (0, 0)) :: (q, Blk.cells (flat encS (s).sl) 44 (0, 0)) :: h)) Try.func19 (.tmp rfl .nil) ?_ (by first | exact SubO.sub | exact List.Sublist.refl _ | exact .cons _ (List.Sublist.refl _) | exact .cons _ (.cons _ (List.Sublist.refl _)) | exact .cons _ (.cons _ (.cons _ (List.Sublist.refl _))))
  exact ⟨rfl, rfl⟩

theorem new_spec (B : World) (h : Own) (n : Int) : Tri Try.prog B 6 [.int .i64 n] h fun v h' => ∃ p q, h' = (p, Blk.cells [.slice (some ⟨q, 0, none⟩) (newR n).sl.length (newR n).sl.length, .int .i64 ((newR n)).post, .int .i64 ((newR n)).work, .int .i64 ((newR n)).reap] 41 (0, 0)) :: (q, Blk.cells (flat encS ((newR n)).sl) 44 (0, 0)) :: h ∧ v = .pointer (some ⟨p, 0, none⟩) := by
  have hfl : zerosL (min (max n 1) 64).toNat [.int .i64 0, .bool false, .bool false] = flat encS (newR n).sl := flat_rep _
  have hle : (min (max n 1) 64).toNat = (newR n).sl.length := by simp [newR]
  refine Tri.enter (n := 9) Try.func6 rfl rfl rfl ?_
  simp only [argsE, Nat.reduceAdd]
  try dsimp only [argsE]
  refine AK.seq ?_
  refine AK.region ?_
  refine AO.val (RV.assign rfl) (.none rfl) rfl ?_
  refine AO.nil ?_
  refine AK.seq ?_
  refine AK.region ?_
  refine AO.val (RV.move rfl) (.none rfl) rfl ?_
  refine AO.val (RV.max2 rfl rfl) (.none rfl) rfl ?_
  refine AO.val (RV.min2 rfl rfl) (.none rfl) rfl ?_
  refine AO.eff (EF.makeSlice rfl rfl rfl (by omega) (by omega) (by omega)) (.none rfl) rfl ?_
  rintro _ _ ⟨b6, hf6, rfl, rfl⟩
  rw [hfl]
  simp only [hle]
  refine AO.val (RV.build rfl (.cons rfl rfl rfl rfl .nil)) (.none rfl) rfl ?_
  refine AO.eff (EF.box rfl rfl) (.none rfl) rfl ?_
  rintro _ _ ⟨b8, hf8, rfl, rfl⟩
  refine AO.val (RV.assign rfl) (.none rfl) rfl ?_
  refine AO.nil ?_
  -- at 
  refine AK.ret (h' := (b8, Blk.cells [.slice (some ⟨b6, 0, none⟩) (newR n).sl.length (newR n).sl.length, .int .i64 0, .int .i64 0, .int .i64 0] 41 (0, 0)) :: (b6, Blk.cells (flat encS (newR n).sl) 44 (0, 0)) :: h) Try.func6 (.tmp rfl .nil) ?_ (by first | exact SubO.sub | exact List.Sublist.refl _ | exact .cons _ (List.Sublist.refl _) | exact .cons _ (.cons _ (List.Sublist.refl _)) | exact .cons _ (.cons _ (.cons _ (List.Sublist.refl _))))
  exact ⟨b8, b6, rfl, rfl⟩

theorem in_spec (B : World) (h : Own) (n lo hi : Int) (hlh : lo ≤ hi) : Tri Try.prog B 23 [.int .i64 n, .int .i64 lo, .int .i64 hi] h fun v h' => h = h' ∧ v = .int .i64 (min (max n lo) hi) := by
  refine Tri.enter (n := 16) Try.func23 rfl rfl rfl ?_
  simp only [argsE, Nat.reduceAdd]
  try dsimp only [argsE]
  refine AK.seq ?_
  refine AK.region ?_
  refine AO.val (RV.assign rfl) (.none rfl) rfl ?_
  refine AO.nil ?_
  refine AK.seq ?_
  refine AK.seq ?_
  refine AK.region ?_
  refine AO.val (RV.move rfl) (.none rfl) rfl ?_
  refine AO.val (RV.move rfl) (.none rfl) rfl ?_
  refine AO.val (RV.lss rfl rfl) (.none rfl) rfl ?_
  refine AO.nil ?_
  refine AK.cond rfl ?_ ?_
  · intro hc1
    try simp only [decide_eq_true_eq, decide_eq_false_iff_not, Bool.not_eq_true', Bool.not_eq_false', beq_iff_eq] at hc1
    refine AK.seq ?_
    refine AK.region ?_
    refine AO.val (RV.move rfl) (.none rfl) rfl ?_
    refine AO.val (RV.assign rfl) (.none rfl) rfl ?_
    refine AO.nil ?_
    -- at T
    refine AK.ret (h' := h) Try.func23 (.tmp rfl .nil) ?_ (by first | exact SubO.sub | exact List.Sublist.refl _ | exact .cons _ (List.Sublist.refl _) | exact .cons _ (.cons _ (List.Sublist.refl _)) | exact .cons _ (.cons _ (.cons _ (List.Sublist.refl _))))
    refine ⟨rfl, ?_⟩
    simp only [oneOr, Value.int.injEq, true_and]; omega
  · intro hc1
    try simp only [decide_eq_true_eq, decide_eq_false_iff_not, Bool.not_eq_true', Bool.not_eq_false', beq_iff_eq] at hc1
    refine AK.skip ?_
    refine AK.seq ?_
    refine AK.seq ?_
    refine AK.region ?_
    refine AO.val (RV.move rfl) (.none rfl) rfl ?_
    refine AO.val (RV.move rfl) (.none rfl) rfl ?_
    refine AO.val (RV.gtr rfl rfl) (.none rfl) rfl ?_
    refine AO.nil ?_
    refine AK.cond rfl ?_ ?_
    · intro hc2
      try simp only [decide_eq_true_eq, decide_eq_false_iff_not, Bool.not_eq_true', Bool.not_eq_false', beq_iff_eq] at hc2
      refine AK.seq ?_
      refine AK.region ?_
      refine AO.val (RV.move rfl) (.none rfl) rfl ?_
      refine AO.val (RV.assign rfl) (.none rfl) rfl ?_
      refine AO.nil ?_
      -- at FT
      refine AK.ret (h' := h) Try.func23 (.tmp rfl .nil) ?_ (by first | exact SubO.sub | exact List.Sublist.refl _ | exact .cons _ (List.Sublist.refl _) | exact .cons _ (.cons _ (List.Sublist.refl _)) | exact .cons _ (.cons _ (.cons _ (List.Sublist.refl _))))
      refine ⟨rfl, ?_⟩
      simp only [oneOr, Value.int.injEq, true_and]; omega
    · intro hc2
      try simp only [decide_eq_true_eq, decide_eq_false_iff_not, Bool.not_eq_true', Bool.not_eq_false', beq_iff_eq] at hc2
      refine AK.skip ?_
      refine AK.seq ?_
      refine AK.region ?_
      refine AO.val (RV.move rfl) (.none rfl) rfl ?_
      refine AO.val (RV.assign rfl) (.none rfl) rfl ?_
      refine AO.nil ?_
      -- at FF
      refine AK.ret (h' := h) Try.func23 (.tmp rfl .nil) ?_ (by first | exact SubO.sub | exact List.Sublist.refl _ | exact .cons _ (List.Sublist.refl _) | exact .cons _ (.cons _ (List.Sublist.refl _)) | exact .cons _ (.cons _ (.cons _ (List.Sublist.refl _))))
      refine ⟨rfl, ?_⟩
      simp only [oneOr, Value.int.injEq, true_and]; omega

theorem rnew_spec (B : World) (h : Own) (n : Int) : Tri Try.prog B 7 [.int .i64 n] h fun v h' => ∃ c, h' = (c, Blk.cells [.int .i64 (min (max n 1) 64), .slice none (newQ).posted.length 0, .slice none (newQ).ready.length 0, .int .i64 (newQ).ever, .int .i64 (newQ).worked] 30 (0, 0)) :: h ∧ v = .pointer (some ⟨c, 0, none⟩) := by
  refine Tri.enter (n := 7) Try.func7 rfl rfl rfl ?_
  simp only [argsE, Nat.reduceAdd]
  try dsimp only [argsE]
  refine AK.seq ?_
  refine AK.region ?_
  refine AO.val (RV.assign rfl) (.none rfl) rfl ?_
  refine AO.nil ?_
  refine AK.seq ?_
  refine AK.region ?_
  refine AO.val (RV.move rfl) (.none rfl) rfl ?_
  refine AO.eff (EF.callF rfl (in_spec B _ _ _ _ (by decide))) (.none rfl) rfl ?_
  rintro _ _ ⟨rfl, rfl⟩
  refine AO.val (RV.build rfl (.cons rfl rfl rfl rfl .nil)) (.none rfl) rfl ?_
  refine AO.eff (EF.box rfl rfl) (.none rfl) rfl ?_
  rintro _ _ ⟨b6, hf6, rfl, rfl⟩
  refine AO.val (RV.assign rfl) (.none rfl) rfl ?_
  refine AO.nil ?_
  -- at 
  refine AK.ret (h' := (b6, Blk.cells [.int .i64 (min (max n 1) 64), .slice none (newQ).posted.length 0, .slice none (newQ).ready.length 0, .int .i64 (newQ).ever, .int .i64 (newQ).worked] 30 (0, 0)) :: h) Try.func7 (.tmp rfl .nil) ?_ (by first | exact SubO.sub | exact List.Sublist.refl _ | exact .cons _ (List.Sublist.refl _) | exact .cons _ (.cons _ (List.Sublist.refl _)) | exact .cons _ (.cons _ (.cons _ (List.Sublist.refl _))))
  exact ⟨b6, rfl, rfl⟩

theorem rnext_spec (B : World) (pre h : Own) (c : Nat) (N : Int) (q : QS) {Ap : Option Addr} {cp : Nat} {Ar : Option Addr} {cr : Nat} (m : QM B h q Ap cp Ar cr) (hN : 1 ≤ N ∧ N ≤ 64) (hln : (q.posted.length : Int) + q.ready.length ≤ N) (hev : 0 ≤ q.ever ∧ q.ever ≤ 1000) (hwo : 0 ≤ q.worked ∧ q.worked ≤ 1000)  : Tri Try.prog B 16 [.pointer (some ⟨c, 0, none⟩)] (pre ++ (c, Blk.cells [.int .i64 N, .slice Ap (q).posted.length cp, .slice Ar (q).ready.length cr, .int .i64 (q).ever, .int .i64 (q).worked] 30 (0, 0)) :: h) fun v h' => (pre ++ (c, Blk.cells [.int .i64 N, .slice Ap (q).posted.length cp, .slice Ar (q).ready.length cr, .int .i64 (q).ever, .int .i64 (q).worked] 30 (0, 0)) :: h) = h' ∧ v = .tuple #[.int .i64 (nextQ q).1, .bool (nextQ q).2] := by
  have hsp := m.sp
  have hsr := m.sr
  have hcp := m.cp
  have hcr := m.cr
  refine Tri.enter (n := 16) Try.func16 rfl rfl rfl ?_
  simp only [argsE, Nat.reduceAdd]
  try dsimp only [argsE]
  refine AK.seq ?_
  refine AK.region ?_
  refine AO.val (RV.assign rfl) (.none rfl) rfl ?_
  refine AO.val (RV.assign rfl) (.none rfl) rfl ?_
  refine AO.nil ?_
  refine AK.seq ?_
  refine AK.seq ?_
  refine AK.region ?_
  refine AO.val (RV.move rfl) (.none rfl) rfl ?_
  refine AO.val (RV.nilCheck rfl) (.none rfl) rfl ?_
  refine AO.val (RV.fieldAddr rfl) (.none rfl) rfl ?_
  refine AO.val (by first | exact RV.loadO rfl rfl (by simp) | exact RV.loadS rfl (by assumption) (by omega) (by simp)) (.none rfl) rfl ?_
  refine AO.val (RV.lenS rfl) (.none rfl) rfl ?_
  refine AO.val (RV.eql rfl rfl) (.none rfl) rfl ?_
  refine AO.nil ?_
  refine AK.cond rfl ?_ ?_
  · intro hc1
    try simp only [decide_eq_true_eq, decide_eq_false_iff_not, Bool.not_eq_true', Bool.not_eq_false', beq_iff_eq] at hc1
    refine AK.seq ?_
    refine AK.region ?_
    refine AO.val (RV.assign rfl) (.none rfl) rfl ?_
    refine AO.val (RV.assign rfl) (.none rfl) rfl ?_
    refine AO.nil ?_
    -- at T
    refine AK.ret (h' := (pre ++ (c, Blk.cells [.int .i64 N, .slice Ap (q).posted.length cp, .slice Ar (q).ready.length cr, .int .i64 (q).ever, .int .i64 (q).worked] 30 (0, 0)) :: h)) Try.func16 (.tmp rfl (.tmp rfl .nil)) ?_ (by first | exact SubO.sub | exact List.Sublist.refl _ | exact .cons _ (List.Sublist.refl _) | exact .cons _ (.cons _ (List.Sublist.refl _)) | exact .cons _ (.cons _ (.cons _ (List.Sublist.refl _))))
    refine ⟨rfl, ?_⟩
    rw [nextQ_eq hc1]; rfl
  · intro hc1
    try simp only [decide_eq_true_eq, decide_eq_false_iff_not, Bool.not_eq_true', Bool.not_eq_false', beq_iff_eq] at hc1
    refine AK.skip ?_
    refine AK.seq ?_
    refine AK.region ?_
    refine AO.val (RV.move rfl) (.none rfl) rfl ?_
    refine AO.val (RV.nilCheck rfl) (.none rfl) rfl ?_
    refine AO.val (RV.fieldAddr rfl) (.none rfl) rfl ?_
    refine AO.val (by first | exact RV.loadO rfl rfl (by simp) | exact RV.loadS rfl (by assumption) (by omega) (by simp)) (.none rfl) rfl ?_
    refine AO.val (by first | exact RV.indexS rfl rfl (by assumption) (by omega) rfl | exact RV.indexAddr rfl rfl (by omega)) (.none rfl) rfl ?_
    refine AO.val (by first | exact RV.loadO rfl rfl (by simp) | exact RV.loadS rfl (by assumption) (by omega) (by simp)) (.none rfl) rfl ?_
    refine AO.val (RV.assign rfl) (.none rfl) rfl ?_
    refine AO.val (RV.assign rfl) (.none rfl) rfl ?_
    refine AO.nil ?_
    -- at F
    refine AK.ret (h' := (pre ++ (c, Blk.cells [.int .i64 N, .slice Ap (q).posted.length cp, .slice Ar (q).ready.length cr, .int .i64 (q).ever, .int .i64 (q).worked] 30 (0, 0)) :: h)) Try.func16 (.tmp rfl (.tmp rfl .nil)) ?_ (by first | exact SubO.sub | exact List.Sublist.refl _ | exact .cons _ (List.Sublist.refl _) | exact .cons _ (.cons _ (List.Sublist.refl _)) | exact .cons _ (.cons _ (.cons _ (List.Sublist.refl _))))
    refine ⟨rfl, ?_⟩
    rw [nextQ_ne hc1]; rfl

theorem rpost_spec (B : World) (pre h : Own) (c : Nat) (N : Int) (q : QS) {Ap : Option Addr} {cp : Nat} {Ar : Option Addr} {cr : Nat} (m : QM B h q Ap cp Ar cr) (hN : 1 ≤ N ∧ N ≤ 64) (hln : (q.posted.length : Int) + q.ready.length ≤ N) (hev : 0 ≤ q.ever ∧ q.ever ≤ 1000) (hwo : 0 ≤ q.worked ∧ q.worked ≤ 1000) (i : Int) : Tri Try.prog B 10 [.pointer (some ⟨c, 0, none⟩), .int .i64 i] (pre ++ (c, Blk.cells [.int .i64 N, .slice Ap (q).posted.length cp, .slice Ar (q).ready.length cr, .int .i64 (q).ever, .int .i64 (q).worked] 30 (0, 0)) :: h) fun v h' => v = .bool (postQ N q i).2 ∧ ∃ Ap' cp' Ar' cr' part, h' = pre ++ (c, Blk.cells [.int .i64 N, .slice Ap' ((postQ N q i).1).posted.length cp', .slice Ar' ((postQ N q i).1).ready.length cr', .int .i64 ((postQ N q i).1).ever, .int .i64 ((postQ N q i).1).worked] 30 (0, 0)) :: (part ++ h) ∧ QM B (part ++ h) ((postQ N q i).1) Ap' cp' Ar' cr' := by
  have hsp := m.sp
  have hsr := m.sr
  have hcp := m.cp
  have hcr := m.cr
  refine Tri.enter (n := 44) Try.func10 rfl rfl rfl ?_
  simp only [argsE, Nat.reduceAdd]
  try dsimp only [argsE]
  refine AK.seq ?_
  refine AK.region ?_
  refine AO.val (RV.assign rfl) (.none rfl) rfl ?_
  refine AO.nil ?_
  refine AK.seq ?_
  refine AK.seq ?_
  refine AK.draw [] [] mixed ?_
  refine AD.takeP 0 rfl (by kernel_rfl) (RV.move rfl) (.none rfl) rfl ?_
  refine AD.takeP 1 rfl (by kernel_rfl) (RV.nilCheck rfl) (.none rfl) rfl ?_
  refine AD.takeP 2 rfl (by kernel_rfl) (RV.fieldAddr rfl) (.none rfl) rfl ?_
  refine AD.take 3 rfl (by kernel_rfl) (by first | exact RV.loadO rfl rfl (by simp) | exact RV.loadS rfl (by assumption) (by omega) (by simp)) (.none rfl) rfl ?_
  refine AD.takeP 4 rfl (by kernel_rfl) (RV.lenS rfl) (.none rfl) rfl ?_
  refine AD.takeP 5 rfl (by kernel_rfl) (RV.move rfl) (.none rfl) rfl ?_
  refine AD.takeP 6 rfl (by kernel_rfl) (RV.nilCheck rfl) (.none rfl) rfl ?_
  refine AD.takeP 7 rfl (by kernel_rfl) (RV.fieldAddr rfl) (.none rfl) rfl ?_
  refine AD.take 8 rfl (by kernel_rfl) (by first | exact RV.loadO rfl rfl (by simp) | exact RV.loadS rfl (by assumption) (by omega) (by simp)) (.none rfl) rfl ?_
  refine AD.takeP 9 rfl (by kernel_rfl) (RV.lenS rfl) (.none rfl) rfl ?_
  refine AD.takeP 10 rfl (by kernel_rfl) (by first | exact RV.addIn rfl rfl (by omega) | exact RV.add rfl rfl) (.none rfl) rfl ?_
  refine AD.takeP 11 rfl (by kernel_rfl) (RV.move rfl) (.none rfl) rfl ?_
  refine AD.takeP 12 rfl (by kernel_rfl) (RV.nilCheck rfl) (.none rfl) rfl ?_
  refine AD.takeP 13 rfl (by kernel_rfl) (RV.fieldAddr rfl) (.none rfl) rfl ?_
  refine AD.take 14 rfl (by kernel_rfl) (by first | exact RV.loadO rfl rfl (by simp) | exact RV.loadS rfl (by assumption) (by omega) (by simp)) (.none rfl) rfl ?_
  refine AD.takeP 15 rfl (by kernel_rfl) (RV.geq rfl rfl) (.none rfl) rfl ?_
  refine AD.done (by kernel_rfl) ?_
  refine AK.cond rfl ?_ ?_
  · intro hc1
    try simp only [decide_eq_true_eq, decide_eq_false_iff_not, Bool.not_eq_true', Bool.not_eq_false', beq_iff_eq] at hc1
    refine AK.seq ?_
    refine AK.region ?_
    refine AO.val (RV.assign rfl) (.none rfl) rfl ?_
    refine AO.nil ?_
    -- at T
    refine AK.ret (h' := (pre ++ (c, Blk.cells [.int .i64 N, .slice Ap (q).posted.length cp, .slice Ar (q).ready.length cr, .int .i64 (q).ever, .int .i64 (q).worked] 30 (0, 0)) :: h)) Try.func10 (.tmp rfl .nil) ?_ (by first | exact SubO.sub | exact List.Sublist.refl _ | exact .cons _ (List.Sublist.refl _) | exact .cons _ (.cons _ (List.Sublist.refl _)) | exact .cons _ (.cons _ (.cons _ (List.Sublist.refl _))))
    have hq : postQ N q i = (q, false) := if_pos hc1
    rw [hq]
    exact ⟨rfl, Ap, cp, Ar, cr, [], rfl, m⟩
  · intro hc1
    try simp only [decide_eq_true_eq, decide_eq_false_iff_not, Bool.not_eq_true', Bool.not_eq_false', beq_iff_eq] at hc1
    refine AK.skip ?_
    refine AK.seq ?_
    refine AK.region ?_
    refine AO.eff (EF.buildSlice rfl rfl rfl .nil) (.none rfl) rfl ?_
    rintro _ _ ⟨b22, hf22, rfl, rfl⟩
    refine AO.val (RV.assign rfl) (.none rfl) rfl ?_
    refine AO.nil ?_
    refine AK.seq ?_
    refine AK.region ?_
    refine AO.val (RV.move rfl) (.none rfl) rfl ?_
    refine AO.val (RV.move rfl) (.none rfl) rfl ?_
    refine AO.val (RV.nilCheck rfl) (.none rfl) rfl ?_
    refine AO.val (RV.fieldAddr rfl) (.none rfl) rfl ?_
    refine AO.val (by first | exact RV.loadO rfl rfl (by simp) | exact RV.loadS rfl (by assumption) (by omega) (by simp)) (.none rfl) rfl ?_
    refine AO.eff (EF.append rfl rfl (Row.new rfl) (List.Perm.refl _) hsp.sub rfl (by decide) (by simp [Value.oneCell']) (by simp; omega) (by simp; omega)) (.none rfl) rfl ?_
    rintro v9 _ ⟨p1, hr1, rfl⟩
    simp only [List.append_eq]
    refine AO.val (RV.assign rfl) (.none rfl) rfl ?_
    refine AO.nil ?_
    refine AK.seq ?_
    refine AK.region ?_
    refine AO.val (RV.move rfl) (.none rfl) rfl ?_
    refine AO.val (RV.move rfl) (.none rfl) rfl ?_
    refine AO.val (RV.move rfl) (.none rfl) rfl ?_
    refine AO.eff (EF.buildSeq [I64 i] rfl rfl rfl rfl) (.none rfl) rfl ?_
    rintro _ _ ⟨b32, hf32, rfl, rfl⟩
    refine AO.eff (EF.append rfl rfl hr1 List.perm_middle.symm (Src.of_new (cs := [I64 (i)]) List.mem_cons_self 1 1 (Nat.le_refl _)) rfl (by decide) rfl (by simp; omega) (by simp; omega)) (.none rfl) rfl ?_
    rintro v12 _ ⟨p2, hr2, rfl⟩
    obtain ⟨A3, c3, rfl, hc3, hall⟩ := hr2.slice
    have hlen2 : 0 + q.posted.length + 1 = (q.posted ++ [i]).length := by simp
    clear hr2
    rw [hlen2] at hall hc3 ⊢
    simp only [zerosL, List.nil_append] at hall
    refine AO.val (RV.nilCheck rfl) (.none rfl) rfl ?_
    refine AO.val (RV.fieldAddr rfl) (.none rfl) rfl ?_
    refine AO.effN (EF.storeO rfl rfl rfl rfl rfl rfl) (.none rfl) ?_
    rintro _ _ rfl
    refine AO.nil ?_
    refine AK.seq ?_
    refine AK.region ?_
    refine AO.val (RV.move rfl) (.none rfl) rfl ?_
    refine AO.val (RV.move rfl) (.none rfl) rfl ?_
    refine AO.val (RV.nilCheck rfl) (.none rfl) rfl ?_
    refine AO.val (RV.fieldAddr rfl) (.none rfl) rfl ?_
    refine AO.val (by first | exact RV.loadO rfl rfl (by simp) | exact RV.loadS rfl (by assumption) (by omega) (by simp)) (.none rfl) rfl ?_
    refine AO.val (by first | exact RV.addIn rfl rfl (by omega) | exact RV.add rfl rfl) (.none rfl) rfl ?_
    refine AO.val (RV.nilCheck rfl) (.none rfl) rfl ?_
    refine AO.val (RV.fieldAddr rfl) (.none rfl) rfl ?_
    refine AO.effN (EF.storeO rfl rfl rfl rfl rfl rfl) (.none rfl) ?_
    rintro _ _ rfl
    refine AO.nil ?_
    refine AK.seq ?_
    refine AK.region ?_
    refine AO.val (RV.assign rfl) (.none rfl) rfl ?_
    refine AO.nil ?_
    -- at F
    refine AK.perm (h' := _ :: (pre ++ ((c, Blk.cells [.int .i64 N, .slice A3 (⟨q.posted ++ [i], q.ready, q.ever + 1, q.worked⟩ : QS).posted.length c3, .slice Ar (⟨q.posted ++ [i], q.ready, q.ever + 1, q.worked⟩ : QS).ready.length cr, .int .i64 (⟨q.posted ++ [i], q.ready, q.ever + 1, q.worked⟩ : QS).ever, .int .i64 (⟨q.posted ++ [i], q.ready, q.ever + 1, q.worked⟩ : QS).worked] 30 (0, 0)) :: (p2 ++ h)))) (by exact perm_in1 _ _ _ _ _) ?_
    refine AK.ret (h' := pre ++ (c, Blk.cells [.int .i64 N, .slice A3 (⟨q.posted ++ [i], q.ready, q.ever + 1, q.worked⟩ : QS).posted.length c3, .slice Ar (⟨q.posted ++ [i], q.ready, q.ever + 1, q.worked⟩ : QS).ready.length cr, .int .i64 (⟨q.posted ++ [i], q.ready, q.ever + 1, q.worked⟩ : QS).ever, .int .i64 (⟨q.posted ++ [i], q.ready, q.ever + 1, q.worked⟩ : QS).worked] 30 (0, 0)) :: (p2 ++ h)) Try.func10 (.tmp rfl .nil) ?_ (by first | exact SubO.sub | exact List.Sublist.refl _ | exact .cons _ (List.Sublist.refl _) | exact .cons _ (.cons _ (List.Sublist.refl _)) | exact .cons _ (.cons _ (.cons _ (List.Sublist.refl _))))
    have hq : postQ N q i = (⟨q.posted ++ [i], q.ready, q.ever + 1, q.worked⟩, true) := if_neg hc1
    rw [hq]
    exact ⟨rfl, A3, c3, Ar, cr, p2, rfl, by simpa using hall B _ (fun x hx => List.mem_append_left _ hx), hsr.mono fun x hx => List.mem_append_right _ hx, hc3, hcr⟩

theorem rdone_spec (B : World) (pre h : Own) (c : Nat) (N : Int) (q : QS) {Ap : Option Addr} {cp : Nat} {Ar : Option Addr} {cr : Nat} (m : QM B h q Ap cp Ar cr) (hN : 1 ≤ N ∧ N ≤ 64) (hln : (q.posted.length : Int) + q.ready.length ≤ N) (hev : 0 ≤ q.ever ∧ q.ever ≤ 1000) (hwo : 0 ≤ q.worked ∧ q.worked ≤ 1000)  : Tri Try.prog B 12 [.pointer (some ⟨c, 0, none⟩)] (pre ++ (c, Blk.cells [.int .i64 N, .slice Ap (q).posted.length cp, .slice Ar (q).ready.length cr, .int .i64 (q).ever, .int .i64 (q).worked] 30 (0, 0)) :: h) fun v h' => v = .bool (doneQ q).2 ∧ ∃ Ap' cp' Ar' cr' part, h' = pre ++ (c, Blk.cells [.int .i64 N, .slice Ap' ((doneQ q).1).posted.length cp', .slice Ar' ((doneQ q).1).ready.length cr', .int .i64 ((doneQ q).1).ever, .int .i64 ((doneQ q).1).worked] 30 (0, 0)) :: (part ++ h) ∧ QM B (part ++ h) ((doneQ q).1) Ap' cp' Ar' cr' := by
  have hsp := m.sp
  have hsr := m.sr
  have hcp := m.cp
  have hcr := m.cr
  refine Tri.enter (n := 45) Try.func12 rfl rfl rfl ?_
  simp only [argsE, Nat.reduceAdd]
  try dsimp only [argsE]
  refine AK.seq ?_
  refine AK.region ?_
  refine AO.val (RV.assign rfl) (.none rfl) rfl ?_
  refine AO.nil ?_
  refine AK.seq ?_
  refine AK.seq ?_
  refine AK.region ?_
  refine AO.val (RV.move rfl) (.none rfl) rfl ?_
  refine AO.val (RV.nilCheck rfl) (.none rfl) rfl ?_
  refine AO.val (RV.fieldAddr rfl) (.none rfl) rfl ?_
  refine AO.val (by first | exact RV.loadO rfl rfl (by simp) | exact RV.loadS rfl (by assumption) (by omega) (by simp)) (.none rfl) rfl ?_
  refine AO.val (RV.lenS rfl) (.none rfl) rfl ?_
  refine AO.val (RV.eql rfl rfl) (.none rfl) rfl ?_
  refine AO.nil ?_
  refine AK.cond rfl ?_ ?_
  · intro hc1
    try simp only [decide_eq_true_eq, decide_eq_false_iff_not, Bool.not_eq_true', Bool.not_eq_false', beq_iff_eq] at hc1
    refine AK.seq ?_
    refine AK.region ?_
    refine AO.val (RV.assign rfl) (.none rfl) rfl ?_
    refine AO.nil ?_
    -- at T
    refine AK.ret (h' := (pre ++ (c, Blk.cells [.int .i64 N, .slice Ap (q).posted.length cp, .slice Ar (q).ready.length cr, .int .i64 (q).ever, .int .i64 (q).worked] 30 (0, 0)) :: h)) Try.func12 (.tmp rfl .nil) ?_ (by first | exact SubO.sub | exact List.Sublist.refl _ | exact .cons _ (List.Sublist.refl _) | exact .cons _ (.cons _ (List.Sublist.refl _)) | exact .cons _ (.cons _ (.cons _ (List.Sublist.refl _))))
    rw [doneQ_eq hc1]
    exact ⟨rfl, Ap, cp, Ar, cr, [], rfl, m⟩
  · intro hc1
    try simp only [decide_eq_true_eq, decide_eq_false_iff_not, Bool.not_eq_true', Bool.not_eq_false', beq_iff_eq] at hc1
    refine AK.skip ?_
    refine AK.seq ?_
    refine AK.region ?_
    refine AO.eff (EF.buildSlice rfl rfl rfl .nil) (.none rfl) rfl ?_
    rintro _ _ ⟨b10, hf10, rfl, rfl⟩
    refine AO.val (RV.assign rfl) (.none rfl) rfl ?_
    refine AO.nil ?_
    refine AK.seq ?_
    refine AK.region ?_
    refine AO.val (RV.move rfl) (.none rfl) rfl ?_
    refine AO.val (RV.move rfl) (.none rfl) rfl ?_
    refine AO.val (RV.nilCheck rfl) (.none rfl) rfl ?_
    refine AO.val (RV.fieldAddr rfl) (.none rfl) rfl ?_
    refine AO.val (by first | exact RV.loadO rfl rfl (by simp) | exact RV.loadS rfl (by assumption) (by omega) (by simp)) (.none rfl) rfl ?_
    refine AO.eff (EF.append rfl rfl (Row.new rfl) (List.Perm.refl _) hsr.sub rfl (by decide) (by simp [Value.oneCell']) (by simp; omega) (by simp; omega)) (.none rfl) rfl ?_
    rintro v9 _ ⟨p1, hr1, rfl⟩
    simp only [List.append_eq]
    refine AO.val (RV.assign rfl) (.none rfl) rfl ?_
    refine AO.nil ?_
    refine AK.seq ?_
    refine AK.region ?_
    refine AO.val (RV.move rfl) (.none rfl) rfl ?_
    refine AO.val (RV.move rfl) (.none rfl) rfl ?_
    refine AO.val (RV.move rfl) (.none rfl) rfl ?_
    refine AO.val (RV.nilCheck rfl) (.none rfl) rfl ?_
    refine AO.val (RV.fieldAddr rfl) (.none rfl) rfl ?_
    refine AO.val (by first | exact RV.loadO rfl rfl (by simp) | exact RV.loadS rfl (by assumption) (by omega) (by simp)) (.none rfl) rfl ?_
    refine AO.val (by first | exact RV.indexS rfl rfl (by assumption) (by omega) rfl | exact RV.indexAddr rfl rfl (by omega)) (.none rfl) rfl ?_
    refine AO.val (by first | exact RV.loadO rfl rfl (by simp) | exact RV.loadS rfl (by assumption) (by omega) (by simp)) (.none rfl) rfl ?_
    refine AO.eff (EF.buildSeq [I64 (lget q.posted 0)] rfl rfl rfl rfl) (.none rfl) rfl ?_
    rintro _ _ ⟨b32, hf32, rfl, rfl⟩
    refine AO.eff (EF.append rfl rfl hr1 List.perm_middle.symm (Src.of_new (cs := [I64 (lget q.posted 0)]) List.mem_cons_self 1 1 (Nat.le_refl _)) rfl (by decide) rfl (by simp; omega) (by simp; omega)) (.none rfl) rfl ?_
    rintro v12 _ ⟨p2, hr2, rfl⟩
    obtain ⟨A3, c3, rfl, hc3, hall⟩ := hr2.slice
    have hlen2 : 0 + q.ready.length + 1 = (q.ready ++ [lget q.posted 0]).length := by simp
    clear hr2
    rw [hlen2] at hall hc3 ⊢
    simp only [zerosL, List.nil_append] at hall
    refine AO.val (RV.nilCheck rfl) (.none rfl) rfl ?_
    refine AO.val (RV.fieldAddr rfl) (.none rfl) rfl ?_
    refine AO.effN (EF.storeO rfl rfl rfl rfl rfl rfl) (.none rfl) ?_
    rintro _ _ rfl
    refine AO.nil ?_
    refine AK.seq ?_
    refine AK.region ?_
    refine AO.val (RV.move rfl) (.none rfl) rfl ?_
    refine AO.val (RV.move rfl) (.none rfl) rfl ?_
    refine AO.val (RV.nilCheck rfl) (.none rfl) rfl ?_
    refine AO.val (RV.fieldAddr rfl) (.none rfl) rfl ?_
    refine AO.val (by first | exact RV.loadO rfl rfl (by simp) | exact RV.loadS rfl (by assumption) (by omega) (by simp)) (.none rfl) rfl ?_
    refine AO.val ((RV.sliceL rfl rfl (by omega) (by omega)).to (v' := .slice (if (cp : Int) = 1 then Ap else cutA Ap 1) (q.posted.drop 1).length ((cp : Int) - 1).toNat) (by rw [List.length_drop]; congr 1; omega)) (.none rfl) rfl ?_
    refine AO.val (RV.nilCheck rfl) (.none rfl) rfl ?_
    refine AO.val (RV.fieldAddr rfl) (.none rfl) rfl ?_
    refine AO.effN (EF.storeO rfl rfl rfl rfl rfl rfl) (.none rfl) ?_
    rintro _ _ rfl
    refine AO.nil ?_
    refine AK.seq ?_
    refine AK.region ?_
    refine AO.val (RV.move rfl) (.none rfl) rfl ?_
    refine AO.val (RV.move rfl) (.none rfl) rfl ?_
    refine AO.val (RV.nilCheck rfl) (.none rfl) rfl ?_
    refine AO.val (RV.fieldAddr rfl) (.none rfl) rfl ?_
    refine AO.val (by first | exact RV.loadO rfl rfl (by simp) | exact RV.loadS rfl (by assumption) (by omega) (by simp)) (.none rfl) rfl ?_
    refine AO.val (by first | exact RV.addIn rfl rfl (by omega) | exact RV.add rfl rfl) (.none rfl) rfl ?_
    refine AO.val (RV.nilCheck rfl) (.none rfl) rfl ?_
    refine AO.val (RV.fieldAddr rfl) (.none rfl) rfl ?_
    refine AO.effN (EF.storeO rfl rfl rfl rfl rfl rfl) (.none rfl) ?_
    rintro _ _ rfl
    refine AO.nil ?_
    refine AK.seq ?_
    refine AK.region ?_
    refine AO.val (RV.assign rfl) (.none rfl) rfl ?_
    refine AO.nil ?_
    -- at F
    refine AK.perm (h' := _ :: (pre ++ ((c, Blk.cells [.int .i64 N, .slice (if (cp : Int) = 1 then Ap else cutA Ap 1) (⟨q.posted.drop 1, q.ready ++ [lget q.posted 0], q.ever, q.worked + 1⟩ : QS).posted.length ((cp : Int) - 1).toNat, .slice A3 (⟨q.posted.drop 1, q.ready ++ [lget q.posted 0], q.ever, q.worked + 1⟩ : QS).ready.length c3, .int .i64 (⟨q.posted.drop 1, q.ready ++ [lget q.posted 0], q.ever, q.worked + 1⟩ : QS).ever, .int .i64 (⟨q.posted.drop 1, q.ready ++ [lget q.posted 0], q.ever, q.worked + 1⟩ : QS).worked] 30 (0, 0)) :: (p2 ++ h)))) (by exact perm_in1 _ _ _ _ _) ?_
    refine AK.ret (h' := pre ++ (c, Blk.cells [.int .i64 N, .slice (if (cp : Int) = 1 then Ap else cutA Ap 1) (⟨q.posted.drop 1, q.ready ++ [lget q.posted 0], q.ever, q.worked + 1⟩ : QS).posted.length ((cp : Int) - 1).toNat, .slice A3 (⟨q.posted.drop 1, q.ready ++ [lget q.posted 0], q.ever, q.worked + 1⟩ : QS).ready.length c3, .int .i64 (⟨q.posted.drop 1, q.ready ++ [lget q.posted 0], q.ever, q.worked + 1⟩ : QS).ever, .int .i64 (⟨q.posted.drop 1, q.ready ++ [lget q.posted 0], q.ever, q.worked + 1⟩ : QS).worked] 30 (0, 0)) :: (p2 ++ h)) Try.func12 (.tmp rfl .nil) ?_ (by first | exact SubO.sub | exact List.Sublist.refl _ | exact .cons _ (List.Sublist.refl _) | exact .cons _ (.cons _ (List.Sublist.refl _)) | exact .cons _ (.cons _ (.cons _ (List.Sublist.refl _))))
    rw [doneQ_ne hc1]
    have hd := hsp.drop (cap := cp) 1 (by omega) hcp
    refine ⟨rfl, _, _, A3, c3, p2, rfl, ?_, by simpa using hall B _ (fun x hx => List.mem_append_left _ hx), ?_, hc3⟩
    · have e : ((q.posted.length : Int) - 1).toNat = (q.posted.drop 1).length := by rw [List.length_drop]; omega
      rw [e, show (1 : Int).toNat * 1 = 1 from rfl, ← List.map_drop] at hd
      exact hd.mono fun x hx => List.mem_append_right _ hx
    · rw [List.length_drop]; omega

theorem rreap_spec (B : World) (pre h : Own) (c : Nat) (N : Int) (q : QS) {Ap : Option Addr} {cp : Nat} {Ar : Option Addr} {cr : Nat} (m : QM B h q Ap cp Ar cr) (hN : 1 ≤ N ∧ N ≤ 64) (hln : (q.posted.length : Int) + q.ready.length ≤ N) (hev : 0 ≤ q.ever ∧ q.ever ≤ 1000) (hwo : 0 ≤ q.worked ∧ q.worked ≤ 1000)  : Tri Try.prog B 14 [.pointer (some ⟨c, 0, none⟩)] (pre ++ (c, Blk.cells [.int .i64 N, .slice Ap (q).posted.length cp, .slice Ar (q).ready.length cr, .int .i64 (q).ever, .int .i64 (q).worked] 30 (0, 0)) :: h) fun v h' => v = .tuple #[.int .i64 (reapQ q).2.1, .bool (reapQ q).2.2] ∧ ∃ Ap' cp' Ar' cr' part, h' = pre ++ (c, Blk.cells [.int .i64 N, .slice Ap' ((reapQ q).1).posted.length cp', .slice Ar' ((reapQ q).1).ready.length cr', .int .i64 ((reapQ q).1).ever, .int .i64 ((reapQ q).1).worked] 30 (0, 0)) :: (part ++ h) ∧ QM B (part ++ h) ((reapQ q).1) Ap' cp' Ar' cr' := by
  have hsp := m.sp
  have hsr := m.sr
  have hcp := m.cp
  have hcr := m.cr
  refine Tri.enter (n := 26) Try.func14 rfl rfl rfl ?_
  simp only [argsE, Nat.reduceAdd]
  try dsimp only [argsE]
  refine AK.seq ?_
  refine AK.region ?_
  refine AO.val (RV.assign rfl) (.none rfl) rfl ?_
  refine AO.val (RV.assign rfl) (.none rfl) rfl ?_
  refine AO.nil ?_
  refine AK.seq ?_
  refine AK.seq ?_
  refine AK.region ?_
  refine AO.val (RV.move rfl) (.none rfl) rfl ?_
  refine AO.val (RV.nilCheck rfl) (.none rfl) rfl ?_
  refine AO.val (RV.fieldAddr rfl) (.none rfl) rfl ?_
  refine AO.val (by first | exact RV.loadO rfl rfl (by simp) | exact RV.loadS rfl (by assumption) (by omega) (by simp)) (.none rfl) rfl ?_
  refine AO.val (RV.lenS rfl) (.none rfl) rfl ?_
  refine AO.val (RV.eql rfl rfl) (.none rfl) rfl ?_
  refine AO.nil ?_
  refine AK.cond rfl ?_ ?_
  · intro hc1
    try simp only [decide_eq_true_eq, decide_eq_false_iff_not, Bool.not_eq_true', Bool.not_eq_false', beq_iff_eq] at hc1
    refine AK.seq ?_
    refine AK.region ?_
    refine AO.val (RV.assign rfl) (.none rfl) rfl ?_
    refine AO.val (RV.assign rfl) (.none rfl) rfl ?_
    refine AO.nil ?_
    -- at T
    refine AK.ret (h' := (pre ++ (c, Blk.cells [.int .i64 N, .slice Ap (q).posted.length cp, .slice Ar (q).ready.length cr, .int .i64 (q).ever, .int .i64 (q).worked] 30 (0, 0)) :: h)) Try.func14 (.tmp rfl (.tmp rfl .nil)) ?_ (by first | exact SubO.sub | exact List.Sublist.refl _ | exact .cons _ (List.Sublist.refl _) | exact .cons _ (.cons _ (List.Sublist.refl _)) | exact .cons _ (.cons _ (.cons _ (List.Sublist.refl _))))
    rw [reapQ_eq hc1]
    exact ⟨rfl, Ap, cp, Ar, cr, [], rfl, m⟩
  · intro hc1
    try simp only [decide_eq_true_eq, decide_eq_false_iff_not, Bool.not_eq_true', Bool.not_eq_false', beq_iff_eq] at hc1
    refine AK.skip ?_
    refine AK.seq ?_
    refine AK.region ?_
    refine AO.val (RV.move rfl) (.none rfl) rfl ?_
    refine AO.val (RV.nilCheck rfl) (.none rfl) rfl ?_
    refine AO.val (RV.fieldAddr rfl) (.none rfl) rfl ?_
    refine AO.val (by first | exact RV.loadO rfl rfl (by simp) | exact RV.loadS rfl (by assumption) (by omega) (by simp)) (.none rfl) rfl ?_
    refine AO.val (by first | exact RV.indexS rfl rfl (by assumption) (by omega) rfl | exact RV.indexAddr rfl rfl (by omega)) (.none rfl) rfl ?_
    refine AO.val (by first | exact RV.loadO rfl rfl (by simp) | exact RV.loadS rfl (by assumption) (by omega) (by simp)) (.none rfl) rfl ?_
    refine AO.val (RV.assign rfl) (.none rfl) rfl ?_
    refine AO.nil ?_
    refine AK.seq ?_
    refine AK.region ?_
    refine AO.val (RV.move rfl) (.none rfl) rfl ?_
    refine AO.val (RV.move rfl) (.none rfl) rfl ?_
    refine AO.val (RV.nilCheck rfl) (.none rfl) rfl ?_
    refine AO.val (RV.fieldAddr rfl) (.none rfl) rfl ?_
    refine AO.val (by first | exact RV.loadO rfl rfl (by simp) | exact RV.loadS rfl (by assumption) (by omega) (by simp)) (.none rfl) rfl ?_
    refine AO.val ((RV.sliceL rfl rfl (by omega) (by omega)).to (v' := .slice (if (cr : Int) = 1 then Ar else cutA Ar 1) (q.ready.drop 1).length ((cr : Int) - 1).toNat) (by rw [List.length_drop]; congr 1; omega)) (.none rfl) rfl ?_
    refine AO.val (RV.nilCheck rfl) (.none rfl) rfl ?_
    refine AO.val (RV.fieldAddr rfl) (.none rfl) rfl ?_
    refine AO.effN (EF.storeO rfl rfl rfl rfl rfl rfl) (.none rfl) ?_
    rintro _ _ rfl
    refine AO.nil ?_
    refine AK.seq ?_
    refine AK.region ?_
    refine AO.val (RV.move rfl) (.none rfl) rfl ?_
    refine AO.val (RV.assign rfl) (.none rfl) rfl ?_
    refine AO.val (RV.assign rfl) (.none rfl) rfl ?_
    refine AO.nil ?_
    -- at F
    refine AK.ret (h' := pre ++ (c, Blk.cells [.int .i64 N, .slice Ap (⟨q.posted, q.ready.drop 1, q.ever, q.worked⟩ : QS).posted.length cp, .slice (if (cr : Int) = 1 then Ar else cutA Ar 1) (⟨q.posted, q.ready.drop 1, q.ever, q.worked⟩ : QS).ready.length ((cr : Int) - 1).toNat, .int .i64 (⟨q.posted, q.ready.drop 1, q.ever, q.worked⟩ : QS).ever, .int .i64 (⟨q.posted, q.ready.drop 1, q.ever, q.worked⟩ : QS).worked] 30 (0, 0)) :: h) Try.func14 (.tmp rfl (.tmp rfl .nil)) ?_ (by first | exact SubO.sub | exact List.Sublist.refl _ | exact .cons _ (List.Sublist.refl _) | exact .cons _ (.cons _ (List.Sublist.refl _)) | exact .cons _ (.cons _ (.cons _ (List.Sublist.refl _))))
    rw [reapQ_ne hc1]
    have hd := hsr.drop (cap := cr) 1 (by omega) hcr
    refine ⟨rfl, Ap, cp, _, _, [], rfl, hsp, ?_, hcp, ?_⟩
    · have e : ((q.ready.length : Int) - 1).toNat = (q.ready.drop 1).length := by rw [List.length_drop]; omega
      rw [e, show (1 : Int).toNat * 1 = 1 from rfl, ← List.map_drop] at hd
      exact hd
    · rw [List.length_drop]; omega

theorem rown_spec (B : World) (pre h : Own) (c : Nat) (N : Int) (q : QS) {Ap : Option Addr} {cp : Nat} {Ar : Option Addr} {cr : Nat} (m : QM B h q Ap cp Ar cr) (hN : 1 ≤ N ∧ N ≤ 64) (hln : (q.posted.length : Int) + q.ready.length ≤ N) (hev : 0 ≤ q.ever ∧ q.ever ≤ 1000) (hwo : 0 ≤ q.worked ∧ q.worked ≤ 1000) (k : Int) : Tri Try.prog B 21 [.pointer (some ⟨c, 0, none⟩), .int .i64 k] (pre ++ (c, Blk.cells [.int .i64 N, .slice Ap (q).posted.length cp, .slice Ar (q).ready.length cr, .int .i64 (q).ever, .int .i64 (q).worked] 30 (0, 0)) :: h) fun v h' => (pre ++ (c, Blk.cells [.int .i64 N, .slice Ap (q).posted.length cp, .slice Ar (q).ready.length cr, .int .i64 (q).ever, .int .i64 (q).worked] 30 (0, 0)) :: h) = h' ∧ ∃ b : Bool, v = .bool b ∧ (b = true ↔ ownQ N q k) := by
  have hsp := m.sp
  have hsr := m.sr
  have hcp := m.cp
  have hcr := m.cr
  refine Tri.enter (n := 26) Try.func21 rfl rfl rfl ?_
  simp only [argsE, Nat.reduceAdd]
  try dsimp only [argsE]
  refine AK.seq ?_
  refine AK.region ?_
  refine AO.val (RV.assign rfl) (.none rfl) rfl ?_
  refine AO.nil ?_
  refine AK.seq ?_
  refine AK.seq ?_
  refine AK.region ?_
  refine AO.val (RV.move rfl) (.none rfl) rfl ?_
  refine AO.val (RV.nilCheck rfl) (.none rfl) rfl ?_
  refine AO.val (RV.fieldAddr rfl) (.none rfl) rfl ?_
  refine AO.val (by first | exact RV.loadO rfl rfl (by simp) | exact RV.loadS rfl (by assumption) (by omega) (by simp)) (.none rfl) rfl ?_
  refine AO.val (RV.assign rfl) (.none rfl) rfl ?_
  refine AO.nil ?_
  refine AK.block ?_
  refine AK.loop (α := Int) (E := fun j => [(0, .pointer (some ⟨c, 0, none⟩)), (1, .int .i64 k), (5, .int .i64 j)]) (H := fun j => pre ++ (c, Blk.cells [.int .i64 N, .slice Ap (q).posted.length cp, .slice Ar (q).ready.length cr, .int .i64 (q).ever, .int .i64 (q).worked] 30 (0, 0)) :: h) (Inv := fun j => q.worked ≤ j ∧ (q.worked ≤ q.ever → j ≤ q.ever) ∧ ∀ i, q.worked ≤ i → i < j → i % N ≠ k) (μ := fun j => (q.ever - j).toNat) q.worked ?_ (.cons (by exact rfl) (.cons (by exact rfl) (.cons (by exact rfl) .nil))) ?_ ?_
  · exact ⟨by omega, by omega, fun i h1 h2 => by omega⟩
  · exact (by first | exact SubO.sub | exact List.Sublist.refl _ | exact .cons _ (List.Sublist.refl _) | exact .cons _ (.cons _ (List.Sublist.refl _)) | exact .cons _ (.cons _ (.cons _ (List.Sublist.refl _))))
  rintro j ⟨hj0, hj1, hall⟩ hih0
  try dsimp only at hih0 ⊢
  refine AK.seq ?_
  refine AK.seq ?_
  refine AK.region ?_
  refine AO.val (RV.move rfl) (.none rfl) rfl ?_
  refine AO.val (RV.move rfl) (.none rfl) rfl ?_
  refine AO.val (RV.nilCheck rfl) (.none rfl) rfl ?_
  refine AO.val (RV.fieldAddr rfl) (.none rfl) rfl ?_
  refine AO.val (by first | exact RV.loadO rfl rfl (by simp) | exact RV.loadS rfl (by assumption) (by omega) (by simp)) (.none rfl) rfl ?_
  refine AO.val (RV.lss rfl rfl) (.none rfl) rfl ?_
  refine AO.nil ?_
  refine AK.cond rfl ?_ ?_
  · intro hc1
    try simp only [decide_eq_true_eq, decide_eq_false_iff_not, Bool.not_eq_true', Bool.not_eq_false', beq_iff_eq] at hc1
    refine AK.skip ?_
    refine AK.seq ?_
    refine AK.block ?_
    refine AK.seq ?_
    refine AK.region ?_
    refine AO.val (RV.move rfl) (.none rfl) rfl ?_
    refine AO.val (RV.move rfl) (.none rfl) rfl ?_
    refine AO.val (RV.nilCheck rfl) (.none rfl) rfl ?_
    refine AO.val (RV.fieldAddr rfl) (.none rfl) rfl ?_
    refine AO.val (by first | exact RV.loadO rfl rfl (by simp) | exact RV.loadS rfl (by assumption) (by omega) (by simp)) (.none rfl) rfl ?_
    refine AO.val (by first | exact RV.remIn rfl rfl (by omega) | exact RV.rem rfl rfl (by omega)) (.none rfl) rfl ?_
    refine AO.val (RV.move rfl) (.none rfl) rfl ?_
    refine AO.val (RV.eql rfl rfl) (.none rfl) rfl ?_
    refine AO.nil ?_
    refine AK.cond rfl ?_ ?_
    · intro hc2
      try simp only [decide_eq_true_eq, decide_eq_false_iff_not, Bool.not_eq_true', Bool.not_eq_false', beq_iff_eq] at hc2
      refine AK.seq ?_
      refine AK.region ?_
      refine AO.val (RV.assign rfl) (.none rfl) rfl ?_
      refine AO.nil ?_
      -- at L0TT
      clear hih0
      refine AK.ret (h' := (pre ++ (c, Blk.cells [.int .i64 N, .slice Ap (q).posted.length cp, .slice Ar (q).ready.length cr, .int .i64 (q).ever, .int .i64 (q).worked] 30 (0, 0)) :: h)) Try.func21 (.tmp rfl .nil) ?_ (by first | exact SubO.sub | exact List.Sublist.refl _ | exact .cons _ (List.Sublist.refl _) | exact .cons _ (.cons _ (List.Sublist.refl _)) | exact .cons _ (.cons _ (.cons _ (List.Sublist.refl _))))
      refine ⟨rfl, _, rfl, ?_⟩
      simp only [true_iff]
      exact ⟨j, hj0, hc1, hc2⟩
    · intro hc2
      try simp only [decide_eq_true_eq, decide_eq_false_iff_not, Bool.not_eq_true', Bool.not_eq_false', beq_iff_eq] at hc2
      refine AK.skip ?_
      refine AK.inBlock ?_
      refine AK.region ?_
      refine AO.val (RV.move rfl) (.none rfl) rfl ?_
      refine AO.val (by first | exact RV.addIn rfl rfl (by omega) | exact RV.add rfl rfl) (.none rfl) rfl ?_
      refine AO.val (RV.assign rfl) (.none rfl) rfl ?_
      refine AO.nil ?_
      -- round ends at L0TF
      refine AK.weak (.cons (by exact rfl) (.cons (by exact rfl) (.cons (by exact rfl) .nil))) (by first | exact SubO.sub | exact List.Sublist.refl _ | exact .cons _ (List.Sublist.refl _) | exact .cons _ (.cons _ (List.Sublist.refl _)) | exact .cons _ (.cons _ (.cons _ (List.Sublist.refl _)))) (hih0 (j + 1) ?_ ?_)
      · refine ⟨by omega, by omega, fun i h1 h2 => ?_⟩
        by_cases hj : i = j
        · subst hj; exact hc2
        · exact hall i h1 (by omega)
      · omega
  · intro hc1
    try simp only [decide_eq_true_eq, decide_eq_false_iff_not, Bool.not_eq_true', Bool.not_eq_false', beq_iff_eq] at hc1
    refine AK.exit rfl ?_
    refine AK.seq ?_
    refine AK.region ?_
    refine AO.val (RV.assign rfl) (.none rfl) rfl ?_
    refine AO.nil ?_
    -- at L0F
    clear hih0
    refine AK.ret (h' := (pre ++ (c, Blk.cells [.int .i64 N, .slice Ap (q).posted.length cp, .slice Ar (q).ready.length cr, .int .i64 (q).ever, .int .i64 (q).worked] 30 (0, 0)) :: h)) Try.func21 (.tmp rfl .nil) ?_ (by first | exact SubO.sub | exact List.Sublist.refl _ | exact .cons _ (List.Sublist.refl _) | exact .cons _ (.cons _ (List.Sublist.refl _)) | exact .cons _ (.cons _ (.cons _ (List.Sublist.refl _))))
    refine ⟨rfl, _, rfl, ?_⟩
    simp only [Bool.false_eq_true, false_iff]
    rintro ⟨i, h1, h2, h3⟩
    exact hall i h1 (by omega) h3

end Go.Proofs.Ytjhflpangoddaaa
