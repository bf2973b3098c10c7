/- Walks through the code: what each function that is named here gives back, from any memory that holds its arguments. Written by a program of the claim's author, out of the program's form in Lean. -/
import Derived.Test.YtpobjhmbonojkaaS14W1
import Derived.Test.YtpobjhmbonojkaaS01R3
import Derived.Test.YtpobjhmbonojkaaPlainQ14
import Derived.Test.YtpobjhmbonojkaaSep13
set_option linter.unusedSimpArgs false
set_option linter.unusedVariables false
namespace Go.Proofs.Ytpobjhmbonojkaa
open Go.Sep Go.Sep.Pool Go.Sep.Sip

theorem read_spec (B : World) (h : Own) (p qb qt : Nat) (pb : Own) {Ab : Option Addr} {cb : Nat} (L : Nat) (s : PS) (bs : List Sl) (ct : List (List Int)) (pi : PI s) (hL : s.tk.length = L) (hbl : bs.length = L) (hr : Row 3 1 (.slice Ab (s).back.length cb) (s).back.length ((s).back.map I64) pb) (hcb : s.back.length ≤ cb) (D : Own) (hD : ∀ x ∈ D, x ∈ h) (hct : Cont B D bs ct) (i : Int) : Tri Try.prog B 34 [.pointer (some ⟨p, 0, none⟩), .int .i64 i] (pb ++ ((p, Blk.cells [.slice (some ⟨qb, 0, none⟩) L L, .slice (some ⟨qt, 0, none⟩) L L, .slice Ab (s).back.length cb, .int .i64 (s).fresh] 59 (0, 0)) :: (qt, Blk.cells (flat encBo (s).tk) 4 (0, 0)) :: (qb, Blk.cells (flat encSl (bs)) 28 (0, 0)) :: h)) fun v h' => ∃ A' c' p', v = .slice A' (if hasP s i = true then (lget ct i) else []).length c' ∧ (if hasP s i = true then (lget ct i) else []).length ≤ c' ∧ Row 5 1 (.slice A' (if hasP s i = true then (lget ct i) else []).length c') (if hasP s i = true then (lget ct i) else []).length ((if hasP s i = true then (lget ct i) else []).map (fun x => Value.int .u8 x)) p' ∧ h' = p' ++ (pb ++ ((p, Blk.cells [.slice (some ⟨qb, 0, none⟩) L L, .slice (some ⟨qt, 0, none⟩) L L, .slice Ab (s).back.length cb, .int .i64 (s).fresh] 59 (0, 0)) :: (qt, Blk.cells (flat encBo (s).tk) 4 (0, 0)) :: (qb, Blk.cells (flat encSl (bs)) 28 (0, 0)) :: h)) := by
  have hN : s.N = L := by rw [← hL]; rfl
  have hn := pi.n
  have hf := pi.f
  have hbk := back_len pi
  rw [hN] at hn hf
  have hsb : Src B pb Ab s.back.length 1 (s.back.map I64) := hr.src (fun x hx => hx)
  refine Tri.enter (n := 18) Try.func34 rfl rfl rfl ?_
  simp only [argsE, Nat.reduceAdd]
  try dsimp only [argsE]
  refine AK.seq ?_
  refine AK.region ?_
  refine AO.val (RV.assign rfl) (.none rfl) rfl ?_
  refine AO.nil ?_
  refine AK.seq ?_
  refine AK.seq ?_
  refine AK.region ?_
  refine AO.val (RV.move rfl) (.none rfl) rfl ?_
  refine AO.val (RV.move rfl) (.none rfl) rfl ?_
  refine AO.eff (EF.callF rfl (has_spec B _ p qb qt pb L s bs pi hL hbl hr hcb _)) (.none rfl) rfl ?_
  rintro _ _ ⟨rfl, rfl⟩
  refine AO.val (RV.not rfl) (.none rfl) rfl ?_
  refine AO.nil ?_
  refine AK.cond rfl ?_ ?_
  · intro hc1
    try simp only [decide_eq_true_eq, decide_eq_false_iff_not, Bool.not_eq_true', Bool.not_eq_false', beq_iff_eq] at hc1
    refine AK.seq ?_
    refine AK.region ?_
    refine AO.val (RV.assign rfl) (.none rfl) rfl ?_
    refine AO.nil ?_
    -- at T
    refine AK.ret (h' := (pb ++ ((p, Blk.cells [.slice (some ⟨qb, 0, none⟩) L L, .slice (some ⟨qt, 0, none⟩) L L, .slice Ab (s).back.length cb, .int .i64 (s).fresh] 59 (0, 0)) :: (qt, Blk.cells (flat encBo (s).tk) 4 (0, 0)) :: (qb, Blk.cells (flat encSl (bs)) 28 (0, 0)) :: h))) Try.func34 (.tmp rfl .nil) ?_ (by first | exact List.Sublist.append_left (List.sublist_cons_self _ _) _ | exact List.Sublist.refl _)
    rw [hc1]
    exact ⟨none, 0, [], rfl, Nat.le_refl 0, .nil, rfl⟩
  · intro hc1
    try simp only [decide_eq_true_eq, decide_eq_false_iff_not, Bool.not_eq_true', Bool.not_eq_false', beq_iff_eq] at hc1
    have hin := has_in hc1
    rw [hN] at hin
    obtain ⟨k1, k2, k3, k4, k5⟩ := hct.at_ i (by omega) (by omega)
    refine AK.skip ?_
    refine AK.seq ?_
    refine AK.region ?_
    refine AO.val (RV.move rfl) (.none rfl) rfl ?_
    refine AO.val (RV.nilCheck rfl) (.none rfl) rfl ?_
    refine AO.val (RV.fieldAddr rfl) (.none rfl) rfl ?_
    refine AO.val (by first | exact RV.loadO rfl rfl (by first | simp | assumption) | exact RV.loadF rfl (fun _ => rfl) (by omega) rfl rfl (by first | simp | assumption) | exact RV.loadF0 rfl (fun _ => rfl) (by omega) rfl rfl (by first | simp | assumption) | exact RV.loadS rfl (by assumption) (by omega) (by first | simp | assumption)) (.none rfl) rfl ?_
    refine AO.val (RV.move rfl) (.none rfl) rfl ?_
    refine AO.val (by first | exact RV.indexO rfl rfl (by omega) | exact RV.indexS rfl rfl (by assumption) (by omega) rfl | exact RV.indexAddr rfl rfl (by omega)) (.none rfl) rfl ?_
    refine AO.val ((RV.loadF0 (enc := encSl) (l := bs) rfl (fun _ => rfl) (by omega) rfl rfl (by simp)).to (v' := .slice (lget bs i).1 (lget ct i).length (lget bs i).2.2) (by rw [← k1])) (.none rfl) rfl ?_
    refine AO.eff (EF.buildSeq [.slice (lget bs i).1 (lget ct i).length (lget bs i).2.2] rfl rfl rfl rfl) (.none rfl) rfl ?_
    rintro _ _ ⟨b16, hf16, rfl, rfl⟩
    refine AO.eff (EF.callF rfl ((join_spec (A := some ⟨b16, 0, none⟩) (cap := 1) B _ ([⟨(lget bs i).1, (lget bs i).2.2, (lget ct i)⟩] : List (InS Int)) (Src.of_new (el := 28) (cs := [.slice (lget bs i).1 (lget ct i).length (lget bs i).2.2]) (by simp) 1 1 (Nat.le_refl _)) (by intro x hx; simp only [List.mem_cons, List.not_mem_nil, or_false] at hx; subst hx; exact k3.mono fun x hx => by have := hD x hx; simp [this]) (by simp; omega) (by simp)).mono fun v h2 r => r.to (n' := ((lget ct i)).length) (ys := ((lget ct i)).map (fun x => Value.int .u8 x)) (by simp) (by simp))) (.none rfl) rfl ?_
    rintro _ _ ⟨A17, c17, p17, rfl, hr17, hc17, rfl⟩
    refine AO.val (RV.assign rfl) (.none rfl) rfl ?_
    refine AO.nil ?_
    -- at F
    refine AK.ret (h' := p17 ++ (pb ++ ((p, Blk.cells [.slice (some ⟨qb, 0, none⟩) L L, .slice (some ⟨qt, 0, none⟩) L L, .slice Ab (s).back.length cb, .int .i64 (s).fresh] 59 (0, 0)) :: (qt, Blk.cells (flat encBo (s).tk) 4 (0, 0)) :: (qb, Blk.cells (flat encSl (bs)) 28 (0, 0)) :: h))) Try.func34 (.tmp rfl .nil) ?_ (by first | exact List.Sublist.append_left (List.sublist_cons_self _ _) _ | exact List.Sublist.refl _)
    rw [hc1]
    exact ⟨A17, c17, p17, rfl, hc17, hr17, rfl⟩

theorem write_spec (B : World) (h : Own) (p qb qt : Nat) (pb : Own) {Ab : Option Addr} {cb : Nat} (L : Nat) (s : PS) (bs : List Sl) (ct : List (List Int)) (pi : PI s) (hL : s.tk.length = L) (hbl : bs.length = L) (hr : Row 3 1 (.slice Ab (s).back.length cb) (s).back.length ((s).back.map I64) pb) (hcb : s.back.length ≤ cb) (D : Own) (hD : ∀ x ∈ D, x ∈ h) (hct : Cont B D bs ct) (i : Int) {A : Option Addr} {cap : Nat} (l : List Int) (hl : Src B h A l.length 1 (l.map (fun x => Value.int .u8 x))) (hb : Bytes l) (hln : l.length ≤ 100000) : Tri Try.prog B 30 [.pointer (some ⟨p, 0, none⟩), .int .i64 i, .slice A l.length cap] (pb ++ ((p, Blk.cells [.slice (some ⟨qb, 0, none⟩) L L, .slice (some ⟨qt, 0, none⟩) L L, .slice Ab (s).back.length cb, .int .i64 (s).fresh] 59 (0, 0)) :: (qt, Blk.cells (flat encBo (s).tk) 4 (0, 0)) :: (qb, Blk.cells (flat encSl (bs)) 28 (0, 0)) :: h)) fun v h' => v = .bool (hasP s i && decide (l.length ≤ 1514)) ∧ ∃ bs' p', bs'.length = L ∧ Cont B (p' ++ D) bs' (if (hasP s i && decide (l.length ≤ 1514)) = true then lset ct i l else ct) ∧ h' = pb ++ ((p, Blk.cells [.slice (some ⟨qb, 0, none⟩) L L, .slice (some ⟨qt, 0, none⟩) L L, .slice Ab (s).back.length cb, .int .i64 (s).fresh] 59 (0, 0)) :: (qt, Blk.cells (flat encBo (s).tk) 4 (0, 0)) :: (qb, Blk.cells (flat encSl (bs')) 28 (0, 0)) :: (p' ++ h)) := by
  have hN : s.N = L := by rw [← hL]; rfl
  have hn := pi.n
  have hf := pi.f
  have hbk := back_len pi
  rw [hN] at hn hf
  have hsb : Src B pb Ab s.back.length 1 (s.back.map I64) := hr.src (fun x hx => hx)
  refine Tri.enter (n := 25) Try.func30 rfl rfl rfl ?_
  simp only [argsE, Nat.reduceAdd]
  try dsimp only [argsE]
  refine AK.seq ?_
  refine AK.region ?_
  refine AO.val (RV.assign rfl) (.none rfl) rfl ?_
  refine AO.nil ?_
  refine AK.seq ?_
  refine AK.seq ?_
  refine AK.region ?_
  refine AO.val (RV.move rfl) (.none rfl) rfl ?_
  refine AO.val (RV.move rfl) (.none rfl) rfl ?_
  refine AO.eff (EF.callF rfl (has_spec B _ p qb qt pb L s bs pi hL hbl hr hcb _)) (.none rfl) rfl ?_
  rintro _ _ ⟨rfl, rfl⟩
  refine AO.val (RV.not rfl) (.none rfl) rfl ?_
  refine AO.val (RV.move rfl) (.none rfl) rfl ?_
  refine AO.caseG rfl rfl rfl ?_ ?_
  · intro hg1
    try simp only [decide_eq_true_eq, decide_eq_false_iff_not, Bool.not_eq_true', Bool.not_eq_false', beq_iff_eq] at hg1
    refine AO.pass (.some rfl rfl rfl rfl) rfl ?_
    refine AO.pass (.some rfl rfl rfl rfl) rfl ?_
    refine AO.pass (.some rfl rfl rfl rfl) rfl ?_
    refine AO.val (RV.pickT rfl rfl) (.none rfl) rfl ?_
    refine AO.nil ?_
    refine AK.condT rfl ?_
    refine AK.seq ?_
    refine AK.region ?_
    refine AO.val (RV.assign rfl) (.none rfl) rfl ?_
    refine AO.nil ?_
    -- at t
    refine AK.ret (h' := (pb ++ ((p, Blk.cells [.slice (some ⟨qb, 0, none⟩) L L, .slice (some ⟨qt, 0, none⟩) L L, .slice Ab (s).back.length cb, .int .i64 (s).fresh] 59 (0, 0)) :: (qt, Blk.cells (flat encBo (s).tk) 4 (0, 0)) :: (qb, Blk.cells (flat encSl (bs)) 28 (0, 0)) :: h))) Try.func30 (.tmp rfl .nil) ?_ (by first | exact SubO.sub | exact List.Sublist.refl _ | exact .cons _ (List.Sublist.refl _) | exact .cons _ (.cons _ (List.Sublist.refl _)) | exact .cons _ (.cons _ (.cons _ (List.Sublist.refl _))))
    have hok : (hasP s i && decide (l.length ≤ 1514)) = false := by simp [show hasP s i = false by simpa using hg1]
    rw [hok]
    exact ⟨rfl, bs, [], hbl, hct, rfl⟩
  · intro hg1
    try simp only [decide_eq_true_eq, decide_eq_false_iff_not, Bool.not_eq_true', Bool.not_eq_false', beq_iff_eq] at hg1
    refine AO.val (RV.move rfl) (.some rfl rfl rfl rfl) rfl ?_
    refine AO.val (RV.lenS rfl) (.some rfl rfl rfl rfl) rfl ?_
    refine AO.val (RV.gtr rfl rfl) (.some rfl rfl rfl rfl) rfl ?_
    refine AO.val (RV.pickF rfl rfl) (.none rfl) rfl ?_
    refine AO.nil ?_
    refine AK.cond rfl ?_ ?_
    · intro hc2
      try simp only [decide_eq_true_eq, decide_eq_false_iff_not, Bool.not_eq_true', Bool.not_eq_false', beq_iff_eq] at hc2
      refine AK.seq ?_
      refine AK.region ?_
      refine AO.val (RV.assign rfl) (.none rfl) rfl ?_
      refine AO.nil ?_
      -- at fT
      refine AK.ret (h' := (pb ++ ((p, Blk.cells [.slice (some ⟨qb, 0, none⟩) L L, .slice (some ⟨qt, 0, none⟩) L L, .slice Ab (s).back.length cb, .int .i64 (s).fresh] 59 (0, 0)) :: (qt, Blk.cells (flat encBo (s).tk) 4 (0, 0)) :: (qb, Blk.cells (flat encSl (bs)) 28 (0, 0)) :: h))) Try.func30 (.tmp rfl .nil) ?_ (by first | exact SubO.sub | exact List.Sublist.refl _ | exact .cons _ (List.Sublist.refl _) | exact .cons _ (.cons _ (List.Sublist.refl _)) | exact .cons _ (.cons _ (.cons _ (List.Sublist.refl _))))
      have hok : (hasP s i && decide (l.length ≤ 1514)) = false := by simp; omega
      rw [hok]
      exact ⟨rfl, bs, [], hbl, hct, rfl⟩
    · intro hc2
      try simp only [decide_eq_true_eq, decide_eq_false_iff_not, Bool.not_eq_true', Bool.not_eq_false', beq_iff_eq] at hc2
      have hin := has_in hg1
      rw [hN] at hin
      have hok : (hasP s i && decide (l.length ≤ 1514)) = true := by rw [hg1]; simp; omega
      refine AK.skip ?_
      refine AK.seq ?_
      refine AK.draw [] [9] mixed ?_
      refine AD.takeP 0 rfl (by kernel_rfl) (RV.move rfl) (.none rfl) rfl ?_
      refine AD.takeP 1 rfl (by kernel_rfl) (RV.nilCheck rfl) (.none rfl) rfl ?_
      refine AD.takeP 2 rfl (by kernel_rfl) (RV.fieldAddr rfl) (.none rfl) rfl ?_
      refine AD.take 3 rfl (by kernel_rfl) (by first | exact RV.loadO rfl rfl (by first | simp | assumption) | exact RV.loadF rfl (fun _ => rfl) (by omega) rfl rfl (by first | simp | assumption) | exact RV.loadF0 rfl (fun _ => rfl) (by omega) rfl rfl (by first | simp | assumption) | exact RV.loadS rfl (by assumption) (by omega) (by first | simp | assumption)) (.none rfl) rfl ?_
      refine AD.takeP 4 rfl (by kernel_rfl) (RV.move rfl) (.none rfl) rfl ?_
      refine AD.takeP 5 rfl (by kernel_rfl) (RV.move rfl) (.none rfl) rfl ?_
      refine AD.one 6 (by kernel_rfl) (AE.eff rfl (EF.buildSeq [.slice A l.length cap] rfl rfl rfl rfl) (.none rfl) rfl ?_)
      rintro _ _ ⟨b22, hf22, rfl, rfl⟩
      refine ⟨(by first | exact .inr fun x hx hM => hx | exact .inr fun x hx hM => List.mem_cons_of_mem _ hx | exact .inr fun x hx hM => List.mem_append_right _ hx), ?_⟩
      refine AD.one 7 (by kernel_rfl) (AE.eff rfl (EF.callF rfl ((join_spec (A := some ⟨b22, 0, none⟩) (cap := 1) B _ ([⟨A, cap, l⟩] : List (InS Int)) (Src.of_new (el := 28) (cs := [.slice A l.length cap]) (by simp) 1 1 (Nat.le_refl _)) (by intro x hx; simp only [List.mem_cons, List.not_mem_nil, or_false] at hx; subst hx; exact hl.mono fun x hx => by simp [hx]) (by simp; omega) (by simp)).mono fun v h2 r => r.to (n' := (l).length) (ys := (l).map (fun x => Value.int .u8 x)) (by simp) (by simp))) (.none rfl) rfl ?_)
      rintro _ _ ⟨A23, c23, p23, rfl, hr23, hc23, rfl⟩
      refine ⟨(by first | exact .inr fun x hx hM => hx | exact .inr fun x hx hM => List.mem_cons_of_mem _ hx | exact .inr fun x hx hM => List.mem_append_right _ hx), ?_⟩
      refine AD.takeP 8 rfl (by kernel_rfl) (by first | exact RV.indexO rfl rfl (by omega) | exact RV.indexS rfl rfl (by assumption) (by omega) rfl | exact RV.indexAddr rfl rfl (by omega)) (.none rfl) rfl ?_
      refine AD.one 9 (by kernel_rfl) (AE.effN rfl (EF.storeF0 ((A23, l.length, c23)) rfl rfl (fun _ => rfl) (by omega) rfl rfl rfl (Nat.le_of_ble_eq_true rfl) rfl) (.none rfl) ?_)
      rintro _ _ rfl
      refine ⟨.inl (by kernel_rfl), ?_⟩
      refine AD.done (by kernel_rfl) ?_
      refine AK.seq ?_
      refine AK.region ?_
      refine AO.val (RV.assign rfl) (.none rfl) rfl ?_
      refine AO.nil ?_
      -- at fF
      refine AK.perm (h' := (b22, Blk.cells [.slice A l.length cap] 28 (0, 0)) :: (pb ++ ((p, Blk.cells [.slice (some ⟨qb, 0, none⟩) L L, .slice (some ⟨qt, 0, none⟩) L L, .slice Ab (s).back.length cb, .int .i64 (s).fresh] 59 (0, 0)) :: (qt, Blk.cells (flat encBo (s).tk) 4 (0, 0)) :: (qb, Blk.cells (flat encSl (lset bs i (A23, l.length, c23))) 28 (0, 0)) :: (p23 ++ h)))) (by exact perm_count fun x => by simp only [List.count_append, List.count_cons]; omega) ?_
      refine AK.ret (h' := pb ++ ((p, Blk.cells [.slice (some ⟨qb, 0, none⟩) L L, .slice (some ⟨qt, 0, none⟩) L L, .slice Ab (s).back.length cb, .int .i64 (s).fresh] 59 (0, 0)) :: (qt, Blk.cells (flat encBo (s).tk) 4 (0, 0)) :: (qb, Blk.cells (flat encSl (lset bs i (A23, l.length, c23))) 28 (0, 0)) :: (p23 ++ h))) Try.func30 (.tmp rfl .nil) ?_ (List.sublist_cons_self _ _)
      rw [hok]
      exact ⟨rfl, _, p23, by rw [lset_len]; exact hbl, (hct.mono fun x hx => List.mem_append_right _ hx).set i (by omega) A23 c23 l hc23 (hr23.src fun x hx => List.mem_append_left _ hx) hb (by omega), rfl⟩

theorem give2_spec (B : World) (h : Own) (p qb qt : Nat) (pb : Own) {Ab : Option Addr} {cb : Nat} (L : Nat) (s : PS) (bs : List Sl) (ct : List (List Int)) (pi : PI s) (hL : s.tk.length = L) (hbl : bs.length = L) (hr : Row 3 1 (.slice Ab (s).back.length cb) (s).back.length ((s).back.map I64) pb) (hcb : s.back.length ≤ cb) (D : Own) (hD : ∀ x ∈ D, x ∈ h) (hct : Cont B D bs ct) (i : Int) : Tri Try.prog B 35 [.pointer (some ⟨p, 0, none⟩), .int .i64 i] (pb ++ ((p, Blk.cells [.slice (some ⟨qb, 0, none⟩) L L, .slice (some ⟨qt, 0, none⟩) L L, .slice Ab (s).back.length cb, .int .i64 (s).fresh] 59 (0, 0)) :: (qt, Blk.cells (flat encBo (s).tk) 4 (0, 0)) :: (qb, Blk.cells (flat encSl (bs)) 28 (0, 0)) :: h)) fun v h' => v = .bool (giveP s i).2 ∧ ∃ bs' Ab' cb' pb', bs'.length = L ∧ Cont B D bs' (if hasP s i = true then lset ct i [] else ct) ∧ h' = pb' ++ ((p, Blk.cells [.slice (some ⟨qb, 0, none⟩) L L, .slice (some ⟨qt, 0, none⟩) L L, .slice Ab' ((giveP s i).1).back.length cb', .int .i64 ((giveP s i).1).fresh] 59 (0, 0)) :: (qt, Blk.cells (flat encBo ((giveP s i).1).tk) 4 (0, 0)) :: (qb, Blk.cells (flat encSl (bs')) 28 (0, 0)) :: h) ∧ Row 3 1 (.slice Ab' ((giveP s i).1).back.length cb') ((giveP s i).1).back.length (((giveP s i).1).back.map I64) pb' ∧ ((giveP s i).1).back.length ≤ cb' := by
  have hN : s.N = L := by rw [← hL]; rfl
  have hn := pi.n
  have hf := pi.f
  have hbk := back_len pi
  rw [hN] at hn hf
  have hsb : Src B pb Ab s.back.length 1 (s.back.map I64) := hr.src (fun x hx => hx)
  refine Tri.enter (n := 31) Try.func35 rfl rfl rfl ?_
  simp only [argsE, Nat.reduceAdd]
  try dsimp only [argsE]
  refine AK.seq ?_
  refine AK.region ?_
  refine AO.val (RV.assign rfl) (.none rfl) rfl ?_
  refine AO.nil ?_
  refine AK.seq ?_
  refine AK.seq ?_
  refine AK.region ?_
  refine AO.val (RV.move rfl) (.none rfl) rfl ?_
  refine AO.val (RV.move rfl) (.none rfl) rfl ?_
  refine AO.eff (EF.callF rfl (has_spec B _ p qb qt pb L s bs pi hL hbl hr hcb _)) (.none rfl) rfl ?_
  rintro _ _ ⟨rfl, rfl⟩
  refine AO.val (RV.not rfl) (.none rfl) rfl ?_
  refine AO.nil ?_
  refine AK.cond rfl ?_ ?_
  · intro hc1
    try simp only [decide_eq_true_eq, decide_eq_false_iff_not, Bool.not_eq_true', Bool.not_eq_false', beq_iff_eq] at hc1
    refine AK.seq ?_
    refine AK.region ?_
    refine AO.val (RV.assign rfl) (.none rfl) rfl ?_
    refine AO.nil ?_
    -- at T
    refine AK.ret (h' := (pb ++ ((p, Blk.cells [.slice (some ⟨qb, 0, none⟩) L L, .slice (some ⟨qt, 0, none⟩) L L, .slice Ab (s).back.length cb, .int .i64 (s).fresh] 59 (0, 0)) :: (qt, Blk.cells (flat encBo (s).tk) 4 (0, 0)) :: (qb, Blk.cells (flat encSl (bs)) 28 (0, 0)) :: h))) Try.func35 (.tmp rfl .nil) ?_ (by first | exact SubO.sub | exact List.Sublist.refl _ | exact .cons _ (List.Sublist.refl _) | exact .cons _ (.cons _ (List.Sublist.refl _)) | exact .cons _ (.cons _ (.cons _ (List.Sublist.refl _))))
    have hg : giveP s i = (s, false) := by simp [giveP, hc1]
    rw [hg, hc1]
    exact ⟨rfl, bs, Ab, cb, pb, hbl, hct, rfl, hr, hcb⟩
  · intro hc1
    try simp only [decide_eq_true_eq, decide_eq_false_iff_not, Bool.not_eq_true', Bool.not_eq_false', beq_iff_eq] at hc1
    have hin := has_in hc1
    rw [hN] at hin
    refine AK.skip ?_
    refine AK.seq ?_
    refine AK.draw [] [11, 13] mixed ?_
    refine AD.takeP 0 rfl (by kernel_rfl) (RV.move rfl) (.none rfl) rfl ?_
    refine AD.takeP 1 rfl (by kernel_rfl) (RV.nilCheck rfl) (.none rfl) rfl ?_
    refine AD.takeP 2 rfl (by kernel_rfl) (RV.fieldAddr rfl) (.none rfl) rfl ?_
    refine AD.take 3 rfl (by kernel_rfl) (by first | exact RV.loadO rfl rfl (by first | simp | assumption) | exact RV.loadF rfl (fun _ => rfl) (by omega) rfl rfl (by first | simp | assumption) | exact RV.loadF0 rfl (fun _ => rfl) (by omega) rfl rfl (by first | simp | assumption) | exact RV.loadS rfl (by assumption) (by omega) (by first | simp | assumption)) (.none rfl) rfl ?_
    refine AD.takeP 4 rfl (by kernel_rfl) (RV.move rfl) (.none rfl) rfl ?_
    refine AD.takeP 5 rfl (by kernel_rfl) (RV.move rfl) (.none rfl) rfl ?_
    refine AD.takeP 6 rfl (by kernel_rfl) (RV.nilCheck rfl) (.none rfl) rfl ?_
    refine AD.takeP 7 rfl (by kernel_rfl) (RV.fieldAddr rfl) (.none rfl) rfl ?_
    refine AD.take 8 rfl (by kernel_rfl) (by first | exact RV.loadO rfl rfl (by first | simp | assumption) | exact RV.loadF rfl (fun _ => rfl) (by omega) rfl rfl (by first | simp | assumption) | exact RV.loadF0 rfl (fun _ => rfl) (by omega) rfl rfl (by first | simp | assumption) | exact RV.loadS rfl (by assumption) (by omega) (by first | simp | assumption)) (.none rfl) rfl ?_
    refine AD.takeP 9 rfl (by kernel_rfl) (RV.move rfl) (.none rfl) rfl ?_
    refine AD.takeP 10 rfl (by kernel_rfl) (by first | exact RV.indexO rfl rfl (by omega) | exact RV.indexS rfl rfl (by assumption) (by omega) rfl | exact RV.indexAddr rfl rfl (by omega)) (.none rfl) rfl ?_
    refine AD.one 11 (by kernel_rfl) (AE.effN rfl (EF.storeF0 (false) rfl rfl (fun _ => rfl) (by omega) rfl rfl rfl (Nat.le_of_ble_eq_true rfl) rfl) (.none rfl) ?_)
    rintro _ _ rfl
    refine ⟨.inl (by kernel_rfl), ?_⟩
    refine AD.takeP 12 rfl (by kernel_rfl) (by first | exact RV.indexO rfl rfl (by omega) | exact RV.indexS rfl rfl (by assumption) (by omega) rfl | exact RV.indexAddr rfl rfl (by omega)) (.none rfl) rfl ?_
    refine AD.one 13 (by kernel_rfl) (AE.effN rfl (EF.storeF0 ((none, 0, 0)) rfl rfl (fun _ => rfl) (by omega) rfl rfl rfl (Nat.le_of_ble_eq_true rfl) rfl) (.none rfl) ?_)
    rintro _ _ rfl
    refine ⟨.inl (by kernel_rfl), ?_⟩
    refine AD.done (by kernel_rfl) ?_
    refine AK.seq ?_
    refine AK.region ?_
    refine AO.val (RV.move rfl) (.none rfl) rfl ?_
    refine AO.val (RV.move rfl) (.none rfl) rfl ?_
    refine AO.val (RV.nilCheck rfl) (.none rfl) rfl ?_
    refine AO.val (RV.fieldAddr rfl) (.none rfl) rfl ?_
    refine AO.val (by first | exact RV.loadO rfl rfl (by first | simp | assumption) | exact RV.loadF rfl (fun _ => rfl) (by omega) rfl rfl (by first | simp | assumption) | exact RV.loadF0 rfl (fun _ => rfl) (by omega) rfl rfl (by first | simp | assumption) | exact RV.loadS rfl (by assumption) (by omega) (by first | simp | assumption)) (.none rfl) rfl ?_
    refine AO.val (RV.move rfl) (.none rfl) rfl ?_
    refine AO.eff (EF.buildSeq [I64 i] rfl rfl rfl rfl) (.none rfl) rfl ?_
    rintro _ _ ⟨b27, hf27, rfl, rfl⟩
    refine AO.eff (EF.appendS (n' := (gaveP s i).back.length) (ys := (gaveP s i).back.map I64) rfl rfl hr (Src.of_new (el := 3) (cs := [I64 i]) (by simp) 1 1 (Nat.le_refl _)) (by simp [gaveP]) (by simp [gaveP]) rfl (by decide) rfl (by omega) (by omega)) (.none rfl) rfl ?_
    rintro _ _ ⟨A28, c28, p28, rfl, hr28, hc28, rfl⟩
    refine AO.val (RV.nilCheck rfl) (.none rfl) rfl ?_
    refine AO.val (RV.fieldAddr rfl) (.none rfl) rfl ?_
    refine AO.effN (EF.storeO rfl rfl rfl rfl rfl rfl) (.none rfl) ?_
    rintro _ _ rfl
    refine AO.nil ?_
    refine AK.seq ?_
    refine AK.region ?_
    refine AO.val (RV.assign rfl) (.none rfl) rfl ?_
    refine AO.nil ?_
    -- at F
    refine AK.ret (h' := p28 ++ ((p, Blk.cells [.slice (some ⟨qb, 0, none⟩) L L, .slice (some ⟨qt, 0, none⟩) L L, .slice A28 ((gaveP s i)).back.length c28, .int .i64 ((gaveP s i)).fresh] 59 (0, 0)) :: (qt, Blk.cells (flat encBo ((gaveP s i)).tk) 4 (0, 0)) :: (qb, Blk.cells (flat encSl (lset bs i (none, 0, 0))) 28 (0, 0)) :: h)) Try.func35 (.tmp rfl .nil) ?_ (List.Sublist.append_left (List.sublist_cons_self _ _) _)
    have hg : giveP s i = (gaveP s i, true) := by simp [giveP, hc1, gaveP]
    rw [hg, hc1]
    exact ⟨rfl, _, A28, c28, p28, by rw [lset_len]; exact hbl, hct.set i (by omega) none 0 [] (Nat.le_refl 0) ⟨rfl, by simp⟩ (by intro x hx; simp at hx) (by simp), rfl, hr28, hc28⟩

end Go.Proofs.Ytpobjhmbonojkaa
