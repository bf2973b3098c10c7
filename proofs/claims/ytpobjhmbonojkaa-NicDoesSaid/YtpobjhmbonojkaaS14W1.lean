/- Walks through the code: what each function that is named here gives back, from any memory that holds its arguments. Written by a program of the claim's author, out of the program's form in Lean. -/
import Derived.Test.YtpobjhmbonojkaaFacts
import Derived.Test.YtpobjhmbonojkaaPlain14
set_option linter.unusedSimpArgs false
set_option linter.unusedVariables false
namespace Go.Proofs.Ytpobjhmbonojkaa
open Go.Sep Go.Sep.Pool

theorem size_spec (B : World) (h : Own) (p qb qt : Nat) (pb : Own) {Ab : Option Addr} {cb : Nat} (L : Nat) (s : PS) (bs : List Sl) (pi : PI s) (hL : s.tk.length = L) (hbl : bs.length = L) (hr : Row 3 1 (.slice Ab (s).back.length cb) (s).back.length ((s).back.map I64) pb) (hcb : s.back.length ≤ cb)  : Tri Try.prog B 26 [.pointer (some ⟨p, 0, none⟩)] (pb ++ ((p, Blk.cells [.slice (some ⟨qb, 0, none⟩) L L, .slice (some ⟨qt, 0, none⟩) L L, .slice Ab (s).back.length cb, .int .i64 (s).fresh] 59 (0, 0)) :: (qt, Blk.cells (flat encBo (s).tk) 4 (0, 0)) :: (qb, Blk.cells (flat encSl (bs)) 28 (0, 0)) :: h)) fun v h' => (pb ++ ((p, Blk.cells [.slice (some ⟨qb, 0, none⟩) L L, .slice (some ⟨qt, 0, none⟩) L L, .slice Ab (s).back.length cb, .int .i64 (s).fresh] 59 (0, 0)) :: (qt, Blk.cells (flat encBo (s).tk) 4 (0, 0)) :: (qb, Blk.cells (flat encSl (bs)) 28 (0, 0)) :: h)) = h' ∧ v = .int .i64 L := by
  have hN : s.N = L := by rw [← hL]; rfl
  have hn := pi.n
  have hf := pi.f
  have hbk := back_len pi
  rw [hN] at hn hf
  have hsb : Src B pb Ab s.back.length 1 (s.back.map I64) := hr.src (fun x hx => hx)
  refine Tri.enter (n := 10) Try.func26 rfl rfl rfl ?_
  simp only [argsE, Nat.reduceAdd]
  try dsimp only [argsE]
  refine AK.seq ?_
  refine AK.region ?_
  refine AO.val (RV.assign rfl) (.none rfl) rfl ?_
  refine AO.nil ?_
  refine AK.seq ?_
  refine AK.seq ?_
  refine AK.region ?_
  refine AO.val (RV.move rfl) (.none rfl) rfl ?_
  refine AO.val (RV.eqlP rfl rfl) (.none rfl) rfl ?_
  refine AO.nil ?_
  refine AK.condF rfl ?_
  refine AK.skip ?_
  refine AK.seq ?_
  refine AK.region ?_
  refine AO.val (RV.move rfl) (.none rfl) rfl ?_
  refine AO.val (RV.nilCheck rfl) (.none rfl) rfl ?_
  refine AO.val (RV.fieldAddr rfl) (.none rfl) rfl ?_
  refine AO.val (by first | exact RV.loadO rfl rfl (by first | simp | assumption) | exact RV.loadF rfl (fun _ => rfl) (by omega) rfl rfl (by first | simp | assumption) | exact RV.loadF0 rfl (fun _ => rfl) (by omega) rfl rfl (by first | simp | assumption) | exact RV.loadS rfl (by assumption) (by omega) (by first | simp | assumption)) (.none rfl) rfl ?_
  refine AO.val (RV.lenS rfl) (.none rfl) rfl ?_
  refine AO.val (RV.assign rfl) (.none rfl) rfl ?_
  refine AO.nil ?_
  -- at 
  refine AK.ret (h' := (pb ++ ((p, Blk.cells [.slice (some ⟨qb, 0, none⟩) L L, .slice (some ⟨qt, 0, none⟩) L L, .slice Ab (s).back.length cb, .int .i64 (s).fresh] 59 (0, 0)) :: (qt, Blk.cells (flat encBo (s).tk) 4 (0, 0)) :: (qb, Blk.cells (flat encSl (bs)) 28 (0, 0)) :: h))) Try.func26 (.tmp rfl .nil) ?_ (by first | exact SubO.sub | exact List.Sublist.refl _ | exact .cons _ (List.Sublist.refl _) | exact .cons _ (.cons _ (List.Sublist.refl _)) | exact .cons _ (.cons _ (.cons _ (List.Sublist.refl _))))
  exact ⟨rfl, rfl⟩

theorem free_spec (B : World) (h : Own) (p qb qt : Nat) (pb : Own) {Ab : Option Addr} {cb : Nat} (L : Nat) (s : PS) (bs : List Sl) (pi : PI s) (hL : s.tk.length = L) (hbl : bs.length = L) (hr : Row 3 1 (.slice Ab (s).back.length cb) (s).back.length ((s).back.map I64) pb) (hcb : s.back.length ≤ cb)  : Tri Try.prog B 24 [.pointer (some ⟨p, 0, none⟩)] (pb ++ ((p, Blk.cells [.slice (some ⟨qb, 0, none⟩) L L, .slice (some ⟨qt, 0, none⟩) L L, .slice Ab (s).back.length cb, .int .i64 (s).fresh] 59 (0, 0)) :: (qt, Blk.cells (flat encBo (s).tk) 4 (0, 0)) :: (qb, Blk.cells (flat encSl (bs)) 28 (0, 0)) :: h)) fun v h' => (pb ++ ((p, Blk.cells [.slice (some ⟨qb, 0, none⟩) L L, .slice (some ⟨qt, 0, none⟩) L L, .slice Ab (s).back.length cb, .int .i64 (s).fresh] 59 (0, 0)) :: (qt, Blk.cells (flat encBo (s).tk) 4 (0, 0)) :: (qb, Blk.cells (flat encSl (bs)) 28 (0, 0)) :: h)) = h' ∧ v = .int .i64 (freeP s) := by
  have hN : s.N = L := by rw [← hL]; rfl
  have hn := pi.n
  have hf := pi.f
  have hbk := back_len pi
  rw [hN] at hn hf
  have hsb : Src B pb Ab s.back.length 1 (s.back.map I64) := hr.src (fun x hx => hx)
  refine Tri.enter (n := 21) Try.func24 rfl rfl rfl ?_
  simp only [argsE, Nat.reduceAdd]
  try dsimp only [argsE]
  refine AK.seq ?_
  refine AK.region ?_
  refine AO.val (RV.assign rfl) (.none rfl) rfl ?_
  refine AO.nil ?_
  refine AK.seq ?_
  refine AK.seq ?_
  refine AK.region ?_
  refine AO.val (RV.move rfl) (.none rfl) rfl ?_
  refine AO.val (RV.eqlP rfl rfl) (.none rfl) rfl ?_
  refine AO.nil ?_
  refine AK.condF rfl ?_
  refine AK.skip ?_
  refine AK.seq ?_
  refine AK.draw [] [] mixed ?_
  refine AD.takeP 0 rfl (by kernel_rfl) (RV.move rfl) (.none rfl) rfl ?_
  refine AD.takeP 1 rfl (by kernel_rfl) (RV.nilCheck rfl) (.none rfl) rfl ?_
  refine AD.takeP 2 rfl (by kernel_rfl) (RV.fieldAddr rfl) (.none rfl) rfl ?_
  refine AD.take 3 rfl (by kernel_rfl) (by first | exact RV.loadO rfl rfl (by first | simp | assumption) | exact RV.loadF rfl (fun _ => rfl) (by omega) rfl rfl (by first | simp | assumption) | exact RV.loadF0 rfl (fun _ => rfl) (by omega) rfl rfl (by first | simp | assumption) | exact RV.loadS rfl (by assumption) (by omega) (by first | simp | assumption)) (.none rfl) rfl ?_
  refine AD.takeP 4 rfl (by kernel_rfl) (RV.lenS rfl) (.none rfl) rfl ?_
  refine AD.takeP 5 rfl (by kernel_rfl) (RV.move rfl) (.none rfl) rfl ?_
  refine AD.takeP 6 rfl (by kernel_rfl) (RV.nilCheck rfl) (.none rfl) rfl ?_
  refine AD.takeP 7 rfl (by kernel_rfl) (RV.fieldAddr rfl) (.none rfl) rfl ?_
  refine AD.take 8 rfl (by kernel_rfl) (by first | exact RV.loadO rfl rfl (by first | simp | assumption) | exact RV.loadF rfl (fun _ => rfl) (by omega) rfl rfl (by first | simp | assumption) | exact RV.loadF0 rfl (fun _ => rfl) (by omega) rfl rfl (by first | simp | assumption) | exact RV.loadS rfl (by assumption) (by omega) (by first | simp | assumption)) (.none rfl) rfl ?_
  refine AD.takeP 9 rfl (by kernel_rfl) (RV.lenS rfl) (.none rfl) rfl ?_
  refine AD.takeP 10 rfl (by kernel_rfl) (by first | exact RV.addIn rfl rfl (by omega) | exact RV.add rfl rfl) (.none rfl) rfl ?_
  refine AD.takeP 11 rfl (by kernel_rfl) (RV.move rfl) (.none rfl) rfl ?_
  refine AD.takeP 12 rfl (by kernel_rfl) (RV.nilCheck rfl) (.none rfl) rfl ?_
  refine AD.takeP 13 rfl (by kernel_rfl) (RV.fieldAddr rfl) (.none rfl) rfl ?_
  refine AD.take 14 rfl (by kernel_rfl) (by first | exact RV.loadO rfl rfl (by first | simp | assumption) | exact RV.loadF rfl (fun _ => rfl) (by omega) rfl rfl (by first | simp | assumption) | exact RV.loadF0 rfl (fun _ => rfl) (by omega) rfl rfl (by first | simp | assumption) | exact RV.loadS rfl (by assumption) (by omega) (by first | simp | assumption)) (.none rfl) rfl ?_
  refine AD.takeP 15 rfl (by kernel_rfl) (by first | exact RV.subIn rfl rfl (by omega) | exact RV.sub rfl rfl) (.none rfl) rfl ?_
  refine AD.takeP 16 rfl (by kernel_rfl) (RV.assign rfl) (.none rfl) rfl ?_
  refine AD.done (by kernel_rfl) ?_
  -- at 
  refine AK.ret (h' := (pb ++ ((p, Blk.cells [.slice (some ⟨qb, 0, none⟩) L L, .slice (some ⟨qt, 0, none⟩) L L, .slice Ab (s).back.length cb, .int .i64 (s).fresh] 59 (0, 0)) :: (qt, Blk.cells (flat encBo (s).tk) 4 (0, 0)) :: (qb, Blk.cells (flat encSl (bs)) 28 (0, 0)) :: h))) Try.func24 (.tmp rfl .nil) ?_ (by first | exact SubO.sub | exact List.Sublist.refl _ | exact .cons _ (List.Sublist.refl _) | exact .cons _ (.cons _ (List.Sublist.refl _)) | exact .cons _ (.cons _ (.cons _ (List.Sublist.refl _))))
  exact ⟨rfl, by unfold freeP; rw [hN]; rfl⟩

theorem has_spec (B : World) (h : Own) (p qb qt : Nat) (pb : Own) {Ab : Option Addr} {cb : Nat} (L : Nat) (s : PS) (bs : List Sl) (pi : PI s) (hL : s.tk.length = L) (hbl : bs.length = L) (hr : Row 3 1 (.slice Ab (s).back.length cb) (s).back.length ((s).back.map I64) pb) (hcb : s.back.length ≤ cb) (i : Int) : Tri Try.prog B 46 [.pointer (some ⟨p, 0, none⟩), .int .i64 i] (pb ++ ((p, Blk.cells [.slice (some ⟨qb, 0, none⟩) L L, .slice (some ⟨qt, 0, none⟩) L L, .slice Ab (s).back.length cb, .int .i64 (s).fresh] 59 (0, 0)) :: (qt, Blk.cells (flat encBo (s).tk) 4 (0, 0)) :: (qb, Blk.cells (flat encSl (bs)) 28 (0, 0)) :: h)) fun v h' => (pb ++ ((p, Blk.cells [.slice (some ⟨qb, 0, none⟩) L L, .slice (some ⟨qt, 0, none⟩) L L, .slice Ab (s).back.length cb, .int .i64 (s).fresh] 59 (0, 0)) :: (qt, Blk.cells (flat encBo (s).tk) 4 (0, 0)) :: (qb, Blk.cells (flat encSl (bs)) 28 (0, 0)) :: h)) = h' ∧ v = .bool (hasP s i) := by
  have hN : s.N = L := by rw [← hL]; rfl
  have hn := pi.n
  have hf := pi.f
  have hbk := back_len pi
  rw [hN] at hn hf
  have hsb : Src B pb Ab s.back.length 1 (s.back.map I64) := hr.src (fun x hx => hx)
  refine Tri.enter (n := 22) Try.func46 rfl rfl rfl ?_
  simp only [argsE, Nat.reduceAdd]
  try dsimp only [argsE]
  refine AK.seq ?_
  refine AK.region ?_
  refine AO.val (RV.assign rfl) (.none rfl) rfl ?_
  refine AO.nil ?_
  refine AK.seq ?_
  refine AK.region ?_
  refine AO.val (RV.move rfl) (.none rfl) rfl ?_
  refine AO.val (RV.geq rfl rfl) (.none rfl) rfl ?_
  refine AO.val (RV.move rfl) (.none rfl) rfl ?_
  refine AO.caseG rfl rfl rfl ?_ ?_
  · intro hg1
    try simp only [decide_eq_true_eq, decide_eq_false_iff_not, Bool.not_eq_true', Bool.not_eq_false', beq_iff_eq] at hg1
    refine AO.val (RV.move rfl) (.some rfl rfl rfl rfl) rfl ?_
    refine AO.val (RV.move rfl) (.some rfl rfl rfl rfl) rfl ?_
    refine AO.eff (EF.callF rfl (size_spec B _ p qb qt pb L s bs pi hL hbl hr hcb)) (.some rfl rfl rfl rfl) rfl ?_
    rintro _ _ ⟨rfl, rfl⟩
    refine AO.val (RV.lss rfl rfl) (.some rfl rfl rfl rfl) rfl ?_
    refine AO.val (RV.pickT rfl rfl) (.none rfl) rfl ?_
    refine AO.val (RV.move rfl) (.none rfl) rfl ?_
    refine AO.caseG rfl rfl rfl ?_ ?_
    · intro hg2
      try simp only [decide_eq_true_eq, decide_eq_false_iff_not, Bool.not_eq_true', Bool.not_eq_false', beq_iff_eq] at hg2
      refine AO.val (RV.move rfl) (.some rfl rfl rfl rfl) rfl ?_
      refine AO.val (RV.nilCheck rfl) (.some rfl rfl rfl rfl) rfl ?_
      refine AO.val (RV.fieldAddr rfl) (.some rfl rfl rfl rfl) rfl ?_
      refine AO.val (by first | exact RV.loadO rfl rfl (by first | simp | assumption) | exact RV.loadF rfl (fun _ => rfl) (by omega) rfl rfl (by first | simp | assumption) | exact RV.loadF0 rfl (fun _ => rfl) (by omega) rfl rfl (by first | simp | assumption) | exact RV.loadS rfl (by assumption) (by omega) (by first | simp | assumption)) (.some rfl rfl rfl rfl) rfl ?_
      refine AO.val (RV.move rfl) (.some rfl rfl rfl rfl) rfl ?_
      refine AO.val (by first | exact RV.indexO rfl rfl (by omega) | exact RV.indexS rfl rfl (by assumption) (by omega) rfl | exact RV.indexAddr rfl rfl (by omega)) (.some rfl rfl rfl rfl) rfl ?_
      refine AO.val (by first | exact RV.loadO rfl rfl (by first | simp | assumption) | exact RV.loadF rfl (fun _ => rfl) (by omega) rfl rfl (by first | simp | assumption) | exact RV.loadF0 rfl (fun _ => rfl) (by omega) rfl rfl (by first | simp | assumption) | exact RV.loadS rfl (by assumption) (by omega) (by first | simp | assumption)) (.some rfl rfl rfl rfl) rfl ?_
      refine AO.val (RV.pickT rfl rfl) (.none rfl) rfl ?_
      refine AO.val (RV.assign rfl) (.none rfl) rfl ?_
      refine AO.nil ?_
      -- at tt
      refine AK.ret (h' := (pb ++ ((p, Blk.cells [.slice (some ⟨qb, 0, none⟩) L L, .slice (some ⟨qt, 0, none⟩) L L, .slice Ab (s).back.length cb, .int .i64 (s).fresh] 59 (0, 0)) :: (qt, Blk.cells (flat encBo (s).tk) 4 (0, 0)) :: (qb, Blk.cells (flat encSl (bs)) 28 (0, 0)) :: h))) Try.func46 (.tmp rfl .nil) ?_ (by first | exact SubO.sub | exact List.Sublist.refl _ | exact .cons _ (List.Sublist.refl _) | exact .cons _ (.cons _ (List.Sublist.refl _)) | exact .cons _ (.cons _ (.cons _ (List.Sublist.refl _))))
      refine ⟨rfl, ?_⟩
      simp [hasP, hN, oneOr, *]
    · intro hg2
      try simp only [decide_eq_true_eq, decide_eq_false_iff_not, Bool.not_eq_true', Bool.not_eq_false', beq_iff_eq] at hg2
      refine AO.pass (.some rfl rfl rfl rfl) rfl ?_
      refine AO.pass (.some rfl rfl rfl rfl) rfl ?_
      refine AO.pass (.some rfl rfl rfl rfl) rfl ?_
      refine AO.pass (.some rfl rfl rfl rfl) rfl ?_
      refine AO.pass (.some rfl rfl rfl rfl) rfl ?_
      refine AO.pass (.some rfl rfl rfl rfl) rfl ?_
      refine AO.pass (.some rfl rfl rfl rfl) rfl ?_
      refine AO.val (RV.pickF rfl rfl) (.none rfl) rfl ?_
      refine AO.val (RV.assign rfl) (.none rfl) rfl ?_
      refine AO.nil ?_
      -- at tf
      refine AK.ret (h' := (pb ++ ((p, Blk.cells [.slice (some ⟨qb, 0, none⟩) L L, .slice (some ⟨qt, 0, none⟩) L L, .slice Ab (s).back.length cb, .int .i64 (s).fresh] 59 (0, 0)) :: (qt, Blk.cells (flat encBo (s).tk) 4 (0, 0)) :: (qb, Blk.cells (flat encSl (bs)) 28 (0, 0)) :: h))) Try.func46 (.tmp rfl .nil) ?_ (by first | exact SubO.sub | exact List.Sublist.refl _ | exact .cons _ (List.Sublist.refl _) | exact .cons _ (.cons _ (List.Sublist.refl _)) | exact .cons _ (.cons _ (.cons _ (List.Sublist.refl _))))
      refine ⟨rfl, ?_⟩
      simp [hasP, hN, oneOr, *]
  · intro hg1
    try simp only [decide_eq_true_eq, decide_eq_false_iff_not, Bool.not_eq_true', Bool.not_eq_false', beq_iff_eq] at hg1
    refine AO.pass (.some rfl rfl rfl rfl) rfl ?_
    refine AO.pass (.some rfl rfl rfl rfl) rfl ?_
    refine AO.pass (.some rfl rfl rfl rfl) rfl ?_
    refine AO.pass (.some rfl rfl rfl rfl) rfl ?_
    refine AO.val (RV.pickF rfl rfl) (.none rfl) rfl ?_
    refine AO.val (RV.move rfl) (.none rfl) rfl ?_
    refine AO.pass (.some rfl rfl rfl rfl) rfl ?_
    refine AO.pass (.some rfl rfl rfl rfl) rfl ?_
    refine AO.pass (.some rfl rfl rfl rfl) rfl ?_
    refine AO.pass (.some rfl rfl rfl rfl) rfl ?_
    refine AO.pass (.some rfl rfl rfl rfl) rfl ?_
    refine AO.pass (.some rfl rfl rfl rfl) rfl ?_
    refine AO.pass (.some rfl rfl rfl rfl) rfl ?_
    refine AO.val (RV.pickF rfl rfl) (.none rfl) rfl ?_
    refine AO.val (RV.assign rfl) (.none rfl) rfl ?_
    refine AO.nil ?_
    -- at f
    refine AK.ret (h' := (pb ++ ((p, Blk.cells [.slice (some ⟨qb, 0, none⟩) L L, .slice (some ⟨qt, 0, none⟩) L L, .slice Ab (s).back.length cb, .int .i64 (s).fresh] 59 (0, 0)) :: (qt, Blk.cells (flat encBo (s).tk) 4 (0, 0)) :: (qb, Blk.cells (flat encSl (bs)) 28 (0, 0)) :: h))) Try.func46 (.tmp rfl .nil) ?_ (by first | exact SubO.sub | exact List.Sublist.refl _ | exact .cons _ (List.Sublist.refl _) | exact .cons _ (.cons _ (List.Sublist.refl _)) | exact .cons _ (.cons _ (.cons _ (List.Sublist.refl _))))
    refine ⟨rfl, ?_⟩
    simp [hasP, hN, oneOr, *]

theorem take_spec (B : World) (h : Own) (p qb qt : Nat) (pb : Own) {Ab : Option Addr} {cb : Nat} (L : Nat) (s : PS) (bs : List Sl) (pi : PI s) (hL : s.tk.length = L) (hbl : bs.length = L) (hr : Row 3 1 (.slice Ab (s).back.length cb) (s).back.length ((s).back.map I64) pb) (hcb : s.back.length ≤ cb)  : Tri Try.prog B 37 [.pointer (some ⟨p, 0, none⟩)] (pb ++ ((p, Blk.cells [.slice (some ⟨qb, 0, none⟩) L L, .slice (some ⟨qt, 0, none⟩) L L, .slice Ab (s).back.length cb, .int .i64 (s).fresh] 59 (0, 0)) :: (qt, Blk.cells (flat encBo (s).tk) 4 (0, 0)) :: (qb, Blk.cells (flat encSl (bs)) 28 (0, 0)) :: h)) fun v h' => v = .tuple #[.int .i64 (takeP s).2.1, .bool (takeP s).2.2] ∧ ∃ Ab' cb' pb', h' = pb' ++ ((p, Blk.cells [.slice (some ⟨qb, 0, none⟩) L L, .slice (some ⟨qt, 0, none⟩) L L, .slice Ab' ((takeP s).1).back.length cb', .int .i64 ((takeP s).1).fresh] 59 (0, 0)) :: (qt, Blk.cells (flat encBo ((takeP s).1).tk) 4 (0, 0)) :: (qb, Blk.cells (flat encSl (bs)) 28 (0, 0)) :: h) ∧ Row 3 1 (.slice Ab' ((takeP s).1).back.length cb') ((takeP s).1).back.length (((takeP s).1).back.map I64) pb' ∧ ((takeP s).1).back.length ≤ cb' := by
  have hN : s.N = L := by rw [← hL]; rfl
  have hn := pi.n
  have hf := pi.f
  have hbk := back_len pi
  rw [hN] at hn hf
  have hsb : Src B pb Ab s.back.length 1 (s.back.map I64) := hr.src (fun x hx => hx)
  refine Tri.enter (n := 52) Try.func37 rfl rfl rfl ?_
  simp only [argsE, Nat.reduceAdd]
  try dsimp only [argsE]
  refine AK.seq ?_
  refine AK.region ?_
  refine AO.val (RV.assign rfl) (.none rfl) rfl ?_
  refine AO.val (RV.assign rfl) (.none rfl) rfl ?_
  refine AO.nil ?_
  refine AK.seq ?_
  refine AK.seq ?_
  refine AK.region ?_
  refine AO.val (RV.move rfl) (.none rfl) rfl ?_
  refine AO.eff (EF.callF rfl (free_spec B _ p qb qt pb L s bs pi hL hbl hr hcb)) (.none rfl) rfl ?_
  rintro _ _ ⟨rfl, rfl⟩
  refine AO.val (RV.eql rfl rfl) (.none rfl) rfl ?_
  refine AO.nil ?_
  refine AK.cond rfl ?_ ?_
  · intro hc1
    try simp only [decide_eq_true_eq, decide_eq_false_iff_not, Bool.not_eq_true', Bool.not_eq_false', beq_iff_eq] at hc1
    refine AK.seq ?_
    refine AK.region ?_
    refine AO.val (RV.assign rfl) (.none rfl) rfl ?_
    refine AO.val (RV.assign rfl) (.none rfl) rfl ?_
    refine AO.nil ?_
    -- at T
    refine AK.ret (h' := (pb ++ ((p, Blk.cells [.slice (some ⟨qb, 0, none⟩) L L, .slice (some ⟨qt, 0, none⟩) L L, .slice Ab (s).back.length cb, .int .i64 (s).fresh] 59 (0, 0)) :: (qt, Blk.cells (flat encBo (s).tk) 4 (0, 0)) :: (qb, Blk.cells (flat encSl (bs)) 28 (0, 0)) :: h))) Try.func37 (.tmp rfl (.tmp rfl .nil)) ?_ (by first | exact SubO.sub | exact List.Sublist.refl _ | exact .cons _ (List.Sublist.refl _) | exact .cons _ (.cons _ (List.Sublist.refl _)) | exact .cons _ (.cons _ (.cons _ (List.Sublist.refl _))))
    rw [take_none hc1]
    exact ⟨rfl, Ab, cb, pb, rfl, hr, hcb⟩
  · intro hc1
    try simp only [decide_eq_true_eq, decide_eq_false_iff_not, Bool.not_eq_true', Bool.not_eq_false', beq_iff_eq] at hc1
    refine AK.skip ?_
    refine AK.seq ?_
    refine AK.region ?_
    refine AO.val (RV.move rfl) (.none rfl) rfl ?_
    refine AO.val (RV.nilCheck rfl) (.none rfl) rfl ?_
    refine AO.val (RV.fieldAddr rfl) (.none rfl) rfl ?_
    refine AO.val (by first | exact RV.loadO rfl rfl (by first | simp | assumption) | exact RV.loadF rfl (fun _ => rfl) (by omega) rfl rfl (by first | simp | assumption) | exact RV.loadF0 rfl (fun _ => rfl) (by omega) rfl rfl (by first | simp | assumption) | exact RV.loadS rfl (by assumption) (by omega) (by first | simp | assumption)) (.none rfl) rfl ?_
    refine AO.val (RV.assign rfl) (.none rfl) rfl ?_
    refine AO.nil ?_
    refine AK.seq ?_
    refine AK.seq ?_
    refine AK.region ?_
    refine AO.val (RV.move rfl) (.none rfl) rfl ?_
    refine AO.val (RV.nilCheck rfl) (.none rfl) rfl ?_
    refine AO.val (RV.fieldAddr rfl) (.none rfl) rfl ?_
    refine AO.val (by first | exact RV.loadO rfl rfl (by first | simp | assumption) | exact RV.loadF rfl (fun _ => rfl) (by omega) rfl rfl (by first | simp | assumption) | exact RV.loadF0 rfl (fun _ => rfl) (by omega) rfl rfl (by first | simp | assumption) | exact RV.loadS rfl (by assumption) (by omega) (by first | simp | assumption)) (.none rfl) rfl ?_
    refine AO.val (RV.lenS rfl) (.none rfl) rfl ?_
    refine AO.val (RV.assign rfl) (.none rfl) rfl ?_
    refine AO.nil ?_
    refine AK.seq ?_
    refine AK.region ?_
    refine AO.val (RV.move rfl) (.none rfl) rfl ?_
    refine AO.val (RV.gtr rfl rfl) (.none rfl) rfl ?_
    refine AO.nil ?_
    refine AK.cond rfl ?_ ?_
    · intro hc2
      try simp only [decide_eq_true_eq, decide_eq_false_iff_not, Bool.not_eq_true', Bool.not_eq_false', beq_iff_eq] at hc2
      have hbi := back_in pi hc2
      refine AK.seq ?_
      refine AK.region ?_
      refine AO.val (RV.move rfl) (.none rfl) rfl ?_
      refine AO.val (RV.nilCheck rfl) (.none rfl) rfl ?_
      refine AO.val (RV.fieldAddr rfl) (.none rfl) rfl ?_
      refine AO.val (by first | exact RV.loadO rfl rfl (by first | simp | assumption) | exact RV.loadF rfl (fun _ => rfl) (by omega) rfl rfl (by first | simp | assumption) | exact RV.loadF0 rfl (fun _ => rfl) (by omega) rfl rfl (by first | simp | assumption) | exact RV.loadS rfl (by assumption) (by omega) (by first | simp | assumption)) (.none rfl) rfl ?_
      refine AO.val (RV.move rfl) (.none rfl) rfl ?_
      refine AO.val (by first | exact RV.subIn rfl rfl (by omega) | exact RV.sub rfl rfl) (.none rfl) rfl ?_
      refine AO.val (by first | exact RV.indexO rfl rfl (by omega) | exact RV.indexS rfl rfl (by assumption) (by omega) rfl | exact RV.indexAddr rfl rfl (by omega)) (.none rfl) rfl ?_
      refine AO.val (by first | exact RV.loadO rfl rfl (by first | simp | assumption) | exact RV.loadF rfl (fun _ => rfl) (by omega) rfl rfl (by first | simp | assumption) | exact RV.loadF0 rfl (fun _ => rfl) (by omega) rfl rfl (by first | simp | assumption) | exact RV.loadS rfl (by assumption) (by omega) (by first | simp | assumption)) (.none rfl) rfl ?_
      refine AO.val (RV.assign rfl) (.none rfl) rfl ?_
      refine AO.nil ?_
      refine AK.region ?_
      refine AO.val (RV.move rfl) (.none rfl) rfl ?_
      refine AO.val (RV.move rfl) (.none rfl) rfl ?_
      refine AO.val (RV.nilCheck rfl) (.none rfl) rfl ?_
      refine AO.val (RV.fieldAddr rfl) (.none rfl) rfl ?_
      refine AO.val (by first | exact RV.loadO rfl rfl (by first | simp | assumption) | exact RV.loadF rfl (fun _ => rfl) (by omega) rfl rfl (by first | simp | assumption) | exact RV.loadF0 rfl (fun _ => rfl) (by omega) rfl rfl (by first | simp | assumption) | exact RV.loadS rfl (by assumption) (by omega) (by first | simp | assumption)) (.none rfl) rfl ?_
      refine AO.val (RV.move rfl) (.none rfl) rfl ?_
      refine AO.val (by first | exact RV.subIn rfl rfl (by omega) | exact RV.sub rfl rfl) (.none rfl) rfl ?_
      refine AO.val ((RV.sliceHi rfl rfl (by omega)).to (v' := .slice Ab (backP s).back.length cb) (by simp only [backP, List.length_take]; congr 1; omega)) (.none rfl) rfl ?_
      refine AO.val (RV.nilCheck rfl) (.none rfl) rfl ?_
      refine AO.val (RV.fieldAddr rfl) (.none rfl) rfl ?_
      refine AO.effN (EF.storeO rfl rfl rfl rfl rfl rfl) (.none rfl) ?_
      rintro _ _ rfl
      refine AO.nil ?_
      refine AK.seq ?_
      refine AK.region ?_
      refine AO.val (RV.move rfl) (.none rfl) rfl ?_
      refine AO.val (RV.nilCheck rfl) (.none rfl) rfl ?_
      refine AO.val (RV.fieldAddr rfl) (.none rfl) rfl ?_
      refine AO.val (by first | exact RV.loadO rfl rfl (by first | simp | assumption) | exact RV.loadF rfl (fun _ => rfl) (by omega) rfl rfl (by first | simp | assumption) | exact RV.loadF0 rfl (fun _ => rfl) (by omega) rfl rfl (by first | simp | assumption) | exact RV.loadS rfl (by assumption) (by omega) (by first | simp | assumption)) (.none rfl) rfl ?_
      refine AO.val (RV.move rfl) (.none rfl) rfl ?_
      refine AO.val (by first | exact RV.indexO rfl rfl (by omega) | exact RV.indexS rfl rfl (by assumption) (by omega) rfl | exact RV.indexAddr rfl rfl (by omega)) (.none rfl) rfl ?_
      refine AO.effN (EF.storeF0 (true) rfl rfl (fun _ => rfl) (by omega) rfl rfl rfl (Nat.le_of_ble_eq_true rfl) rfl) (.none rfl) ?_
      rintro _ _ rfl
      refine AO.nil ?_
      refine AK.seq ?_
      refine AK.region ?_
      refine AO.val (RV.move rfl) (.none rfl) rfl ?_
      refine AO.val (RV.assign rfl) (.none rfl) rfl ?_
      refine AO.val (RV.assign rfl) (.none rfl) rfl ?_
      refine AO.nil ?_
      -- at FT
      refine AK.ret (h' := pb ++ ((p, Blk.cells [.slice (some ⟨qb, 0, none⟩) L L, .slice (some ⟨qt, 0, none⟩) L L, .slice Ab (backP s).back.length cb, .int .i64 (backP s).fresh] 59 (0, 0)) :: (qt, Blk.cells (flat encBo (backP s).tk) 4 (0, 0)) :: (qb, Blk.cells (flat encSl (bs)) 28 (0, 0)) :: h)) Try.func37 (.tmp rfl (.tmp rfl .nil)) ?_ (by first | exact SubO.sub | exact List.Sublist.refl _ | exact .cons _ (List.Sublist.refl _) | exact .cons _ (.cons _ (List.Sublist.refl _)) | exact .cons _ (.cons _ (.cons _ (List.Sublist.refl _))))
      rw [take_back hc1 hc2]
      refine ⟨rfl, Ab, cb, pb, rfl, ?_, by simp [backP]; omega⟩
      have := hr.takeN (s.back.length - 1) (by omega)
      have e : (backP s).back.length = s.back.length - 1 := by simp [backP]
      rw [e]
      rw [Nat.mul_one, ← List.map_take] at this
      exact this
    · intro hc2
      try simp only [decide_eq_true_eq, decide_eq_false_iff_not, Bool.not_eq_true', Bool.not_eq_false', beq_iff_eq] at hc2
      have hfi := fresh_in pi hc1 hc2
      rw [hN] at hfi
      refine AK.region ?_
      refine AO.val (RV.move rfl) (.none rfl) rfl ?_
      refine AO.val (RV.nilCheck rfl) (.none rfl) rfl ?_
      refine AO.val (RV.fieldAddr rfl) (.none rfl) rfl ?_
      refine AO.val (by first | exact RV.loadO rfl rfl (by first | simp | assumption) | exact RV.loadF rfl (fun _ => rfl) (by omega) rfl rfl (by first | simp | assumption) | exact RV.loadF0 rfl (fun _ => rfl) (by omega) rfl rfl (by first | simp | assumption) | exact RV.loadS rfl (by assumption) (by omega) (by first | simp | assumption)) (.none rfl) rfl ?_
      refine AO.val (by first | exact RV.addIn rfl rfl (by omega) | exact RV.add rfl rfl) (.none rfl) rfl ?_
      refine AO.val (RV.nilCheck rfl) (.none rfl) rfl ?_
      refine AO.val (RV.fieldAddr rfl) (.none rfl) rfl ?_
      refine AO.effN (EF.storeO rfl rfl rfl rfl rfl rfl) (.none rfl) ?_
      rintro _ _ rfl
      refine AO.nil ?_
      refine AK.seq ?_
      refine AK.region ?_
      refine AO.val (RV.move rfl) (.none rfl) rfl ?_
      refine AO.val (RV.nilCheck rfl) (.none rfl) rfl ?_
      refine AO.val (RV.fieldAddr rfl) (.none rfl) rfl ?_
      refine AO.val (by first | exact RV.loadO rfl rfl (by first | simp | assumption) | exact RV.loadF rfl (fun _ => rfl) (by omega) rfl rfl (by first | simp | assumption) | exact RV.loadF0 rfl (fun _ => rfl) (by omega) rfl rfl (by first | simp | assumption) | exact RV.loadS rfl (by assumption) (by omega) (by first | simp | assumption)) (.none rfl) rfl ?_
      refine AO.val (RV.move rfl) (.none rfl) rfl ?_
      refine AO.val (by first | exact RV.indexO rfl rfl (by omega) | exact RV.indexS rfl rfl (by assumption) (by omega) rfl | exact RV.indexAddr rfl rfl (by omega)) (.none rfl) rfl ?_
      refine AO.effN (EF.storeF0 (true) rfl rfl (fun _ => rfl) (by omega) rfl rfl rfl (Nat.le_of_ble_eq_true rfl) rfl) (.none rfl) ?_
      rintro _ _ rfl
      refine AO.nil ?_
      refine AK.seq ?_
      refine AK.region ?_
      refine AO.val (RV.move rfl) (.none rfl) rfl ?_
      refine AO.val (RV.assign rfl) (.none rfl) rfl ?_
      refine AO.val (RV.assign rfl) (.none rfl) rfl ?_
      refine AO.nil ?_
      -- at FF
      refine AK.ret (h' := pb ++ ((p, Blk.cells [.slice (some ⟨qb, 0, none⟩) L L, .slice (some ⟨qt, 0, none⟩) L L, .slice Ab (freshP s).back.length cb, .int .i64 (freshP s).fresh] 59 (0, 0)) :: (qt, Blk.cells (flat encBo (freshP s).tk) 4 (0, 0)) :: (qb, Blk.cells (flat encSl (bs)) 28 (0, 0)) :: h)) Try.func37 (.tmp rfl (.tmp rfl .nil)) ?_ (by first | exact SubO.sub | exact List.Sublist.refl _ | exact .cons _ (List.Sublist.refl _) | exact .cons _ (.cons _ (List.Sublist.refl _)) | exact .cons _ (.cons _ (.cons _ (List.Sublist.refl _))))
      rw [take_fresh hc1 hc2]
      exact ⟨rfl, Ab, cb, pb, rfl, hr, hcb⟩

theorem give_spec (B : World) (h : Own) (p qb qt : Nat) (pb : Own) {Ab : Option Addr} {cb : Nat} (L : Nat) (s : PS) (bs : List Sl) (pi : PI s) (hL : s.tk.length = L) (hbl : bs.length = L) (hr : Row 3 1 (.slice Ab (s).back.length cb) (s).back.length ((s).back.map I64) pb) (hcb : s.back.length ≤ cb) (i : Int) : Tri Try.prog B 35 [.pointer (some ⟨p, 0, none⟩), .int .i64 i] (pb ++ ((p, Blk.cells [.slice (some ⟨qb, 0, none⟩) L L, .slice (some ⟨qt, 0, none⟩) L L, .slice Ab (s).back.length cb, .int .i64 (s).fresh] 59 (0, 0)) :: (qt, Blk.cells (flat encBo (s).tk) 4 (0, 0)) :: (qb, Blk.cells (flat encSl (bs)) 28 (0, 0)) :: h)) fun v h' => v = .bool (giveP s i).2 ∧ ∃ bs', bs'.length = L ∧ ∃ Ab' cb' pb', h' = pb' ++ ((p, Blk.cells [.slice (some ⟨qb, 0, none⟩) L L, .slice (some ⟨qt, 0, none⟩) L L, .slice Ab' ((giveP s i).1).back.length cb', .int .i64 ((giveP s i).1).fresh] 59 (0, 0)) :: (qt, Blk.cells (flat encBo ((giveP s i).1).tk) 4 (0, 0)) :: (qb, Blk.cells (flat encSl (bs')) 28 (0, 0)) :: h) ∧ Row 3 1 (.slice Ab' ((giveP s i).1).back.length cb') ((giveP s i).1).back.length (((giveP s i).1).back.map I64) pb' ∧ ((giveP s i).1).back.length ≤ cb' := by
  have hN : s.N = L := by rw [← hL]; rfl
  have hn := pi.n
  have hf := pi.f
  have hbk := back_len pi
  rw [hN] at hn hf
  have hsb : Src B pb Ab s.back.length 1 (s.back.map I64) := hr.src (fun x hx => hx)
  refine Tri.enter (n := 31) Try.func35 rfl rfl rfl ?_
  simp only [argsE, Nat.reduceAdd]
  try dsimp only [argsE]
  refine AK.seq ?_
  refine AK.region ?_
  refine AO.val (RV.assign rfl) (.none rfl) rfl ?_
  refine AO.nil ?_
  refine AK.seq ?_
  refine AK.seq ?_
  refine AK.region ?_
  refine AO.val (RV.move rfl) (.none rfl) rfl ?_
  refine AO.val (RV.move rfl) (.none rfl) rfl ?_
  refine AO.eff (EF.callF rfl (has_spec B _ p qb qt pb L s bs pi hL hbl hr hcb _)) (.none rfl) rfl ?_
  rintro _ _ ⟨rfl, rfl⟩
  refine AO.val (RV.not rfl) (.none rfl) rfl ?_
  refine AO.nil ?_
  refine AK.cond rfl ?_ ?_
  · intro hc1
    try simp only [decide_eq_true_eq, decide_eq_false_iff_not, Bool.not_eq_true', Bool.not_eq_false', beq_iff_eq] at hc1
    refine AK.seq ?_
    refine AK.region ?_
    refine AO.val (RV.assign rfl) (.none rfl) rfl ?_
    refine AO.nil ?_
    -- at T
    refine AK.ret (h' := (pb ++ ((p, Blk.cells [.slice (some ⟨qb, 0, none⟩) L L, .slice (some ⟨qt, 0, none⟩) L L, .slice Ab (s).back.length cb, .int .i64 (s).fresh] 59 (0, 0)) :: (qt, Blk.cells (flat encBo (s).tk) 4 (0, 0)) :: (qb, Blk.cells (flat encSl (bs)) 28 (0, 0)) :: h))) Try.func35 (.tmp rfl .nil) ?_ (by first | exact SubO.sub | exact List.Sublist.refl _ | exact .cons _ (List.Sublist.refl _) | exact .cons _ (.cons _ (List.Sublist.refl _)) | exact .cons _ (.cons _ (.cons _ (List.Sublist.refl _))))
    have hg : giveP s i = (s, false) := by simp [giveP, hc1]
    rw [hg]
    exact ⟨rfl, bs, hbl, Ab, cb, pb, rfl, hr, hcb⟩
  · intro hc1
    try simp only [decide_eq_true_eq, decide_eq_false_iff_not, Bool.not_eq_true', Bool.not_eq_false', beq_iff_eq] at hc1
    have hin := has_in hc1
    rw [hN] at hin
    refine AK.skip ?_
    refine AK.seq ?_
    refine AK.draw [] [11, 13] mixed ?_
    refine AD.takeP 0 rfl (by kernel_rfl) (RV.move rfl) (.none rfl) rfl ?_
    refine AD.takeP 1 rfl (by kernel_rfl) (RV.nilCheck rfl) (.none rfl) rfl ?_
    refine AD.takeP 2 rfl (by kernel_rfl) (RV.fieldAddr rfl) (.none rfl) rfl ?_
    refine AD.take 3 rfl (by kernel_rfl) (by first | exact RV.loadO rfl rfl (by first | simp | assumption) | exact RV.loadF rfl (fun _ => rfl) (by omega) rfl rfl (by first | simp | assumption) | exact RV.loadF0 rfl (fun _ => rfl) (by omega) rfl rfl (by first | simp | assumption) | exact RV.loadS rfl (by assumption) (by omega) (by first | simp | assumption)) (.none rfl) rfl ?_
    refine AD.takeP 4 rfl (by kernel_rfl) (RV.move rfl) (.none rfl) rfl ?_
    refine AD.takeP 5 rfl (by kernel_rfl) (RV.move rfl) (.none rfl) rfl ?_
    refine AD.takeP 6 rfl (by kernel_rfl) (RV.nilCheck rfl) (.none rfl) rfl ?_
    refine AD.takeP 7 rfl (by kernel_rfl) (RV.fieldAddr rfl) (.none rfl) rfl ?_
    refine AD.take 8 rfl (by kernel_rfl) (by first | exact RV.loadO rfl rfl (by first | simp | assumption) | exact RV.loadF rfl (fun _ => rfl) (by omega) rfl rfl (by first | simp | assumption) | exact RV.loadF0 rfl (fun _ => rfl) (by omega) rfl rfl (by first | simp | assumption) | exact RV.loadS rfl (by assumption) (by omega) (by first | simp | assumption)) (.none rfl) rfl ?_
    refine AD.takeP 9 rfl (by kernel_rfl) (RV.move rfl) (.none rfl) rfl ?_
    refine AD.takeP 10 rfl (by kernel_rfl) (by first | exact RV.indexO rfl rfl (by omega) | exact RV.indexS rfl rfl (by assumption) (by omega) rfl | exact RV.indexAddr rfl rfl (by omega)) (.none rfl) rfl ?_
    refine AD.one 11 (by kernel_rfl) (AE.effN rfl (EF.storeF0 (false) rfl rfl (fun _ => rfl) (by omega) rfl rfl rfl (Nat.le_of_ble_eq_true rfl) rfl) (.none rfl) ?_)
    rintro _ _ rfl
    refine ⟨.inl (by kernel_rfl), ?_⟩
    refine AD.takeP 12 rfl (by kernel_rfl) (by first | exact RV.indexO rfl rfl (by omega) | exact RV.indexS rfl rfl (by assumption) (by omega) rfl | exact RV.indexAddr rfl rfl (by omega)) (.none rfl) rfl ?_
    refine AD.one 13 (by kernel_rfl) (AE.effN rfl (EF.storeF0 ((none, 0, 0)) rfl rfl (fun _ => rfl) (by omega) rfl rfl rfl (Nat.le_of_ble_eq_true rfl) rfl) (.none rfl) ?_)
    rintro _ _ rfl
    refine ⟨.inl (by kernel_rfl), ?_⟩
    refine AD.done (by kernel_rfl) ?_
    refine AK.seq ?_
    refine AK.region ?_
    refine AO.val (RV.move rfl) (.none rfl) rfl ?_
    refine AO.val (RV.move rfl) (.none rfl) rfl ?_
    refine AO.val (RV.nilCheck rfl) (.none rfl) rfl ?_
    refine AO.val (RV.fieldAddr rfl) (.none rfl) rfl ?_
    refine AO.val (by first | exact RV.loadO rfl rfl (by first | simp | assumption) | exact RV.loadF rfl (fun _ => rfl) (by omega) rfl rfl (by first | simp | assumption) | exact RV.loadF0 rfl (fun _ => rfl) (by omega) rfl rfl (by first | simp | assumption) | exact RV.loadS rfl (by assumption) (by omega) (by first | simp | assumption)) (.none rfl) rfl ?_
    refine AO.val (RV.move rfl) (.none rfl) rfl ?_
    refine AO.eff (EF.buildSeq [I64 i] rfl rfl rfl rfl) (.none rfl) rfl ?_
    rintro _ _ ⟨b27, hf27, rfl, rfl⟩
    refine AO.eff (EF.appendS (n' := (gaveP s i).back.length) (ys := (gaveP s i).back.map I64) rfl rfl hr (Src.of_new (el := 3) (cs := [I64 i]) (by simp) 1 1 (Nat.le_refl _)) (by simp [gaveP]) (by simp [gaveP]) rfl (by decide) rfl (by omega) (by omega)) (.none rfl) rfl ?_
    rintro _ _ ⟨A28, c28, p28, rfl, hr28, hc28, rfl⟩
    refine AO.val (RV.nilCheck rfl) (.none rfl) rfl ?_
    refine AO.val (RV.fieldAddr rfl) (.none rfl) rfl ?_
    refine AO.effN (EF.storeO rfl rfl rfl rfl rfl rfl) (.none rfl) ?_
    rintro _ _ rfl
    refine AO.nil ?_
    refine AK.seq ?_
    refine AK.region ?_
    refine AO.val (RV.assign rfl) (.none rfl) rfl ?_
    refine AO.nil ?_
    -- at F
    refine AK.ret (h' := p28 ++ ((p, Blk.cells [.slice (some ⟨qb, 0, none⟩) L L, .slice (some ⟨qt, 0, none⟩) L L, .slice A28 ((gaveP s i)).back.length c28, .int .i64 ((gaveP s i)).fresh] 59 (0, 0)) :: (qt, Blk.cells (flat encBo ((gaveP s i)).tk) 4 (0, 0)) :: (qb, Blk.cells (flat encSl (lset bs i (none, 0, 0))) 28 (0, 0)) :: h)) Try.func35 (.tmp rfl .nil) ?_ (List.Sublist.append_left (List.sublist_cons_self _ _) _)
    have hg : giveP s i = (gaveP s i, true) := by simp [giveP, hc1, gaveP]
    rw [hg]
    exact ⟨rfl, _, by rw [lset_len]; exact hbl, A28, c28, p28, rfl, hr28, hc28⟩

theorem new_spec (B : World) (h : Own) (n : Int) : Tri Try.prog B 7 [.int .i64 n] h fun v h' => ∃ p qt qb, h' = (p, Blk.cells [.slice (some ⟨qb, 0, none⟩) (newP n).tk.length (newP n).tk.length, .slice (some ⟨qt, 0, none⟩) (newP n).tk.length (newP n).tk.length, .slice none 0 0, .int .i64 0] 59 (0, 0)) :: (qt, Blk.cells (flat encBo (newP n).tk) 4 (0, 0)) :: (qb, Blk.cells (flat encSl (List.replicate (newP n).tk.length (none, 0, 0))) 28 (0, 0)) :: h ∧ v = .pointer (some ⟨p, 0, none⟩) := by
  have hz7 : zerosL (min (max n 0) 256).toNat [.slice none 0 0] = flat encSl (List.replicate (newP n).tk.length (none, 0, 0)) := by
    rw [show (newP n).tk.length = (min (max n 0) 256).toNat from List.length_replicate]
    generalize (min (max n 0) 256).toNat = k
    induction k with
    | zero => rfl
    | succ k ih => rw [List.replicate_succ]; simp only [zerosL, flat, List.flatMap_cons] at *; rw [ih]
  have hz9 : zerosL (min (max n 0) 256).toNat [.bool false] = flat encBo (newP n).tk := by
    simp only [newP]
    generalize (min (max n 0) 256).toNat = k
    induction k with
    | zero => rfl
    | succ k ih => rw [List.replicate_succ]; simp only [zerosL, flat, List.flatMap_cons] at *; rw [ih]
  have hle : (min (max n 0) 256).toNat = (newP n).tk.length := by simp [newP]
  refine Tri.enter (n := 12) Try.func7 rfl rfl rfl ?_
  simp only [argsE, Nat.reduceAdd]
  try dsimp only [argsE]
  refine AK.seq ?_
  refine AK.region ?_
  refine AO.val (RV.assign rfl) (.none rfl) rfl ?_
  refine AO.nil ?_
  refine AK.seq ?_
  refine AK.region ?_
  refine AO.val (RV.move rfl) (.none rfl) rfl ?_
  refine AO.val (RV.max2 rfl rfl) (.none rfl) rfl ?_
  refine AO.val (RV.min2 rfl rfl) (.none rfl) rfl ?_
  refine AO.val (RV.assign rfl) (.none rfl) rfl ?_
  refine AO.nil ?_
  refine AK.seq ?_
  refine AK.draw [] [1, 3, 5] mixed ?_
  refine AD.takeP 0 rfl (by kernel_rfl) (RV.move rfl) (.none rfl) rfl ?_
  refine AD.takeP 2 rfl (by kernel_rfl) (RV.move rfl) (.none rfl) rfl ?_
  refine AD.cut (α := Nat × Nat) 2 #[true, true, true, true, true, false, false] (fun (b7, b9) e => (10, .agg #[.slice (some ⟨b7, 0, none⟩) (newP n).tk.length (newP n).tk.length, .slice (some ⟨b9, 0, none⟩) (newP n).tk.length (newP n).tk.length, .slice none 0 0, .int .i64 0]) :: (9, .slice (some ⟨b9, 0, none⟩) (newP n).tk.length (newP n).tk.length) :: (7, .slice (some ⟨b7, 0, none⟩) (newP n).tk.length (newP n).tk.length) :: e) (fun (b7, b9) h => (b9, Blk.cells (flat encBo (newP n).tk) 4 (0, 0)) :: ((b7, Blk.cells (flat encSl (List.replicate (newP n).tk.length (none, 0, 0))) 28 (0, 0)) :: (h))) (fun (b7, b9) => True) ?_ ?_
  · rintro ⟨b7, b9⟩ _
    try dsimp only
    refine AD.one 5 (by kernel_rfl) (AE.eff rfl (EF.box rfl rfl) (.none rfl) rfl ?_)
    rintro _ _ ⟨b11, hf11, rfl, rfl⟩
    refine ⟨.inl (by kernel_rfl), ?_⟩
    refine AD.takeP 6 rfl (by kernel_rfl) (RV.assign rfl) (.none rfl) rfl ?_
    refine AD.done (by kernel_rfl) ?_
    -- at 
    refine AK.ret (h' := (b11, Blk.cells [.slice (some ⟨b7, 0, none⟩) (newP n).tk.length (newP n).tk.length, .slice (some ⟨b9, 0, none⟩) (newP n).tk.length (newP n).tk.length, .slice none 0 0, .int .i64 0] 59 (0, 0)) :: (b9, Blk.cells (flat encBo (newP n).tk) 4 (0, 0)) :: (b7, Blk.cells (flat encSl (List.replicate (newP n).tk.length (none, 0, 0))) 28 (0, 0)) :: h) Try.func7 (.tmp rfl .nil) ?_ (by first | exact SubO.sub | exact List.Sublist.refl _ | exact .cons _ (List.Sublist.refl _) | exact .cons _ (.cons _ (List.Sublist.refl _)) | exact .cons _ (.cons _ (.cons _ (List.Sublist.refl _))))
    exact ⟨b11, b9, b7, rfl, rfl⟩
  · intro hst0
    try dsimp only at hst0
    refine AD.many (i := 1) (l := [3]) (by kernel_rfl) (.cons ?_ (.cons ?_ (.nil)))
    · skip
      refine AE.eff rfl (EF.makeSlice rfl rfl rfl (by omega) (by omega) (by omega)) (.none rfl) rfl ?_
      rintro _ _ ⟨b7, hf7, rfl, rfl⟩
      rw [hz7]
      simp only [hle]
      refine ⟨.inl (by kernel_rfl), ?_⟩
      refine AD.one 3 (by kernel_rfl) (AE.eff rfl (EF.makeSlice rfl rfl rfl (by omega) (by omega) (by omega)) (.none rfl) rfl ?_)
      rintro _ _ ⟨b9, hf9, rfl, rfl⟩
      rw [hz9]
      simp only [hle]
      refine ⟨.inl (by kernel_rfl), ?_⟩
      refine AD.takeP 4 rfl (by kernel_rfl) (RV.build rfl (.cons rfl rfl rfl rfl (.cons rfl rfl rfl rfl .nil))) (.none rfl) rfl ?_
      refine AD.to rfl (by rfl) (.cons rfl (.cons rfl (.cons rfl (.drop rfl (.drop rfl (.drop rfl .refl)))))) (by first | exact List.Perm.refl _ | exact perm_count fun x => by simp only [List.count_append, List.count_cons, List.count_nil]; omega) (hst0 ⟨b7, b9⟩ trivial)
    · skip
      refine AE.eff rfl (EF.makeSlice rfl rfl rfl (by omega) (by omega) (by omega)) (.none rfl) rfl ?_
      rintro _ _ ⟨b9, hf9, rfl, rfl⟩
      rw [hz9]
      simp only [hle]
      refine ⟨.inl (by kernel_rfl), ?_⟩
      refine AD.one 1 (by kernel_rfl) (AE.eff rfl (EF.makeSlice rfl rfl rfl (by omega) (by omega) (by omega)) (.none rfl) rfl ?_)
      rintro _ _ ⟨b7, hf7, rfl, rfl⟩
      rw [hz7]
      simp only [hle]
      refine ⟨.inl (by kernel_rfl), ?_⟩
      refine AD.takeP 4 rfl (by kernel_rfl) (RV.build rfl (.cons rfl rfl rfl rfl (.cons rfl rfl rfl rfl .nil))) (.none rfl) rfl ?_
      refine AD.to rfl (by rfl) (.cons rfl (.cons rfl (.cons rfl (.drop rfl (.drop rfl (.drop rfl .refl)))))) (by first | exact List.Perm.refl _ | exact perm_count fun x => by simp only [List.count_append, List.count_cons, List.count_nil]; omega) (hst0 ⟨b7, b9⟩ trivial)

end Go.Proofs.Ytpobjhmbonojkaa
