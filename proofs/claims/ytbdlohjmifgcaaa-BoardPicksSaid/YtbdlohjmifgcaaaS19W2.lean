/- Walks through the code: what each function that is named here gives back, from any memory that holds its arguments. Written by a program of the claim's author, out of the program's form in Lean. -/
import Derived.Test.YtbdlohjmifgcaaaS19W1
set_option linter.unusedSimpArgs false
set_option linter.unusedVariables false
namespace Go.Proofs.Ytbdlohjmifgcaaa
open Go.Sep Go.Sep.Sip Go.Sep.Perm Go.Sep.Maglev
abbrev encI (x : Int) : List Value := [.int .i64 x]
abbrev encT (x : Bool) : List Value := [.bool x]
theorem src_flat1 {α : Type} {B : World} {h : Own} {b t : Nat} {f : α → Value} {l : List α} {n : Nat} (hm : (b, Blk.cells (flat (fun x => [f x]) l) t (0, 0)) ∈ h) (hn : l.length = n) : Src B h (some ⟨b, 0, none⟩) n 1 (l.map f) := by
  have e : flat (fun x => [f x]) l = l.map f := by
    clear hm hn
    induction l with
    | nil => rfl
    | cons x r ih => simp only [flat, List.flatMap_cons, List.map_cons] at ih ⊢; rw [ih]; rfl
  have := Src.of_new (B := B) hm n 1 (by rw [e, List.length_map]; omega)
  rwa [e, List.take_of_length_le (by rw [List.length_map]; omega)] at this
theorem zeros_flat {α : Type} (f : α → Value) (a : α) (k : Nat) : zerosL k [f a] = flat (fun x => [f x]) (List.replicate k a) := by
  induction k with
  | zero => rfl
  | succ k ih => rw [List.replicate_succ]; simp only [zerosL, flat, List.flatMap_cons] at *; rw [ih]
/-- what stands before the next place that one looks at is taken -/
structure NextOk (lo hi m : Int) (ss : List (Int × Bool)) (p : Pl) : Prop where
  nn : 0 ≤ p.2.2.2
  all : ∀ j : Int, 0 ≤ j → j < p.2.2.2 → lget (ss.map (·.2)) (lget (rowS lo hi p.1 m) j) = true
abbrev withN (p : Pl) (n : Int) : Pl := (p.1, p.2.1, p.2.2.1, n)
structure FI (t : Nat) (lo hi m : Int) (B : World) (Q : Own) (psS : List PL) (A : Option Addr) (c : Nat) (left : Int) (ss : List (Int × Bool)) (pl : Own) (ps : List Pl) : Prop where
  row : Row t 4 (.slice A ps.length c) ps.length (flat encP ps) pl
  pr : ps.map prP = psS
  dat : ∀ x ∈ ps, PlIn lo hi m B Q x
  nx : ∀ x ∈ ps, NextOk lo hi m ss x
  len : ss.length = m.toNat
  lft : 0 ≤ left
  cnt : (cntF ss : Int) + left = m
abbrev rowOf (lo hi m : Int) : Int → List Int := fun id => rowS lo hi id m
theorem FI.step {t : Nat} {lo hi m : Int} {B : World} {Q : Own} {psS : List PL} {A : Option Addr} {c : Nat} {left : Int} {ss : List (Int × Bool)} {pl pl' : Own} {ps : List Pl} (f : FI t lo hi m B Q psS A c left ss pl ps) (hp : prB m = true) (hl : 0 < left) {i : Int} (h : 0 ≤ i ∧ i < ps.length)
    (hr : Row t 4 (.slice A ps.length c) ps.length (flat encP (lset ps i (withN (lget ps i) (free (rowS lo hi (lget ps i).1 m) ss)))) pl') :
    FI t lo hi m B Q psS A c (left - 1) (stepF (rowOf lo hi m) ss (prP (lget ps i))) pl' (lset ps i (withN (lget ps i) (free (rowS lo hi (lget ps i).1 m) ss))) := by
  have hm := prB_in hp
  have hc := f.cnt
  have hlt : cntF ss < m.toNat := by omega
  have hg := fun id => row_good (lo := lo) (hi := hi) (id := id) hp
  refine ⟨by rw [lset_len]; exact hr, ?_, fun x hx => ?_, fun x hx => ?_, by rw [step_len]; exact f.len, by omega, by rw [step_cnt hg f.len hlt]; omega⟩
  · rw [map_lset, ← f.pr]
    have : prP (withN (lget ps i) (free (rowS lo hi (lget ps i).1 m) ss)) = lget (ps.map prP) i := by
      obtain ⟨h2, e⟩ := lget_at h
      have : lget (ps.map prP) i = prP (lget ps i) := by rw [e]; simp [lget, List.getD, h2]
      rw [this]; rfl
    rw [this, lset_self _ _ (by rw [List.length_map]; exact h)]
  · rcases mem_lset hx with hx | rfl
    · exact f.dat x hx
    · have := f.dat _ (lget_mem h)
      exact ⟨this.src, this.row, this.cap⟩
  · have key : ∀ y : Int, 0 ≤ y → lget (ss.map (·.2)) y = true → lget ((stepF (rowOf lo hi m) ss (prP (lget ps i))).map (·.2)) y = true := fun y h0 h1 => step_taken hg f.len hlt _ h0 h1
    rcases mem_lset hx with hx | rfl
    · have hn := f.nx x hx
      refine ⟨hn.nn, fun j h0 h1 => key _ ?_ (hn.all j h0 h1)⟩
      rcases Int.lt_or_le j m with hj | hj
      · exact (row_at (hg x.1) h0 (by omega)).1
      · have : (rowS lo hi x.1 m).length ≤ j.toNat := by rw [(hg x.1).len]; omega
        simp [lget, List.getD, this]
    · refine ⟨by show (0 : Int) ≤ (free _ _ : Nat); omega, fun j h0 h1 => key _ ?_ (before_free h0 h1)⟩
      have hfl := free_lt (hg (lget ps i).1) f.len hlt
      have h1 : j < (free (rowS lo hi (lget ps i).1 m) ss : Nat) := h1
      exact (row_at (hg (lget ps i).1) h0 (by omega)).1

theorem ptake_spec (B : World) (pl h : Own) (lo hi m : Int) (hp : prB m = true) {A : Option Addr} {c : Nat} (ps : List Pl) (hr : Row 92 4 (.slice A ps.length c) ps.length (flat encP ps) pl) (i : Int) (hix : 0 ≤ i ∧ i < ps.length) {At : Option Addr} {ct : Nat} (ss : List (Int × Bool)) (hs : Src B h At m.toNat 1 ((ss.map (·.2)).map Value.bool)) (hpl : PlIn lo hi m B h (lget ps i)) (hnx : NextOk lo hi m ss (lget ps i)) (hsl : ss.length = m.toNat) (hc : cntF ss < m.toNat)  : Tri Try.prog B 46 [.pointer (some (adr A (i.toNat * 4))), .slice At m.toNat ct] (pl ++ h) fun v h' => ∃ pl', v = .int .i64 (spot (rowS lo hi (lget ps i).1 m) ss) ∧ h' = pl' ++ h ∧ Row 92 4 (.slice A ps.length c) ps.length (flat encP (lset ps i (withN (lget ps i) (free (rowS lo hi (lget ps i).1 m) ss : Int)))) pl' := by
  have hm := prB_in hp
  have hg := row_good (lo := lo) (hi := hi) (id := (lget ps i).1) hp
  have hfl := free_lt hg hsl hc
  have hsp := spot_in hg hsl hc
  have hrw := hpl.row
  have hrs := hpl.src
  have hrl : (lget ps i).2.2.1.l.length = m.toNat := by rw [hrw, hg.len]
  have hn0 := hnx.nn
  have hn1 := taken_le hg hsl hc hn0 hnx.all
  refine Tri.enter (n := 35) Try.func46 rfl rfl rfl ?_
  simp only [argsE, Nat.reduceAdd]
  try dsimp only [argsE]
  refine AK.seq ?_
  refine AK.region ?_
  refine AO.val (RV.assign rfl) (.none rfl) rfl ?_
  refine AO.nil ?_
  refine AK.seq ?_
  refine AK.block ?_
  refine AK.loop (α := Int × Own) (E := fun (n, pl2) => [(0, .pointer (some (adr A (i.toNat * 4)))), (1, .slice At m.toNat ct)]) (H := fun (n, pl2) => pl2 ++ h) (Inv := fun (n, pl2) => 0 ≤ n ∧ n ≤ (free (rowS lo hi (lget ps i).1 m) ss : Int) ∧ (∀ j : Int, 0 ≤ j → j < n → lget (ss.map (·.2)) (lget (rowS lo hi (lget ps i).1 m) j) = true) ∧ Row 92 4 (.slice A ps.length c) ps.length (flat encP (lset ps i (withN (lget ps i) n))) pl2) (μ := fun (n, pl2) => ((free (rowS lo hi (lget ps i).1 m) ss : Int) - n).toNat) ((lget ps i).2.2.2, pl) ?_ (.cons (by exact rfl) (.cons (by exact rfl) .nil)) ?_ ?_
  · exact ⟨hn0, hn1, hnx.all, by rw [show withN (lget ps i) (lget ps i).2.2.2 = lget ps i from rfl, lset_self _ _ hix]; exact hr⟩
  · exact (by first | exact SubO.sub | exact List.Sublist.refl _ | exact .cons _ (List.Sublist.refl _) | exact .cons _ (.cons _ (List.Sublist.refl _)) | exact .cons _ (.cons _ (.cons _ (List.Sublist.refl _))))
  rintro ⟨n, pl2⟩ ⟨hn2, hn3, hall, hr2⟩ hih0
  try dsimp only at hih0 ⊢
  have hgn : lget (lset ps i (withN (lget ps i) n)) i = withN (lget ps i) n := by rw [lget_lset _ _ _ _ hix hix.1, if_pos rfl]
  have hsr := hr2.src (B := B) (h := pl2) (fun x hx => hx)
  have hra := row_at hg hn2 (by omega)
  rw [← hrw] at hra
  have hll : (lset ps i (withN (lget ps i) n)).length = ps.length := lset_len ..
  refine AK.seq ?_
  refine AK.seq ?_
  refine AK.draw [] [] mixed ?_
  refine AD.takeP 0 rfl (by kernel_rfl) (RV.move rfl) (.none rfl) rfl ?_
  refine AD.takeP 1 rfl (by kernel_rfl) (RV.move rfl) (.none rfl) rfl ?_
  refine AD.takeP 2 rfl (by kernel_rfl) (RV.nilCheck rfl) (.none rfl) rfl ?_
  refine AD.takeP 3 rfl (by kernel_rfl) (by first | exact RV.fieldAddr rfl | exact RV.fieldAddrA rfl) (.none rfl) rfl ?_
  refine AD.take 4 rfl (by kernel_rfl) ((RV.loadSF (enc := encP) (l := (lset ps i (withN (lget ps i) n))) (fo := 2) rfl hsr (fun _ => rfl) (by omega) rfl (by rw [hgn]; rfl) (by simp)).to (v' := .slice (lget ps i).2.2.1.A (lget ps i).2.2.1.l.length (lget ps i).2.2.1.cap) rfl) (.none rfl) rfl ?_
  refine AD.takeP 5 rfl (by kernel_rfl) (RV.move rfl) (.none rfl) rfl ?_
  refine AD.takeP 6 rfl (by kernel_rfl) (RV.nilCheck rfl) (.none rfl) rfl ?_
  refine AD.takeP 7 rfl (by kernel_rfl) (by first | exact RV.fieldAddr rfl | exact RV.fieldAddrA rfl) (.none rfl) rfl ?_
  refine AD.take 8 rfl (by kernel_rfl) ((RV.loadSF (enc := encP) (l := (lset ps i (withN (lget ps i) n))) (fo := 3) rfl hsr (fun _ => rfl) (by omega) rfl (by rw [hgn]; rfl) (by simp)).to (v' := .int .i64 n) rfl) (.none rfl) rfl ?_
  refine AD.takeP 9 rfl (by kernel_rfl) (RV.indexS rfl rfl hrs (by omega) rfl) (.none rfl) rfl ?_
  refine AD.take 10 rfl (by kernel_rfl) (RV.loadS (enc := Value.int .i64) (l := (lget ps i).2.2.1.l) (i := n) rfl hrs (by omega) (by simp)) (.none rfl) rfl ?_
  refine AD.takeP 11 rfl (by kernel_rfl) (RV.indexS rfl rfl hs (by omega) rfl) (.none rfl) rfl ?_
  refine AD.take 12 rfl (by kernel_rfl) (RV.loadS (enc := Value.bool) (l := ss.map (·.2)) rfl hs (by rw [List.length_map, hsl]; omega) (by simp)) (.none rfl) rfl ?_
  refine AD.done (by kernel_rfl) ?_
  refine AK.cond rfl ?_ ?_
  · intro hc1
    try simp only [decide_eq_true_eq, decide_eq_false_iff_not, Bool.not_eq_true', Bool.not_eq_false', beq_iff_eq] at hc1
    rw [hrw] at hc1
    refine AK.skip ?_
    refine AK.block ?_
    refine AK.region ?_
    refine AO.val (RV.move rfl) (.none rfl) rfl ?_
    refine AO.val (RV.nilCheck rfl) (.none rfl) rfl ?_
    refine AO.val (by first | exact RV.fieldAddr rfl | exact RV.fieldAddrA rfl) (.none rfl) rfl ?_
    refine AO.val ((RV.loadSF (enc := encP) (l := (lset ps i (withN (lget ps i) n))) (fo := 3) rfl hsr (fun _ => rfl) (by omega) rfl (by rw [hgn]; rfl) (by simp)).to (v' := .int .i64 n) rfl) (.none rfl) rfl ?_
    refine AO.val (by first | exact RV.addIn rfl rfl (by omega) | exact RV.add rfl rfl) (.none rfl) rfl ?_
    refine AO.val (RV.nilCheck rfl) (.none rfl) rfl ?_
    refine AO.val (by first | exact RV.fieldAddr rfl | exact RV.fieldAddrA rfl) (.none rfl) rfl ?_
    refine AO.effN (EF.storeRF (l := (lset ps i (withN (lget ps i) n))) (i := i) (withN (lget ps i) (n + 1)) rfl rfl rfl rfl rfl (hll ▸ hr2) (fun _ => rfl) (by rw [hll]; exact hix) (Nat.le_refl 4) (by rw [hgn]; rfl)) (.none rfl) ?_
    rintro _ _ ⟨pl3, hr3, rfl⟩
    rw [lset_lset, hll] at hr3
    refine AO.nil ?_
    refine AK.inBlock ?_
    -- round ends at L0T
    have hall2 : ∀ j : Int, 0 ≤ j → j < n + 1 → lget (ss.map (·.2)) (lget (rowS lo hi (lget ps i).1 m) j) = true := fun j h1 h2 => by
      by_cases hj : j = n
      · subst hj; exact hc1
      · exact hall j h1 (by omega)
    have hn4 := taken_le hg hsl hc (j := n + 1) (by omega) hall2
    refine AK.weak (.cons (by exact rfl) (.cons (by exact rfl) .nil)) (by first | exact SubO.sub | exact List.Sublist.refl _ | exact .cons _ (List.Sublist.refl _) | exact .cons _ (.cons _ (List.Sublist.refl _)) | exact .cons _ (.cons _ (.cons _ (List.Sublist.refl _)))) (hih0 (n + 1, pl3) ?_ ?_)
    · try dsimp only
      exact ⟨by omega, hn4, hall2, hr3⟩
    · try dsimp only
      omega
  · intro hc1
    try simp only [decide_eq_true_eq, decide_eq_false_iff_not, Bool.not_eq_true', Bool.not_eq_false', beq_iff_eq] at hc1
    rw [hrw] at hc1
    refine AK.exit rfl ?_
    refine AK.seq ?_
    refine AK.draw [] [] mixed ?_
    refine AD.takeP 0 rfl (by kernel_rfl) (RV.move rfl) (.none rfl) rfl ?_
    refine AD.takeP 1 rfl (by kernel_rfl) (RV.nilCheck rfl) (.none rfl) rfl ?_
    refine AD.takeP 2 rfl (by kernel_rfl) (by first | exact RV.fieldAddr rfl | exact RV.fieldAddrA rfl) (.none rfl) rfl ?_
    refine AD.take 3 rfl (by kernel_rfl) ((RV.loadSF (enc := encP) (l := (lset ps i (withN (lget ps i) n))) (fo := 2) rfl hsr (fun _ => rfl) (by omega) rfl (by rw [hgn]; rfl) (by simp)).to (v' := .slice (lget ps i).2.2.1.A (lget ps i).2.2.1.l.length (lget ps i).2.2.1.cap) rfl) (.none rfl) rfl ?_
    refine AD.takeP 4 rfl (by kernel_rfl) (RV.move rfl) (.none rfl) rfl ?_
    refine AD.takeP 5 rfl (by kernel_rfl) (RV.nilCheck rfl) (.none rfl) rfl ?_
    refine AD.takeP 6 rfl (by kernel_rfl) (by first | exact RV.fieldAddr rfl | exact RV.fieldAddrA rfl) (.none rfl) rfl ?_
    refine AD.take 7 rfl (by kernel_rfl) ((RV.loadSF (enc := encP) (l := (lset ps i (withN (lget ps i) n))) (fo := 3) rfl hsr (fun _ => rfl) (by omega) rfl (by rw [hgn]; rfl) (by simp)).to (v' := .int .i64 n) rfl) (.none rfl) rfl ?_
    refine AD.takeP 8 rfl (by kernel_rfl) (RV.indexS rfl rfl hrs (by omega) rfl) (.none rfl) rfl ?_
    refine AD.take 9 rfl (by kernel_rfl) (RV.loadS (enc := Value.int .i64) (l := (lget ps i).2.2.1.l) (i := n) rfl hrs (by omega) (by simp)) (.none rfl) rfl ?_
    refine AD.takeP 10 rfl (by kernel_rfl) (RV.assign rfl) (.none rfl) rfl ?_
    refine AD.done (by kernel_rfl) ?_
    -- at L0F
    clear hih0
    have hfe : (free (rowS lo hi (lget ps i).1 m) ss : Int) = n := taken_before hn2 (by rw [hg.len]; omega) hall hc1
    refine AK.ret (h' := pl2 ++ h) Try.func46 (.tmp rfl .nil) ?_ (List.Sublist.refl _)
    refine ⟨pl2, ?_, rfl, by rw [hfe]; exact hr2⟩
    rw [hrw]
    show Value.int .i64 (lget _ n) = .int .i64 (lget _ (free (rowS lo hi (lget ps i).1 m) ss : Int))
    rw [hfe]

end Go.Proofs.Ytbdlohjmifgcaaa
