/- Walks through the code: what each function that is named here gives back, from any memory that holds its arguments. Written by a program of the claim's author, out of the program's form in Lean. -/
import Derived.Test.YtbdlohjmifgcaaaS19W5
import Derived.Test.YtbdlohjmifgcaaaS27R5
import Derived.Test.YtbdlohjmifgcaaaPlain
set_option linter.unusedSimpArgs false
set_option linter.unusedVariables false
namespace Go.Proofs.Ytbdlohjmifgcaaa
open Go.Sep Go.Sep.Sip Go.Sep.Perm Go.Sep.Maglev Go.Sep.Board
theorem flat_one (l : List Bk) : (flat encK l).all (·.oneCell') = true := by
  simp only [flat, List.all_flatMap]
  exact List.all_eq_true.2 fun x _ => rfl

theorem fit1_spec (B : World) (h : Own) (x : Bk) (bv : Nat) (vip : Int) (hm : (bv, Blk.cells [.int .i64 vip] 3 (0, 0)) ∈ h) : Tri Try.prog B 43 [.agg (encK x).toArray, .pointer (some ⟨bv, 0, none⟩)] h fun v h' => h = h' ∧ v = .bool (!keepB vip x) := by
  haveI hat : AtO h bv [.int .i64 vip] 3 (0, 0) := ⟨hm⟩
  refine Tri.enter (n := 18) Try.func43 rfl rfl rfl ?_
  simp only [argsE, Nat.reduceAdd]
  try dsimp only [argsE]
  refine AK.seq ?_
  refine AK.region ?_
  refine AO.eff (EF.box rfl rfl) (.none rfl) rfl ?_
  rintro _ _ ⟨b2, hf2, rfl, rfl⟩
  refine AO.val (RV.assign rfl) (.none rfl) rfl ?_
  refine AO.nil ?_
  refine AK.seq ?_
  refine AK.region ?_
  refine AO.val (RV.fieldAddr rfl) (.none rfl) rfl ?_
  refine AO.val (by first | exact RV.loadO rfl rfl (by first | simp | assumption) | exact RV.loadS rfl (by assumption) (by omega) (by first | simp | assumption)) (.none rfl) rfl ?_
  refine AO.val (by first | exact RV.loadO rfl rfl (by first | simp | assumption) | exact RV.loadS rfl (by assumption) (by omega) (by first | simp | assumption)) (.none rfl) rfl ?_
  refine AO.val (RV.neq rfl rfl) (.none rfl) rfl ?_
  refine AO.val (RV.move rfl) (.none rfl) rfl ?_
  refine AO.caseG rfl rfl rfl ?_ ?_
  · intro hg1
    try simp only [decide_eq_true_eq, decide_eq_false_iff_not, Bool.not_eq_true', Bool.not_eq_false', beq_iff_eq] at hg1
    refine AO.pass (.some rfl rfl rfl rfl) rfl ?_
    refine AO.pass (.some rfl rfl rfl rfl) rfl ?_
    refine AO.pass (.some rfl rfl rfl rfl) rfl ?_
    refine AO.val (RV.pickT rfl rfl) (.none rfl) rfl ?_
    refine AO.val (RV.move rfl) (.none rfl) rfl ?_
    refine AO.pass (.some rfl rfl rfl rfl) rfl ?_
    refine AO.pass (.some rfl rfl rfl rfl) rfl ?_
    refine AO.pass (.some rfl rfl rfl rfl) rfl ?_
    refine AO.val (RV.pickT rfl rfl) (.none rfl) rfl ?_
    refine AO.val (RV.assign rfl) (.none rfl) rfl ?_
    refine AO.nil ?_
    -- at t
    refine AK.ret (h' := h) Try.func43 (.tmp rfl .nil) ?_ (by first | exact SubO.sub | exact List.Sublist.refl _ | exact .cons _ (List.Sublist.refl _) | exact .cons _ (.cons _ (List.Sublist.refl _)) | exact .cons _ (.cons _ (.cons _ (List.Sublist.refl _))))
    refine ⟨rfl, ?_⟩
    simp only [ne_eq, Classical.not_not] at *
    simp [keepB, oneOr, *]
  · intro hg1
    try simp only [decide_eq_true_eq, decide_eq_false_iff_not, Bool.not_eq_true', Bool.not_eq_false', beq_iff_eq] at hg1
    refine AO.val (RV.fieldAddr rfl) (.some rfl rfl rfl rfl) rfl ?_
    refine AO.val (by first | exact RV.loadO rfl rfl (by first | simp | assumption) | exact RV.loadS rfl (by assumption) (by omega) (by first | simp | assumption)) (.some rfl rfl rfl rfl) rfl ?_
    refine AO.val (RV.neq rfl rfl) (.some rfl rfl rfl rfl) rfl ?_
    refine AO.val (RV.pickF rfl rfl) (.none rfl) rfl ?_
    refine AO.val (RV.move rfl) (.none rfl) rfl ?_
    refine AO.caseG rfl rfl rfl ?_ ?_
    · intro hg2
      try simp only [decide_eq_true_eq, decide_eq_false_iff_not, Bool.not_eq_true', Bool.not_eq_false', beq_iff_eq] at hg2
      refine AO.pass (.some rfl rfl rfl rfl) rfl ?_
      refine AO.pass (.some rfl rfl rfl rfl) rfl ?_
      refine AO.pass (.some rfl rfl rfl rfl) rfl ?_
      refine AO.val (RV.pickT rfl rfl) (.none rfl) rfl ?_
      refine AO.val (RV.assign rfl) (.none rfl) rfl ?_
      refine AO.nil ?_
      -- at ft
      refine AK.ret (h' := h) Try.func43 (.tmp rfl .nil) ?_ (by first | exact SubO.sub | exact List.Sublist.refl _ | exact .cons _ (List.Sublist.refl _) | exact .cons _ (.cons _ (List.Sublist.refl _)) | exact .cons _ (.cons _ (.cons _ (List.Sublist.refl _))))
      refine ⟨rfl, ?_⟩
      simp only [ne_eq, Classical.not_not] at *
      simp [keepB, oneOr, *]
    · intro hg2
      try simp only [decide_eq_true_eq, decide_eq_false_iff_not, Bool.not_eq_true', Bool.not_eq_false', beq_iff_eq] at hg2
      refine AO.val (RV.fieldAddr rfl) (.some rfl rfl rfl rfl) rfl ?_
      refine AO.val (by first | exact RV.loadO rfl rfl (by first | simp | assumption) | exact RV.loadS rfl (by assumption) (by omega) (by first | simp | assumption)) (.some rfl rfl rfl rfl) rfl ?_
      refine AO.val (RV.not rfl) (.some rfl rfl rfl rfl) rfl ?_
      refine AO.val (RV.pickF rfl rfl) (.none rfl) rfl ?_
      refine AO.val (RV.assign rfl) (.none rfl) rfl ?_
      refine AO.nil ?_
      -- at ff
      refine AK.ret (h' := h) Try.func43 (.tmp rfl .nil) ?_ (by first | exact SubO.sub | exact List.Sublist.refl _ | exact .cons _ (List.Sublist.refl _) | exact .cons _ (.cons _ (List.Sublist.refl _)) | exact .cons _ (.cons _ (.cons _ (List.Sublist.refl _))))
      refine ⟨rfl, ?_⟩
      simp only [ne_eq, Classical.not_not] at *
      simp [keepB, oneOr, *]

theorem clonek_spec (B : World) (h : Own) {A : Option Addr} {cap : Nat} (l : List Bk) (hl : Src B h A l.length 6 (flat encK l)) (hln : l.length ≤ 1000) (hcap : l.length ≤ cap) : Tri Try.prog B 42 [.slice A l.length cap] h fun v h' => NewS 43 6 (l).length (flat encK (l)) h v h' := by
  refine Tri.enter (n := 8) Try.func42 rfl rfl rfl ?_
  simp only [argsE, Nat.reduceAdd]
  try dsimp only [argsE]
  refine AK.seq ?_
  refine AK.region ?_
  refine AO.val (RV.assign rfl) (.none rfl) rfl ?_
  refine AO.nil ?_
  refine AK.seq ?_
  refine AK.seq ?_
  refine AK.region ?_
  refine AO.val (RV.move rfl) (.none rfl) rfl ?_
  refine AO.val (RV.eqlSn rfl rfl) (.none rfl) rfl ?_
  refine AO.nil ?_
  refine AK.cond rfl ?_ ?_
  · intro hc1
    try simp only [decide_eq_true_eq, decide_eq_false_iff_not, Bool.not_eq_true', Bool.not_eq_false', beq_iff_eq] at hc1
    refine AK.seq ?_
    refine AK.region ?_
    refine AO.val (RV.assign rfl) (.none rfl) rfl ?_
    refine AO.nil ?_
    -- at T
    refine AK.ret (h' := h) Try.func42 (.tmp rfl .nil) ?_ (by exact SubO.sub)
    have hfl := hl.isNone (by simpa using hc1)
    have hz : l = [] := by
      have h1 := congrArg List.length hfl
      rw [flat_len (sz := 6) (fun _ => rfl)] at h1
      exact List.eq_nil_of_length_eq_zero (by simp at h1; omega)
    subst hz
    exact ⟨none, 0, [], rfl, .nil, Nat.le_refl _, rfl⟩
  · intro hc1
    try simp only [decide_eq_true_eq, decide_eq_false_iff_not, Bool.not_eq_true', Bool.not_eq_false', beq_iff_eq] at hc1
    refine AK.skip ?_
    refine AK.seq ?_
    refine AK.region ?_
    refine AO.eff (EF.buildSlice rfl rfl rfl .nil) (.none rfl) rfl ?_
    rintro _ _ ⟨b5, hf5, rfl, rfl⟩
    simp only [zerosL]
    refine AO.val (RV.move rfl) (.none rfl) rfl ?_
    refine AO.eff (EF.appendS (n' := l.length) (ys := flat encK l) rfl rfl (Row.new (cs := []) rfl) hl.sub (by simp) (by simp) rfl (by decide) (flat_one l) (by omega) (by omega)) (.none rfl) rfl ?_
    rintro _ _ ⟨A7, c7, p7, rfl, hr7, hc7, rfl⟩
    refine AO.val (RV.assign rfl) (.none rfl) rfl ?_
    refine AO.nil ?_
    -- at F
    refine AK.ret (h' := p7 ++ h) Try.func42 (.tmp rfl .nil) ?_ (by exact SubO.sub)
    exact ⟨A7, c7, p7, rfl, hr7, hc7, rfl⟩

theorem indexk_spec (B : World) (h : Own) (bv : Nat) (vip : Int) (hm : (bv, Blk.cells [.int .i64 vip] 3 (0, 0)) ∈ h) {A : Option Addr} {cap : Nat} (l : List Bk) (hl : Src B h A l.length 6 (flat encK l)) (hln : l.length ≤ 1000) : Tri Try.prog B 58 [.slice A l.length cap, .func (.func 43) #[] #[.pointer (some ⟨bv, 0, none⟩)]] h fun v h' => h = h' ∧ ∃ k : Int, v = .int .i64 k ∧ (k = -1 ∧ fitL l vip = l ∨ 0 ≤ k ∧ k < l.length ∧ l.take k.toNat = (l.take k.toNat).filter (keepB vip) ∧ keepB vip (lget l k) = false) := by
  refine Tri.enter (n := 19) Try.func58 rfl rfl rfl ?_
  simp only [argsE, Nat.reduceAdd]
  try dsimp only [argsE]
  refine AK.seq ?_
  refine AK.region ?_
  refine AO.val (RV.assign rfl) (.none rfl) rfl ?_
  refine AO.nil ?_
  refine AK.seq ?_
  refine AK.seq ?_
  refine AK.region ?_
  refine AO.val (RV.move rfl) (.none rfl) rfl ?_
  refine AO.val (RV.lenS rfl) (.none rfl) rfl ?_
  refine AO.val (RV.move rfl) (.none rfl) rfl ?_
  refine AO.nil ?_
  refine AK.block ?_
  refine AK.loop (α := Int) (E := fun i => [(0, .slice A l.length cap), (1, .func (.func 43) #[] #[.pointer (some ⟨bv, 0, none⟩)]), (7, .int .i64 l.length), (8, .int .i64 i)]) (H := fun i => h) (Inv := fun i => 0 ≤ i ∧ i ≤ l.length ∧ ∀ j : Int, 0 ≤ j → j < i → keepB vip (lget l j) = true) (μ := fun i => (l.length - i).toNat) 0 ?_ (.cons (by exact rfl) (.cons (by exact rfl) (.cons (by exact rfl) (.cons (by exact rfl) .nil)))) ?_ ?_
  · exact ⟨by omega, by omega, fun j h1 h2 => by omega⟩
  · exact (by first | exact SubO.sub | exact List.Sublist.refl _ | exact .cons _ (List.Sublist.refl _) | exact .cons _ (.cons _ (List.Sublist.refl _)) | exact .cons _ (.cons _ (.cons _ (List.Sublist.refl _))))
  rintro i ⟨hi0, hi1, hall⟩ hih0
  try dsimp only at hih0 ⊢
  refine AK.seq ?_
  refine AK.region ?_
  refine AO.val (RV.lss rfl rfl) (.none rfl) rfl ?_
  refine AO.nil ?_
  refine AK.seq ?_
  refine AK.cond rfl ?_ ?_
  · intro hc1
    try simp only [decide_eq_true_eq, decide_eq_false_iff_not, Bool.not_eq_true', Bool.not_eq_false', beq_iff_eq] at hc1
    refine AK.skip ?_
    refine AK.seq ?_
    refine AK.block ?_
    refine AK.seq ?_
    refine AK.region ?_
    refine AO.val (RV.move rfl) (.none rfl) rfl ?_
    refine AO.val (RV.assign rfl) (.none rfl) rfl ?_
    refine AO.nil ?_
    refine AK.seq ?_
    refine AK.region ?_
    refine AO.val (RV.move rfl) (.none rfl) rfl ?_
    refine AO.val (RV.move rfl) (.none rfl) rfl ?_
    refine AO.val (RV.move rfl) (.none rfl) rfl ?_
    refine AO.val (by first | exact RV.indexS rfl rfl (by assumption) (by omega) rfl | exact RV.indexAddr rfl rfl (by omega)) (.none rfl) rfl ?_
    refine AO.val (RV.loadSA (enc := encK) rfl hl (fun _ => rfl) (by omega) (by simp)) (.none rfl) rfl ?_
    refine AO.eff (EF.call (fst := []) (cap := [.pointer (some ⟨bv, 0, none⟩)]) rfl rfl (fit1_spec B _ (lget l i) bv vip (by simp [hm]))) (.none rfl) rfl ?_
    rintro _ _ ⟨rfl, rfl⟩
    refine AO.nil ?_
    refine AK.cond rfl ?_ ?_
    · intro hc2
      try simp only [decide_eq_true_eq, decide_eq_false_iff_not, Bool.not_eq_true', Bool.not_eq_false', beq_iff_eq] at hc2
      refine AK.seq ?_
      refine AK.region ?_
      refine AO.val (RV.move rfl) (.none rfl) rfl ?_
      refine AO.val (RV.assign rfl) (.none rfl) rfl ?_
      refine AO.nil ?_
      -- at L0TT
      clear hih0
      refine AK.ret (h' := h) Try.func58 (.tmp rfl .nil) ?_ (by first | exact SubO.sub | exact List.Sublist.refl _ | exact .cons _ (List.Sublist.refl _) | exact .cons _ (.cons _ (List.Sublist.refl _)) | exact .cons _ (.cons _ (.cons _ (List.Sublist.refl _))))
      refine ⟨rfl, _, rfl, ?_⟩
      exact .inr ⟨hi0, by omega, (filter_all (all_of_lget hall ⟨hi0, hi1⟩)).symm, by assumption⟩
    · intro hc2
      try simp only [decide_eq_true_eq, decide_eq_false_iff_not, Bool.not_eq_true', Bool.not_eq_false', beq_iff_eq] at hc2
      refine AK.skip ?_
      refine AK.inBlock ?_
      refine AK.region ?_
      refine AO.val (by first | exact RV.addIn rfl rfl (by omega) | exact RV.add rfl rfl) (.none rfl) rfl ?_
      refine AO.val (RV.move rfl) (.none rfl) rfl ?_
      refine AO.nil ?_
      -- round ends at L0TF
      refine AK.weak (.cons (by exact rfl) (.cons (by exact rfl) (.cons (by exact rfl) (.cons (by exact rfl) .nil)))) (by first | exact SubO.sub | exact List.Sublist.refl _ | exact .cons _ (List.Sublist.refl _) | exact .cons _ (.cons _ (List.Sublist.refl _)) | exact .cons _ (.cons _ (.cons _ (List.Sublist.refl _)))) (hih0 (i + 1) ?_ ?_)
      · try dsimp only
        refine ⟨by omega, by omega, fun j h1 h2 => ?_⟩
        by_cases hj : j = i
        · subst hj; assumption
        · exact hall j h1 (by omega)
      · try dsimp only
        omega
  · intro hc1
    try simp only [decide_eq_true_eq, decide_eq_false_iff_not, Bool.not_eq_true', Bool.not_eq_false', beq_iff_eq] at hc1
    refine AK.exit rfl ?_
    refine AK.seq ?_
    refine AK.region ?_
    refine AO.val (RV.assign rfl) (.none rfl) rfl ?_
    refine AO.nil ?_
    -- at L0F
    clear hih0
    refine AK.ret (h' := h) Try.func58 (.tmp rfl .nil) ?_ (by first | exact SubO.sub | exact List.Sublist.refl _ | exact .cons _ (List.Sublist.refl _) | exact .cons _ (.cons _ (List.Sublist.refl _)) | exact .cons _ (.cons _ (.cons _ (List.Sublist.refl _))))
    refine ⟨rfl, _, rfl, ?_⟩
    have ha := all_of_lget hall ⟨hi0, hi1⟩
    rw [List.take_of_length_le (by omega)] at ha
    exact .inl ⟨rfl, filter_all ha⟩

theorem deletek_spec (B : World) (h : Own) (p : Own) (bv : Nat) (vip : Int) (hm : (bv, Blk.cells [.int .i64 vip] 3 (0, 0)) ∈ h) {A : Option Addr} {cap : Nat} (l : List Bk) (hr : Row 43 6 (.slice A l.length cap) l.length (flat encK l) p) (hcap : l.length ≤ cap) (hln : l.length ≤ 1000) : Tri Try.prog B 41 [.slice A l.length cap, .func (.func 43) #[] #[.pointer (some ⟨bv, 0, none⟩)]] (p ++ h) fun v h' => NewS 43 6 (fitL l vip).length (flat encK (fitL l vip)) h v h' := by
  refine Tri.enter (n := 42) Try.func41 rfl rfl rfl ?_
  simp only [argsE, Nat.reduceAdd]
  try dsimp only [argsE]
  refine AK.seq ?_
  refine AK.region ?_
  refine AO.val (RV.assign rfl) (.none rfl) rfl ?_
  refine AO.nil ?_
  refine AK.seq ?_
  refine AK.region ?_
  refine AO.val (RV.move rfl) (.none rfl) rfl ?_
  refine AO.val (RV.move rfl) (.none rfl) rfl ?_
  refine AO.eff (EF.callF rfl (indexk_spec B _ bv vip (by simp [hm]) l (hr.src fun x hx => List.mem_append_left _ hx) hln)) (.none rfl) rfl ?_
  rintro _ _ ⟨rfl, k, rfl, hk⟩
  refine AO.val (RV.assign rfl) (.none rfl) rfl ?_
  refine AO.nil ?_
  refine AK.seq ?_
  refine AK.seq ?_
  refine AK.region ?_
  refine AO.val (RV.move rfl) (.none rfl) rfl ?_
  refine AO.val (RV.eql rfl rfl) (.none rfl) rfl ?_
  refine AO.nil ?_
  refine AK.cond rfl ?_ ?_
  · intro hc1
    try simp only [decide_eq_true_eq, decide_eq_false_iff_not, Bool.not_eq_true', Bool.not_eq_false', beq_iff_eq] at hc1
    have hk2 : k = -1 ∧ fitL l vip = l := by
      rcases hk with h1 | h1
      · exact h1
      · omega
    refine AK.seq ?_
    refine AK.region ?_
    refine AO.val (RV.move rfl) (.none rfl) rfl ?_
    refine AO.val (RV.assign rfl) (.none rfl) rfl ?_
    refine AO.nil ?_
    -- at T
    refine AK.ret (h' := p ++ h) Try.func41 (.tmp rfl .nil) ?_ (by first | exact SubO.sub | exact List.Sublist.refl _ | exact .cons _ (List.Sublist.refl _) | exact .cons _ (.cons _ (List.Sublist.refl _)) | exact .cons _ (.cons _ (.cons _ (List.Sublist.refl _))))
    rw [hk2.2]
    exact ⟨A, cap, p, rfl, hr, hcap, rfl⟩
  · intro hc1
    try simp only [decide_eq_true_eq, decide_eq_false_iff_not, Bool.not_eq_true', Bool.not_eq_false', beq_iff_eq] at hc1
    obtain ⟨hk0, hk1, hk2, hk3⟩ : 0 ≤ k ∧ k < l.length ∧ l.take k.toNat = (l.take k.toNat).filter (keepB vip) ∧ keepB vip (lget l k) = false := by
      rcases hk with h1 | h1
      · exact absurd h1.1 (by omega)
      · exact h1
    refine AK.skip ?_
    refine AK.seq ?_
    refine AK.seq ?_
    refine AK.region ?_
    refine AO.val (RV.move rfl) (.none rfl) rfl ?_
    refine AO.val (by first | exact RV.addIn rfl rfl (by omega) | exact RV.add rfl rfl) (.none rfl) rfl ?_
    refine AO.val (RV.assign rfl) (.none rfl) rfl ?_
    refine AO.nil ?_
    refine AK.block ?_
    refine AK.loop (α := Int × Int × List Bk × Own) (E := fun (i, j, cur, p1) => [(0, .slice A l.length cap), (1, .func (.func 43) #[] #[.pointer (some ⟨bv, 0, none⟩)]), (5, .int .i64 i), (6, .int .i64 j)]) (H := fun (i, j, cur, p1) => p1 ++ h) (Inv := fun (i, j, cur, p1) => cur.length = l.length ∧ 0 ≤ i ∧ i < j ∧ j ≤ l.length ∧ Row 43 6 (.slice A l.length cap) l.length (flat encK cur) p1 ∧ cur.take i.toNat = (l.take j.toNat).filter (keepB vip) ∧ cur.drop j.toNat = l.drop j.toNat) (μ := fun (i, j, cur, p1) => (l.length - j).toNat) (k, k + 1, l, p) ?_ (.cons (by exact rfl) (.cons (by exact rfl) (.cons (by exact rfl) (.cons (by exact rfl) .nil)))) ?_ ?_
    · refine ⟨rfl, by omega, by omega, by omega, hr, ?_, rfl⟩
      rw [filter_take _ l k hk0 hk1, if_neg (by rw [hk3]; simp), List.append_nil]; exact hk2
    · exact (by first | exact SubO.sub | exact List.Sublist.refl _ | exact .cons _ (List.Sublist.refl _) | exact .cons _ (.cons _ (List.Sublist.refl _)) | exact .cons _ (.cons _ (.cons _ (List.Sublist.refl _))))
    rintro ⟨i, j, cur, p1⟩ ⟨hcl, hi0, hij, hjn, hr1, h2, h3⟩ hih0
    try dsimp only at hih0 ⊢
    refine AK.seq ?_
    refine AK.seq ?_
    refine AK.region ?_
    refine AO.val (RV.move rfl) (.none rfl) rfl ?_
    refine AO.val (RV.move rfl) (.none rfl) rfl ?_
    refine AO.val (RV.lenS rfl) (.none rfl) rfl ?_
    refine AO.val (RV.lss rfl rfl) (.none rfl) rfl ?_
    refine AO.nil ?_
    refine AK.cond rfl ?_ ?_
    · intro hc2
      try simp only [decide_eq_true_eq, decide_eq_false_iff_not, Bool.not_eq_true', Bool.not_eq_false', beq_iff_eq] at hc2
      refine AK.skip ?_
      refine AK.seq ?_
      refine AK.block ?_
      refine AK.seq ?_
      refine AK.region ?_
      refine AO.val (RV.move rfl) (.none rfl) rfl ?_
      refine AO.val (RV.move rfl) (.none rfl) rfl ?_
      refine AO.val (RV.indexS rfl rfl (hr1.src fun x hx => hx) (by omega) rfl) (.none rfl) rfl ?_
      refine AO.val (RV.loadSA (enc := encK) (l := cur) rfl (hr1.src (h := p1) fun x hx => hx) (fun _ => rfl) (by omega) (by simp)) (.none rfl) rfl ?_
      refine AO.eff (EF.alloc) (.none rfl) rfl ?_
      rintro _ _ ⟨b7, hf7, rfl, rfl⟩
      refine AO.effN (EF.storeO rfl rfl rfl rfl rfl rfl) (.none rfl) ?_
      rintro _ _ rfl
      refine AO.nil ?_
      refine AK.seq ?_
      refine AK.region ?_
      refine AO.val (RV.move rfl) (.none rfl) rfl ?_
      refine AO.val (by first | exact RV.loadAggO rfl rfl (by first | simp | assumption) | exact RV.loadAggP rfl rfl rfl (by first | simp | assumption) | exact RV.loadFA rfl (fun _ => rfl) (by omega) (by first | simp | assumption)) (.none rfl) rfl ?_
      refine AO.eff (EF.call (fst := []) (cap := [.pointer (some ⟨bv, 0, none⟩)]) rfl rfl (fit1_spec B _ (lget cur j) bv vip (by simp [hm]))) (.none rfl) rfl ?_
      rintro _ _ ⟨rfl, rfl⟩
      refine AO.val (RV.not rfl) (.none rfl) rfl ?_
      refine AO.nil ?_
      refine AK.cond rfl ?_ ?_
      · intro hc3
        try simp only [decide_eq_true_eq, decide_eq_false_iff_not, Bool.not_eq_true', Bool.not_eq_false', beq_iff_eq] at hc3
        have hkb : keepB vip (lget l j) = true := by rw [← lget_drop h3 hcl ⟨by omega, by omega⟩]; simpa using hc3
        refine AK.seq ?_
        refine AK.region ?_
        refine AO.val (RV.move rfl) (.none rfl) rfl ?_
        refine AO.val (RV.move rfl) (.none rfl) rfl ?_
        refine AO.val (by first | exact RV.loadAggO rfl rfl (by first | simp | assumption) | exact RV.loadAggP rfl rfl rfl (by first | simp | assumption) | exact RV.loadFA rfl (fun _ => rfl) (by omega) (by first | simp | assumption)) (.none rfl) rfl ?_
        refine AO.val (RV.indexS rfl rfl (hr1.src fun x hx => hx) (by omega) rfl) (.none rfl) rfl ?_
        refine AO.effN (EF.storeRE (l := cur) (lget cur j) rfl rfl rfl rfl (by rw [hcl]; exact hr1) (fun _ => rfl) (by omega)) (.none rfl) ?_
        rintro _ _ ⟨p2, hr2, rfl⟩
        rw [hcl] at hr2
        refine AO.nil ?_
        refine AK.region ?_
        refine AO.val (RV.move rfl) (.none rfl) rfl ?_
        refine AO.val (by first | exact RV.addIn rfl rfl (by omega) | exact RV.add rfl rfl) (.none rfl) rfl ?_
        refine AO.val (RV.assign rfl) (.none rfl) rfl ?_
        refine AO.nil ?_
        refine AK.inBlock ?_
        refine AK.region ?_
        refine AO.val (RV.move rfl) (.none rfl) rfl ?_
        refine AO.val (by first | exact RV.addIn rfl rfl (by omega) | exact RV.add rfl rfl) (.none rfl) rfl ?_
        refine AO.val (RV.assign rfl) (.none rfl) rfl ?_
        refine AO.nil ?_
        -- round ends at FL0TT
        refine AK.weak (.cons (by exact rfl) (.cons (by exact rfl) (.cons (by exact rfl) (.cons (by exact rfl) .nil)))) (by exact List.Sublist.append_left (List.sublist_cons_self _ _) _) (hih0 (i + 1, j + 1, lset cur i (lget cur j), p2) ?_ ?_)
        · try dsimp only
          obtain ⟨d1, d2⟩ := del_keep hcl ⟨hi0, hij⟩ (by omega) h2 h3 hkb
          exact ⟨by rw [lset_len]; exact hcl, by omega, by omega, by omega, hr2, d1, d2⟩
        · try dsimp only
          omega
      · intro hc3
        try simp only [decide_eq_true_eq, decide_eq_false_iff_not, Bool.not_eq_true', Bool.not_eq_false', beq_iff_eq] at hc3
        have hkb : keepB vip (lget l j) = false := by rw [← lget_drop h3 hcl ⟨by omega, by omega⟩]; simpa using hc3
        refine AK.skip ?_
        refine AK.inBlock ?_
        refine AK.region ?_
        refine AO.val (RV.move rfl) (.none rfl) rfl ?_
        refine AO.val (by first | exact RV.addIn rfl rfl (by omega) | exact RV.add rfl rfl) (.none rfl) rfl ?_
        refine AO.val (RV.assign rfl) (.none rfl) rfl ?_
        refine AO.nil ?_
        -- round ends at FL0TF
        refine AK.weak (.cons (by exact rfl) (.cons (by exact rfl) (.cons (by exact rfl) (.cons (by exact rfl) .nil)))) (by exact SubO.sub) (hih0 (i, j + 1, cur, p1) ?_ ?_)
        · try dsimp only
          obtain ⟨d1, d2⟩ := del_skip ⟨hi0, hij⟩ (by omega) h2 h3 hkb
          exact ⟨hcl, by omega, by omega, by omega, hr1, d1, d2⟩
        · try dsimp only
          omega
    · intro hc2
      try simp only [decide_eq_true_eq, decide_eq_false_iff_not, Bool.not_eq_true', Bool.not_eq_false', beq_iff_eq] at hc2
      refine AK.exit rfl ?_
      refine AK.seq ?_
      refine AK.region ?_
      refine AO.val (RV.move rfl) (.none rfl) rfl ?_
      refine AO.val (RV.move rfl) (.none rfl) rfl ?_
      refine AO.val (RV.sliceL rfl rfl (by omega) (by omega)) (.none rfl) rfl ?_
      refine AO.effN (EF.clearR (A := A) (m := l.length) (c := cap) (k := i.toNat) rfl hr1 (by intro hn; rw [if_neg (by omega)]) (by omega) (by kernel_rfl) (by kernel_rfl)) (.none rfl) ?_
      rintro _ _ ⟨p3, hr3, rfl⟩
      refine AO.nil ?_
      refine AK.seq ?_
      refine AK.region ?_
      refine AO.val (RV.move rfl) (.none rfl) rfl ?_
      refine AO.val (RV.move rfl) (.none rfl) rfl ?_
      refine AO.val (RV.sliceHi rfl rfl (by omega)) (.none rfl) rfl ?_
      refine AO.val (RV.assign rfl) (.none rfl) rfl ?_
      refine AO.nil ?_
      -- at FL0F
      clear hih0
      refine AK.ret (h' := p3 ++ h) Try.func41 (.tmp rfl .nil) ?_ (by first | exact SubO.sub | exact List.Sublist.refl _ | exact .cons _ (List.Sublist.refl _) | exact .cons _ (.cons _ (List.Sublist.refl _)) | exact .cons _ (.cons _ (.cons _ (List.Sublist.refl _))))
      have hjl : j = l.length := by omega
      subst hjl
      rw [Int.toNat_natCast, List.take_length] at h2
      have hfl : (fitL l vip).length = i.toNat := by rw [fitL, ← h2, List.length_take]; omega
      rw [flat_take (enc := encK) (sz := 6) (fun _ => rfl) _ _ (by omega), h2] at hr3
      rw [hfl]
      exact ⟨A, cap, p3, rfl, hr3, by omega, rfl⟩

theorem fit_spec (B : World) (h : Own) (vip : Int) {Av : Option Addr} {nv cv : Nat} {A : Option Addr} {cap : Nat} (l : List Bk) (hl : Src B h A l.length 6 (flat encK l)) (hln : l.length ≤ 1000) (hcap : l.length ≤ cap) : Tri Try.prog B 24 [.agg #[.slice Av nv cv, .slice A l.length cap], .int .i64 vip] h fun v h' => NewS 43 6 (fitL l vip).length (flat encK (fitL l vip)) h v h' := by
  refine Tri.enter (n := 10) Try.func24 rfl rfl rfl ?_
  simp only [argsE, Nat.reduceAdd]
  try dsimp only [argsE]
  refine AK.seq ?_
  refine AK.region ?_
  refine AO.eff (EF.box rfl rfl) (.none rfl) rfl ?_
  rintro _ _ ⟨b2, hf2, rfl, rfl⟩
  refine AO.eff (EF.box rfl rfl) (.none rfl) rfl ?_
  rintro _ _ ⟨b3, hf3, rfl, rfl⟩
  refine AO.val (RV.assign rfl) (.none rfl) rfl ?_
  refine AO.nil ?_
  refine AK.seq ?_
  refine AK.region ?_
  refine AO.val (RV.fieldAddr rfl) (.none rfl) rfl ?_
  refine AO.val (by first | exact RV.loadO rfl rfl (by first | simp | assumption) | exact RV.loadS rfl (by assumption) (by omega) (by first | simp | assumption)) (.none rfl) rfl ?_
  refine AO.eff (EF.callF rfl (clonek_spec B _ l hl.sub hln hcap)) (.none rfl) rfl ?_
  rintro _ _ ⟨A7, c7, p7, rfl, hr7, hc7, rfl⟩
  refine AO.val (RV.makeFunc rfl) (.none rfl) rfl ?_
  refine AO.eff (EF.callF rfl (deletek_spec B _ p7 b3 vip (by simp) l hr7 hc7 hln)) (.none rfl) rfl ?_
  rintro _ _ ⟨A9, c9, p9, rfl, hr9, hc9, rfl⟩
  refine AO.val (RV.assign rfl) (.none rfl) rfl ?_
  refine AO.nil ?_
  -- at 
  refine AK.ret (h' := p9 ++ h) Try.func24 (.tmp rfl .nil) ?_ (by exact List.Sublist.append_left (.cons _ (.cons _ (List.Sublist.refl _))) _)
  exact ⟨A9, c9, p9, rfl, hr9, hc9, rfl⟩

theorem rfit_spec (B : World) (h : Own) (vip : Int) {Av : Option Addr} {nv cv : Nat} {A : Option Addr} {cap : Nat} (l : List Bk) (hl : Src B h A l.length 6 (flat encK l)) (hln : l.length ≤ 1000) : Tri Try.prog B 23 [.agg #[.slice Av nv cv, .slice A l.length cap], .int .i64 vip] h fun v h' => NewS 43 6 (fitL l vip).length (flat encK (fitL l vip)) h v h' := by
  refine Tri.enter (n := 38) Try.func23 rfl rfl rfl ?_
  simp only [argsE, Nat.reduceAdd]
  try dsimp only [argsE]
  refine AK.seq ?_
  refine AK.region ?_
  refine AO.eff (EF.box rfl rfl) (.none rfl) rfl ?_
  rintro _ _ ⟨b2, hf2, rfl, rfl⟩
  refine AO.val (RV.assign rfl) (.none rfl) rfl ?_
  refine AO.nil ?_
  refine AK.seq ?_
  refine AK.region ?_
  refine AO.val (RV.assign rfl) (.none rfl) rfl ?_
  refine AO.nil ?_
  refine AK.seq ?_
  refine AK.seq ?_
  refine AK.region ?_
  refine AO.val (RV.assign rfl) (.none rfl) rfl ?_
  refine AO.nil ?_
  refine AK.block ?_
  refine AK.loop (α := Int × Option Addr × Nat × Own × List Bk) (E := fun (i, Ao, co, po, out) => [(1, .int .i64 vip), (2, .pointer (some ⟨b2, 0, none⟩)), (5, .slice Ao out.length co), (6, .int .i64 i)]) (H := fun (i, Ao, co, po, out) => po ++ ((b2, Blk.cells [.slice Av nv cv, .slice A l.length cap] 37 (0, 0)) :: h)) (Inv := fun (i, Ao, co, po, out) => 0 ≤ i ∧ i ≤ l.length ∧ out.length ≤ i.toNat ∧ Row 43 6 (.slice Ao out.length co) out.length (flat encK out) po ∧ out.length ≤ co ∧ out = (l.take i.toNat).filter (keepB vip)) (μ := fun (i, Ao, co, po, out) => (l.length - i).toNat) (0, none, 0, [], []) ?_ (.cons (by exact rfl) (.cons (by exact rfl) (.cons (by exact rfl) (.cons (by exact rfl) .nil)))) ?_ ?_
  · exact ⟨by omega, by omega, by simp, .nil, Nat.le_refl _, rfl⟩
  · exact (by first | exact SubO.sub | exact List.Sublist.refl _ | exact .cons _ (List.Sublist.refl _) | exact .cons _ (.cons _ (List.Sublist.refl _)) | exact .cons _ (.cons _ (.cons _ (List.Sublist.refl _))))
  rintro ⟨i, Ao, co, po, out⟩ ⟨hi0, hi1, hol, hro, hco, hou⟩ hih0
  try dsimp only at hih0 ⊢
  refine AK.seq ?_
  refine AK.seq ?_
  refine AK.region ?_
  refine AO.val (RV.move rfl) (.none rfl) rfl ?_
  refine AO.val (RV.fieldAddr rfl) (.none rfl) rfl ?_
  refine AO.val (by first | exact RV.loadO rfl rfl (by first | simp | assumption) | exact RV.loadS rfl (by assumption) (by omega) (by first | simp | assumption)) (.none rfl) rfl ?_
  refine AO.val (RV.lenS rfl) (.none rfl) rfl ?_
  refine AO.val (RV.lss rfl rfl) (.none rfl) rfl ?_
  refine AO.nil ?_
  refine AK.cond rfl ?_ ?_
  · intro hc1
    try simp only [decide_eq_true_eq, decide_eq_false_iff_not, Bool.not_eq_true', Bool.not_eq_false', beq_iff_eq] at hc1
    refine AK.skip ?_
    refine AK.seq ?_
    refine AK.block ?_
    refine AK.seq ?_
    refine AK.region ?_
    refine AO.val (RV.fieldAddr rfl) (.none rfl) rfl ?_
    refine AO.val (by first | exact RV.loadO rfl rfl (by first | simp | assumption) | exact RV.loadS rfl (by assumption) (by omega) (by first | simp | assumption)) (.none rfl) rfl ?_
    refine AO.val (RV.move rfl) (.none rfl) rfl ?_
    refine AO.val (by first | exact RV.indexS rfl rfl (by assumption) (by omega) rfl | exact RV.indexAddr rfl rfl (by omega)) (.none rfl) rfl ?_
    refine AO.val (RV.loadSA (enc := encK) rfl hl (fun _ => rfl) (by omega) (by simp)) (.none rfl) rfl ?_
    refine AO.eff (EF.alloc) (.none rfl) rfl ?_
    rintro _ _ ⟨b7, hf7, rfl, rfl⟩
    refine AO.effN (EF.storeO rfl rfl rfl rfl rfl rfl) (.none rfl) ?_
    rintro _ _ rfl
    refine AO.nil ?_
    refine AK.seq ?_
    refine AK.region ?_
    refine AO.val (RV.fieldAddr rfl) (.none rfl) rfl ?_
    refine AO.val (by first | exact RV.loadO rfl rfl (by first | simp | assumption) | exact RV.loadS rfl (by assumption) (by omega) (by first | simp | assumption)) (.none rfl) rfl ?_
    refine AO.val (RV.move rfl) (.none rfl) rfl ?_
    refine AO.val (RV.eql rfl rfl) (.none rfl) rfl ?_
    refine AO.val (RV.move rfl) (.none rfl) rfl ?_
    refine AO.caseG rfl rfl rfl ?_ ?_
    · intro hg2
      try simp only [decide_eq_true_eq, decide_eq_false_iff_not, Bool.not_eq_true', Bool.not_eq_false', beq_iff_eq] at hg2
      refine AO.val (RV.fieldAddr rfl) (.some rfl rfl rfl rfl) rfl ?_
      refine AO.val (by first | exact RV.loadO rfl rfl (by first | simp | assumption) | exact RV.loadS rfl (by assumption) (by omega) (by first | simp | assumption)) (.some rfl rfl rfl rfl) rfl ?_
      refine AO.val (RV.eql rfl rfl) (.some rfl rfl rfl rfl) rfl ?_
      refine AO.val (RV.pickT rfl rfl) (.none rfl) rfl ?_
      refine AO.val (RV.move rfl) (.none rfl) rfl ?_
      refine AO.caseG rfl rfl rfl ?_ ?_
      · intro hg3
        try simp only [decide_eq_true_eq, decide_eq_false_iff_not, Bool.not_eq_true', Bool.not_eq_false', beq_iff_eq] at hg3
        refine AO.val (RV.fieldAddr rfl) (.some rfl rfl rfl rfl) rfl ?_
        refine AO.val (by first | exact RV.loadO rfl rfl (by first | simp | assumption) | exact RV.loadS rfl (by assumption) (by omega) (by first | simp | assumption)) (.some rfl rfl rfl rfl) rfl ?_
        refine AO.val (RV.pickT rfl rfl) (.none rfl) rfl ?_
        refine AO.nil ?_
        refine AK.cond rfl ?_ ?_
        · intro hc4
          try simp only [decide_eq_true_eq, decide_eq_false_iff_not, Bool.not_eq_true', Bool.not_eq_false', beq_iff_eq] at hc4
          refine AK.region ?_
          refine AO.val (RV.move rfl) (.none rfl) rfl ?_
          refine AO.val (by first | exact RV.loadAggO rfl rfl (by first | simp | assumption) | exact RV.loadAggP rfl rfl rfl (by first | simp | assumption)) (.none rfl) rfl ?_
          refine AO.eff (EF.buildSlice rfl rfl rfl (.cons rfl rfl rfl rfl .nil)) (.none rfl) rfl ?_
          rintro _ _ ⟨b35, hf35, rfl, rfl⟩
          refine AO.eff (EF.appendS (n' := (out ++ [(lget l i)]).length) (ys := flat encK (out ++ [(lget l i)])) rfl rfl hro (Src.of_new (el := 43) (cs := encK (lget l i)) List.mem_cons_self 1 6 (Nat.le_refl _)) (by simp) (flat_snoc encK out _) rfl (by decide) rfl (by omega) (by omega)) (.none rfl) rfl ?_
          rintro _ _ ⟨A36, c36, p36, rfl, hr36, hc36, rfl⟩
          refine AO.val (RV.assign rfl) (.none rfl) rfl ?_
          refine AO.nil ?_
          refine AK.inBlock ?_
          refine AK.region ?_
          refine AO.val (RV.move rfl) (.none rfl) rfl ?_
          refine AO.val (by first | exact RV.addIn rfl rfl (by omega) | exact RV.add rfl rfl) (.none rfl) rfl ?_
          refine AO.val (RV.assign rfl) (.none rfl) rfl ?_
          refine AO.nil ?_
          -- round ends at L0TttT
          refine AK.weak (.cons (by exact rfl) (.cons (by exact rfl) (.cons (by exact rfl) (.cons (by exact rfl) .nil)))) (by exact List.Sublist.append_left (.cons _ (.cons _ (List.Sublist.refl _))) _) (hih0 (i + 1, A36, c36, p36, (out ++ [(lget l i)])) ?_ ?_)
          · try dsimp only
            refine ⟨by omega, by omega, by simp; omega, hr36, hc36, ?_⟩
            rw [filter_take _ l i hi0 (by omega), ← hou, if_pos (by simp [keepB, *])]
          · try dsimp only
            omega
        · intro hc4
          try simp only [decide_eq_true_eq, decide_eq_false_iff_not, Bool.not_eq_true', Bool.not_eq_false', beq_iff_eq] at hc4
          refine AK.skip ?_
          refine AK.inBlock ?_
          refine AK.region ?_
          refine AO.val (RV.move rfl) (.none rfl) rfl ?_
          refine AO.val (by first | exact RV.addIn rfl rfl (by omega) | exact RV.add rfl rfl) (.none rfl) rfl ?_
          refine AO.val (RV.assign rfl) (.none rfl) rfl ?_
          refine AO.nil ?_
          -- round ends at L0TttF
          refine AK.weak (.cons (by exact rfl) (.cons (by exact rfl) (.cons (by exact rfl) (.cons (by exact rfl) .nil)))) (by first | exact SubO.sub | exact .cons _ (List.Sublist.refl _) | exact List.Sublist.append_left (.cons _ (List.Sublist.refl _)) _) (hih0 (i + 1, Ao, co, po, out) ?_ ?_)
          · try dsimp only
            refine ⟨by omega, by omega, by omega, hro, hco, ?_⟩
            rw [filter_take _ l i hi0 (by omega), ← hou, if_neg (by simp [keepB, *]), List.append_nil]
          · try dsimp only
            omega
      · intro hg3
        try simp only [decide_eq_true_eq, decide_eq_false_iff_not, Bool.not_eq_true', Bool.not_eq_false', beq_iff_eq] at hg3
        refine AO.pass (.some rfl rfl rfl rfl) rfl ?_
        refine AO.pass (.some rfl rfl rfl rfl) rfl ?_
        refine AO.val (RV.pickF rfl rfl) (.none rfl) rfl ?_
        refine AO.nil ?_
        refine AK.condF rfl ?_
        refine AK.skip ?_
        refine AK.inBlock ?_
        refine AK.region ?_
        refine AO.val (RV.move rfl) (.none rfl) rfl ?_
        refine AO.val (by first | exact RV.addIn rfl rfl (by omega) | exact RV.add rfl rfl) (.none rfl) rfl ?_
        refine AO.val (RV.assign rfl) (.none rfl) rfl ?_
        refine AO.nil ?_
        -- round ends at L0Ttf
        refine AK.weak (.cons (by exact rfl) (.cons (by exact rfl) (.cons (by exact rfl) (.cons (by exact rfl) .nil)))) (by first | exact SubO.sub | exact .cons _ (List.Sublist.refl _) | exact List.Sublist.append_left (.cons _ (List.Sublist.refl _)) _) (hih0 (i + 1, Ao, co, po, out) ?_ ?_)
        · try dsimp only
          refine ⟨by omega, by omega, by omega, hro, hco, ?_⟩
          rw [filter_take _ l i hi0 (by omega), ← hou, if_neg (by simp [keepB, *]), List.append_nil]
        · try dsimp only
          omega
    · intro hg2
      try simp only [decide_eq_true_eq, decide_eq_false_iff_not, Bool.not_eq_true', Bool.not_eq_false', beq_iff_eq] at hg2
      refine AO.pass (.some rfl rfl rfl rfl) rfl ?_
      refine AO.pass (.some rfl rfl rfl rfl) rfl ?_
      refine AO.pass (.some rfl rfl rfl rfl) rfl ?_
      refine AO.val (RV.pickF rfl rfl) (.none rfl) rfl ?_
      refine AO.val (RV.move rfl) (.none rfl) rfl ?_
      refine AO.pass (.some rfl rfl rfl rfl) rfl ?_
      refine AO.pass (.some rfl rfl rfl rfl) rfl ?_
      refine AO.val (RV.pickF rfl rfl) (.none rfl) rfl ?_
      refine AO.nil ?_
      refine AK.condF rfl ?_
      refine AK.skip ?_
      refine AK.inBlock ?_
      refine AK.region ?_
      refine AO.val (RV.move rfl) (.none rfl) rfl ?_
      refine AO.val (by first | exact RV.addIn rfl rfl (by omega) | exact RV.add rfl rfl) (.none rfl) rfl ?_
      refine AO.val (RV.assign rfl) (.none rfl) rfl ?_
      refine AO.nil ?_
      -- round ends at L0Tf
      refine AK.weak (.cons (by exact rfl) (.cons (by exact rfl) (.cons (by exact rfl) (.cons (by exact rfl) .nil)))) (by first | exact SubO.sub | exact .cons _ (List.Sublist.refl _) | exact List.Sublist.append_left (.cons _ (List.Sublist.refl _)) _) (hih0 (i + 1, Ao, co, po, out) ?_ ?_)
      · try dsimp only
        refine ⟨by omega, by omega, by omega, hro, hco, ?_⟩
        rw [filter_take _ l i hi0 (by omega), ← hou, if_neg (by simp [keepB, *]), List.append_nil]
      · try dsimp only
        omega
  · intro hc1
    try simp only [decide_eq_true_eq, decide_eq_false_iff_not, Bool.not_eq_true', Bool.not_eq_false', beq_iff_eq] at hc1
    refine AK.exit rfl ?_
    refine AK.seq ?_
    refine AK.region ?_
    refine AO.val (RV.move rfl) (.none rfl) rfl ?_
    refine AO.val (RV.assign rfl) (.none rfl) rfl ?_
    refine AO.nil ?_
    -- at L0F
    clear hih0
    refine AK.ret (h' := po ++ h) Try.func23 (.tmp rfl .nil) ?_ (by exact List.Sublist.append_left (.cons _ (List.Sublist.refl _)) _)
    rw [List.take_of_length_le (by omega)] at hou
    subst hou
    exact ⟨Ao, co, po, rfl, hro, hco, rfl⟩

end Go.Proofs.Ytbdlohjmifgcaaa
