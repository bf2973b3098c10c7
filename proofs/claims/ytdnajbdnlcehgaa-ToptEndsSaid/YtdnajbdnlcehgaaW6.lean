/- Walks through the code: what each function that is named here gives back, from any memory that holds its arguments. Written by a program of the claim's author, out of the program's form in Lean. -/
import Derived.Test.YtdnajbdnlcehgaaW5
set_option linter.unusedSimpArgs false
set_option linter.unusedVariables false
namespace Go.Proofs.Ytdnajbdnlcehgaa
open Go.Sep Go.Sep.Sip Go.Sep.Topt Go.RowKit Go.WideShapes Go.ChangeShapes
theorem own_ : ownKnob Try.prog.godebug = none := by kernel_rfl
theorem laidOut_ : laidOutB Try.prog = true := by kernel_rfl

theorem OpIn.sub {B : World} {h0 h : Own} [s : SubO h0 h] {x : Opt} (o : OpIn B h0 x) : OpIn B h x := o.mono fun _ hx => s.sub.mem hx
theorem src_take {B : World} {h : Own} {A : Option Addr} {l : List Int} (hl : Src B h A l.length 1 (l.map (fun x => Value.int .u8 x))) (n : Nat) : Src B h A (l.take n).length 1 ((l.take n).map (fun x => Value.int .u8 x)) := by
  have := hl.take (min n l.length) (by omega)
  rw [Nat.mul_one, ← List.map_take] at this
  rw [List.length_take]
  rw [List.take_eq_take_min]; exact this
def cutO (x : Opt) : Opt := (x.1, ⟨x.2.1.A, x.2.1.cap, x.2.1.l.take 50⟩, ())
def fewO (xs : List Opt) : List Opt := (xs.take 20).map cutO
/-- an option that comes in, of any length -/
structure OpAny (B : World) (h : Own) (x : Opt) : Prop where
  kind : 0 ≤ x.1 ∧ x.1 ≤ 255
  src : Src B h x.2.1.A x.2.1.l.length 1 (x.2.1.l.map (fun x => Value.int .u8 x))
  cap : x.2.1.l.length ≤ x.2.1.cap
  byt : Bytes x.2.1.l
theorem OpAny.cut {B : World} {h : Own} {x : Opt} (o : OpAny B h x) : OpIn B h (cutO x) := ⟨o.kind, src_take o.src 50, by show (x.2.1.l.take 50).length ≤ _; rw [List.length_take]; have := o.cap; show _ ≤ x.2.1.cap; omega, bytes_take o.byt _, by show (x.2.1.l.take 50).length ≤ _; rw [List.length_take]; omega⟩
theorem few_in {B : World} {h : Own} {xs : List Opt} (hd : ∀ x ∈ xs, OpAny B h x) : ∀ x ∈ fewO xs, OpIn B h x := by
  intro x hx
  obtain ⟨y, hy, rfl⟩ := List.mem_map.1 hx
  exact (hd y (List.mem_of_mem_take hy)).cut
theorem flat_take2 (xs : List Opt) (n : Nat) : (flat encOpt xs).take (n * 2) = flat encOpt (xs.take n) := by
  induction xs generalizing n with
  | nil => simp [flat]
  | cons x r ih =>
    cases n with
    | zero => simp [flat]
    | succ n =>
      have e : (n + 1) * 2 = n * 2 + 1 + 1 := by omega
      simp only [flat, List.flatMap_cons, List.take_succ_cons, e] at ih ⊢
      rw [show encOpt x = [.int .u8 x.1, .slice x.2.1.A x.2.1.l.length x.2.1.cap] from rfl]
      simp only [List.cons_append, List.nil_append, List.take_succ_cons]
      rw [ih n]
theorem few_len (xs : List Opt) : (fewO xs).length ≤ 20 := by simp [fewO]; omega
theorem few_snoc (xs : List Opt) (i : Int) (h0 : 0 ≤ i) (h1 : i < xs.length) : (xs.take (i + 1).toNat).map cutO = (xs.take i.toNat).map cutO ++ [cutO (lget xs i)] := by
  obtain ⟨h2, e⟩ := lget_at ⟨h0, h1⟩
  rw [show (i + 1).toNat = i.toNat + 1 by omega, List.take_succ_eq_append_getElem h2, e, List.map_append]; rfl

theorem ofew_spec (B : World) (h : Own) {A : Option Addr} {cap : Nat} (xs : List Opt) (hl : Src B h A xs.length 2 (flat encOpt xs)) (hd : ∀ x ∈ xs, OpAny B h x) (hcap : xs.length ≤ cap) : Tri Try.prog B 6 [.slice A xs.length cap] h fun v h' => ∃ A c p, v = .slice A (fewO xs).length c ∧ Row 39 2 (.slice A (fewO xs).length c) (fewO xs).length (flat encOpt (fewO xs)) p ∧ (fewO xs).length ≤ c ∧ h' = p ++ h := by
  refine Tri.enter (n := 29) Try.func6 rfl rfl rfl ?_
  simp only [argsE, Nat.reduceAdd]
  try dsimp only [argsE]
  refine AK.seq ?_
  refine AK.region ?_
  refine AO.val (RV.assign rfl) (.none rfl) rfl ?_
  refine AO.nil ?_
  refine AK.seq ?_
  refine AK.region ?_
  refine AO.val (RV.assign rfl) (.none rfl) rfl ?_
  refine AO.nil ?_
  refine AK.seq ?_
  refine AK.seq ?_
  refine AK.region ?_
  refine AO.val (RV.assign rfl) (.none rfl) rfl ?_
  refine AO.nil ?_
  refine AK.block ?_
  refine AK.loop (α := Int × Option Addr × Nat × Own) (E := fun (i, A', c', p) => [(0, .slice A xs.length cap), (3, .slice A' ((xs.take i.toNat).map cutO).length c'), (4, .int .i64 i)]) (H := fun (i, A', c', p) => p ++ h) (Inv := fun (i, A', c', p) => 0 ≤ i ∧ i ≤ xs.length ∧ i ≤ 20 ∧ Row 39 2 (.slice A' ((xs.take i.toNat).map cutO).length c') ((xs.take i.toNat).map cutO).length (flat encOpt ((xs.take i.toNat).map cutO)) p ∧ ((xs.take i.toNat).map cutO).length ≤ c') (μ := fun (i, A', c', p) => (20 - i).toNat) (0, none, 0, []) ?_ (.cons (by exact rfl) (.cons (by exact rfl) (.cons (by exact rfl) .nil))) ?_ ?_
  · exact ⟨by omega, by omega, by omega, .nil, Nat.le_refl _⟩
  · exact (by first | exact SubO.sub | exact List.Sublist.refl _ | exact .cons _ (List.Sublist.refl _) | exact .cons _ (.cons _ (List.Sublist.refl _)) | exact .cons _ (.cons _ (.cons _ (List.Sublist.refl _))))
  rintro ⟨i, A', c', p⟩ ⟨hi0, hi1, hi2, hr, hc⟩ hih0
  try dsimp only at hih0 ⊢
  refine AK.seq ?_
  refine AK.seq ?_
  refine AK.region ?_
  refine AO.val (RV.move rfl) (.none rfl) rfl ?_
  refine AO.val (RV.move rfl) (.none rfl) rfl ?_
  refine AO.val (RV.lenS rfl) (.none rfl) rfl ?_
  refine AO.val (RV.lss rfl rfl) (.none rfl) rfl ?_
  refine AO.val (RV.move rfl) (.none rfl) rfl ?_
  refine AO.caseG rfl rfl rfl ?_ ?_
  · intro hg1
    try simp only [decide_eq_true_eq, decide_eq_false_iff_not, Bool.not_eq_true', Bool.not_eq_false', beq_iff_eq] at hg1
    refine AO.val (RV.move rfl) (.some rfl rfl rfl rfl) rfl ?_
    refine AO.val (RV.lss rfl rfl) (.some rfl rfl rfl rfl) rfl ?_
    refine AO.val (RV.pickT rfl rfl) (.none rfl) rfl ?_
    refine AO.nil ?_
    refine AK.cond rfl ?_ ?_
    · intro hc2
      try simp only [decide_eq_true_eq, decide_eq_false_iff_not, Bool.not_eq_true', Bool.not_eq_false', beq_iff_eq] at hc2
      have hm := lget_mem (l := xs) (i := i) (by omega)
      have hxo := hd _ hm
      have hsn := few_snoc xs i hi0 (by omega)
      have htl : ((xs.take i.toNat).map cutO).length = i.toNat := by simp; omega
      refine AK.skip ?_
      refine AK.seq ?_
      refine AK.block ?_
      refine AK.seq ?_
      refine AK.region ?_
      refine AO.val (RV.move rfl) (.none rfl) rfl ?_
      refine AO.val (RV.move rfl) (.none rfl) rfl ?_
      refine AO.val (by first | exact RV.indexS rfl rfl (by assumption) (by omega) rfl | exact RV.indexAddr rfl rfl (by omega)) (.none rfl) rfl ?_
      refine AO.val (RV.loadSA (enc := encOpt) rfl hl (fun _ => rfl) (by omega) (by simp)) (.none rfl) rfl ?_
      refine AO.eff (EF.alloc) (.none rfl) rfl ?_
      rintro _ _ ⟨b5, hf5, rfl, rfl⟩
      refine AO.effN (EF.storeO rfl rfl rfl rfl rfl rfl) (.none rfl) ?_
      rintro _ _ rfl
      refine AO.nil ?_
      refine AK.seq ?_
      refine AK.region ?_
      refine AO.val (RV.fieldAddr rfl) (.none rfl) rfl ?_
      refine AO.val (by first | exact RV.loadO rfl rfl (by first | simp | assumption) | exact RV.loadS rfl (by assumption) (by omega) (by first | simp | assumption)) (.none rfl) rfl ?_
      refine AO.eff (EF.callF rfl (few_spec B _ (lget xs i).2.1.l 50 (by omega) hxo.cap)) (.none rfl) rfl ?_
      rintro _ _ ⟨rfl, rfl⟩
      refine AO.val (RV.fieldAddr rfl) (.none rfl) rfl ?_
      refine AO.effN (EF.storeO rfl rfl rfl rfl rfl rfl) (.none rfl) ?_
      rintro _ _ rfl
      refine AO.nil ?_
      refine AK.region ?_
      refine AO.val (RV.move rfl) (.none rfl) rfl ?_
      refine AO.val (by first | exact RV.loadAggO rfl rfl (by first | simp | assumption) | exact RV.loadAggP rfl rfl rfl (by first | simp | assumption)) (.none rfl) rfl ?_
      refine AO.eff (EF.buildSlice rfl rfl rfl (.cons rfl rfl rfl rfl .nil)) (.none rfl) rfl ?_
      rintro _ _ ⟨b26, hf26, rfl, rfl⟩
      refine AO.eff (EF.appendS (n' := ((xs.take (i + 1).toNat).map cutO).length) (ys := flat encOpt ((xs.take (i + 1).toNat).map cutO)) rfl rfl hr (Src.of_new (el := 39) (cs := encOpt (cutO (lget xs i))) List.mem_cons_self 1 2 (Nat.le_refl _)) (by rw [hsn]; simp) (by rw [hsn]; exact flat_snoc encOpt _ _) rfl (by decide) rfl (by omega) (by omega)) (.none rfl) rfl ?_
      rintro _ _ ⟨A27, c27, p27, rfl, hr27, hc27, rfl⟩
      refine AO.val (RV.assign rfl) (.none rfl) rfl ?_
      refine AO.nil ?_
      refine AK.inBlock ?_
      refine AK.region ?_
      refine AO.val (RV.move rfl) (.none rfl) rfl ?_
      refine AO.val (by first | exact RV.addIn rfl rfl (by omega) | exact RV.add rfl rfl) (.none rfl) rfl ?_
      refine AO.val (RV.assign rfl) (.none rfl) rfl ?_
      refine AO.nil ?_
      -- round ends at L0tT
      refine AK.weak (.cons (by exact rfl) (.cons (by exact rfl) (.cons (by exact rfl) .nil))) (by exact List.Sublist.append_left (.cons _ (.cons _ (List.Sublist.refl _))) _) (hih0 (i + 1, A27, c27, p27) ?_ ?_)
      · try dsimp only
        exact ⟨by omega, by omega, by omega, hr27, hc27⟩
      · try dsimp only
        omega
    · intro hc2
      try simp only [decide_eq_true_eq, decide_eq_false_iff_not, Bool.not_eq_true', Bool.not_eq_false', beq_iff_eq] at hc2
      refine AK.exit rfl ?_
      refine AK.seq ?_
      refine AK.region ?_
      refine AO.val (RV.move rfl) (.none rfl) rfl ?_
      refine AO.val (RV.assign rfl) (.none rfl) rfl ?_
      refine AO.nil ?_
      -- at L0tF
      clear hih0
      have hfw : ((xs.take i.toNat).map cutO) = fewO xs := by
        unfold fewO
        congr 1
        rcases Nat.lt_or_ge xs.length 20 with h20 | h20
        · rw [List.take_of_length_le (by omega), List.take_of_length_le (by omega)]
        · congr 1; omega
      rw [hfw] at hr hc ⊢
      refine AK.ret (h' := p ++ h) Try.func6 (.tmp rfl .nil) ?_ (by exact SubO.sub)
      exact ⟨A', c', p, rfl, hr, hc, rfl⟩
  · intro hg1
    try simp only [decide_eq_true_eq, decide_eq_false_iff_not, Bool.not_eq_true', Bool.not_eq_false', beq_iff_eq] at hg1
    refine AO.pass (.some rfl rfl rfl rfl) rfl ?_
    refine AO.pass (.some rfl rfl rfl rfl) rfl ?_
    refine AO.val (RV.pickF rfl rfl) (.none rfl) rfl ?_
    refine AO.nil ?_
    refine AK.condF rfl ?_
    refine AK.exit rfl ?_
    refine AK.seq ?_
    refine AK.region ?_
    refine AO.val (RV.move rfl) (.none rfl) rfl ?_
    refine AO.val (RV.assign rfl) (.none rfl) rfl ?_
    refine AO.nil ?_
    -- at L0f
    clear hih0
    have hfw : ((xs.take i.toNat).map cutO) = fewO xs := by
      unfold fewO
      congr 1
      rcases Nat.lt_or_ge xs.length 20 with h20 | h20
      · rw [List.take_of_length_le (by omega), List.take_of_length_le (by omega)]
      · congr 1; omega
    rw [hfw] at hr hc ⊢
    refine AK.ret (h' := p ++ h) Try.func6 (.tmp rfl .nil) ?_ (by exact SubO.sub)
    exact ⟨A', c', p, rfl, hr, hc, rfl⟩

theorem osame10_spec (B : World) (h : Own) {A A2 : Option Addr} {cap cap2 : Nat} (xs ys : List Opt) (hx : Src B h A xs.length 2 (flat encOpt xs)) (hy : Src B h A2 ys.length 2 (flat encOpt ys)) (hdx : ∀ x ∈ xs, OpIn B h x) (hdy : ∀ x ∈ ys, OpIn B h x) (hln : xs.length ≤ 100000) : Tri Try.prog B 14 [.slice A xs.length cap, .slice A2 ys.length cap2] h fun v h' => h = h' ∧ ∃ b, v = .bool b ∧ (b = true ↔ xs.map prO = ys.map prO) := by
  refine Tri.enter (n := 42) Try.func14 rfl rfl rfl ?_
  simp only [argsE, Nat.reduceAdd]
  try dsimp only [argsE]
  refine AK.seq ?_
  refine AK.region ?_
  refine AO.val (RV.assign rfl) (.none rfl) rfl ?_
  refine AO.nil ?_
  refine AK.seq ?_
  refine AK.seq ?_
  refine AK.region ?_
  refine AO.val (RV.move rfl) (.none rfl) rfl ?_
  refine AO.val (RV.lenS rfl) (.none rfl) rfl ?_
  refine AO.val (RV.move rfl) (.none rfl) rfl ?_
  refine AO.val (RV.lenS rfl) (.none rfl) rfl ?_
  refine AO.val (RV.neq rfl rfl) (.none rfl) rfl ?_
  refine AO.nil ?_
  refine AK.cond rfl ?_ ?_
  · intro hc1
    try simp only [decide_eq_true_eq, decide_eq_false_iff_not, Bool.not_eq_true', Bool.not_eq_false', beq_iff_eq] at hc1
    refine AK.seq ?_
    refine AK.region ?_
    refine AO.val (RV.assign rfl) (.none rfl) rfl ?_
    refine AO.nil ?_
    -- at T
    refine AK.ret (h' := h) Try.func14 (.tmp rfl .nil) ?_ (by first | exact SubO.sub | exact List.Sublist.refl _ | exact .cons _ (List.Sublist.refl _) | exact .cons _ (.cons _ (List.Sublist.refl _)) | exact .cons _ (.cons _ (.cons _ (List.Sublist.refl _))))
    refine ⟨rfl, _, rfl, ?_⟩
    simp only [Bool.false_eq_true, false_iff]
    intro e
    have := congrArg List.length e
    simp at this; omega
  · intro hc1
    try simp only [decide_eq_true_eq, decide_eq_false_iff_not, Bool.not_eq_true', Bool.not_eq_false', beq_iff_eq] at hc1
    refine AK.skip ?_
    refine AK.seq ?_
    refine AK.seq ?_
    refine AK.region ?_
    refine AO.val (RV.assign rfl) (.none rfl) rfl ?_
    refine AO.nil ?_
    refine AK.block ?_
    refine AK.loop (α := Int) (E := fun i => [(0, .slice A xs.length cap), (1, .slice A2 ys.length cap2), (5, .int .i64 i)]) (H := fun i => h) (Inv := fun i => 0 ≤ i ∧ i ≤ xs.length ∧ ∀ j : Int, 0 ≤ j → j < i → prO (lget xs j) = prO (lget ys j)) (μ := fun i => (xs.length - i).toNat) 0 ?_ (.cons (by exact rfl) (.cons (by exact rfl) (.cons (by exact rfl) .nil))) ?_ ?_
    · exact ⟨by omega, by omega, fun j h1 h2 => by omega⟩
    · exact (by first | exact SubO.sub | exact List.Sublist.refl _ | exact .cons _ (List.Sublist.refl _) | exact .cons _ (.cons _ (List.Sublist.refl _)) | exact .cons _ (.cons _ (.cons _ (List.Sublist.refl _))))
    rintro i ⟨hi0, hi1, hall⟩ hih0
    try dsimp only at hih0 ⊢
    refine AK.seq ?_
    refine AK.seq ?_
    refine AK.region ?_
    refine AO.val (RV.move rfl) (.none rfl) rfl ?_
    refine AO.val (RV.move rfl) (.none rfl) rfl ?_
    refine AO.val (RV.lenS rfl) (.none rfl) rfl ?_
    refine AO.val (RV.lss rfl rfl) (.none rfl) rfl ?_
    refine AO.nil ?_
    refine AK.cond rfl ?_ ?_
    · intro hc2
      try simp only [decide_eq_true_eq, decide_eq_false_iff_not, Bool.not_eq_true', Bool.not_eq_false', beq_iff_eq] at hc2
      have hmx := hdx _ (lget_mem (l := xs) (i := i) (by omega))
      have hmy := hdy _ (lget_mem (l := ys) (i := i) (by omega))
      have hfx := hmx.few
      refine AK.skip ?_
      refine AK.seq ?_
      refine AK.block ?_
      refine AK.seq ?_
      refine AK.draw [] [] mixed ?_
      refine AD.takeP 0 rfl (by kernel_rfl) (RV.move rfl) (.none rfl) rfl ?_
      refine AD.takeP 1 rfl (by kernel_rfl) (RV.move rfl) (.none rfl) rfl ?_
      refine AD.takeP 2 rfl (by kernel_rfl) (by first | exact RV.indexS rfl rfl (by assumption) (by omega) rfl | exact RV.indexAddr rfl rfl (by omega)) (.none rfl) rfl ?_
      refine AD.takeP 3 rfl (by kernel_rfl) (by first | exact RV.fieldAddr rfl | exact RV.fieldAddrA rfl) (.none rfl) rfl ?_
      refine AD.take 4 rfl (by kernel_rfl) (RV.loadSF (enc := encOpt) (l := xs) (fo := 0) rfl hx (fun _ => rfl) (by omega) rfl rfl (by simp)) (.none rfl) rfl ?_
      refine AD.takeP 5 rfl (by kernel_rfl) (RV.move rfl) (.none rfl) rfl ?_
      refine AD.takeP 6 rfl (by kernel_rfl) (RV.move rfl) (.none rfl) rfl ?_
      refine AD.takeP 7 rfl (by kernel_rfl) (by first | exact RV.indexS rfl rfl (by assumption) (by omega) rfl | exact RV.indexAddr rfl rfl (by omega)) (.none rfl) rfl ?_
      refine AD.takeP 8 rfl (by kernel_rfl) (by first | exact RV.fieldAddr rfl | exact RV.fieldAddrA rfl) (.none rfl) rfl ?_
      refine AD.take 9 rfl (by kernel_rfl) (RV.loadSF (enc := encOpt) (l := ys) (fo := 0) rfl hy (fun _ => rfl) (by omega) rfl rfl (by simp)) (.none rfl) rfl ?_
      refine AD.takeP 10 rfl (by kernel_rfl) (RV.neq rfl rfl) (.none rfl) rfl ?_
      refine AD.takeP 11 rfl (by kernel_rfl) (RV.move rfl) (.none rfl) rfl ?_
      refine AD.caseG (d := 28) (j := 11) rfl rfl ?_ ?_
      · intro hg3
        try simp only [decide_eq_true_eq, decide_eq_false_iff_not, Bool.not_eq_true', Bool.not_eq_false', beq_iff_eq] at hg3
        refine AD.pass 12 rfl (by kernel_rfl) (.some rfl rfl rfl rfl) rfl ?_
        refine AD.pass 13 rfl (by kernel_rfl) (.some rfl rfl rfl rfl) rfl ?_
        refine AD.pass 14 rfl (by kernel_rfl) (.some rfl rfl rfl rfl) rfl ?_
        refine AD.pass 15 rfl (by kernel_rfl) (.some rfl rfl rfl rfl) rfl ?_
        refine AD.pass 16 rfl (by kernel_rfl) (.some rfl rfl rfl rfl) rfl ?_
        refine AD.pass 17 rfl (by kernel_rfl) (.some rfl rfl rfl rfl) rfl ?_
        refine AD.pass 18 rfl (by kernel_rfl) (.some rfl rfl rfl rfl) rfl ?_
        refine AD.pass 19 rfl (by kernel_rfl) (.some rfl rfl rfl rfl) rfl ?_
        refine AD.pass 20 rfl (by kernel_rfl) (.some rfl rfl rfl rfl) rfl ?_
        refine AD.pass 21 rfl (by kernel_rfl) (.some rfl rfl rfl rfl) rfl ?_
        refine AD.pass 22 rfl (by kernel_rfl) (.some rfl rfl rfl rfl) rfl ?_
        refine AD.pass 23 rfl (by kernel_rfl) (.some rfl rfl rfl rfl) rfl ?_
        refine AD.takeP 24 rfl (by kernel_rfl) (RV.pickT rfl rfl) (.none rfl) rfl ?_
        refine AD.done (by kernel_rfl) ?_
        refine AK.condT rfl ?_
        refine AK.seq ?_
        refine AK.region ?_
        refine AO.val (RV.assign rfl) (.none rfl) rfl ?_
        refine AO.nil ?_
        -- at FL0Tt
        clear hih0
        refine AK.ret (h' := h) Try.func14 (.tmp rfl .nil) ?_ (by first | exact SubO.sub | exact List.Sublist.refl _ | exact .cons _ (List.Sublist.refl _) | exact .cons _ (.cons _ (List.Sublist.refl _)) | exact .cons _ (.cons _ (.cons _ (List.Sublist.refl _))))
        refine ⟨rfl, _, rfl, ?_⟩
        simp only [Bool.false_eq_true, false_iff]
        intro e
        have h3 : prO (lget xs i) = prO (lget ys i) := by
          have h4 := prO_lget (xs := xs) (i := i) (by omega)
          have h5 := prO_lget (xs := ys) (i := i) (by omega)
          rw [e, h5] at h4
          injection h4 with h6 h7; exact h6.symm
        simp only [prO, Prod.mk.injEq] at h3
        first | (exact absurd h3.1 (by assumption)) | (have := hS.2 h3.2; simp_all)
      · intro hg3
        try simp only [decide_eq_true_eq, decide_eq_false_iff_not, Bool.not_eq_true', Bool.not_eq_false', beq_iff_eq] at hg3
        refine AD.takeP 12 rfl (by kernel_rfl) (RV.move rfl) (.some rfl rfl rfl rfl) rfl ?_
        refine AD.takeP 13 rfl (by kernel_rfl) (RV.move rfl) (.some rfl rfl rfl rfl) rfl ?_
        refine AD.takeP 14 rfl (by kernel_rfl) (by first | exact RV.indexS rfl rfl (by assumption) (by omega) rfl | exact RV.indexAddr rfl rfl (by omega)) (.some rfl rfl rfl rfl) rfl ?_
        refine AD.takeP 15 rfl (by kernel_rfl) (by first | exact RV.fieldAddr rfl | exact RV.fieldAddrA rfl) (.some rfl rfl rfl rfl) rfl ?_
        refine AD.take 16 rfl (by kernel_rfl) (RV.loadSF (enc := encOpt) (l := xs) (fo := 1) rfl hx (fun _ => rfl) (by omega) rfl rfl (by simp)) (.some rfl rfl rfl rfl) rfl ?_
        refine AD.takeP 17 rfl (by kernel_rfl) (RV.move rfl) (.some rfl rfl rfl rfl) rfl ?_
        refine AD.takeP 18 rfl (by kernel_rfl) (RV.move rfl) (.some rfl rfl rfl rfl) rfl ?_
        refine AD.takeP 19 rfl (by kernel_rfl) (by first | exact RV.indexS rfl rfl (by assumption) (by omega) rfl | exact RV.indexAddr rfl rfl (by omega)) (.some rfl rfl rfl rfl) rfl ?_
        refine AD.takeP 20 rfl (by kernel_rfl) (by first | exact RV.fieldAddr rfl | exact RV.fieldAddrA rfl) (.some rfl rfl rfl rfl) rfl ?_
        refine AD.take 21 rfl (by kernel_rfl) (RV.loadSF (enc := encOpt) (l := ys) (fo := 1) rfl hy (fun _ => rfl) (by omega) rfl rfl (by simp)) (.some rfl rfl rfl rfl) rfl ?_
        refine AD.one 22 (by kernel_rfl) (AE.eff rfl (EF.callF rfl (same_spec (cap := (lget xs i).2.1.cap) (cap2 := (lget ys i).2.1.cap) B _ (lget xs i).2.1.l (lget ys i).2.1.l hmx.src.sub hmy.src.sub (by omega))) (.some rfl rfl rfl rfl) rfl ?_)
        rintro _ _ ⟨rfl, bS, rfl, hS⟩
        refine ⟨(by first | exact .inr fun x hx hM => hx | exact .inr fun x hx hM => List.mem_cons_of_mem _ hx | exact .inr fun x hx hM => List.mem_append_right _ hx), ?_⟩
        refine AD.takeP 23 rfl (by kernel_rfl) (RV.not rfl) (.some rfl rfl rfl rfl) rfl ?_
        refine AD.takeP 24 rfl (by kernel_rfl) (RV.pickF rfl rfl) (.none rfl) rfl ?_
        refine AD.done (by kernel_rfl) ?_
        refine AK.cond rfl ?_ ?_
        · intro hc4
          try simp only [decide_eq_true_eq, decide_eq_false_iff_not, Bool.not_eq_true', Bool.not_eq_false', beq_iff_eq] at hc4
          refine AK.seq ?_
          refine AK.region ?_
          refine AO.val (RV.assign rfl) (.none rfl) rfl ?_
          refine AO.nil ?_
          -- at FL0TfT
          clear hih0
          refine AK.ret (h' := h) Try.func14 (.tmp rfl .nil) ?_ (by first | exact SubO.sub | exact List.Sublist.refl _ | exact .cons _ (List.Sublist.refl _) | exact .cons _ (.cons _ (List.Sublist.refl _)) | exact .cons _ (.cons _ (.cons _ (List.Sublist.refl _))))
          refine ⟨rfl, _, rfl, ?_⟩
          simp only [Bool.false_eq_true, false_iff]
          intro e
          have h3 : prO (lget xs i) = prO (lget ys i) := by
            have h4 := prO_lget (xs := xs) (i := i) (by omega)
            have h5 := prO_lget (xs := ys) (i := i) (by omega)
            rw [e, h5] at h4
            injection h4 with h6 h7; exact h6.symm
          simp only [prO, Prod.mk.injEq] at h3
          first | (exact absurd h3.1 (by assumption)) | (have := hS.2 h3.2; simp_all)
        · intro hc4
          try simp only [decide_eq_true_eq, decide_eq_false_iff_not, Bool.not_eq_true', Bool.not_eq_false', beq_iff_eq] at hc4
          refine AK.skip ?_
          refine AK.inBlock ?_
          refine AK.region ?_
          refine AO.val (RV.move rfl) (.none rfl) rfl ?_
          refine AO.val (by first | exact RV.addIn rfl rfl (by omega) | exact RV.add rfl rfl) (.none rfl) rfl ?_
          refine AO.val (RV.assign rfl) (.none rfl) rfl ?_
          refine AO.nil ?_
          -- round ends at FL0TfF
          have hS3 := hS.1 (by simp_all)
          have hS4 : (lget xs i).1 = (lget ys i).1 := by simp_all
          refine AK.weak (.cons (by exact rfl) (.cons (by exact rfl) (.cons (by exact rfl) .nil))) (by first | exact SubO.sub | exact List.Sublist.refl _ | exact .cons _ (List.Sublist.refl _) | exact .cons _ (.cons _ (List.Sublist.refl _)) | exact .cons _ (.cons _ (.cons _ (List.Sublist.refl _)))) (hih0 (i + 1) ?_ ?_)
          · try dsimp only
            refine ⟨by omega, by omega, fun j h1 h2 => ?_⟩
            by_cases hj : j = i
            · subst hj; simp only [prO, hS3, hS4]
            · exact hall j h1 (by omega)
          · try dsimp only
            omega
    · intro hc2
      try simp only [decide_eq_true_eq, decide_eq_false_iff_not, Bool.not_eq_true', Bool.not_eq_false', beq_iff_eq] at hc2
      refine AK.exit rfl ?_
      refine AK.seq ?_
      refine AK.region ?_
      refine AO.val (RV.assign rfl) (.none rfl) rfl ?_
      refine AO.nil ?_
      -- at FL0F
      clear hih0
      refine AK.ret (h' := h) Try.func14 (.tmp rfl .nil) ?_ (by first | exact SubO.sub | exact List.Sublist.refl _ | exact .cons _ (List.Sublist.refl _) | exact .cons _ (.cons _ (List.Sublist.refl _)) | exact .cons _ (.cons _ (.cons _ (List.Sublist.refl _))))
      refine ⟨rfl, _, rfl, ?_⟩
      simp only [true_iff]
      refine List.ext_getElem (by simp; omega) fun j h1 h2 => ?_
      rw [List.length_map] at h1 h2
      have := hall j (by omega) (by omega)
      simpa [lget, List.getD, h1, h2] using this

end Go.Proofs.Ytdnajbdnlcehgaa
