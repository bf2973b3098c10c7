/- Walks through the code: what each function that is named here gives back, from any memory that holds its arguments. Written by a program of the claim's author, out of the program's form in Lean. -/
import Derived.Test.YtagfegkpgdaimaaS01R3
import Derived.Test.YtagfegkpgdaimaaPlain10
import Derived.Test.YtagfegkpgdaimaaSep12
set_option linter.unusedSimpArgs false
set_option linter.unusedVariables false
namespace Go.Proofs.Ytagfegkpgdaimaa
open Go.Sep Go.Sep.Sip Go.Sep.Topt
/-- an option in memory: its bytes can be read -/
structure OpIn (B : World) (h : Own) (x : Opt) : Prop where
  kind : 0 ≤ x.1 ∧ x.1 ≤ 255
  src : Src B h x.2.1.A x.2.1.l.length 1 (x.2.1.l.map (fun x => Value.int .u8 x))
  cap : x.2.1.l.length ≤ x.2.1.cap
  byt : Bytes x.2.1.l
  few : x.2.1.l.length ≤ 100000
theorem OpIn.mono {B : World} {h h' : Own} {x : Opt} (o : OpIn B h x) (hs : ∀ y ∈ h, y ∈ h') : OpIn B h' x := ⟨o.kind, o.src.mono hs, o.cap, o.byt, o.few⟩
/-- a row of options of its own: p holds the row, q the bytes -/
structure NewO (t : Nat) (B : World) (h : Own) (A : Option Addr) (c : Nat) (p q : Own) (xs : List Opt) : Prop where
  row : Row t 2 (.slice A xs.length c) xs.length (flat encOpt xs) p
  cap : xs.length ≤ c
  dat : ∀ x ∈ xs, OpIn B (q ++ h) x
theorem NewO.nil {t : Nat} {B : World} {h : Own} : NewO t B h none 0 [] [] [] := ⟨.nil, Nat.le_refl _, fun x hx => by simp at hx⟩
theorem NewO.snoc {t : Nat} {B : World} {h : Own} {A A1 : Option Addr} {c c1 : Nat} {p p1 q d : Own} {xs : List Opt} {x : Opt} (n : NewO t B h A c p q xs) (hr : Row t 2 (.slice A1 (xs ++ [x]).length c1) (xs ++ [x]).length (flat encOpt (xs ++ [x])) p1) (hc : (xs ++ [x]).length ≤ c1) (hx : OpIn B (d ++ (q ++ h)) x) :
    NewO t B h A1 c1 p1 (d ++ q) (xs ++ [x]) := ⟨hr, hc, fun y hy => by
  rw [List.append_assoc]
  rcases List.mem_append.1 hy with hy | hy
  · exact (n.dat y hy).mono fun z hz => List.mem_append_right _ hz
  · rw [List.mem_singleton.1 hy]; exact hx⟩
theorem NewO.src {t : Nat} {B : World} {h H : Own} {A : Option Addr} {c : Nat} {p q : Own} {xs : List Opt} (n : NewO t B h A c p q xs) (hs : ∀ x ∈ p, x ∈ H) : Src B H A xs.length 2 (flat encOpt xs) := n.row.src hs
theorem lget_mem {α : Type} [Inhabited α] {l : List α} {i : Int} (h : 0 ≤ i ∧ i < l.length) : lget l i ∈ l := by
  obtain ⟨h2, e⟩ := lget_at h
  rw [e]; exact List.getElem_mem h2
theorem prO_lget {xs : List Opt} {i : Int} (h : 0 ≤ i ∧ i < xs.length) : (xs.map prO).drop i.toNat = prO (lget xs i) :: (xs.map prO).drop (i + 1).toNat := by
  rw [← List.map_drop, drop_at h.1 h.2, List.map_cons, List.map_drop]

theorem one_spec (B : World) (h : Own) {A : Option Addr} {cap : Nat} (l : List Int) (hl : Src B h A l.length 1 (l.map (fun x => Value.int .u8 x))) (hb : Bytes l) (hcap : l.length ≤ cap) (hln : l.length ≤ 100000) (h0 : 0 < (l.length : Int)) : Tri Try.prog B 55 [.slice A l.length cap] h fun v h' => ∃ A' c' p A2 c2, v = .tuple #[.agg #[.int .u8 (oneS l).1.1, .slice A' (oneS l).1.2.length c'], .slice A2 (oneS l).2.1.length c2, .int .i64 (oneS l).2.2] ∧ h' = p ++ h ∧ Row 5 1 (.slice A' (oneS l).1.2.length c') (oneS l).1.2.length ((oneS l).1.2.map (fun x => Value.int .u8 x)) p ∧ (oneS l).1.2.length ≤ c' ∧ (∀ h0 : Own, Src B h0 A l.length 1 (l.map (fun x => Value.int .u8 x)) → Src B h0 A2 (oneS l).2.1.length 1 ((oneS l).2.1.map (fun x => Value.int .u8 x))) ∧ (oneS l).2.1.length ≤ c2 := by
  have hx0 := lget_bytes hb 0 (by omega) h0
  refine Tri.enter (n := 55) Try.func55 rfl rfl rfl ?_
  simp only [argsE, Nat.reduceAdd]
  try dsimp only [argsE]
  refine AK.seq ?_
  refine AK.region ?_
  refine AO.eff (EF.alloc) (.none rfl) rfl ?_
  rintro _ _ ⟨b2, hf2, rfl, rfl⟩
  refine AO.val (RV.assign rfl) (.none rfl) rfl ?_
  refine AO.val (RV.assign rfl) (.none rfl) rfl ?_
  refine AO.nil ?_
  refine AK.seq ?_
  refine AK.block ?_
  refine AK.seq ?_
  refine AK.region ?_
  refine AO.val (RV.move rfl) (.none rfl) rfl ?_
  refine AO.val (by first | exact RV.indexS rfl rfl (by assumption) (by omega) rfl | exact RV.indexAddr rfl rfl (by omega)) (.none rfl) rfl ?_
  refine AO.val (RV.loadS (enc := Value.int .u8) (l := l) (i := 0) rfl (by assumption) (by omega) (by simp)) (.none rfl) rfl ?_
  refine AO.val (RV.eql rfl rfl) (.none rfl) rfl ?_
  refine AO.val (RV.assign rfl) (.none rfl) rfl ?_
  refine AO.nil ?_
  refine AK.cond rfl ?_ ?_
  · intro hc1
    try simp only [decide_eq_true_eq, decide_eq_false_iff_not, Bool.not_eq_true', Bool.not_eq_false', beq_iff_eq] at hc1
    have hdl : (l.drop ((1 : Int)).toNat).length = ((l.length : Int) - ((1 : Int))).toNat := by rw [List.length_drop]; omega
    have hds : ∀ h0 : Own, Src B h0 A l.length 1 (l.map (fun x => Value.int .u8 x)) → Src B h0 (if (cap : Int) = (1 : Int) then A else cutA A ((1 : Int)).toNat) (l.drop ((1 : Int)).toNat).length 1 ((l.drop ((1 : Int)).toNat).map (fun x => Value.int .u8 x)) := fun h0 hl0 => by
      have hds := hl0.drop (cap := cap) ((1 : Int)) (by omega) hcap
      rw [Nat.mul_one, ← List.map_drop] at hds
      rw [← hdl] at hds
      exact hds
    have hdc : (l.drop ((1 : Int)).toNat).length ≤ ((cap : Int) - ((1 : Int))).toNat := by omega
    refine AK.seq ?_
    refine AK.draw [] [3] mixed ?_
    refine AD.takeP 0 rfl (by kernel_rfl) (RV.build rfl (.cons rfl rfl rfl rfl .nil)) (.none rfl) rfl ?_
    refine AD.takeP 1 rfl (by kernel_rfl) (RV.move rfl) (.none rfl) rfl ?_
    refine AD.takeP 2 rfl (by kernel_rfl) ((RV.sliceL rfl rfl (by omega) (by omega)).to (v' := .slice (if (cap : Int) = 1 then A else cutA A (1 : Int).toNat) (l.drop (1 : Int).toNat).length ((cap : Int) - 1).toNat) (by rw [hdl, Nat.mul_one])) (.none rfl) rfl ?_
    refine AD.one 3 (by kernel_rfl) (AE.effN rfl (EF.storeO rfl rfl rfl rfl rfl rfl) (.none rfl) ?_)
    rintro _ _ rfl
    refine ⟨.inl (by kernel_rfl), ?_⟩
    refine AD.takeP 4 rfl (by kernel_rfl) (RV.assign rfl) (.none rfl) rfl ?_
    refine AD.takeP 5 rfl (by kernel_rfl) (RV.assign rfl) (.none rfl) rfl ?_
    refine AD.done (by kernel_rfl) ?_
    -- at T
    refine AK.ret (h' := h) Try.func55 (.aggO rfl rfl (.tmp rfl (.tmp rfl .nil))) ?_ (by exact SubO.sub)
    have hone : oneS l = ((1, []), l.drop 1, 0) := by unfold oneS; rw [if_pos (by assumption)]
    rw [hone]
    exact ⟨none, 0, [], _, _, rfl, rfl, .nil, Nat.le_refl _, hds, hdc⟩
  · intro hc1
    try simp only [decide_eq_true_eq, decide_eq_false_iff_not, Bool.not_eq_true', Bool.not_eq_false', beq_iff_eq] at hc1
    refine AK.seq ?_
    refine AK.region ?_
    refine AO.val (RV.move rfl) (.none rfl) rfl ?_
    refine AO.val (RV.lenS rfl) (.none rfl) rfl ?_
    refine AO.val (RV.lss rfl rfl) (.none rfl) rfl ?_
    refine AO.val (RV.assign rfl) (.none rfl) rfl ?_
    refine AO.nil ?_
    refine AK.cond rfl ?_ ?_
    · intro hc2
      try simp only [decide_eq_true_eq, decide_eq_false_iff_not, Bool.not_eq_true', Bool.not_eq_false', beq_iff_eq] at hc2
      refine AK.seq ?_
      refine AK.region ?_
      refine AO.val (RV.build rfl .nil) (.none rfl) rfl ?_
      refine AO.effN (EF.storeO rfl rfl rfl rfl rfl rfl) (.none rfl) ?_
      rintro _ _ rfl
      refine AO.val (RV.assign rfl) (.none rfl) rfl ?_
      refine AO.val (RV.assign rfl) (.none rfl) rfl ?_
      refine AO.nil ?_
      -- at FT
      refine AK.ret (h' := h) Try.func55 (.aggO rfl rfl (.tmp rfl (.tmp rfl .nil))) ?_ (by exact SubO.sub)
      have hone : oneS l = ((0, []), [], 4) := by unfold oneS; rw [if_neg (by assumption), if_pos (by omega)]
      rw [hone]
      exact ⟨none, 0, [], none, 0, rfl, rfl, .nil, Nat.le_refl _, fun h0 _ => ⟨rfl, by simp⟩, Nat.le_refl _⟩
    · intro hc2
      try simp only [decide_eq_true_eq, decide_eq_false_iff_not, Bool.not_eq_true', Bool.not_eq_false', beq_iff_eq] at hc2
      have hx1 := lget_bytes hb 1 (by omega) (by omega)
      refine AK.seq ?_
      refine AK.region ?_
      refine AO.val (RV.move rfl) (.none rfl) rfl ?_
      refine AO.val (by first | exact RV.indexS rfl rfl (by assumption) (by omega) rfl | exact RV.indexAddr rfl rfl (by omega)) (.none rfl) rfl ?_
      refine AO.val (RV.loadS (enc := Value.int .u8) (l := l) (i := 1) rfl (by assumption) (by omega) (by simp)) (.none rfl) rfl ?_
      refine AO.val (RV.lss rfl rfl) (.none rfl) rfl ?_
      refine AO.val (RV.assign rfl) (.none rfl) rfl ?_
      refine AO.nil ?_
      refine AK.cond rfl ?_ ?_
      · intro hc3
        try simp only [decide_eq_true_eq, decide_eq_false_iff_not, Bool.not_eq_true', Bool.not_eq_false', beq_iff_eq] at hc3
        refine AK.seq ?_
        refine AK.region ?_
        refine AO.val (RV.build rfl .nil) (.none rfl) rfl ?_
        refine AO.effN (EF.storeO rfl rfl rfl rfl rfl rfl) (.none rfl) ?_
        rintro _ _ rfl
        refine AO.val (RV.assign rfl) (.none rfl) rfl ?_
        refine AO.val (RV.assign rfl) (.none rfl) rfl ?_
        refine AO.nil ?_
        -- at FFT
        refine AK.ret (h' := h) Try.func55 (.aggO rfl rfl (.tmp rfl (.tmp rfl .nil))) ?_ (by exact SubO.sub)
        have hone : oneS l = ((0, []), [], 3) := by unfold oneS; rw [if_neg (by assumption), if_neg (by omega), if_pos (by assumption)]
        rw [hone]
        exact ⟨none, 0, [], none, 0, rfl, rfl, .nil, Nat.le_refl _, fun h0 _ => ⟨rfl, by simp⟩, Nat.le_refl _⟩
      · intro hc3
        try simp only [decide_eq_true_eq, decide_eq_false_iff_not, Bool.not_eq_true', Bool.not_eq_false', beq_iff_eq] at hc3
        refine AK.seq ?_
        refine AK.region ?_
        refine AO.val (RV.move rfl) (.none rfl) rfl ?_
        refine AO.val (by first | exact RV.indexS rfl rfl (by assumption) (by omega) rfl | exact RV.indexAddr rfl rfl (by omega)) (.none rfl) rfl ?_
        refine AO.val (RV.loadS (enc := Value.int .u8) (l := l) (i := 1) rfl (by assumption) (by omega) (by simp)) (.none rfl) rfl ?_
        refine AO.val (RV.convIn rfl (by simp only [kb]; omega)) (.none rfl) rfl ?_
        refine AO.val (RV.move rfl) (.none rfl) rfl ?_
        refine AO.val (RV.lenS rfl) (.none rfl) rfl ?_
        refine AO.val (RV.gtr rfl rfl) (.none rfl) rfl ?_
        refine AO.val (RV.assign rfl) (.none rfl) rfl ?_
        refine AO.nil ?_
        refine AK.cond rfl ?_ ?_
        · intro hc4
          try simp only [decide_eq_true_eq, decide_eq_false_iff_not, Bool.not_eq_true', Bool.not_eq_false', beq_iff_eq] at hc4
          refine AK.seq ?_
          refine AK.region ?_
          refine AO.val (RV.build rfl .nil) (.none rfl) rfl ?_
          refine AO.effN (EF.storeO rfl rfl rfl rfl rfl rfl) (.none rfl) ?_
          rintro _ _ rfl
          refine AO.val (RV.assign rfl) (.none rfl) rfl ?_
          refine AO.val (RV.assign rfl) (.none rfl) rfl ?_
          refine AO.nil ?_
          -- at FFFT
          refine AK.ret (h' := h) Try.func55 (.aggO rfl rfl (.tmp rfl (.tmp rfl .nil))) ?_ (by exact SubO.sub)
          have hone : oneS l = ((0, []), [], 4) := by unfold oneS; rw [if_neg (by assumption), if_neg (by omega), if_neg (by assumption), if_pos (by omega)]
          rw [hone]
          exact ⟨none, 0, [], none, 0, rfl, rfl, .nil, Nat.le_refl _, fun h0 _ => ⟨rfl, by simp⟩, Nat.le_refl _⟩
        · intro hc4
          try simp only [decide_eq_true_eq, decide_eq_false_iff_not, Bool.not_eq_true', Bool.not_eq_false', beq_iff_eq] at hc4
          have hdl : (l.drop (lget l 1).toNat).length = ((l.length : Int) - (lget l 1)).toNat := by rw [List.length_drop]; omega
          have hds : ∀ h0 : Own, Src B h0 A l.length 1 (l.map (fun x => Value.int .u8 x)) → Src B h0 (if (cap : Int) = lget l 1 then A else cutA A (lget l 1).toNat) (l.drop (lget l 1).toNat).length 1 ((l.drop (lget l 1).toNat).map (fun x => Value.int .u8 x)) := fun h0 hl0 => by
            have hds := hl0.drop (cap := cap) (lget l 1) (by omega) hcap
            rw [Nat.mul_one, ← List.map_drop] at hds
            rw [← hdl] at hds
            exact hds
          have hdc : (l.drop (lget l 1).toNat).length ≤ ((cap : Int) - (lget l 1)).toNat := by omega
          have hth : thereB l 2 (lget l 1 - 2) = true := by simp [thereB]; omega
          refine AK.skip ?_
          refine AK.inBlock ?_
          refine AK.seq ?_
          refine AK.region ?_
          refine AO.val (RV.move rfl) (.none rfl) rfl ?_
          refine AO.val (RV.move rfl) (.none rfl) rfl ?_
          refine AO.val (by first | exact RV.indexS rfl rfl (by assumption) (by omega) rfl | exact RV.indexAddr rfl rfl (by omega)) (.none rfl) rfl ?_
          refine AO.val (RV.loadS (enc := Value.int .u8) (l := l) (i := 1) rfl (by assumption) (by omega) (by simp)) (.none rfl) rfl ?_
          refine AO.val (RV.convIn rfl (by simp only [kb]; omega)) (.none rfl) rfl ?_
          refine AO.val (by first | exact RV.subIn rfl rfl (by omega) | exact RV.sub rfl rfl) (.none rfl) rfl ?_
          refine AO.eff (EF.callF rfl (cut_spec B _ l hl.sub hcap (by omega) 2 (lget l 1 - 2))) (.none rfl) rfl ?_
          rintro _ _ ⟨w42, rfl, A42, c42, p42, rfl, hr42, hc42, rfl⟩
          rw [hth]
          rw [hth] at hr42 hc42
          simp only [if_true] at hr42 hc42 ⊢
          refine AO.val (RV.move rfl) (.none rfl) rfl ?_
          refine AO.val (RV.extract rfl rfl) (.none rfl) rfl ?_
          refine AO.val (RV.extract rfl rfl) (.none rfl) rfl ?_
          refine AO.val (RV.assign rfl) (.none rfl) rfl ?_
          refine AO.val (RV.assign rfl) (.none rfl) rfl ?_
          refine AO.nil ?_
          refine AK.seq ?_
          refine AK.draw [] [10] mixed ?_
          refine AD.takeP 0 rfl (by kernel_rfl) (RV.move rfl) (.none rfl) rfl ?_
          refine AD.takeP 1 rfl (by kernel_rfl) (by first | exact RV.indexS rfl rfl (by assumption) (by omega) rfl | exact RV.indexAddr rfl rfl (by omega)) (.none rfl) rfl ?_
          refine AD.take 2 rfl (by kernel_rfl) (RV.loadS (enc := Value.int .u8) (l := l) (i := 0) rfl (by assumption) (by omega) (by simp)) (.none rfl) rfl ?_
          refine AD.takeP 3 rfl (by kernel_rfl) (RV.move rfl) (.none rfl) rfl ?_
          refine AD.takeP 4 rfl (by kernel_rfl) (RV.build rfl (.cons rfl rfl rfl rfl (.cons rfl rfl rfl rfl .nil))) (.none rfl) rfl ?_
          refine AD.takeP 5 rfl (by kernel_rfl) (RV.move rfl) (.none rfl) rfl ?_
          refine AD.takeP 6 rfl (by kernel_rfl) (RV.move rfl) (.none rfl) rfl ?_
          refine AD.takeP 7 rfl (by kernel_rfl) (by first | exact RV.indexS rfl rfl (by assumption) (by omega) rfl | exact RV.indexAddr rfl rfl (by omega)) (.none rfl) rfl ?_
          refine AD.many (i := 8) (l := [10]) (by kernel_rfl) (.cons ?_ (.cons ?_ (.nil)))
          · skip
            refine AE.eff rfl (EF.of_val (RV.loadS (enc := Value.int .u8) (l := l) (i := 1) rfl (by assumption) (by omega) (by simp))) (.none rfl) rfl ?_
            rintro _ _ ⟨rfl, rfl⟩
            refine ⟨(by first | exact .inr fun x hx hM => hx | exact .inr fun x hx hM => List.mem_cons_of_mem _ hx | exact .inr fun x hx hM => List.mem_append_right _ hx), ?_⟩
            refine AD.takeP 9 rfl (by kernel_rfl) ((RV.sliceL rfl rfl (by omega) (by omega)).to (v' := .slice (if (cap : Int) = lget l 1 then A else cutA A (lget l 1 : Int).toNat) (l.drop (lget l 1 : Int).toNat).length ((cap : Int) - lget l 1).toNat) (by rw [hdl, Nat.mul_one])) (.none rfl) rfl ?_
            refine AD.one 10 (by kernel_rfl) (AE.effN rfl (EF.storeO rfl rfl rfl rfl rfl rfl) (.none rfl) ?_)
            rintro _ _ rfl
            refine ⟨.inl (by kernel_rfl), ?_⟩
            refine AD.takeP 11 rfl (by kernel_rfl) (RV.assign rfl) (.none rfl) rfl ?_
            refine AD.takeP 12 rfl (by kernel_rfl) (RV.assign rfl) (.none rfl) rfl ?_
            refine AD.done (by kernel_rfl) ?_
            -- at FFFF
            refine AK.ret (h' := p42 ++ h) Try.func55 (.aggO rfl rfl (.tmp rfl (.tmp rfl .nil))) ?_ (by exact SubO.sub)
            have hone : oneS l = ((lget l 0, cutL l 2 (lget l 1 - 2)), l.drop (lget l 1).toNat, 0) := by unfold oneS; rw [if_neg (by assumption), if_neg (by omega), if_neg (by assumption), if_neg (by omega)]
            rw [hone]
            exact ⟨A42, c42, p42, _, _, rfl, rfl, hr42, hc42, hds, hdc⟩
          · skip
            refine AE.effN rfl (EF.storeO rfl rfl rfl rfl rfl rfl) (.none rfl) ?_
            rintro _ _ rfl
            refine ⟨.inl (by kernel_rfl), ?_⟩
            refine AD.one 8 (by kernel_rfl) (AE.eff rfl (EF.of_val (RV.loadS (enc := Value.int .u8) (l := l) (i := 1) rfl (by assumption) (by omega) (by simp))) (.none rfl) rfl ?_)
            rintro _ _ ⟨rfl, rfl⟩
            refine ⟨.inl (by kernel_rfl), ?_⟩
            refine AD.takeP 9 rfl (by kernel_rfl) ((RV.sliceL rfl rfl (by omega) (by omega)).to (v' := .slice (if (cap : Int) = lget l 1 then A else cutA A (lget l 1 : Int).toNat) (l.drop (lget l 1 : Int).toNat).length ((cap : Int) - lget l 1).toNat) (by rw [hdl, Nat.mul_one])) (.none rfl) rfl ?_
            refine AD.takeP 11 rfl (by kernel_rfl) (RV.assign rfl) (.none rfl) rfl ?_
            refine AD.takeP 12 rfl (by kernel_rfl) (RV.assign rfl) (.none rfl) rfl ?_
            refine AD.done (by kernel_rfl) ?_
            -- at FFFF
            refine AK.ret (h' := p42 ++ h) Try.func55 (.aggO rfl rfl (.tmp rfl (.tmp rfl .nil))) ?_ (by exact SubO.sub)
            have hone : oneS l = ((lget l 0, cutL l 2 (lget l 1 - 2)), l.drop (lget l 1).toNat, 0) := by unfold oneS; rw [if_neg (by assumption), if_neg (by omega), if_neg (by assumption), if_neg (by omega)]
            rw [hone]
            exact ⟨A42, c42, p42, _, _, rfl, rfl, hr42, hc42, hds, hdc⟩

set_option maxHeartbeats 800000 in
theorem of_spec (B : World) (h : Own) {A : Option Addr} {cap : Nat} (l : List Int) (hl : Src B h A l.length 1 (l.map (fun x => Value.int .u8 x))) (hb : Bytes l) (hcap : l.length ≤ cap) (hln : l.length ≤ 100000) : Tri Try.prog B 42 [.slice A l.length cap] h fun v h' => ∃ A c p q xs, v = .tuple #[.slice A xs.length c, .int .i64 (ofS l).2] ∧ NewO 78 B h A c p q xs ∧ xs.map prO = (ofS l).1 ∧ h' = p ++ (q ++ h) := by
  refine Tri.enter (n := 32) Try.func42 rfl rfl rfl ?_
  simp only [argsE, Nat.reduceAdd]
  try dsimp only [argsE]
  refine AK.seq ?_
  refine AK.region ?_
  refine AO.val (RV.assign rfl) (.none rfl) rfl ?_
  refine AO.val (RV.assign rfl) (.none rfl) rfl ?_
  refine AO.nil ?_
  refine AK.seq ?_
  refine AK.region ?_
  refine AO.val (RV.assign rfl) (.none rfl) rfl ?_
  refine AO.nil ?_
  refine AK.seq ?_
  refine AK.block ?_
  refine AK.loop (α := List Int × Option Addr × Nat × Option Addr × Nat × Own × Own × List Opt) (E := fun (r, Ar, cr, Ao, c, p, q, xs) => [(0, .slice Ar r.length cr), (4, .slice Ao xs.length c)]) (H := fun (r, Ar, cr, Ao, c, p, q, xs) => p ++ (q ++ h)) (Inv := fun (r, Ar, cr, Ao, c, p, q, xs) => Src B h Ar r.length 1 (r.map (fun x => Value.int .u8 x)) ∧ r.length ≤ cr ∧ Bytes r ∧ xs.length + r.length ≤ l.length ∧ NewO 78 B h Ao c p q xs ∧ appR (xs.map prO) (ofS r) = ofS l) (μ := fun (r, Ar, cr, Ao, c, p, q, xs) => r.length) (l, A, cap, none, 0, [], [], []) ?_ (.cons (by exact rfl) (.cons (by exact rfl) .nil)) ?_ ?_
  · exact ⟨hl, hcap, hb, by simp, .nil, appR_nil _ (ofS_err l)⟩
  · exact (by first | exact SubO.sub | exact List.Sublist.refl _ | exact .cons _ (List.Sublist.refl _) | exact .cons _ (.cons _ (List.Sublist.refl _)) | exact .cons _ (.cons _ (.cons _ (List.Sublist.refl _))))
  rintro ⟨r, Ar, cr, Ao, c, p, q, xs⟩ ⟨hrs, hrc, hrb, hrl, hn, hap⟩ hih0
  try dsimp only at hih0 ⊢
  clear hl hb hcap
  refine AK.seq ?_
  refine AK.seq ?_
  refine AK.region ?_
  refine AO.val (RV.move rfl) (.none rfl) rfl ?_
  refine AO.val (RV.lenS rfl) (.none rfl) rfl ?_
  refine AO.val (RV.gtr rfl rfl) (.none rfl) rfl ?_
  refine AO.val (RV.move rfl) (.none rfl) rfl ?_
  refine AO.caseG rfl rfl rfl ?_ ?_
  · intro hg1
    try simp only [decide_eq_true_eq, decide_eq_false_iff_not, Bool.not_eq_true', Bool.not_eq_false', beq_iff_eq] at hg1
    refine AO.val (RV.move rfl) (.some rfl rfl rfl rfl) rfl ?_
    refine AO.val (by first | exact RV.indexS rfl rfl (by assumption) (by omega) rfl | exact RV.indexAddr rfl rfl (by omega)) (.some rfl rfl rfl rfl) rfl ?_
    refine AO.val (RV.loadS (enc := Value.int .u8) (l := r) (i := 0) rfl (by assumption) (by omega) (by simp)) (.some rfl rfl rfl rfl) rfl ?_
    refine AO.val (RV.neq rfl rfl) (.some rfl rfl rfl rfl) rfl ?_
    refine AO.val (RV.pickT rfl rfl) (.none rfl) rfl ?_
    refine AO.nil ?_
    refine AK.cond rfl ?_ ?_
    · intro hc2
      try simp only [decide_eq_true_eq, decide_eq_false_iff_not, Bool.not_eq_true', Bool.not_eq_false', beq_iff_eq] at hc2
      have hof := ofS_go (b := r) ⟨by omega, by assumption⟩
      have hob := oneS_bytes hrb (by omega)
      have hol := oneS_len (b := r) (by intro e; subst e; simp at hg1)
      refine AK.skip ?_
      refine AK.block ?_
      refine AK.seq ?_
      refine AK.region ?_
      refine AO.val (RV.move rfl) (.none rfl) rfl ?_
      refine AO.eff (EF.callF rfl (one_spec B _ r (hrs.mono fun x hx => by simp [hx]) hrb hrc (by omega) (by omega))) (.none rfl) rfl ?_
      rintro _ _ ⟨A1, c1, p1, A2, c2, rfl, rfl, hr1, hc1q, hs2, hc2q⟩
      refine AO.val (RV.move rfl) (.none rfl) rfl ?_
      refine AO.val (RV.extract rfl rfl) (.none rfl) rfl ?_
      refine AO.val (RV.extract rfl rfl) (.none rfl) rfl ?_
      refine AO.val (RV.extract rfl rfl) (.none rfl) rfl ?_
      refine AO.eff (EF.alloc) (.none rfl) rfl ?_
      rintro _ _ ⟨b5, hf5, rfl, rfl⟩
      refine AO.effN (EF.storeO rfl rfl rfl rfl rfl rfl) (.none rfl) ?_
      rintro _ _ rfl
      refine AO.val (RV.assign rfl) (.none rfl) rfl ?_
      refine AO.val (RV.assign rfl) (.none rfl) rfl ?_
      refine AO.nil ?_
      refine AK.seq ?_
      refine AK.seq ?_
      refine AK.region ?_
      refine AO.val (RV.move rfl) (.none rfl) rfl ?_
      refine AO.val (RV.neq rfl rfl) (.none rfl) rfl ?_
      refine AO.nil ?_
      refine AK.cond rfl ?_ ?_
      · intro hc3
        try simp only [decide_eq_true_eq, decide_eq_false_iff_not, Bool.not_eq_true', Bool.not_eq_false', beq_iff_eq] at hc3
        refine AK.seq ?_
        refine AK.region ?_
        refine AO.val (RV.move rfl) (.none rfl) rfl ?_
        refine AO.val (RV.assign rfl) (.none rfl) rfl ?_
        refine AO.val (RV.assign rfl) (.none rfl) rfl ?_
        refine AO.nil ?_
        -- at L0tTT
        clear hih0
        refine AK.ret (h' := h) Try.func42 (.tmp rfl (.tmp rfl .nil)) ?_ (by exact SubO.sub)
        refine ⟨none, 0, [], [], [], ?_, .nil, ?_, rfl⟩
        · rw [← hap, hof, if_neg (by assumption)]; simp [appR, oneOr, hc3]
        · rw [← hap, hof, if_neg (by assumption)]; simp [appR, hc3]
      · intro hc3
        try simp only [decide_eq_true_eq, decide_eq_false_iff_not, Bool.not_eq_true', Bool.not_eq_false', beq_iff_eq] at hc3
        have hc3 := Classical.not_not.1 hc3
        refine AK.skip ?_
        refine AK.region ?_
        refine AO.val (RV.move rfl) (.none rfl) rfl ?_
        refine AO.val (by first | exact RV.loadAggO rfl rfl (by first | simp | assumption) | exact RV.loadAggP rfl rfl rfl (by first | simp | assumption)) (.none rfl) rfl ?_
        refine AO.eff (EF.buildSlice rfl rfl rfl (.cons rfl rfl rfl rfl .nil)) (.none rfl) rfl ?_
        rintro _ _ ⟨b28, hf28, rfl, rfl⟩
        refine AO.eff (EF.appendS (n' := (xs ++ [(((oneS r).1.1, ⟨A1, c1, (oneS r).1.2⟩, ()) : Opt)]).length) (ys := flat encOpt (xs ++ [(((oneS r).1.1, ⟨A1, c1, (oneS r).1.2⟩, ()) : Opt)])) rfl rfl hn.row (Src.of_new (el := 78) (cs := [.int .u8 (oneS r).1.1, .slice A1 (oneS r).1.2.length c1]) List.mem_cons_self 1 2 (Nat.le_refl _)) (by simp) (flat_snoc encOpt xs _) rfl (by decide) rfl (by omega) (by omega)) (.none rfl) rfl ?_
        rintro _ _ ⟨A29, c29, p29, rfl, hr29, hc29, rfl⟩
        refine AO.val (RV.move rfl) (.none rfl) rfl ?_
        refine AO.val (RV.assign rfl) (.none rfl) rfl ?_
        refine AO.val (RV.assign rfl) (.none rfl) rfl ?_
        refine AO.nil ?_
        refine AK.inBlock ?_
        -- round ends at L0tTF
        rw [← List.append_assoc p1 q h]
        refine AK.weak (.cons (by exact rfl) (.cons (by exact rfl) .nil)) (by try dsimp only; exact List.Sublist.append_left (.cons _ (.cons _ (List.Sublist.refl _))) _) (hih0 ((oneS r).2.1, A2, c2, A29, c29, p29, p1 ++ q, (xs ++ [(((oneS r).1.1, ⟨A1, c1, (oneS r).1.2⟩, ()) : Opt)])) ?_ ?_)
        · try dsimp only
          refine ⟨hs2 h hrs, hc2q, hob.2.2.1, by simp; omega, hn.snoc hr29 hc29 ⟨hob.1, hr1.src fun x hx => List.mem_append_left _ hx, hc1q, hob.2.1, by show (oneS r).1.2.length ≤ 100000; omega⟩, ?_⟩
          rw [List.map_append, List.map_singleton, appR_snoc, ← hap, hof, if_pos (by assumption)]; rfl
        · try dsimp only
          omega
    · intro hc2
      try simp only [decide_eq_true_eq, decide_eq_false_iff_not, Bool.not_eq_true', Bool.not_eq_false', beq_iff_eq] at hc2
      refine AK.exit rfl ?_
      refine AK.seq ?_
      refine AK.region ?_
      refine AO.val (RV.move rfl) (.none rfl) rfl ?_
      refine AO.val (RV.assign rfl) (.none rfl) rfl ?_
      refine AO.val (RV.assign rfl) (.none rfl) rfl ?_
      refine AO.nil ?_
      -- at L0tF
      clear hih0
      refine AK.ret (h' := p ++ (q ++ h)) Try.func42 (.tmp rfl (.tmp rfl .nil)) ?_ (by exact SubO.sub)
      have hof := ofS_end (b := r) (by first | omega | (intro hh; omega))
      rw [hof] at hap
      refine ⟨Ao, c, p, q, xs, ?_, hn, ?_, rfl⟩
      · rw [← hap]; simp [appR, oneOr]
      · rw [← hap]; simp [appR]
  · intro hg1
    try simp only [decide_eq_true_eq, decide_eq_false_iff_not, Bool.not_eq_true', Bool.not_eq_false', beq_iff_eq] at hg1
    refine AO.pass (.some rfl rfl rfl rfl) rfl ?_
    refine AO.pass (.some rfl rfl rfl rfl) rfl ?_
    refine AO.pass (.some rfl rfl rfl rfl) rfl ?_
    refine AO.pass (.some rfl rfl rfl rfl) rfl ?_
    refine AO.val (RV.pickF rfl rfl) (.none rfl) rfl ?_
    refine AO.nil ?_
    refine AK.condF rfl ?_
    refine AK.exit rfl ?_
    refine AK.seq ?_
    refine AK.region ?_
    refine AO.val (RV.move rfl) (.none rfl) rfl ?_
    refine AO.val (RV.assign rfl) (.none rfl) rfl ?_
    refine AO.val (RV.assign rfl) (.none rfl) rfl ?_
    refine AO.nil ?_
    -- at L0f
    clear hih0
    refine AK.ret (h' := p ++ (q ++ h)) Try.func42 (.tmp rfl (.tmp rfl .nil)) ?_ (by exact SubO.sub)
    have hof := ofS_end (b := r) (by first | omega | (intro hh; omega))
    rw [hof] at hap
    refine ⟨Ao, c, p, q, xs, ?_, hn, ?_, rfl⟩
    · rw [← hap]; simp [appR, oneOr]
    · rw [← hap]; simp [appR]

end Go.Proofs.Ytagfegkpgdaimaa
