/- Walks through the code: what each function that is named here gives back, from any memory that holds its arguments. Written by a program of the claim's author, out of the program's form in Lean. -/
import Derived.Test.YtbdlohjmifgcaaaS18W1
import Derived.Test.YtbdlohjmifgcaaaPlain19
import Derived.Test.YtbdlohjmifgcaaaSep16
set_option linter.unusedSimpArgs false
set_option linter.unusedVariables false
namespace Go.Proofs.Ytbdlohjmifgcaaa
open Go.Sep Go.Sep.Sip Go.Sep.Perm Go.Sep.Maglev
abbrev Bk := Int × Int × Int × Int × Int × Bool × Unit
abbrev encK (b : Bk) : List Value := [.int .i64 b.1, .int .i64 b.2.1, .int .u32 b.2.2.1, .int .i64 b.2.2.2.1, .int .i64 b.2.2.2.2.1, .bool b.2.2.2.2.2.1]
/-- who plays a part, in memory: number, weight, row, which it looks at next -/
abbrev Pl := Int × Int × InS Int × Int
abbrev encP (p : Pl) : List Value := [.int .i64 p.1, .int .i64 p.2.1, .slice p.2.2.1.A p.2.2.1.l.length p.2.2.1.cap, .int .i64 p.2.2.2]
def prK (b : Bk) : PL := (b.1, b.2.2.2.1)
def prP (p : Pl) : PL := (p.1, p.2.1)
instance : Inhabited Bk := ⟨(0, 0, 0, 0, 0, false, ())⟩
instance : Inhabited Pl := ⟨(0, 0, default, 0)⟩
structure BkOk (b : Bk) : Prop where
  id : -9223372036854775808 ≤ b.1 ∧ b.1 ≤ 9223372036854775807
  w : -9223372036854775808 ≤ b.2.2.2.1 ∧ b.2.2.2.1 ≤ 9223372036854775807
structure PlIn (lo hi m : Int) (B : World) (h : Own) (p : Pl) : Prop where
  src : Src B h p.2.2.1.A p.2.2.1.l.length 1 (p.2.2.1.l.map (fun x => Value.int .i64 x))
  row : p.2.2.1.l = rowS lo hi p.1 m
  cap : p.2.2.1.l.length ≤ p.2.2.1.cap
theorem PlIn.mono {lo hi m : Int} {B : World} {h h' : Own} {p : Pl} (o : PlIn lo hi m B h p) (hs : ∀ y ∈ h, y ∈ h') : PlIn lo hi m B h' p := ⟨o.src.mono hs, o.row, o.cap⟩
structure NewP (t : Nat) (lo hi m : Int) (B : World) (h : Own) (A : Option Addr) (c : Nat) (p q : Own) (ps : List Pl) : Prop where
  row : Row t 4 (.slice A ps.length c) ps.length (flat encP ps) p
  cap : ps.length ≤ c
  dat : ∀ x ∈ ps, PlIn lo hi m B (q ++ h) x
  next : ∀ x ∈ ps, x.2.2.2 = 0
theorem NewP.nil {t : Nat} {lo hi m : Int} {B : World} {h : Own} : NewP t lo hi m B h none 0 [] [] [] := ⟨.nil, Nat.le_refl _, fun x hx => by simp at hx, fun x hx => by simp at hx⟩
theorem NewP.snoc {t : Nat} {lo hi m : Int} {B : World} {h : Own} {A A1 : Option Addr} {c c1 : Nat} {p p1 q d : Own} {ps : List Pl} {x : Pl} (n : NewP t lo hi m B h A c p q ps) (hr : Row t 4 (.slice A1 (ps ++ [x]).length c1) (ps ++ [x]).length (flat encP (ps ++ [x])) p1) (hc : (ps ++ [x]).length ≤ c1) (hx : PlIn lo hi m B (d ++ (q ++ h)) x) (h0 : x.2.2.2 = 0) :
    NewP t lo hi m B h A1 c1 p1 (d ++ q) (ps ++ [x]) := ⟨hr, hc, fun y hy => by
  rw [List.append_assoc]
  rcases List.mem_append.1 hy with hy | hy
  · exact (n.dat y hy).mono fun z hz => List.mem_append_right _ hz
  · rw [List.mem_singleton.1 hy]; exact hx, fun y hy => by
  rcases List.mem_append.1 hy with hy | hy
  · exact n.next y hy
  · rw [List.mem_singleton.1 hy]; exact h0⟩
theorem lget_mem {α : Type} [Inhabited α] {l : List α} {i : Int} (h : 0 ≤ i ∧ i < l.length) : lget l i ∈ l := by
  obtain ⟨h2, e⟩ := lget_at h
  rw [e]; exact List.getElem_mem h2
theorem take_one {α β : Type} [Inhabited α] (f : α → β) (l : List α) (i : Int) (h0 : 0 ≤ i) (h1 : i < l.length) : (l.take (i + 1).toNat).map f = (l.take i.toNat).map f ++ [f (lget l i)] := by
  obtain ⟨h2, e⟩ := lget_at ⟨h0, h1⟩
  rw [show (i + 1).toNat = i.toNat + 1 by omega, List.take_succ_eq_append_getElem h2, e, List.map_append]; rfl
theorem any_met (ps : List Pl) (id : Int) : ps.any (fun p => decide (p.1 = id)) = metP (ps.map prP) id := by
  simp only [metP, List.any_map]
  rfl

theorem same_id (B : World) (h : Own) (x : Pl) (b : Nat) (k : Bk) (hm : (b, Blk.cells (encK k) 43 (0, 0)) ∈ h) : Tri Try.prog B 60 [.agg (encP x).toArray, .pointer (some ⟨b, 0, none⟩)] h fun v h' => h = h' ∧ v = .bool (decide (x.1 = k.1)) := by
  haveI hat : AtO h b (encK k) 43 (0, 0) := ⟨hm⟩
  refine Tri.enter (n := 9) Try.func60 rfl rfl rfl ?_
  simp only [argsE, Nat.reduceAdd]
  try dsimp only [argsE]
  refine AK.seq ?_
  refine AK.region ?_
  refine AO.eff (EF.box rfl rfl) (.none rfl) rfl ?_
  rintro _ _ ⟨b2, hf2, rfl, rfl⟩
  refine AO.val (RV.assign rfl) (.none rfl) rfl ?_
  refine AO.nil ?_
  refine AK.seq ?_
  refine AK.region ?_
  refine AO.val (RV.fieldAddr rfl) (.none rfl) rfl ?_
  refine AO.val (by first | exact RV.loadO rfl rfl (by first | simp | assumption) | exact RV.loadS rfl (by assumption) (by omega) (by first | simp | assumption)) (.none rfl) rfl ?_
  refine AO.val (RV.fieldAddr rfl) (.none rfl) rfl ?_
  refine AO.val (by first | exact RV.loadO rfl rfl (by first | simp | assumption) | exact RV.loadS rfl (by assumption) (by omega) (by first | simp | assumption)) (.none rfl) rfl ?_
  refine AO.val (RV.eql rfl rfl) (.none rfl) rfl ?_
  refine AO.val (RV.assign rfl) (.none rfl) rfl ?_
  refine AO.nil ?_
  -- at 
  refine AK.ret (h' := h) Try.func60 (.tmp rfl .nil) ?_ (by first | exact SubO.sub | exact List.Sublist.refl _ | exact .cons _ (List.Sublist.refl _) | exact .cons _ (.cons _ (List.Sublist.refl _)) | exact .cons _ (.cons _ (.cons _ (List.Sublist.refl _))))
  exact ⟨rfl, rfl⟩

theorem index_spec (B : World) (h : Own) (g : Nat) [CallIs Try.prog g] (cap : List Value) (pr : Pl → Bool) {A : Option Addr} {c : Nat} (ps : List Pl) (hs : Src B h A ps.length 4 (flat encP ps)) (hln : ps.length ≤ 1000) (hg : ∀ x, Tri Try.prog B g ([] ++ [.agg (encP x).toArray] ++ cap) h fun v h' => h = h' ∧ v = .bool (pr x)) : Tri Try.prog B 66 [.slice A ps.length c, .func (.func g) #[] cap.toArray] h fun v h' => h = h' ∧ ∃ k, v = .int .i64 k ∧ decide (0 ≤ k) = ps.any pr := by
  refine Tri.enter (n := 19) Try.func66 rfl rfl rfl ?_
  simp only [argsE, Nat.reduceAdd]
  try dsimp only [argsE]
  refine AK.seq ?_
  refine AK.region ?_
  refine AO.val (RV.assign rfl) (.none rfl) rfl ?_
  refine AO.nil ?_
  refine AK.seq ?_
  refine AK.seq ?_
  refine AK.region ?_
  refine AO.val (RV.move rfl) (.none rfl) rfl ?_
  refine AO.val (RV.lenS rfl) (.none rfl) rfl ?_
  refine AO.val (RV.move rfl) (.none rfl) rfl ?_
  refine AO.nil ?_
  refine AK.block ?_
  refine AK.loop (α := Int) (E := fun i => [(0, .slice A ps.length c), (1, .func (.func g) #[] cap.toArray), (7, .int .i64 ps.length), (8, .int .i64 i)]) (H := fun i => h) (Inv := fun i => 0 ≤ i ∧ i ≤ ps.length ∧ ∀ j : Int, 0 ≤ j → j < i → pr (lget ps j) = false) (μ := fun i => (ps.length - i).toNat) 0 ?_ (.cons (by exact rfl) (.cons (by exact rfl) (.cons (by exact rfl) (.cons (by exact rfl) .nil)))) ?_ ?_
  · exact ⟨by omega, by omega, fun j h1 h2 => by omega⟩
  · exact (by first | exact SubO.sub | exact List.Sublist.refl _ | exact .cons _ (List.Sublist.refl _) | exact .cons _ (.cons _ (List.Sublist.refl _)) | exact .cons _ (.cons _ (.cons _ (List.Sublist.refl _))))
  rintro i ⟨hi0, hi1, hall⟩ hih0
  try dsimp only at hih0 ⊢
  refine AK.seq ?_
  refine AK.region ?_
  refine AO.val (RV.lss rfl rfl) (.none rfl) rfl ?_
  refine AO.nil ?_
  refine AK.seq ?_
  refine AK.cond rfl ?_ ?_
  · intro hc1
    try simp only [decide_eq_true_eq, decide_eq_false_iff_not, Bool.not_eq_true', Bool.not_eq_false', beq_iff_eq] at hc1
    refine AK.skip ?_
    refine AK.seq ?_
    refine AK.block ?_
    refine AK.seq ?_
    refine AK.region ?_
    refine AO.val (RV.move rfl) (.none rfl) rfl ?_
    refine AO.val (RV.assign rfl) (.none rfl) rfl ?_
    refine AO.nil ?_
    refine AK.seq ?_
    refine AK.region ?_
    refine AO.val (RV.move rfl) (.none rfl) rfl ?_
    refine AO.val (RV.move rfl) (.none rfl) rfl ?_
    refine AO.val (RV.move rfl) (.none rfl) rfl ?_
    refine AO.val (by first | exact RV.indexS rfl rfl (by assumption) (by omega) rfl | exact RV.indexAddr rfl rfl (by omega)) (.none rfl) rfl ?_
    refine AO.val (RV.loadSA (enc := encP) rfl hs (fun _ => rfl) (by omega) (by simp)) (.none rfl) rfl ?_
    refine AO.eff (EF.call (fst := []) (cap := cap) rfl rfl (hg _)) (.none rfl) rfl ?_
    rintro _ _ ⟨rfl, rfl⟩
    refine AO.nil ?_
    refine AK.cond rfl ?_ ?_
    · intro hc2
      try simp only [decide_eq_true_eq, decide_eq_false_iff_not, Bool.not_eq_true', Bool.not_eq_false', beq_iff_eq] at hc2
      refine AK.seq ?_
      refine AK.region ?_
      refine AO.val (RV.move rfl) (.none rfl) rfl ?_
      refine AO.val (RV.assign rfl) (.none rfl) rfl ?_
      refine AO.nil ?_
      -- at L0TT
      clear hih0
      refine AK.ret (h' := h) Try.func66 (.tmp rfl .nil) ?_ (by first | exact SubO.sub | exact List.Sublist.refl _ | exact .cons _ (List.Sublist.refl _) | exact .cons _ (.cons _ (List.Sublist.refl _)) | exact .cons _ (.cons _ (.cons _ (List.Sublist.refl _))))
      refine ⟨rfl, _, rfl, ?_⟩
      rw [decide_eq_true hi0]; exact (List.any_eq_true.2 ⟨_, lget_mem ⟨hi0, by omega⟩, by assumption⟩).symm
    · intro hc2
      try simp only [decide_eq_true_eq, decide_eq_false_iff_not, Bool.not_eq_true', Bool.not_eq_false', beq_iff_eq] at hc2
      refine AK.skip ?_
      refine AK.inBlock ?_
      refine AK.region ?_
      refine AO.val (by first | exact RV.addIn rfl rfl (by omega) | exact RV.add rfl rfl) (.none rfl) rfl ?_
      refine AO.val (RV.move rfl) (.none rfl) rfl ?_
      refine AO.nil ?_
      -- round ends at L0TF
      refine AK.weak (.cons (by exact rfl) (.cons (by exact rfl) (.cons (by exact rfl) (.cons (by exact rfl) .nil)))) (by first | exact SubO.sub | exact List.Sublist.refl _ | exact .cons _ (List.Sublist.refl _) | exact .cons _ (.cons _ (List.Sublist.refl _)) | exact .cons _ (.cons _ (.cons _ (List.Sublist.refl _)))) (hih0 (i + 1) ?_ ?_)
      · try dsimp only
        refine ⟨by omega, by omega, fun j h1 h2 => ?_⟩
        by_cases hj : j = i
        · subst hj; assumption
        · exact hall j h1 (by omega)
      · try dsimp only
        omega
  · intro hc1
    try simp only [decide_eq_true_eq, decide_eq_false_iff_not, Bool.not_eq_true', Bool.not_eq_false', beq_iff_eq] at hc1
    refine AK.exit rfl ?_
    refine AK.seq ?_
    refine AK.region ?_
    refine AO.val (RV.assign rfl) (.none rfl) rfl ?_
    refine AO.nil ?_
    -- at L0F
    clear hih0
    refine AK.ret (h' := h) Try.func66 (.tmp rfl .nil) ?_ (by first | exact SubO.sub | exact List.Sublist.refl _ | exact .cons _ (List.Sublist.refl _) | exact .cons _ (.cons _ (List.Sublist.refl _)) | exact .cons _ (.cons _ (.cons _ (List.Sublist.refl _))))
    refine ⟨rfl, _, rfl, ?_⟩
    rw [show decide (0 ≤ (-1 : Int)) = false from rfl, eq_comm, List.any_eq_false]
    intro x hx
    obtain ⟨j, hj, rfl⟩ := List.getElem_of_mem hx
    have := hall (j : Int) (by omega) (by omega)
    simp [lget, List.getD, hj] at this
    simpa using this

theorem contains_spec (B : World) (h : Own) (g : Nat) [CallIs Try.prog g] (cap : List Value) (pr : Pl → Bool) {A : Option Addr} {c : Nat} (ps : List Pl) (hs : Src B h A ps.length 4 (flat encP ps)) (hln : ps.length ≤ 1000) (hg : ∀ x, Tri Try.prog B g ([] ++ [.agg (encP x).toArray] ++ cap) h fun v h' => h = h' ∧ v = .bool (pr x)) : Tri Try.prog B 59 [.slice A ps.length c, .func (.func g) #[] cap.toArray] h fun v h' => h = h' ∧ v = .bool (ps.any pr) := by
  refine Tri.enter (n := 9) Try.func59 rfl rfl rfl ?_
  simp only [argsE, Nat.reduceAdd]
  try dsimp only [argsE]
  refine AK.seq ?_
  refine AK.region ?_
  refine AO.val (RV.assign rfl) (.none rfl) rfl ?_
  refine AO.nil ?_
  refine AK.seq ?_
  refine AK.region ?_
  refine AO.val (RV.move rfl) (.none rfl) rfl ?_
  refine AO.val (RV.move rfl) (.none rfl) rfl ?_
  refine AO.eff (EF.callF rfl (index_spec B _ g cap pr ps hs hln hg)) (.none rfl) rfl ?_
  rintro _ _ ⟨rfl, k, rfl, hk⟩
  refine AO.val (RV.geq rfl rfl) (.none rfl) rfl ?_
  refine AO.val (RV.assign rfl) (.none rfl) rfl ?_
  refine AO.nil ?_
  -- at 
  refine AK.ret (h' := h) Try.func59 (.tmp rfl .nil) ?_ (by first | exact SubO.sub | exact List.Sublist.refl _ | exact .cons _ (List.Sublist.refl _) | exact .cons _ (.cons _ (List.Sublist.refl _)) | exact .cons _ (.cons _ (.cons _ (List.Sublist.refl _))))
  refine ⟨rfl, ?_⟩
  rw [← hk]; rfl

set_option maxHeartbeats 800000 in
theorem players_spec (B : World) (h : Own) (lo hi m : Int) {A : Option Addr} {cap : Nat} (l : List Bk) (hl : Src B h A l.length 6 (flat encK l)) (hid : ∀ b ∈ l, BkOk b) (hcap : l.length ≤ cap) (hln : l.length ≤ 1000) : Tri Try.prog B 45 [.agg #[.int .u64 lo, .int .u64 hi], .int .i64 m, .slice A l.length cap] h fun v h' => ∃ A c p q ps, v = .slice A ps.length c ∧ NewP 92 lo hi m B h A c p q ps ∧ ps.map prP = partsS (l.map prK) ∧ h' = p ++ (q ++ h) := by
  refine Tri.enter (n := 47) Try.func45 rfl rfl rfl ?_
  simp only [argsE, Nat.reduceAdd]
  try dsimp only [argsE]
  refine AK.seq ?_
  refine AK.region ?_
  refine AO.eff (EF.box rfl rfl) (.none rfl) rfl ?_
  rintro _ _ ⟨b3, hf3, rfl, rfl⟩
  refine AO.val (RV.assign rfl) (.none rfl) rfl ?_
  refine AO.nil ?_
  refine AK.seq ?_
  refine AK.region ?_
  refine AO.val (RV.assign rfl) (.none rfl) rfl ?_
  refine AO.nil ?_
  refine AK.seq ?_
  refine AK.seq ?_
  refine AK.region ?_
  refine AO.val (RV.move rfl) (.none rfl) rfl ?_
  refine AO.val (RV.lenS rfl) (.none rfl) rfl ?_
  refine AO.val (RV.move rfl) (.none rfl) rfl ?_
  refine AO.nil ?_
  refine AK.block ?_
  refine AK.loop (α := Int × Option Addr × Nat × Own × Own × List Pl) (E := fun (i, Ao, c, p, q, ps) => [(1, .int .i64 m), (3, .pointer (some ⟨b3, 0, none⟩)), (7, .slice Ao ps.length c), (11, .slice A l.length cap), (12, .int .i64 l.length), (13, .int .i64 i)]) (H := fun (i, Ao, c, p, q, ps) => p ++ (q ++ ((b3, Blk.cells [.int .u64 lo, .int .u64 hi] 24 (0, 0)) :: h))) (Inv := fun (i, Ao, c, p, q, ps) => 0 ≤ i ∧ i ≤ l.length ∧ ps.length ≤ i.toNat ∧ NewP 92 lo hi m B ((b3, Blk.cells [.int .u64 lo, .int .u64 hi] 24 (0, 0)) :: h) Ao c p q ps ∧ ps.map prP = partsS ((l.take i.toNat).map prK)) (μ := fun (i, Ao, c, p, q, ps) => (l.length - i).toNat) (0, none, 0, [], [], []) ?_ (.cons (by exact rfl) (.cons (by exact rfl) (.cons (by exact rfl) (.cons (by exact rfl) (.cons (by exact rfl) (.cons (by exact rfl) .nil)))))) ?_ ?_
  · exact ⟨by omega, by omega, by simp, .nil, rfl⟩
  · exact (by first | exact SubO.sub | exact List.Sublist.refl _ | exact .cons _ (List.Sublist.refl _) | exact .cons _ (.cons _ (List.Sublist.refl _)) | exact .cons _ (.cons _ (.cons _ (List.Sublist.refl _))))
  rintro ⟨i, Ao, c, p, q, ps⟩ ⟨hi0, hi1, hpi, hn, hpp⟩ hih0
  try dsimp only at hih0 ⊢
  refine AK.seq ?_
  refine AK.region ?_
  refine AO.val (RV.lss rfl rfl) (.none rfl) rfl ?_
  refine AO.nil ?_
  refine AK.seq ?_
  refine AK.cond rfl ?_ ?_
  · intro hc1
    try simp only [decide_eq_true_eq, decide_eq_false_iff_not, Bool.not_eq_true', Bool.not_eq_false', beq_iff_eq] at hc1
    have hm := lget_mem (l := l) (i := i) (by omega)
    have hko := hid _ hm
    have hk1 := hko.id
    have hps := hn.row.src (B := B) (h := p) (fun x hx => hx)
    have hto := take_one prK l i hi0 (by omega)
    refine AK.skip ?_
    refine AK.seq ?_
    refine AK.block ?_
    refine AK.seq ?_
    refine AK.region ?_
    refine AO.val (by first | exact RV.indexS rfl rfl (by assumption) (by omega) rfl | exact RV.indexAddr rfl rfl (by omega)) (.none rfl) rfl ?_
    refine AO.val (RV.loadSA (enc := encK) rfl hl (fun _ => rfl) (by omega) (by simp)) (.none rfl) rfl ?_
    refine AO.eff (EF.alloc) (.none rfl) rfl ?_
    rintro _ _ ⟨b9, hf9, rfl, rfl⟩
    refine AO.effN (EF.storeO rfl rfl rfl rfl rfl rfl) (.none rfl) ?_
    rintro _ _ rfl
    refine AO.nil ?_
    refine AK.seq ?_
    refine AK.region ?_
    refine AO.val (RV.move rfl) (.none rfl) rfl ?_
    refine AO.val (RV.makeFunc rfl) (.none rfl) rfl ?_
    refine AO.eff (EF.callF rfl (contains_spec (c := c) B _ 60 [.pointer (some ⟨b9, 0, none⟩)] (fun p : Pl => decide (p.1 = (lget l i).1)) ps hps.sub (by omega) (fun x => same_id B _ x b9 (lget l i) List.mem_cons_self))) (.none rfl) rfl ?_
    rintro _ _ ⟨rfl, rfl⟩
    generalize hany : ps.any (fun p : Pl => decide (p.1 = (lget l i).1)) = met
    refine AO.val (RV.assign rfl) (.none rfl) rfl ?_
    refine AO.nil ?_
    refine AK.seq ?_
    refine AK.region ?_
    refine AO.val (RV.move rfl) (.none rfl) rfl ?_
    refine AO.val (RV.not rfl) (.none rfl) rfl ?_
    refine AO.val (RV.move rfl) (.none rfl) rfl ?_
    refine AO.caseG rfl rfl rfl ?_ ?_
    · intro hg2
      try simp only [decide_eq_true_eq, decide_eq_false_iff_not, Bool.not_eq_true', Bool.not_eq_false', beq_iff_eq] at hg2
      refine AO.val (RV.fieldAddr rfl) (.some rfl rfl rfl rfl) rfl ?_
      refine AO.val (by first | exact RV.loadO rfl rfl (by first | simp | assumption) | exact RV.loadS rfl (by assumption) (by omega) (by first | simp | assumption)) (.some rfl rfl rfl rfl) rfl ?_
      refine AO.val (RV.geq rfl rfl) (.some rfl rfl rfl rfl) rfl ?_
      refine AO.val (RV.pickT rfl rfl) (.none rfl) rfl ?_
      refine AO.val (RV.move rfl) (.none rfl) rfl ?_
      refine AO.caseG rfl rfl rfl ?_ ?_
      · intro hg3
        try simp only [decide_eq_true_eq, decide_eq_false_iff_not, Bool.not_eq_true', Bool.not_eq_false', beq_iff_eq] at hg3
        refine AO.val (RV.fieldAddr rfl) (.some rfl rfl rfl rfl) rfl ?_
        refine AO.val (by first | exact RV.loadO rfl rfl (by first | simp | assumption) | exact RV.loadS rfl (by assumption) (by omega) (by first | simp | assumption)) (.some rfl rfl rfl rfl) rfl ?_
        refine AO.val (RV.leq rfl rfl) (.some rfl rfl rfl rfl) rfl ?_
        refine AO.val (RV.pickT rfl rfl) (.none rfl) rfl ?_
        refine AO.nil ?_
        refine AK.cond rfl ?_ ?_
        · intro hc4
          try simp only [decide_eq_true_eq, decide_eq_false_iff_not, Bool.not_eq_true', Bool.not_eq_false', beq_iff_eq] at hc4
          refine AK.draw [] [11, 12] mixed ?_
          refine AD.takeP 0 rfl (by kernel_rfl) (RV.move rfl) (.none rfl) rfl ?_
          refine AD.takeP 1 rfl (by kernel_rfl) (RV.fieldAddr rfl) (.none rfl) rfl ?_
          refine AD.take 2 rfl (by kernel_rfl) (by first | exact RV.loadO rfl rfl (by first | simp | assumption) | exact RV.loadS rfl (by assumption) (by omega) (by first | simp | assumption)) (.none rfl) rfl ?_
          refine AD.takeP 3 rfl (by kernel_rfl) (RV.fieldAddr rfl) (.none rfl) rfl ?_
          refine AD.take 4 rfl (by kernel_rfl) (by first | exact RV.loadO rfl rfl (by first | simp | assumption) | exact RV.loadS rfl (by assumption) (by omega) (by first | simp | assumption)) (.none rfl) rfl ?_
          refine AD.take 5 rfl (by kernel_rfl) (by first | exact RV.loadAggO rfl rfl (by first | simp | assumption) | exact RV.loadAggP rfl rfl rfl (by first | simp | assumption)) (.none rfl) rfl ?_
          refine AD.takeP 6 rfl (by kernel_rfl) (RV.fieldAddr rfl) (.none rfl) rfl ?_
          refine AD.take 7 rfl (by kernel_rfl) (by first | exact RV.loadO rfl rfl (by first | simp | assumption) | exact RV.loadS rfl (by assumption) (by omega) (by first | simp | assumption)) (.none rfl) rfl ?_
          refine AD.takeP 8 rfl (by kernel_rfl) (RV.move rfl) (.none rfl) rfl ?_
          refine AD.one 9 (by kernel_rfl) (AE.eff rfl (EF.callF rfl (row_spec B _ lo hi (lget l i).1 m hk1)) (.none rfl) rfl ?_)
          rintro _ _ ⟨A77, c77, p77, rfl, hr77, hc77, rfl⟩
          refine ⟨(by first | exact .inr fun x hx hM => hx | exact .inr fun x hx hM => List.mem_cons_of_mem _ hx | exact .inr fun x hx hM => List.mem_append_right _ hx), ?_⟩
          refine AD.takeP 10 rfl (by kernel_rfl) (RV.build rfl (.cons rfl rfl rfl rfl (.cons rfl rfl rfl rfl (.cons rfl rfl rfl rfl .nil)))) (.none rfl) rfl ?_
          refine AD.one 11 (by kernel_rfl) (AE.eff rfl (EF.buildSlice rfl rfl rfl (.cons rfl rfl rfl rfl .nil)) (.none rfl) rfl ?_)
          rintro _ _ ⟨b43, hf43, rfl, rfl⟩
          refine ⟨.inl (by kernel_rfl), ?_⟩
          refine AD.one 12 (by kernel_rfl) (AE.eff rfl (EF.appendS (n' := (ps ++ [(((lget l i).1, (lget l i).2.2.2.1, ⟨A77, c77, rowS lo hi (lget l i).1 m⟩, 0) : Pl)]).length) (ys := flat encP (ps ++ [(((lget l i).1, (lget l i).2.2.2.1, ⟨A77, c77, rowS lo hi (lget l i).1 m⟩, 0) : Pl)])) rfl rfl hn.row (Src.of_new (el := 92) (cs := [.int .i64 (lget l i).1, .int .i64 (lget l i).2.2.2.1, .slice A77 (rowS lo hi (lget l i).1 m).length c77, .int .i64 0]) List.mem_cons_self 1 4 (Nat.le_refl _)) (by simp) (flat_snoc encP ps _) rfl (by decide) rfl (by omega) (by omega)) (.none rfl) rfl ?_)
          rintro _ _ ⟨A44, c44, p44, rfl, hr44, hc44, rfl⟩
          refine ⟨.inl (by kernel_rfl), ?_⟩
          refine AD.takeP 13 rfl (by kernel_rfl) (RV.assign rfl) (.none rfl) rfl ?_
          refine AD.done (by kernel_rfl) ?_
          refine AK.inBlock ?_
          refine AK.region ?_
          refine AO.val (by first | exact RV.addIn rfl rfl (by omega) | exact RV.add rfl rfl) (.none rfl) rfl ?_
          refine AO.val (RV.move rfl) (.none rfl) rfl ?_
          refine AO.nil ?_
          -- round ends at L0TttT
          refine AK.weak (.cons (by exact rfl) (.cons (by exact rfl) (.cons (by exact rfl) (.cons (by exact rfl) (.cons (by exact rfl) (.cons (by exact rfl) .nil)))))) (by rw [List.append_assoc p77 q]; exact List.Sublist.append_left (.cons _ (List.Sublist.append_left (.cons _ (List.Sublist.refl _)) _)) _) (hih0 (i + 1, A44, c44, p44, p77 ++ q, (ps ++ [(((lget l i).1, (lget l i).2.2.2.1, ⟨A77, c77, rowS lo hi (lget l i).1 m⟩, 0) : Pl)])) ?_ ?_)
          · try dsimp only
            refine ⟨by omega, by omega, by simp; omega, hn.snoc hr44 hc44 ⟨hr77.src fun x hx => List.mem_append_left _ hx, rfl, hc77⟩ rfl, ?_⟩
            rw [hto, parts_snoc, ← hpp, stepP, if_pos ⟨by rw [← any_met]; exact hany.trans (by simpa using hg2), by exact decide_eq_true ⟨by show 1 ≤ (lget l i).2.2.2.1; omega, by show (lget l i).2.2.2.1 ≤ 8; omega⟩⟩]; simp [prP, prK]
          · try dsimp only
            omega
        · intro hc4
          try simp only [decide_eq_true_eq, decide_eq_false_iff_not, Bool.not_eq_true', Bool.not_eq_false', beq_iff_eq] at hc4
          refine AK.skip ?_
          refine AK.inBlock ?_
          refine AK.region ?_
          refine AO.val (by first | exact RV.addIn rfl rfl (by omega) | exact RV.add rfl rfl) (.none rfl) rfl ?_
          refine AO.val (RV.move rfl) (.none rfl) rfl ?_
          refine AO.nil ?_
          -- round ends at L0TttF
          refine AK.weak (.cons (by exact rfl) (.cons (by exact rfl) (.cons (by exact rfl) (.cons (by exact rfl) (.cons (by exact rfl) (.cons (by exact rfl) .nil)))))) (by first | exact SubO.sub | exact List.Sublist.refl _ | exact .cons _ (List.Sublist.refl _) | exact .cons _ (.cons _ (List.Sublist.refl _)) | exact .cons _ (.cons _ (.cons _ (List.Sublist.refl _)))) (hih0 (i + 1, Ao, c, p, q, ps) ?_ ?_)
          · try dsimp only
            refine ⟨by omega, by omega, by omega, hn, ?_⟩
            rw [hto, parts_snoc, ← hpp, stepP, if_neg]
            rintro ⟨h1, h2⟩
            have h3 := weight_in h2
            rw [← any_met] at h1
            simp only [prK] at h1 h3
            first | omega | (have h4 : met = false := hany.symm.trans h1; simp [h4] at hg2)
          · try dsimp only
            omega
      · intro hg3
        try simp only [decide_eq_true_eq, decide_eq_false_iff_not, Bool.not_eq_true', Bool.not_eq_false', beq_iff_eq] at hg3
        refine AO.pass (.some rfl rfl rfl rfl) rfl ?_
        refine AO.pass (.some rfl rfl rfl rfl) rfl ?_
        refine AO.pass (.some rfl rfl rfl rfl) rfl ?_
        refine AO.val (RV.pickF rfl rfl) (.none rfl) rfl ?_
        refine AO.nil ?_
        refine AK.condF rfl ?_
        refine AK.skip ?_
        refine AK.inBlock ?_
        refine AK.region ?_
        refine AO.val (by first | exact RV.addIn rfl rfl (by omega) | exact RV.add rfl rfl) (.none rfl) rfl ?_
        refine AO.val (RV.move rfl) (.none rfl) rfl ?_
        refine AO.nil ?_
        -- round ends at L0Ttf
        refine AK.weak (.cons (by exact rfl) (.cons (by exact rfl) (.cons (by exact rfl) (.cons (by exact rfl) (.cons (by exact rfl) (.cons (by exact rfl) .nil)))))) (by first | exact SubO.sub | exact List.Sublist.refl _ | exact .cons _ (List.Sublist.refl _) | exact .cons _ (.cons _ (List.Sublist.refl _)) | exact .cons _ (.cons _ (.cons _ (List.Sublist.refl _)))) (hih0 (i + 1, Ao, c, p, q, ps) ?_ ?_)
        · try dsimp only
          refine ⟨by omega, by omega, by omega, hn, ?_⟩
          rw [hto, parts_snoc, ← hpp, stepP, if_neg]
          rintro ⟨h1, h2⟩
          have h3 := weight_in h2
          rw [← any_met] at h1
          simp only [prK] at h1 h3
          first | omega | (have h4 : met = false := hany.symm.trans h1; simp [h4] at hg2)
        · try dsimp only
          omega
    · intro hg2
      try simp only [decide_eq_true_eq, decide_eq_false_iff_not, Bool.not_eq_true', Bool.not_eq_false', beq_iff_eq] at hg2
      refine AO.pass (.some rfl rfl rfl rfl) rfl ?_
      refine AO.pass (.some rfl rfl rfl rfl) rfl ?_
      refine AO.pass (.some rfl rfl rfl rfl) rfl ?_
      refine AO.val (RV.pickF rfl rfl) (.none rfl) rfl ?_
      refine AO.val (RV.move rfl) (.none rfl) rfl ?_
      refine AO.pass (.some rfl rfl rfl rfl) rfl ?_
      refine AO.pass (.some rfl rfl rfl rfl) rfl ?_
      refine AO.pass (.some rfl rfl rfl rfl) rfl ?_
      refine AO.val (RV.pickF rfl rfl) (.none rfl) rfl ?_
      refine AO.nil ?_
      refine AK.condF rfl ?_
      refine AK.skip ?_
      refine AK.inBlock ?_
      refine AK.region ?_
      refine AO.val (by first | exact RV.addIn rfl rfl (by omega) | exact RV.add rfl rfl) (.none rfl) rfl ?_
      refine AO.val (RV.move rfl) (.none rfl) rfl ?_
      refine AO.nil ?_
      -- round ends at L0Tf
      refine AK.weak (.cons (by exact rfl) (.cons (by exact rfl) (.cons (by exact rfl) (.cons (by exact rfl) (.cons (by exact rfl) (.cons (by exact rfl) .nil)))))) (by first | exact SubO.sub | exact List.Sublist.refl _ | exact .cons _ (List.Sublist.refl _) | exact .cons _ (.cons _ (List.Sublist.refl _)) | exact .cons _ (.cons _ (.cons _ (List.Sublist.refl _)))) (hih0 (i + 1, Ao, c, p, q, ps) ?_ ?_)
      · try dsimp only
        refine ⟨by omega, by omega, by omega, hn, ?_⟩
        rw [hto, parts_snoc, ← hpp, stepP, if_neg]
        rintro ⟨h1, h2⟩
        have h3 := weight_in h2
        rw [← any_met] at h1
        simp only [prK] at h1 h3
        first | omega | (have h4 : met = false := hany.symm.trans h1; simp [h4] at hg2)
      · try dsimp only
        omega
  · intro hc1
    try simp only [decide_eq_true_eq, decide_eq_false_iff_not, Bool.not_eq_true', Bool.not_eq_false', beq_iff_eq] at hc1
    refine AK.exit rfl ?_
    refine AK.seq ?_
    refine AK.region ?_
    refine AO.val (RV.move rfl) (.none rfl) rfl ?_
    refine AO.val (RV.assign rfl) (.none rfl) rfl ?_
    refine AO.nil ?_
    -- at L0F
    clear hih0
    have hti : l.take i.toNat = l := List.take_of_length_le (by omega)
    rw [hti] at hpp
    rw [List.append_cons q _ h]
    refine AK.ret (h' := p ++ ((q ++ [(b3, Blk.cells [.int .u64 lo, .int .u64 hi] 24 (0, 0))]) ++ h)) Try.func45 (.tmp rfl .nil) ?_ (List.Sublist.refl _)
    refine ⟨Ao, c, p, q ++ [(b3, Blk.cells [.int .u64 lo, .int .u64 hi] 24 (0, 0))], ps, rfl, ⟨hn.row, hn.cap, fun x hx => ?_, hn.next⟩, hpp, rfl⟩
    rw [← List.append_cons]; exact hn.dat x hx

end Go.Proofs.Ytbdlohjmifgcaaa
