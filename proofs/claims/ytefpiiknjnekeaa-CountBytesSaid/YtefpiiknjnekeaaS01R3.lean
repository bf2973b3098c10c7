/- Walks through the code: what each function that is named here gives back, from any memory that holds its arguments. Written by a program of the claim's author, out of the program's form in Lean. -/
import Derived.Test.YtefpiiknjnekeaaS01R2
set_option linter.unusedSimpArgs false
set_option linter.unusedVariables false
namespace Go.Proofs.Ytefpiiknjnekeaa
open Go.Sep Go.Sep.Sip

theorem there_spec (B : World) (h : Own) {A : Option Addr} {cap : Nat} (l : List Int) (hln : l.length ≤ 1000000) (k n : Int) : Tri Try.prog B 28 [.slice A l.length cap, .int .i64 k, .int .i64 n] h fun v h' => h = h' ∧ v = .bool (thereB l k n) := by
  refine Tri.enter (n := 27) Try.func28 rfl rfl rfl ?_
  simp only [argsE, Nat.reduceAdd]
  try dsimp only [argsE]
  refine AK.seq ?_
  refine AK.region ?_
  refine AO.val (RV.assign rfl) (.none rfl) rfl ?_
  refine AO.nil ?_
  refine AK.seq ?_
  refine AK.region ?_
  refine AO.val (RV.move rfl) (.none rfl) rfl ?_
  refine AO.val (RV.geq rfl rfl) (.none rfl) rfl ?_
  refine AO.val (RV.move rfl) (.none rfl) rfl ?_
  refine AO.caseG rfl rfl rfl ?_ ?_
  · intro hg1
    try simp only [decide_eq_true_eq, decide_eq_false_iff_not, Bool.not_eq_true', Bool.not_eq_false', beq_iff_eq] at hg1
    refine AO.val (RV.move rfl) (.some rfl rfl rfl rfl) rfl ?_
    refine AO.val (RV.geq rfl rfl) (.some rfl rfl rfl rfl) rfl ?_
    refine AO.val (RV.pickT rfl rfl) (.none rfl) rfl ?_
    refine AO.val (RV.move rfl) (.none rfl) rfl ?_
    refine AO.caseG rfl rfl rfl ?_ ?_
    · intro hg2
      try simp only [decide_eq_true_eq, decide_eq_false_iff_not, Bool.not_eq_true', Bool.not_eq_false', beq_iff_eq] at hg2
      refine AO.val (RV.move rfl) (.some rfl rfl rfl rfl) rfl ?_
      refine AO.val (RV.move rfl) (.some rfl rfl rfl rfl) rfl ?_
      refine AO.val (RV.lenS rfl) (.some rfl rfl rfl rfl) rfl ?_
      refine AO.val (RV.leq rfl rfl) (.some rfl rfl rfl rfl) rfl ?_
      refine AO.val (RV.pickT rfl rfl) (.none rfl) rfl ?_
      refine AO.val (RV.move rfl) (.none rfl) rfl ?_
      refine AO.caseG rfl rfl rfl ?_ ?_
      · intro hg3
        try simp only [decide_eq_true_eq, decide_eq_false_iff_not, Bool.not_eq_true', Bool.not_eq_false', beq_iff_eq] at hg3
        refine AO.val (RV.move rfl) (.some rfl rfl rfl rfl) rfl ?_
        refine AO.val (RV.move rfl) (.some rfl rfl rfl rfl) rfl ?_
        refine AO.val (RV.lenS rfl) (.some rfl rfl rfl rfl) rfl ?_
        refine AO.val (RV.move rfl) (.some rfl rfl rfl rfl) rfl ?_
        refine AO.val (by first | exact RV.subIn rfl rfl (by omega) | exact RV.sub rfl rfl) (.some rfl rfl rfl rfl) rfl ?_
        refine AO.val (RV.leq rfl rfl) (.some rfl rfl rfl rfl) rfl ?_
        refine AO.val (RV.pickT rfl rfl) (.none rfl) rfl ?_
        refine AO.val (RV.assign rfl) (.none rfl) rfl ?_
        refine AO.nil ?_
        -- at ttt
        refine AK.ret (h' := h) Try.func28 (.tmp rfl .nil) ?_ (by first | exact SubO.sub | exact List.Sublist.refl _ | exact .cons _ (List.Sublist.refl _) | exact .cons _ (.cons _ (List.Sublist.refl _)) | exact .cons _ (.cons _ (.cons _ (List.Sublist.refl _))))
        refine ⟨rfl, ?_⟩
        simp only [thereB, oneOr, Value.bool.injEq]
        first | (symm; rw [decide_eq_false_iff_not]; omega) | (apply decide_eq_decide.2; omega) | (simp; omega)
      · intro hg3
        try simp only [decide_eq_true_eq, decide_eq_false_iff_not, Bool.not_eq_true', Bool.not_eq_false', beq_iff_eq] at hg3
        refine AO.pass (.some rfl rfl rfl rfl) rfl ?_
        refine AO.pass (.some rfl rfl rfl rfl) rfl ?_
        refine AO.pass (.some rfl rfl rfl rfl) rfl ?_
        refine AO.pass (.some rfl rfl rfl rfl) rfl ?_
        refine AO.pass (.some rfl rfl rfl rfl) rfl ?_
        refine AO.pass (.some rfl rfl rfl rfl) rfl ?_
        refine AO.val (RV.pickF rfl rfl) (.none rfl) rfl ?_
        refine AO.val (RV.assign rfl) (.none rfl) rfl ?_
        refine AO.nil ?_
        -- at ttf
        refine AK.ret (h' := h) Try.func28 (.tmp rfl .nil) ?_ (by first | exact SubO.sub | exact List.Sublist.refl _ | exact .cons _ (List.Sublist.refl _) | exact .cons _ (.cons _ (List.Sublist.refl _)) | exact .cons _ (.cons _ (.cons _ (List.Sublist.refl _))))
        refine ⟨rfl, ?_⟩
        simp only [thereB, oneOr, Value.bool.injEq]
        first | (symm; rw [decide_eq_false_iff_not]; omega) | (apply decide_eq_decide.2; omega) | (simp; omega)
    · intro hg2
      try simp only [decide_eq_true_eq, decide_eq_false_iff_not, Bool.not_eq_true', Bool.not_eq_false', beq_iff_eq] at hg2
      refine AO.pass (.some rfl rfl rfl rfl) rfl ?_
      refine AO.pass (.some rfl rfl rfl rfl) rfl ?_
      refine AO.pass (.some rfl rfl rfl rfl) rfl ?_
      refine AO.pass (.some rfl rfl rfl rfl) rfl ?_
      refine AO.val (RV.pickF rfl rfl) (.none rfl) rfl ?_
      refine AO.val (RV.move rfl) (.none rfl) rfl ?_
      refine AO.pass (.some rfl rfl rfl rfl) rfl ?_
      refine AO.pass (.some rfl rfl rfl rfl) rfl ?_
      refine AO.pass (.some rfl rfl rfl rfl) rfl ?_
      refine AO.pass (.some rfl rfl rfl rfl) rfl ?_
      refine AO.pass (.some rfl rfl rfl rfl) rfl ?_
      refine AO.pass (.some rfl rfl rfl rfl) rfl ?_
      refine AO.val (RV.pickF rfl rfl) (.none rfl) rfl ?_
      refine AO.val (RV.assign rfl) (.none rfl) rfl ?_
      refine AO.nil ?_
      -- at tf
      refine AK.ret (h' := h) Try.func28 (.tmp rfl .nil) ?_ (by first | exact SubO.sub | exact List.Sublist.refl _ | exact .cons _ (List.Sublist.refl _) | exact .cons _ (.cons _ (List.Sublist.refl _)) | exact .cons _ (.cons _ (.cons _ (List.Sublist.refl _))))
      refine ⟨rfl, ?_⟩
      simp only [thereB, oneOr, Value.bool.injEq]
      first | (symm; rw [decide_eq_false_iff_not]; omega) | (apply decide_eq_decide.2; omega) | (simp; omega)
  · intro hg1
    try simp only [decide_eq_true_eq, decide_eq_false_iff_not, Bool.not_eq_true', Bool.not_eq_false', beq_iff_eq] at hg1
    refine AO.pass (.some rfl rfl rfl rfl) rfl ?_
    refine AO.pass (.some rfl rfl rfl rfl) rfl ?_
    refine AO.val (RV.pickF rfl rfl) (.none rfl) rfl ?_
    refine AO.val (RV.move rfl) (.none rfl) rfl ?_
    refine AO.pass (.some rfl rfl rfl rfl) rfl ?_
    refine AO.pass (.some rfl rfl rfl rfl) rfl ?_
    refine AO.pass (.some rfl rfl rfl rfl) rfl ?_
    refine AO.pass (.some rfl rfl rfl rfl) rfl ?_
    refine AO.val (RV.pickF rfl rfl) (.none rfl) rfl ?_
    refine AO.val (RV.move rfl) (.none rfl) rfl ?_
    refine AO.pass (.some rfl rfl rfl rfl) rfl ?_
    refine AO.pass (.some rfl rfl rfl rfl) rfl ?_
    refine AO.pass (.some rfl rfl rfl rfl) rfl ?_
    refine AO.pass (.some rfl rfl rfl rfl) rfl ?_
    refine AO.pass (.some rfl rfl rfl rfl) rfl ?_
    refine AO.pass (.some rfl rfl rfl rfl) rfl ?_
    refine AO.val (RV.pickF rfl rfl) (.none rfl) rfl ?_
    refine AO.val (RV.assign rfl) (.none rfl) rfl ?_
    refine AO.nil ?_
    -- at f
    refine AK.ret (h' := h) Try.func28 (.tmp rfl .nil) ?_ (by first | exact SubO.sub | exact List.Sublist.refl _ | exact .cons _ (List.Sublist.refl _) | exact .cons _ (.cons _ (List.Sublist.refl _)) | exact .cons _ (.cons _ (.cons _ (List.Sublist.refl _))))
    refine ⟨rfl, ?_⟩
    simp only [thereB, oneOr, Value.bool.injEq]
    first | (symm; rw [decide_eq_false_iff_not]; omega) | (apply decide_eq_decide.2; omega) | (simp; omega)

theorem number_spec (B : World) (h : Own) {A : Option Addr} {cap : Nat} (l : List Int) (hl : Src B h A l.length 1 (l.map (fun x => Value.int .u8 x))) (hcap : l.length ≤ cap) (hln : l.length ≤ 1000000) (hb : Bytes l) (h4 : l.length ≤ 4) : Tri Try.prog B 29 [.slice A l.length cap] h fun v h' => h = h' ∧ v = .int .u32 (beV l) := by
  refine Tri.enter (n := 19) Try.func29 rfl rfl rfl ?_
  simp only [argsE, Nat.reduceAdd]
  try dsimp only [argsE]
  refine AK.seq ?_
  refine AK.region ?_
  refine AO.val (RV.assign rfl) (.none rfl) rfl ?_
  refine AO.nil ?_
  refine AK.seq ?_
  refine AK.region ?_
  refine AO.val (RV.assign rfl) (.none rfl) rfl ?_
  refine AO.nil ?_
  refine AK.seq ?_
  refine AK.seq ?_
  refine AK.region ?_
  refine AO.val (RV.move rfl) (.none rfl) rfl ?_
  refine AO.val (RV.lenS rfl) (.none rfl) rfl ?_
  refine AO.val (RV.move rfl) (.none rfl) rfl ?_
  refine AO.nil ?_
  refine AK.block ?_
  refine AK.loop (α := Int) (E := fun i => [(3, .int .u32 (beV (l.take i.toNat))), (6, .slice A l.length cap), (7, .int .i64 l.length), (8, .int .i64 i)]) (H := fun i => h) (Inv := fun i => 0 ≤ i ∧ i ≤ l.length) (μ := fun i => (l.length - i).toNat) 0 ?_ (.cons (by exact rfl) (.cons (by exact rfl) (.cons (by exact rfl) (.cons (by exact rfl) .nil)))) ?_ ?_
  · exact ⟨by omega, by omega⟩
  · exact (by first | exact SubO.sub | exact List.Sublist.refl _ | exact .cons _ (List.Sublist.refl _) | exact .cons _ (.cons _ (List.Sublist.refl _)) | exact .cons _ (.cons _ (.cons _ (List.Sublist.refl _))))
  rintro i ⟨hi0, hin⟩ hih0
  try dsimp only at hih0 ⊢
  refine AK.seq ?_
  refine AK.region ?_
  refine AO.val (RV.lss rfl rfl) (.none rfl) rfl ?_
  refine AO.nil ?_
  refine AK.seq ?_
  refine AK.cond rfl ?_ ?_
  · intro hc1
    try simp only [decide_eq_true_eq, decide_eq_false_iff_not, Bool.not_eq_true', Bool.not_eq_false', beq_iff_eq] at hc1
    have ht := beV_take hb h4 i hi0 (by omega)
    have hx := lget_bytes hb i hi0 (by omega)
    refine AK.skip ?_
    refine AK.seq ?_
    refine AK.block ?_
    refine AK.seq ?_
    refine AK.region ?_
    refine AO.val (by first | exact RV.indexS rfl rfl (by assumption) (by omega) rfl | exact RV.indexAddr rfl rfl (by omega)) (.none rfl) rfl ?_
    refine AO.val (by first | exact RV.loadO rfl rfl (by first | simp | assumption) | exact RV.loadS rfl (by assumption) (by omega) (by first | simp | assumption)) (.none rfl) rfl ?_
    refine AO.val (RV.assign rfl) (.none rfl) rfl ?_
    refine AO.nil ?_
    refine AK.region ?_
    refine AO.val (RV.move rfl) (.none rfl) rfl ?_
    refine AO.val ((RV.shl rfl rfl (by omega)).to (v' := .int .u32 (beV (l.take i.toNat) * 256)) (by rw [show (2 : Int) ^ (min (8 : Int).toNat IntKind.u32.bits) = 256 by decide]; rw [wrap_in] <;> simp only [kb] <;> omega)) (.none rfl) rfl ?_
    refine AO.val (RV.move rfl) (.none rfl) rfl ?_
    refine AO.val (by first | exact RV.convIn rfl (by simp only [kb]; omega) | exact RV.conv rfl) (.none rfl) rfl ?_
    refine AO.val ((RV.or rfl rfl).to (v' := .int .u32 (beV (l.take (i + 1).toNat))) (by rw [take_snoc l i hi0 (by omega), beV_snoc, or_byte _ _ ht hx])) (.none rfl) rfl ?_
    refine AO.val (RV.assign rfl) (.none rfl) rfl ?_
    refine AO.nil ?_
    refine AK.inBlock ?_
    refine AK.region ?_
    refine AO.val (by first | exact RV.addIn rfl rfl (by omega) | exact RV.add rfl rfl) (.none rfl) rfl ?_
    refine AO.val (RV.move rfl) (.none rfl) rfl ?_
    refine AO.nil ?_
    -- round ends at L0T
    refine AK.weak (.cons (by exact rfl) (.cons (by exact rfl) (.cons (by exact rfl) (.cons (by exact rfl) .nil)))) (by first | exact SubO.sub | exact List.Sublist.refl _ | exact .cons _ (List.Sublist.refl _) | exact .cons _ (.cons _ (List.Sublist.refl _)) | exact .cons _ (.cons _ (.cons _ (List.Sublist.refl _)))) (hih0 (i + 1) ?_ ?_)
    · try dsimp only
      exact ⟨by omega, by omega⟩
    · try dsimp only
      omega
  · intro hc1
    try simp only [decide_eq_true_eq, decide_eq_false_iff_not, Bool.not_eq_true', Bool.not_eq_false', beq_iff_eq] at hc1
    refine AK.exit rfl ?_
    refine AK.seq ?_
    refine AK.region ?_
    refine AO.val (RV.move rfl) (.none rfl) rfl ?_
    refine AO.val (RV.assign rfl) (.none rfl) rfl ?_
    refine AO.nil ?_
    -- at L0F
    clear hih0
    refine AK.ret (h' := h) Try.func29 (.tmp rfl .nil) ?_ (by first | exact SubO.sub | exact List.Sublist.refl _ | exact .cons _ (List.Sublist.refl _) | exact .cons _ (.cons _ (List.Sublist.refl _)) | exact .cons _ (.cons _ (.cons _ (List.Sublist.refl _))))
    refine ⟨rfl, ?_⟩
    rw [show l.take i.toNat = l from List.take_of_length_le (by omega)]; rfl

theorem get32_spec (B : World) (h : Own) {A : Option Addr} {cap : Nat} (l : List Int) (hl : Src B h A l.length 1 (l.map (fun x => Value.int .u8 x))) (hcap : l.length ≤ cap) (hln : l.length ≤ 1000000) (hb : Bytes l) (k : Int) (hk : k ≤ 1000000) : Tri Try.prog B 25 [.slice A l.length cap, .int .i64 k] h fun v h' => h = h' ∧ v = .tuple #[.int .u32 (if thereB l k 4 = true then beV (cutL l k 4) else 0), .bool (thereB l k 4)] := by
  refine Tri.enter (n := 16) Try.func25 rfl rfl rfl ?_
  simp only [argsE, Nat.reduceAdd]
  try dsimp only [argsE]
  refine AK.seq ?_
  refine AK.region ?_
  refine AO.val (RV.assign rfl) (.none rfl) rfl ?_
  refine AO.val (RV.assign rfl) (.none rfl) rfl ?_
  refine AO.nil ?_
  refine AK.seq ?_
  refine AK.seq ?_
  refine AK.region ?_
  refine AO.val (RV.move rfl) (.none rfl) rfl ?_
  refine AO.val (RV.move rfl) (.none rfl) rfl ?_
  refine AO.eff (EF.callF rfl (there_spec (cap := cap) B _ l hln _ _)) (.none rfl) rfl ?_
  rintro _ _ ⟨rfl, rfl⟩
  refine AO.val (RV.not rfl) (.none rfl) rfl ?_
  refine AO.nil ?_
  refine AK.cond rfl ?_ ?_
  · intro hc1
    try simp only [decide_eq_true_eq, decide_eq_false_iff_not, Bool.not_eq_true', Bool.not_eq_false', beq_iff_eq] at hc1
    refine AK.seq ?_
    refine AK.region ?_
    refine AO.val (RV.assign rfl) (.none rfl) rfl ?_
    refine AO.val (RV.assign rfl) (.none rfl) rfl ?_
    refine AO.nil ?_
    -- at T
    refine AK.ret (h' := h) Try.func25 (.tmp rfl (.tmp rfl .nil)) ?_ (by first | exact SubO.sub | exact List.Sublist.refl _ | exact .cons _ (List.Sublist.refl _) | exact .cons _ (.cons _ (List.Sublist.refl _)) | exact .cons _ (.cons _ (.cons _ (List.Sublist.refl _))))
    refine ⟨rfl, ?_⟩
    simp [hc1, oneOr]
  · intro hc1
    try simp only [decide_eq_true_eq, decide_eq_false_iff_not, Bool.not_eq_true', Bool.not_eq_false', beq_iff_eq] at hc1
    have hps := part_src hl hcap hc1
    have hpl := part_len hc1
    have hpb := beV_in (cutL l k 4) (part_bytes hb _ _)
    rw [hpl] at hpb
    have htt : 0 ≤ k ∧ 0 ≤ (4 : Int) ∧ k + 4 ≤ l.length := by simpa [thereB] using hc1
    refine AK.skip ?_
    refine AK.seq ?_
    refine AK.region ?_
    refine AO.val (RV.move rfl) (.none rfl) rfl ?_
    refine AO.val (RV.move rfl) (.none rfl) rfl ?_
    refine AO.val (RV.move rfl) (.none rfl) rfl ?_
    refine AO.val (by first | exact RV.addIn rfl rfl (by omega) | exact RV.add rfl rfl) (.none rfl) rfl ?_
    refine AO.val ((RV.sliceLH rfl rfl rfl (by omega)).to (v' := .slice (if (cap : Int) = k then A else cutA A (k.toNat * 1)) (cutL l k 4).length ((cap : Int) - k).toNat) (by rw [hpl, show (k + 4 - k : Int) = 4 by omega])) (.none rfl) rfl ?_
    refine AO.eff (EF.callF rfl (number_spec (cap := ((cap : Int) - k).toNat) B _ (cutL l k 4) hps.1 hps.2 (by omega) (part_bytes hb _ _) (by omega))) (.none rfl) rfl ?_
    rintro _ _ ⟨rfl, rfl⟩
    refine AO.val (RV.assign rfl) (.none rfl) rfl ?_
    refine AO.val (RV.assign rfl) (.none rfl) rfl ?_
    refine AO.nil ?_
    -- at F
    refine AK.ret (h' := h) Try.func25 (.tmp rfl (.tmp rfl .nil)) ?_ (by first | exact SubO.sub | exact List.Sublist.refl _ | exact .cons _ (List.Sublist.refl _) | exact .cons _ (.cons _ (List.Sublist.refl _)) | exact .cons _ (.cons _ (.cons _ (List.Sublist.refl _))))
    refine ⟨rfl, ?_⟩
    simp [hc1, oneOr]

end Go.Proofs.Ytefpiiknjnekeaa
