/- Walks through the code: what each function that is named here gives back, from any memory that holds its arguments. Written by a program of the claim's author, out of the program's form in Lean. -/
import Derived.Test.YtbdlohjmifgcaaaW4
import Derived.Test.YtbdlohjmifgcaaaPlainQ42
set_option linter.unusedSimpArgs false
set_option linter.unusedVariables false
namespace Go.Proofs.Ytbdlohjmifgcaaa
open Go.Sep Go.Sep.Sip Go.Sep.Perm Go.Sep.Maglev Go.Sep.Board Go.Sep.Cookie
structure FIn (B : World) (D : Own) (f : FM) : Prop where
  sv : Src B D f.vs.A f.vs.l.length 5 (flat encV f.vs.l)
  cv : f.vs.l.length ≤ f.vs.cap
  sb : Src B D f.bs.A f.bs.l.length 6 (flat encK f.bs.l)
  cb : f.bs.l.length ≤ f.bs.cap
theorem FIn.mono {B : World} {D D' : Own} {f : FM} (i : FIn B D f) (h : ∀ x ∈ D, x ∈ D') : FIn B D' f := ⟨i.sv.mono h, i.cv, i.sb.mono h, i.cb⟩
theorem fin_zero (B : World) (D : Own) : FIn B D ZF := ⟨⟨rfl, by simp [flat]⟩, Nat.le_refl 0, ⟨rfl, by simp [flat]⟩, Nat.le_refl 0⟩
theorem FarmOk.bk {f : FM} (fo : FarmOk f) : ∀ b ∈ f.bs.l, BkOk b := fun b hb => by
  obtain ⟨⟨h1, h2⟩, h3, h4⟩ := fo.ok b hb
  exact ⟨⟨by omega, by omega⟩, by omega, by omega⟩

theorem special_spec (B : World) (h : Own) (a : Int) : Tri Try.prog B 57 [.int .u32 a] h fun v h' => h = h' ∧ ∃ s, v = .bool s := by
  refine Tri.enter (n := 16) Try.func57 rfl rfl rfl ?_
  simp only [argsE, Nat.reduceAdd]
  try dsimp only [argsE]
  refine AK.seq ?_
  refine AK.region ?_
  refine AO.val (RV.assign rfl) (.none rfl) rfl ?_
  refine AO.nil ?_
  refine AK.seq ?_
  refine AK.region ?_
  refine AO.val (RV.move rfl) (.none rfl) rfl ?_
  refine AO.val (RV.quo rfl rfl (by omega)) (.none rfl) rfl ?_
  refine AO.val (RV.assign rfl) (.none rfl) rfl ?_
  refine AO.nil ?_
  refine AK.seq ?_
  refine AK.region ?_
  refine AO.val (RV.move rfl) (.none rfl) rfl ?_
  refine AO.val (RV.eql rfl rfl) (.none rfl) rfl ?_
  refine AO.val (RV.move rfl) (.none rfl) rfl ?_
  refine AO.caseG rfl rfl rfl ?_ ?_
  · intro hg1
    try simp only [decide_eq_true_eq, decide_eq_false_iff_not, Bool.not_eq_true', Bool.not_eq_false', beq_iff_eq] at hg1
    refine AO.pass (.some rfl rfl rfl rfl) rfl ?_
    refine AO.pass (.some rfl rfl rfl rfl) rfl ?_
    refine AO.val (RV.pickT rfl rfl) (.none rfl) rfl ?_
    refine AO.val (RV.move rfl) (.none rfl) rfl ?_
    refine AO.pass (.some rfl rfl rfl rfl) rfl ?_
    refine AO.pass (.some rfl rfl rfl rfl) rfl ?_
    refine AO.val (RV.pickT rfl rfl) (.none rfl) rfl ?_
    refine AO.val (RV.assign rfl) (.none rfl) rfl ?_
    refine AO.nil ?_
    -- at t
    refine AK.ret (h' := h) Try.func57 (.tmp rfl .nil) ?_ (by first | exact SubO.sub | exact List.Sublist.refl _ | exact .cons _ (List.Sublist.refl _) | exact .cons _ (.cons _ (List.Sublist.refl _)) | exact .cons _ (.cons _ (.cons _ (List.Sublist.refl _))))
    exact ⟨rfl, _, rfl⟩
  · intro hg1
    try simp only [decide_eq_true_eq, decide_eq_false_iff_not, Bool.not_eq_true', Bool.not_eq_false', beq_iff_eq] at hg1
    refine AO.val (RV.move rfl) (.some rfl rfl rfl rfl) rfl ?_
    refine AO.val (RV.eql rfl rfl) (.some rfl rfl rfl rfl) rfl ?_
    refine AO.val (RV.pickF rfl rfl) (.none rfl) rfl ?_
    refine AO.val (RV.move rfl) (.none rfl) rfl ?_
    refine AO.caseG rfl rfl rfl ?_ ?_
    · intro hg2
      try simp only [decide_eq_true_eq, decide_eq_false_iff_not, Bool.not_eq_true', Bool.not_eq_false', beq_iff_eq] at hg2
      refine AO.pass (.some rfl rfl rfl rfl) rfl ?_
      refine AO.pass (.some rfl rfl rfl rfl) rfl ?_
      refine AO.val (RV.pickT rfl rfl) (.none rfl) rfl ?_
      refine AO.val (RV.assign rfl) (.none rfl) rfl ?_
      refine AO.nil ?_
      -- at ft
      refine AK.ret (h' := h) Try.func57 (.tmp rfl .nil) ?_ (by first | exact SubO.sub | exact List.Sublist.refl _ | exact .cons _ (List.Sublist.refl _) | exact .cons _ (.cons _ (List.Sublist.refl _)) | exact .cons _ (.cons _ (.cons _ (List.Sublist.refl _))))
      exact ⟨rfl, _, rfl⟩
    · intro hg2
      try simp only [decide_eq_true_eq, decide_eq_false_iff_not, Bool.not_eq_true', Bool.not_eq_false', beq_iff_eq] at hg2
      refine AO.val (RV.move rfl) (.some rfl rfl rfl rfl) rfl ?_
      refine AO.val (RV.gtr rfl rfl) (.some rfl rfl rfl rfl) rfl ?_
      refine AO.val (RV.pickF rfl rfl) (.none rfl) rfl ?_
      refine AO.val (RV.assign rfl) (.none rfl) rfl ?_
      refine AO.nil ?_
      -- at ff
      refine AK.ret (h' := h) Try.func57 (.tmp rfl .nil) ?_ (by first | exact SubO.sub | exact List.Sublist.refl _ | exact .cons _ (List.Sublist.refl _) | exact .cons _ (.cons _ (List.Sublist.refl _)) | exact .cons _ (.cons _ (.cons _ (List.Sublist.refl _))))
      exact ⟨rfl, _, rfl⟩

theorem goodv_spec (B : World) (h : Own) (v : VpT) : Tri Try.prog B 36 [.agg (encV v).toArray] h fun r h' => h = h' ∧ ∃ s, r = .bool s ∧ (s = true → 1 ≤ v.1 ∧ v.1 ≤ 99) := by
  refine Tri.enter (n := 44) Try.func36 rfl rfl rfl ?_
  simp only [argsE, Nat.reduceAdd]
  try dsimp only [argsE]
  refine AK.seq ?_
  refine AK.region ?_
  refine AO.eff (EF.box rfl rfl) (.none rfl) rfl ?_
  rintro _ _ ⟨b1, hf1, rfl, rfl⟩
  refine AO.val (RV.assign rfl) (.none rfl) rfl ?_
  refine AO.nil ?_
  refine AK.seq ?_
  refine AK.seq ?_
  refine AK.region ?_
  refine AO.val (RV.fieldAddr rfl) (.none rfl) rfl ?_
  refine AO.val (by first | exact RV.loadO rfl rfl (by first | simp | assumption) | exact RV.loadS rfl (by assumption) (by omega) (by first | simp | assumption)) (.none rfl) rfl ?_
  refine AO.val (RV.lss rfl rfl) (.none rfl) rfl ?_
  refine AO.val (RV.move rfl) (.none rfl) rfl ?_
  refine AO.caseG rfl rfl rfl ?_ ?_
  · intro hg1
    try simp only [decide_eq_true_eq, decide_eq_false_iff_not, Bool.not_eq_true', Bool.not_eq_false', beq_iff_eq] at hg1
    refine AO.pass (.some rfl rfl rfl rfl) rfl ?_
    refine AO.pass (.some rfl rfl rfl rfl) rfl ?_
    refine AO.pass (.some rfl rfl rfl rfl) rfl ?_
    refine AO.val (RV.pickT rfl rfl) (.none rfl) rfl ?_
    refine AO.val (RV.move rfl) (.none rfl) rfl ?_
    refine AO.pass (.some rfl rfl rfl rfl) rfl ?_
    refine AO.pass (.some rfl rfl rfl rfl) rfl ?_
    refine AO.pass (.some rfl rfl rfl rfl) rfl ?_
    refine AO.val (RV.pickT rfl rfl) (.none rfl) rfl ?_
    refine AO.val (RV.move rfl) (.none rfl) rfl ?_
    refine AO.pass (.some rfl rfl rfl rfl) rfl ?_
    refine AO.pass (.some rfl rfl rfl rfl) rfl ?_
    refine AO.pass (.some rfl rfl rfl rfl) rfl ?_
    refine AO.val (RV.pickT rfl rfl) (.none rfl) rfl ?_
    refine AO.nil ?_
    refine AK.condT rfl ?_
    refine AK.seq ?_
    refine AK.region ?_
    refine AO.val (RV.assign rfl) (.none rfl) rfl ?_
    refine AO.nil ?_
    -- at t
    refine AK.ret (h' := h) Try.func36 (.tmp rfl .nil) ?_ (by first | exact SubO.sub | exact List.Sublist.refl _ | exact .cons _ (List.Sublist.refl _) | exact .cons _ (.cons _ (List.Sublist.refl _)) | exact .cons _ (.cons _ (.cons _ (List.Sublist.refl _))))
    refine ⟨rfl, _, rfl, ?_⟩
    first | (intro hg0; cases hg0; done) | (intro hg0; omega)
  · intro hg1
    try simp only [decide_eq_true_eq, decide_eq_false_iff_not, Bool.not_eq_true', Bool.not_eq_false', beq_iff_eq] at hg1
    refine AO.val (RV.fieldAddr rfl) (.some rfl rfl rfl rfl) rfl ?_
    refine AO.val (by first | exact RV.loadO rfl rfl (by first | simp | assumption) | exact RV.loadS rfl (by assumption) (by omega) (by first | simp | assumption)) (.some rfl rfl rfl rfl) rfl ?_
    refine AO.val (RV.gtr rfl rfl) (.some rfl rfl rfl rfl) rfl ?_
    refine AO.val (RV.pickF rfl rfl) (.none rfl) rfl ?_
    refine AO.val (RV.move rfl) (.none rfl) rfl ?_
    refine AO.caseG rfl rfl rfl ?_ ?_
    · intro hg2
      try simp only [decide_eq_true_eq, decide_eq_false_iff_not, Bool.not_eq_true', Bool.not_eq_false', beq_iff_eq] at hg2
      refine AO.pass (.some rfl rfl rfl rfl) rfl ?_
      refine AO.pass (.some rfl rfl rfl rfl) rfl ?_
      refine AO.pass (.some rfl rfl rfl rfl) rfl ?_
      refine AO.val (RV.pickT rfl rfl) (.none rfl) rfl ?_
      refine AO.val (RV.move rfl) (.none rfl) rfl ?_
      refine AO.pass (.some rfl rfl rfl rfl) rfl ?_
      refine AO.pass (.some rfl rfl rfl rfl) rfl ?_
      refine AO.pass (.some rfl rfl rfl rfl) rfl ?_
      refine AO.val (RV.pickT rfl rfl) (.none rfl) rfl ?_
      refine AO.nil ?_
      refine AK.condT rfl ?_
      refine AK.seq ?_
      refine AK.region ?_
      refine AO.val (RV.assign rfl) (.none rfl) rfl ?_
      refine AO.nil ?_
      -- at ft
      refine AK.ret (h' := h) Try.func36 (.tmp rfl .nil) ?_ (by first | exact SubO.sub | exact List.Sublist.refl _ | exact .cons _ (List.Sublist.refl _) | exact .cons _ (.cons _ (List.Sublist.refl _)) | exact .cons _ (.cons _ (.cons _ (List.Sublist.refl _))))
      refine ⟨rfl, _, rfl, ?_⟩
      first | (intro hg0; cases hg0; done) | (intro hg0; omega)
    · intro hg2
      try simp only [decide_eq_true_eq, decide_eq_false_iff_not, Bool.not_eq_true', Bool.not_eq_false', beq_iff_eq] at hg2
      refine AO.val (RV.fieldAddr rfl) (.some rfl rfl rfl rfl) rfl ?_
      refine AO.val (by first | exact RV.loadO rfl rfl (by first | simp | assumption) | exact RV.loadS rfl (by assumption) (by omega) (by first | simp | assumption)) (.some rfl rfl rfl rfl) rfl ?_
      refine AO.eff (EF.callF rfl (special_spec B _ _)) (.some rfl rfl rfl rfl) rfl ?_
      rintro _ _ ⟨rfl, sp, rfl⟩
      refine AO.val (RV.pickF rfl rfl) (.none rfl) rfl ?_
      refine AO.val (RV.move rfl) (.none rfl) rfl ?_
      refine AO.caseG rfl rfl rfl ?_ ?_
      · intro hg3
        try simp only [decide_eq_true_eq, decide_eq_false_iff_not, Bool.not_eq_true', Bool.not_eq_false', beq_iff_eq] at hg3
        refine AO.pass (.some rfl rfl rfl rfl) rfl ?_
        refine AO.pass (.some rfl rfl rfl rfl) rfl ?_
        refine AO.pass (.some rfl rfl rfl rfl) rfl ?_
        refine AO.val (RV.pickT rfl rfl) (.none rfl) rfl ?_
        refine AO.nil ?_
        refine AK.condT rfl ?_
        refine AK.seq ?_
        refine AK.region ?_
        refine AO.val (RV.assign rfl) (.none rfl) rfl ?_
        refine AO.nil ?_
        -- at fft
        refine AK.ret (h' := h) Try.func36 (.tmp rfl .nil) ?_ (by first | exact SubO.sub | exact List.Sublist.refl _ | exact .cons _ (List.Sublist.refl _) | exact .cons _ (.cons _ (List.Sublist.refl _)) | exact .cons _ (.cons _ (.cons _ (List.Sublist.refl _))))
        refine ⟨rfl, _, rfl, ?_⟩
        first | (intro hg0; cases hg0; done) | (intro hg0; omega)
      · intro hg3
        try simp only [decide_eq_true_eq, decide_eq_false_iff_not, Bool.not_eq_true', Bool.not_eq_false', beq_iff_eq] at hg3
        refine AO.val (RV.fieldAddr rfl) (.some rfl rfl rfl rfl) rfl ?_
        refine AO.val (by first | exact RV.loadO rfl rfl (by first | simp | assumption) | exact RV.loadS rfl (by assumption) (by omega) (by first | simp | assumption)) (.some rfl rfl rfl rfl) rfl ?_
        refine AO.val (RV.eql rfl rfl) (.some rfl rfl rfl rfl) rfl ?_
        refine AO.val (RV.pickF rfl rfl) (.none rfl) rfl ?_
        refine AO.nil ?_
        refine AK.cond rfl ?_ ?_
        · intro hc4
          try simp only [decide_eq_true_eq, decide_eq_false_iff_not, Bool.not_eq_true', Bool.not_eq_false', beq_iff_eq] at hc4
          refine AK.seq ?_
          refine AK.region ?_
          refine AO.val (RV.assign rfl) (.none rfl) rfl ?_
          refine AO.nil ?_
          -- at fffT
          refine AK.ret (h' := h) Try.func36 (.tmp rfl .nil) ?_ (by first | exact SubO.sub | exact List.Sublist.refl _ | exact .cons _ (List.Sublist.refl _) | exact .cons _ (.cons _ (List.Sublist.refl _)) | exact .cons _ (.cons _ (.cons _ (List.Sublist.refl _))))
          refine ⟨rfl, _, rfl, ?_⟩
          first | (intro hg0; cases hg0; done) | (intro hg0; omega)
        · intro hc4
          try simp only [decide_eq_true_eq, decide_eq_false_iff_not, Bool.not_eq_true', Bool.not_eq_false', beq_iff_eq] at hc4
          refine AK.skip ?_
          refine AK.seq ?_
          refine AK.region ?_
          refine AO.val (RV.fieldAddr rfl) (.none rfl) rfl ?_
          refine AO.val (by first | exact RV.loadO rfl rfl (by first | simp | assumption) | exact RV.loadS rfl (by assumption) (by omega) (by first | simp | assumption)) (.none rfl) rfl ?_
          refine AO.val (RV.eql rfl rfl) (.none rfl) rfl ?_
          refine AO.val (RV.move rfl) (.none rfl) rfl ?_
          refine AO.caseG rfl rfl rfl ?_ ?_
          · intro hg5
            try simp only [decide_eq_true_eq, decide_eq_false_iff_not, Bool.not_eq_true', Bool.not_eq_false', beq_iff_eq] at hg5
            refine AO.val (RV.fieldAddr rfl) (.some rfl rfl rfl rfl) rfl ?_
            refine AO.val (by first | exact RV.loadO rfl rfl (by first | simp | assumption) | exact RV.loadS rfl (by assumption) (by omega) (by first | simp | assumption)) (.some rfl rfl rfl rfl) rfl ?_
            refine AO.val (RV.eql rfl rfl) (.some rfl rfl rfl rfl) rfl ?_
            refine AO.val (RV.move rfl) (.some rfl rfl rfl rfl) rfl ?_
            refine AO.caseG rfl rfl rfl ?_ ?_
            · intro hg6
              try simp only [decide_eq_true_eq, decide_eq_false_iff_not, Bool.not_eq_true', Bool.not_eq_false', beq_iff_eq] at hg6
              refine AO.pass (.some rfl rfl rfl rfl) rfl ?_
              refine AO.pass (.some rfl rfl rfl rfl) rfl ?_
              refine AO.pass (.some rfl rfl rfl rfl) rfl ?_
              refine AO.val (RV.pickT rfl rfl) (.some rfl rfl rfl rfl) rfl ?_
              refine AO.val (RV.pickT rfl rfl) (.none rfl) rfl ?_
              refine AO.val (RV.move rfl) (.none rfl) rfl ?_
              refine AO.pass (.some rfl rfl rfl rfl) rfl ?_
              refine AO.pass (.some rfl rfl rfl rfl) rfl ?_
              refine AO.pass (.some rfl rfl rfl rfl) rfl ?_
              refine AO.pass (.some rfl rfl rfl rfl) rfl ?_
              refine AO.pass (.undef rfl rfl rfl) rfl ?_
              refine AO.pass (.undef rfl rfl rfl) rfl ?_
              refine AO.pass (.undef rfl rfl rfl) rfl ?_
              refine AO.pass (.some rfl rfl rfl rfl) rfl ?_
              refine AO.val (RV.pickT rfl rfl) (.none rfl) rfl ?_
              refine AO.val (RV.assign rfl) (.none rfl) rfl ?_
              refine AO.nil ?_
              -- at fffFtt
              refine AK.ret (h' := h) Try.func36 (.tmp rfl .nil) ?_ (by first | exact SubO.sub | exact List.Sublist.refl _ | exact .cons _ (List.Sublist.refl _) | exact .cons _ (.cons _ (List.Sublist.refl _)) | exact .cons _ (.cons _ (.cons _ (List.Sublist.refl _))))
              refine ⟨rfl, _, rfl, ?_⟩
              first | (intro hg0; cases hg0; done) | (intro hg0; omega)
            · intro hg6
              try simp only [decide_eq_true_eq, decide_eq_false_iff_not, Bool.not_eq_true', Bool.not_eq_false', beq_iff_eq] at hg6
              refine AO.val (RV.fieldAddr rfl) (.some rfl rfl rfl rfl) rfl ?_
              refine AO.val (by first | exact RV.loadO rfl rfl (by first | simp | assumption) | exact RV.loadS rfl (by assumption) (by omega) (by first | simp | assumption)) (.some rfl rfl rfl rfl) rfl ?_
              refine AO.val (RV.eql rfl rfl) (.some rfl rfl rfl rfl) rfl ?_
              refine AO.val (RV.pickF rfl rfl) (.some rfl rfl rfl rfl) rfl ?_
              refine AO.val (RV.pickT rfl rfl) (.none rfl) rfl ?_
              refine AO.val (RV.move rfl) (.none rfl) rfl ?_
              refine AO.caseG rfl rfl rfl ?_ ?_
              · intro hg7
                try simp only [decide_eq_true_eq, decide_eq_false_iff_not, Bool.not_eq_true', Bool.not_eq_false', beq_iff_eq] at hg7
                refine AO.pass (.some rfl rfl rfl rfl) rfl ?_
                refine AO.pass (.some rfl rfl rfl rfl) rfl ?_
                refine AO.pass (.some rfl rfl rfl rfl) rfl ?_
                refine AO.pass (.some rfl rfl rfl rfl) rfl ?_
                refine AO.pass (.undef rfl rfl rfl) rfl ?_
                refine AO.pass (.undef rfl rfl rfl) rfl ?_
                refine AO.pass (.undef rfl rfl rfl) rfl ?_
                refine AO.pass (.some rfl rfl rfl rfl) rfl ?_
                refine AO.val (RV.pickT rfl rfl) (.none rfl) rfl ?_
                refine AO.val (RV.assign rfl) (.none rfl) rfl ?_
                refine AO.nil ?_
                -- at fffFtft
                refine AK.ret (h' := h) Try.func36 (.tmp rfl .nil) ?_ (by first | exact SubO.sub | exact List.Sublist.refl _ | exact .cons _ (List.Sublist.refl _) | exact .cons _ (.cons _ (List.Sublist.refl _)) | exact .cons _ (.cons _ (.cons _ (List.Sublist.refl _))))
                refine ⟨rfl, _, rfl, ?_⟩
                first | (intro hg0; cases hg0; done) | (intro hg0; omega)
              · intro hg7
                try simp only [decide_eq_true_eq, decide_eq_false_iff_not, Bool.not_eq_true', Bool.not_eq_false', beq_iff_eq] at hg7
                refine AO.val (RV.fieldAddr rfl) (.some rfl rfl rfl rfl) rfl ?_
                refine AO.val (by first | exact RV.loadO rfl rfl (by first | simp | assumption) | exact RV.loadS rfl (by assumption) (by omega) (by first | simp | assumption)) (.some rfl rfl rfl rfl) rfl ?_
                refine AO.val (RV.eql rfl rfl) (.some rfl rfl rfl rfl) rfl ?_
                refine AO.val (RV.move rfl) (.some rfl rfl rfl rfl) rfl ?_
                refine AO.caseG rfl rfl rfl ?_ ?_
                · intro hg8
                  try simp only [decide_eq_true_eq, decide_eq_false_iff_not, Bool.not_eq_true', Bool.not_eq_false', beq_iff_eq] at hg8
                  refine AO.val (RV.fieldAddr rfl) (.some rfl rfl rfl rfl) rfl ?_
                  refine AO.val (by first | exact RV.loadO rfl rfl (by first | simp | assumption) | exact RV.loadS rfl (by assumption) (by omega) (by first | simp | assumption)) (.some rfl rfl rfl rfl) rfl ?_
                  refine AO.val (RV.eql rfl rfl) (.some rfl rfl rfl rfl) rfl ?_
                  refine AO.val (RV.pickT rfl rfl) (.some rfl rfl rfl rfl) rfl ?_
                  refine AO.val (RV.pickF rfl rfl) (.none rfl) rfl ?_
                  refine AO.val (RV.assign rfl) (.none rfl) rfl ?_
                  refine AO.nil ?_
                  -- at fffFtfft
                  refine AK.ret (h' := h) Try.func36 (.tmp rfl .nil) ?_ (by first | exact SubO.sub | exact List.Sublist.refl _ | exact .cons _ (List.Sublist.refl _) | exact .cons _ (.cons _ (List.Sublist.refl _)) | exact .cons _ (.cons _ (.cons _ (List.Sublist.refl _))))
                  refine ⟨rfl, _, rfl, ?_⟩
                  first | (intro hg0; cases hg0; done) | (intro hg0; omega)
                · intro hg8
                  try simp only [decide_eq_true_eq, decide_eq_false_iff_not, Bool.not_eq_true', Bool.not_eq_false', beq_iff_eq] at hg8
                  refine AO.pass (.some rfl rfl rfl rfl) rfl ?_
                  refine AO.pass (.some rfl rfl rfl rfl) rfl ?_
                  refine AO.pass (.some rfl rfl rfl rfl) rfl ?_
                  refine AO.val (RV.pickF rfl rfl) (.some rfl rfl rfl rfl) rfl ?_
                  refine AO.val (RV.pickF rfl rfl) (.none rfl) rfl ?_
                  refine AO.val (RV.assign rfl) (.none rfl) rfl ?_
                  refine AO.nil ?_
                  -- at fffFtfff
                  refine AK.ret (h' := h) Try.func36 (.tmp rfl .nil) ?_ (by first | exact SubO.sub | exact List.Sublist.refl _ | exact .cons _ (List.Sublist.refl _) | exact .cons _ (.cons _ (List.Sublist.refl _)) | exact .cons _ (.cons _ (.cons _ (List.Sublist.refl _))))
                  refine ⟨rfl, _, rfl, ?_⟩
                  first | (intro hg0; cases hg0; done) | (intro hg0; omega)
          · intro hg5
            try simp only [decide_eq_true_eq, decide_eq_false_iff_not, Bool.not_eq_true', Bool.not_eq_false', beq_iff_eq] at hg5
            refine AO.pass (.some rfl rfl rfl rfl) rfl ?_
            refine AO.pass (.some rfl rfl rfl rfl) rfl ?_
            refine AO.pass (.some rfl rfl rfl rfl) rfl ?_
            refine AO.pass (.some rfl rfl rfl rfl) rfl ?_
            refine AO.pass (.undef rfl rfl rfl) rfl ?_
            refine AO.pass (.undef rfl rfl rfl) rfl ?_
            refine AO.pass (.undef rfl rfl rfl) rfl ?_
            refine AO.pass (.some rfl rfl rfl rfl) rfl ?_
            refine AO.val (RV.pickF rfl rfl) (.none rfl) rfl ?_
            refine AO.val (RV.move rfl) (.none rfl) rfl ?_
            refine AO.val (RV.fieldAddr rfl) (.some rfl rfl rfl rfl) rfl ?_
            refine AO.val (by first | exact RV.loadO rfl rfl (by first | simp | assumption) | exact RV.loadS rfl (by assumption) (by omega) (by first | simp | assumption)) (.some rfl rfl rfl rfl) rfl ?_
            refine AO.val (RV.eql rfl rfl) (.some rfl rfl rfl rfl) rfl ?_
            refine AO.val (RV.move rfl) (.some rfl rfl rfl rfl) rfl ?_
            refine AO.caseG rfl rfl rfl ?_ ?_
            · intro hg9
              try simp only [decide_eq_true_eq, decide_eq_false_iff_not, Bool.not_eq_true', Bool.not_eq_false', beq_iff_eq] at hg9
              refine AO.val (RV.fieldAddr rfl) (.some rfl rfl rfl rfl) rfl ?_
              refine AO.val (by first | exact RV.loadO rfl rfl (by first | simp | assumption) | exact RV.loadS rfl (by assumption) (by omega) (by first | simp | assumption)) (.some rfl rfl rfl rfl) rfl ?_
              refine AO.val (RV.eql rfl rfl) (.some rfl rfl rfl rfl) rfl ?_
              refine AO.val (RV.pickT rfl rfl) (.some rfl rfl rfl rfl) rfl ?_
              refine AO.val (RV.pickF rfl rfl) (.none rfl) rfl ?_
              refine AO.val (RV.assign rfl) (.none rfl) rfl ?_
              refine AO.nil ?_
              -- at fffFft
              refine AK.ret (h' := h) Try.func36 (.tmp rfl .nil) ?_ (by first | exact SubO.sub | exact List.Sublist.refl _ | exact .cons _ (List.Sublist.refl _) | exact .cons _ (.cons _ (List.Sublist.refl _)) | exact .cons _ (.cons _ (.cons _ (List.Sublist.refl _))))
              refine ⟨rfl, _, rfl, ?_⟩
              first | (intro hg0; cases hg0; done) | (intro hg0; omega)
            · intro hg9
              try simp only [decide_eq_true_eq, decide_eq_false_iff_not, Bool.not_eq_true', Bool.not_eq_false', beq_iff_eq] at hg9
              refine AO.pass (.some rfl rfl rfl rfl) rfl ?_
              refine AO.pass (.some rfl rfl rfl rfl) rfl ?_
              refine AO.pass (.some rfl rfl rfl rfl) rfl ?_
              refine AO.val (RV.pickF rfl rfl) (.some rfl rfl rfl rfl) rfl ?_
              refine AO.val (RV.pickF rfl rfl) (.none rfl) rfl ?_
              refine AO.val (RV.assign rfl) (.none rfl) rfl ?_
              refine AO.nil ?_
              -- at fffFff
              refine AK.ret (h' := h) Try.func36 (.tmp rfl .nil) ?_ (by first | exact SubO.sub | exact List.Sublist.refl _ | exact .cons _ (List.Sublist.refl _) | exact .cons _ (.cons _ (List.Sublist.refl _)) | exact .cons _ (.cons _ (.cons _ (List.Sublist.refl _))))
              refine ⟨rfl, _, rfl, ?_⟩
              first | (intro hg0; cases hg0; done) | (intro hg0; omega)

theorem goodb_spec (B : World) (h : Own) (b : Bk) : Tri Try.prog B 38 [.agg (encK b).toArray] h fun r h' => h = h' ∧ ∃ s, r = .bool s ∧ (s = true → BGood b) := by
  refine Tri.enter (n := 37) Try.func38 rfl rfl rfl ?_
  simp only [argsE, Nat.reduceAdd]
  try dsimp only [argsE]
  refine AK.seq ?_
  refine AK.region ?_
  refine AO.eff (EF.box rfl rfl) (.none rfl) rfl ?_
  rintro _ _ ⟨b1, hf1, rfl, rfl⟩
  refine AO.val (RV.assign rfl) (.none rfl) rfl ?_
  refine AO.nil ?_
  refine AK.seq ?_
  refine AK.region ?_
  refine AO.val (RV.fieldAddr rfl) (.none rfl) rfl ?_
  refine AO.val (by first | exact RV.loadO rfl rfl (by first | simp | assumption) | exact RV.loadS rfl (by assumption) (by omega) (by first | simp | assumption)) (.none rfl) rfl ?_
  refine AO.val (RV.geq rfl rfl) (.none rfl) rfl ?_
  refine AO.val (RV.move rfl) (.none rfl) rfl ?_
  refine AO.caseG rfl rfl rfl ?_ ?_
  · intro hg1
    try simp only [decide_eq_true_eq, decide_eq_false_iff_not, Bool.not_eq_true', Bool.not_eq_false', beq_iff_eq] at hg1
    refine AO.val (RV.fieldAddr rfl) (.some rfl rfl rfl rfl) rfl ?_
    refine AO.val (by first | exact RV.loadO rfl rfl (by first | simp | assumption) | exact RV.loadS rfl (by assumption) (by omega) (by first | simp | assumption)) (.some rfl rfl rfl rfl) rfl ?_
    refine AO.val (RV.leq rfl rfl) (.some rfl rfl rfl rfl) rfl ?_
    refine AO.val (RV.pickT rfl rfl) (.none rfl) rfl ?_
    refine AO.val (RV.move rfl) (.none rfl) rfl ?_
    refine AO.caseG rfl rfl rfl ?_ ?_
    · intro hg2
      try simp only [decide_eq_true_eq, decide_eq_false_iff_not, Bool.not_eq_true', Bool.not_eq_false', beq_iff_eq] at hg2
      refine AO.val (RV.fieldAddr rfl) (.some rfl rfl rfl rfl) rfl ?_
      refine AO.val (by first | exact RV.loadO rfl rfl (by first | simp | assumption) | exact RV.loadS rfl (by assumption) (by omega) (by first | simp | assumption)) (.some rfl rfl rfl rfl) rfl ?_
      refine AO.eff (EF.callF rfl (special_spec B _ _)) (.some rfl rfl rfl rfl) rfl ?_
      rintro _ _ ⟨rfl, sp, rfl⟩
      refine AO.val (RV.not rfl) (.some rfl rfl rfl rfl) rfl ?_
      refine AO.val (RV.pickT rfl rfl) (.none rfl) rfl ?_
      refine AO.val (RV.move rfl) (.none rfl) rfl ?_
      refine AO.caseG rfl rfl rfl ?_ ?_
      · intro hg3
        try simp only [decide_eq_true_eq, decide_eq_false_iff_not, Bool.not_eq_true', Bool.not_eq_false', beq_iff_eq] at hg3
        refine AO.val (RV.fieldAddr rfl) (.some rfl rfl rfl rfl) rfl ?_
        refine AO.val (by first | exact RV.loadO rfl rfl (by first | simp | assumption) | exact RV.loadS rfl (by assumption) (by omega) (by first | simp | assumption)) (.some rfl rfl rfl rfl) rfl ?_
        refine AO.val (RV.geq rfl rfl) (.some rfl rfl rfl rfl) rfl ?_
        refine AO.val (RV.pickT rfl rfl) (.none rfl) rfl ?_
        refine AO.val (RV.move rfl) (.none rfl) rfl ?_
        refine AO.caseG rfl rfl rfl ?_ ?_
        · intro hg4
          try simp only [decide_eq_true_eq, decide_eq_false_iff_not, Bool.not_eq_true', Bool.not_eq_false', beq_iff_eq] at hg4
          refine AO.val (RV.fieldAddr rfl) (.some rfl rfl rfl rfl) rfl ?_
          refine AO.val (by first | exact RV.loadO rfl rfl (by first | simp | assumption) | exact RV.loadS rfl (by assumption) (by omega) (by first | simp | assumption)) (.some rfl rfl rfl rfl) rfl ?_
          refine AO.val (RV.leq rfl rfl) (.some rfl rfl rfl rfl) rfl ?_
          refine AO.val (RV.pickT rfl rfl) (.none rfl) rfl ?_
          refine AO.val (RV.move rfl) (.none rfl) rfl ?_
          refine AO.caseG rfl rfl rfl ?_ ?_
          · intro hg5
            try simp only [decide_eq_true_eq, decide_eq_false_iff_not, Bool.not_eq_true', Bool.not_eq_false', beq_iff_eq] at hg5
            refine AO.val (RV.fieldAddr rfl) (.some rfl rfl rfl rfl) rfl ?_
            refine AO.val (by first | exact RV.loadO rfl rfl (by first | simp | assumption) | exact RV.loadS rfl (by assumption) (by omega) (by first | simp | assumption)) (.some rfl rfl rfl rfl) rfl ?_
            refine AO.val (RV.geq rfl rfl) (.some rfl rfl rfl rfl) rfl ?_
            refine AO.val (RV.pickT rfl rfl) (.none rfl) rfl ?_
            refine AO.val (RV.move rfl) (.none rfl) rfl ?_
            refine AO.caseG rfl rfl rfl ?_ ?_
            · intro hg6
              try simp only [decide_eq_true_eq, decide_eq_false_iff_not, Bool.not_eq_true', Bool.not_eq_false', beq_iff_eq] at hg6
              refine AO.val (RV.fieldAddr rfl) (.some rfl rfl rfl rfl) rfl ?_
              refine AO.val (by first | exact RV.loadO rfl rfl (by first | simp | assumption) | exact RV.loadS rfl (by assumption) (by omega) (by first | simp | assumption)) (.some rfl rfl rfl rfl) rfl ?_
              refine AO.val (RV.leq rfl rfl) (.some rfl rfl rfl rfl) rfl ?_
              refine AO.val (RV.pickT rfl rfl) (.none rfl) rfl ?_
              refine AO.val (RV.assign rfl) (.none rfl) rfl ?_
              refine AO.nil ?_
              -- at tttttt
              refine AK.ret (h' := h) Try.func38 (.tmp rfl .nil) ?_ (by first | exact SubO.sub | exact List.Sublist.refl _ | exact .cons _ (List.Sublist.refl _) | exact .cons _ (.cons _ (List.Sublist.refl _)) | exact .cons _ (.cons _ (.cons _ (List.Sublist.refl _))))
              refine ⟨rfl, _, rfl, ?_⟩
              first | (intro hg0; cases hg0; done) | (intro hg0; unfold BGood; omega)
            · intro hg6
              try simp only [decide_eq_true_eq, decide_eq_false_iff_not, Bool.not_eq_true', Bool.not_eq_false', beq_iff_eq] at hg6
              refine AO.pass (.some rfl rfl rfl rfl) rfl ?_
              refine AO.pass (.some rfl rfl rfl rfl) rfl ?_
              refine AO.pass (.some rfl rfl rfl rfl) rfl ?_
              refine AO.val (RV.pickF rfl rfl) (.none rfl) rfl ?_
              refine AO.val (RV.assign rfl) (.none rfl) rfl ?_
              refine AO.nil ?_
              -- at tttttf
              refine AK.ret (h' := h) Try.func38 (.tmp rfl .nil) ?_ (by first | exact SubO.sub | exact List.Sublist.refl _ | exact .cons _ (List.Sublist.refl _) | exact .cons _ (.cons _ (List.Sublist.refl _)) | exact .cons _ (.cons _ (.cons _ (List.Sublist.refl _))))
              refine ⟨rfl, _, rfl, ?_⟩
              first | (intro hg0; cases hg0; done) | (intro hg0; unfold BGood; omega)
          · intro hg5
            try simp only [decide_eq_true_eq, decide_eq_false_iff_not, Bool.not_eq_true', Bool.not_eq_false', beq_iff_eq] at hg5
            refine AO.pass (.some rfl rfl rfl rfl) rfl ?_
            refine AO.pass (.some rfl rfl rfl rfl) rfl ?_
            refine AO.pass (.some rfl rfl rfl rfl) rfl ?_
            refine AO.val (RV.pickF rfl rfl) (.none rfl) rfl ?_
            refine AO.val (RV.move rfl) (.none rfl) rfl ?_
            refine AO.pass (.some rfl rfl rfl rfl) rfl ?_
            refine AO.pass (.some rfl rfl rfl rfl) rfl ?_
            refine AO.pass (.some rfl rfl rfl rfl) rfl ?_
            refine AO.val (RV.pickF rfl rfl) (.none rfl) rfl ?_
            refine AO.val (RV.assign rfl) (.none rfl) rfl ?_
            refine AO.nil ?_
            -- at ttttf
            refine AK.ret (h' := h) Try.func38 (.tmp rfl .nil) ?_ (by first | exact SubO.sub | exact List.Sublist.refl _ | exact .cons _ (List.Sublist.refl _) | exact .cons _ (.cons _ (List.Sublist.refl _)) | exact .cons _ (.cons _ (.cons _ (List.Sublist.refl _))))
            refine ⟨rfl, _, rfl, ?_⟩
            first | (intro hg0; cases hg0; done) | (intro hg0; unfold BGood; omega)
        · intro hg4
          try simp only [decide_eq_true_eq, decide_eq_false_iff_not, Bool.not_eq_true', Bool.not_eq_false', beq_iff_eq] at hg4
          refine AO.pass (.some rfl rfl rfl rfl) rfl ?_
          refine AO.pass (.some rfl rfl rfl rfl) rfl ?_
          refine AO.pass (.some rfl rfl rfl rfl) rfl ?_
          refine AO.val (RV.pickF rfl rfl) (.none rfl) rfl ?_
          refine AO.val (RV.move rfl) (.none rfl) rfl ?_
          refine AO.pass (.some rfl rfl rfl rfl) rfl ?_
          refine AO.pass (.some rfl rfl rfl rfl) rfl ?_
          refine AO.pass (.some rfl rfl rfl rfl) rfl ?_
          refine AO.val (RV.pickF rfl rfl) (.none rfl) rfl ?_
          refine AO.val (RV.move rfl) (.none rfl) rfl ?_
          refine AO.pass (.some rfl rfl rfl rfl) rfl ?_
          refine AO.pass (.some rfl rfl rfl rfl) rfl ?_
          refine AO.pass (.some rfl rfl rfl rfl) rfl ?_
          refine AO.val (RV.pickF rfl rfl) (.none rfl) rfl ?_
          refine AO.val (RV.assign rfl) (.none rfl) rfl ?_
          refine AO.nil ?_
          -- at tttf
          refine AK.ret (h' := h) Try.func38 (.tmp rfl .nil) ?_ (by first | exact SubO.sub | exact List.Sublist.refl _ | exact .cons _ (List.Sublist.refl _) | exact .cons _ (.cons _ (List.Sublist.refl _)) | exact .cons _ (.cons _ (.cons _ (List.Sublist.refl _))))
          refine ⟨rfl, _, rfl, ?_⟩
          first | (intro hg0; cases hg0; done) | (intro hg0; unfold BGood; omega)
      · intro hg3
        try simp only [decide_eq_true_eq, decide_eq_false_iff_not, Bool.not_eq_true', Bool.not_eq_false', beq_iff_eq] at hg3
        refine AO.pass (.some rfl rfl rfl rfl) rfl ?_
        refine AO.pass (.some rfl rfl rfl rfl) rfl ?_
        refine AO.pass (.some rfl rfl rfl rfl) rfl ?_
        refine AO.val (RV.pickF rfl rfl) (.none rfl) rfl ?_
        refine AO.val (RV.move rfl) (.none rfl) rfl ?_
        refine AO.pass (.some rfl rfl rfl rfl) rfl ?_
        refine AO.pass (.some rfl rfl rfl rfl) rfl ?_
        refine AO.pass (.some rfl rfl rfl rfl) rfl ?_
        refine AO.val (RV.pickF rfl rfl) (.none rfl) rfl ?_
        refine AO.val (RV.move rfl) (.none rfl) rfl ?_
        refine AO.pass (.some rfl rfl rfl rfl) rfl ?_
        refine AO.pass (.some rfl rfl rfl rfl) rfl ?_
        refine AO.pass (.some rfl rfl rfl rfl) rfl ?_
        refine AO.val (RV.pickF rfl rfl) (.none rfl) rfl ?_
        refine AO.val (RV.move rfl) (.none rfl) rfl ?_
        refine AO.pass (.some rfl rfl rfl rfl) rfl ?_
        refine AO.pass (.some rfl rfl rfl rfl) rfl ?_
        refine AO.pass (.some rfl rfl rfl rfl) rfl ?_
        refine AO.val (RV.pickF rfl rfl) (.none rfl) rfl ?_
        refine AO.val (RV.assign rfl) (.none rfl) rfl ?_
        refine AO.nil ?_
        -- at ttf
        refine AK.ret (h' := h) Try.func38 (.tmp rfl .nil) ?_ (by first | exact SubO.sub | exact List.Sublist.refl _ | exact .cons _ (List.Sublist.refl _) | exact .cons _ (.cons _ (List.Sublist.refl _)) | exact .cons _ (.cons _ (.cons _ (List.Sublist.refl _))))
        refine ⟨rfl, _, rfl, ?_⟩
        first | (intro hg0; cases hg0; done) | (intro hg0; unfold BGood; omega)
    · intro hg2
      try simp only [decide_eq_true_eq, decide_eq_false_iff_not, Bool.not_eq_true', Bool.not_eq_false', beq_iff_eq] at hg2
      refine AO.pass (.some rfl rfl rfl rfl) rfl ?_
      refine AO.pass (.some rfl rfl rfl rfl) rfl ?_
      refine AO.pass (.some rfl rfl rfl rfl) rfl ?_
      refine AO.pass (.some rfl rfl rfl rfl) rfl ?_
      refine AO.val (RV.pickF rfl rfl) (.none rfl) rfl ?_
      refine AO.val (RV.move rfl) (.none rfl) rfl ?_
      refine AO.pass (.some rfl rfl rfl rfl) rfl ?_
      refine AO.pass (.some rfl rfl rfl rfl) rfl ?_
      refine AO.pass (.some rfl rfl rfl rfl) rfl ?_
      refine AO.val (RV.pickF rfl rfl) (.none rfl) rfl ?_
      refine AO.val (RV.move rfl) (.none rfl) rfl ?_
      refine AO.pass (.some rfl rfl rfl rfl) rfl ?_
      refine AO.pass (.some rfl rfl rfl rfl) rfl ?_
      refine AO.pass (.some rfl rfl rfl rfl) rfl ?_
      refine AO.val (RV.pickF rfl rfl) (.none rfl) rfl ?_
      refine AO.val (RV.move rfl) (.none rfl) rfl ?_
      refine AO.pass (.some rfl rfl rfl rfl) rfl ?_
      refine AO.pass (.some rfl rfl rfl rfl) rfl ?_
      refine AO.pass (.some rfl rfl rfl rfl) rfl ?_
      refine AO.val (RV.pickF rfl rfl) (.none rfl) rfl ?_
      refine AO.val (RV.move rfl) (.none rfl) rfl ?_
      refine AO.pass (.some rfl rfl rfl rfl) rfl ?_
      refine AO.pass (.some rfl rfl rfl rfl) rfl ?_
      refine AO.pass (.some rfl rfl rfl rfl) rfl ?_
      refine AO.val (RV.pickF rfl rfl) (.none rfl) rfl ?_
      refine AO.val (RV.assign rfl) (.none rfl) rfl ?_
      refine AO.nil ?_
      -- at tf
      refine AK.ret (h' := h) Try.func38 (.tmp rfl .nil) ?_ (by first | exact SubO.sub | exact List.Sublist.refl _ | exact .cons _ (List.Sublist.refl _) | exact .cons _ (.cons _ (List.Sublist.refl _)) | exact .cons _ (.cons _ (.cons _ (List.Sublist.refl _))))
      refine ⟨rfl, _, rfl, ?_⟩
      first | (intro hg0; cases hg0; done) | (intro hg0; unfold BGood; omega)
  · intro hg1
    try simp only [decide_eq_true_eq, decide_eq_false_iff_not, Bool.not_eq_true', Bool.not_eq_false', beq_iff_eq] at hg1
    refine AO.pass (.some rfl rfl rfl rfl) rfl ?_
    refine AO.pass (.some rfl rfl rfl rfl) rfl ?_
    refine AO.pass (.some rfl rfl rfl rfl) rfl ?_
    refine AO.val (RV.pickF rfl rfl) (.none rfl) rfl ?_
    refine AO.val (RV.move rfl) (.none rfl) rfl ?_
    refine AO.pass (.some rfl rfl rfl rfl) rfl ?_
    refine AO.pass (.some rfl rfl rfl rfl) rfl ?_
    refine AO.pass (.some rfl rfl rfl rfl) rfl ?_
    refine AO.pass (.some rfl rfl rfl rfl) rfl ?_
    refine AO.val (RV.pickF rfl rfl) (.none rfl) rfl ?_
    refine AO.val (RV.move rfl) (.none rfl) rfl ?_
    refine AO.pass (.some rfl rfl rfl rfl) rfl ?_
    refine AO.pass (.some rfl rfl rfl rfl) rfl ?_
    refine AO.pass (.some rfl rfl rfl rfl) rfl ?_
    refine AO.val (RV.pickF rfl rfl) (.none rfl) rfl ?_
    refine AO.val (RV.move rfl) (.none rfl) rfl ?_
    refine AO.pass (.some rfl rfl rfl rfl) rfl ?_
    refine AO.pass (.some rfl rfl rfl rfl) rfl ?_
    refine AO.pass (.some rfl rfl rfl rfl) rfl ?_
    refine AO.val (RV.pickF rfl rfl) (.none rfl) rfl ?_
    refine AO.val (RV.move rfl) (.none rfl) rfl ?_
    refine AO.pass (.some rfl rfl rfl rfl) rfl ?_
    refine AO.pass (.some rfl rfl rfl rfl) rfl ?_
    refine AO.pass (.some rfl rfl rfl rfl) rfl ?_
    refine AO.val (RV.pickF rfl rfl) (.none rfl) rfl ?_
    refine AO.val (RV.move rfl) (.none rfl) rfl ?_
    refine AO.pass (.some rfl rfl rfl rfl) rfl ?_
    refine AO.pass (.some rfl rfl rfl rfl) rfl ?_
    refine AO.pass (.some rfl rfl rfl rfl) rfl ?_
    refine AO.val (RV.pickF rfl rfl) (.none rfl) rfl ?_
    refine AO.val (RV.assign rfl) (.none rfl) rfl ?_
    refine AO.nil ?_
    -- at f
    refine AK.ret (h' := h) Try.func38 (.tmp rfl .nil) ?_ (by first | exact SubO.sub | exact List.Sublist.refl _ | exact .cons _ (List.Sublist.refl _) | exact .cons _ (.cons _ (List.Sublist.refl _)) | exact .cons _ (.cons _ (.cons _ (List.Sublist.refl _))))
    refine ⟨rfl, _, rfl, ?_⟩
    first | (intro hg0; cases hg0; done) | (intro hg0; unfold BGood; omega)

theorem vipat_spec (B : World) (h : Own) (f : FM) (fi : FIn B h f) (hn : f.vs.l.length ≤ 1000) (id : Int) : Tri Try.prog B 34 [.agg (encFM f).toArray, .int .i64 id] h fun v h' => h = h' ∧ ∃ k : Int, v = .int .i64 k ∧ (k = -1 ∧ (∀ j : Int, 0 ≤ j → j < f.vs.l.length → (lget f.vs.l j).1 ≠ id) ∨ 0 ≤ k ∧ k < f.vs.l.length ∧ (lget f.vs.l k).1 = id) := by
  refine Tri.enter (n := 22) Try.func34 rfl rfl rfl ?_
  simp only [argsE, Nat.reduceAdd]
  try dsimp only [argsE]
  refine AK.seq ?_
  refine AK.region ?_
  refine AO.eff (EF.box rfl rfl) (.none rfl) rfl ?_
  rintro _ _ ⟨b2, hf2, rfl, rfl⟩
  refine AO.val (RV.assign rfl) (.none rfl) rfl ?_
  refine AO.nil ?_
  refine AK.seq ?_
  refine AK.seq ?_
  refine AK.region ?_
  refine AO.val (RV.assign rfl) (.none rfl) rfl ?_
  refine AO.nil ?_
  refine AK.block ?_
  refine AK.loop (α := Int) (E := fun i => [(1, .int .i64 id), (2, .pointer (some ⟨b2, 0, none⟩)), (5, .int .i64 i)]) (H := fun i => ((b2, Blk.cells (encFM f) 37 (0, 0)) :: h)) (Inv := fun i => 0 ≤ i ∧ i ≤ f.vs.l.length ∧ ∀ j : Int, 0 ≤ j → j < i → (lget f.vs.l j).1 ≠ id) (μ := fun i => (f.vs.l.length - i).toNat) 0 ?_ (.cons (by exact rfl) (.cons (by exact rfl) (.cons (by exact rfl) .nil))) ?_ ?_
  · exact ⟨by omega, by omega, fun j h1 h2 => by omega⟩
  · exact (by first | exact SubO.sub | exact List.Sublist.refl _ | exact .cons _ (List.Sublist.refl _) | exact .cons _ (.cons _ (List.Sublist.refl _)) | exact .cons _ (.cons _ (.cons _ (List.Sublist.refl _))))
  rintro i ⟨hi0, hi1, hall⟩ hih0
  try dsimp only at hih0 ⊢
  refine AK.seq ?_
  refine AK.seq ?_
  refine AK.region ?_
  refine AO.val (RV.move rfl) (.none rfl) rfl ?_
  refine AO.val (by first | exact RV.fieldAddr rfl | exact RV.fieldAddrA rfl) (.none rfl) rfl ?_
  refine AO.val (by first | exact RV.loadO rfl rfl (by first | simp | assumption) | exact RV.loadSF rfl (by assumption) (fun _ => rfl) (by omega) rfl rfl (by first | simp | assumption) | exact RV.loadS rfl (by assumption) (by omega) (by first | simp | assumption)) (.none rfl) rfl ?_
  refine AO.val (RV.lenS rfl) (.none rfl) rfl ?_
  refine AO.val (RV.lss rfl rfl) (.none rfl) rfl ?_
  refine AO.nil ?_
  refine AK.cond rfl ?_ ?_
  · intro hc1
    try simp only [decide_eq_true_eq, decide_eq_false_iff_not, Bool.not_eq_true', Bool.not_eq_false', beq_iff_eq] at hc1
    refine AK.skip ?_
    refine AK.seq ?_
    refine AK.block ?_
    refine AK.seq ?_
    refine AK.region ?_
    refine AO.val (by first | exact RV.fieldAddr rfl | exact RV.fieldAddrA rfl) (.none rfl) rfl ?_
    refine AO.val (by first | exact RV.loadO rfl rfl (by first | simp | assumption) | exact RV.loadSF rfl (by assumption) (fun _ => rfl) (by omega) rfl rfl (by first | simp | assumption) | exact RV.loadS rfl (by assumption) (by omega) (by first | simp | assumption)) (.none rfl) rfl ?_
    refine AO.val (RV.move rfl) (.none rfl) rfl ?_
    refine AO.val (RV.indexS rfl rfl fi.sv (by omega) rfl) (.none rfl) rfl ?_
    refine AO.val (by first | exact RV.fieldAddr rfl | exact RV.fieldAddrA rfl) (.none rfl) rfl ?_
    refine AO.val (RV.loadSF (enc := encV) (l := f.vs.l) (fo := 0) rfl fi.sv (fun _ => rfl) (by omega) rfl rfl (by simp)) (.none rfl) rfl ?_
    refine AO.val (RV.move rfl) (.none rfl) rfl ?_
    refine AO.val (RV.eql rfl rfl) (.none rfl) rfl ?_
    refine AO.nil ?_
    refine AK.cond rfl ?_ ?_
    · intro hc2
      try simp only [decide_eq_true_eq, decide_eq_false_iff_not, Bool.not_eq_true', Bool.not_eq_false', beq_iff_eq] at hc2
      refine AK.seq ?_
      refine AK.region ?_
      refine AO.val (RV.move rfl) (.none rfl) rfl ?_
      refine AO.val (RV.assign rfl) (.none rfl) rfl ?_
      refine AO.nil ?_
      -- at L0TT
      clear hih0
      refine AK.ret (h' := h) Try.func34 (.tmp rfl .nil) ?_ (by exact SubO.sub)
      exact ⟨rfl, _, rfl, .inr ⟨hi0, by omega, by assumption⟩⟩
    · intro hc2
      try simp only [decide_eq_true_eq, decide_eq_false_iff_not, Bool.not_eq_true', Bool.not_eq_false', beq_iff_eq] at hc2
      refine AK.skip ?_
      refine AK.inBlock ?_
      refine AK.region ?_
      refine AO.val (RV.move rfl) (.none rfl) rfl ?_
      refine AO.val (by first | exact RV.addIn rfl rfl (by omega) | exact RV.add rfl rfl) (.none rfl) rfl ?_
      refine AO.val (RV.assign rfl) (.none rfl) rfl ?_
      refine AO.nil ?_
      -- round ends at L0TF
      refine AK.weak (.cons (by exact rfl) (.cons (by exact rfl) (.cons (by exact rfl) .nil))) (by first | exact SubO.sub | exact List.Sublist.refl _ | exact .cons _ (List.Sublist.refl _) | exact .cons _ (.cons _ (List.Sublist.refl _)) | exact .cons _ (.cons _ (.cons _ (List.Sublist.refl _)))) (hih0 (i + 1) ?_ ?_)
      · try dsimp only
        refine ⟨by omega, by omega, fun j h1 h2 => ?_⟩
        by_cases hj : j = i
        · subst hj; assumption
        · exact hall j h1 (by omega)
      · try dsimp only
        omega
  · intro hc1
    try simp only [decide_eq_true_eq, decide_eq_false_iff_not, Bool.not_eq_true', Bool.not_eq_false', beq_iff_eq] at hc1
    refine AK.exit rfl ?_
    refine AK.seq ?_
    refine AK.region ?_
    refine AO.val (RV.assign rfl) (.none rfl) rfl ?_
    refine AO.nil ?_
    -- at L0F
    clear hih0
    refine AK.ret (h' := h) Try.func34 (.tmp rfl .nil) ?_ (by exact SubO.sub)
    exact ⟨rfl, _, rfl, .inl ⟨rfl, fun j h1 h2 => hall j h1 (by omega)⟩⟩

theorem backat_spec (B : World) (h : Own) (f : FM) (fi : FIn B h f) (hn : f.bs.l.length ≤ 1000) (id : Int) : Tri Try.prog B 39 [.agg (encFM f).toArray, .int .i64 id] h fun v h' => h = h' ∧ ∃ k : Int, v = .int .i64 k ∧ (k = -1 ∧ (∀ j : Int, 0 ≤ j → j < f.bs.l.length → (lget f.bs.l j).1 ≠ id) ∨ 0 ≤ k ∧ k < f.bs.l.length ∧ (lget f.bs.l k).1 = id) := by
  refine Tri.enter (n := 22) Try.func39 rfl rfl rfl ?_
  simp only [argsE, Nat.reduceAdd]
  try dsimp only [argsE]
  refine AK.seq ?_
  refine AK.region ?_
  refine AO.eff (EF.box rfl rfl) (.none rfl) rfl ?_
  rintro _ _ ⟨b2, hf2, rfl, rfl⟩
  refine AO.val (RV.assign rfl) (.none rfl) rfl ?_
  refine AO.nil ?_
  refine AK.seq ?_
  refine AK.seq ?_
  refine AK.region ?_
  refine AO.val (RV.assign rfl) (.none rfl) rfl ?_
  refine AO.nil ?_
  refine AK.block ?_
  refine AK.loop (α := Int) (E := fun i => [(1, .int .i64 id), (2, .pointer (some ⟨b2, 0, none⟩)), (5, .int .i64 i)]) (H := fun i => ((b2, Blk.cells (encFM f) 37 (0, 0)) :: h)) (Inv := fun i => 0 ≤ i ∧ i ≤ f.bs.l.length ∧ ∀ j : Int, 0 ≤ j → j < i → (lget f.bs.l j).1 ≠ id) (μ := fun i => (f.bs.l.length - i).toNat) 0 ?_ (.cons (by exact rfl) (.cons (by exact rfl) (.cons (by exact rfl) .nil))) ?_ ?_
  · exact ⟨by omega, by omega, fun j h1 h2 => by omega⟩
  · exact (by first | exact SubO.sub | exact List.Sublist.refl _ | exact .cons _ (List.Sublist.refl _) | exact .cons _ (.cons _ (List.Sublist.refl _)) | exact .cons _ (.cons _ (.cons _ (List.Sublist.refl _))))
  rintro i ⟨hi0, hi1, hall⟩ hih0
  try dsimp only at hih0 ⊢
  refine AK.seq ?_
  refine AK.seq ?_
  refine AK.region ?_
  refine AO.val (RV.move rfl) (.none rfl) rfl ?_
  refine AO.val (by first | exact RV.fieldAddr rfl | exact RV.fieldAddrA rfl) (.none rfl) rfl ?_
  refine AO.val (by first | exact RV.loadO rfl rfl (by first | simp | assumption) | exact RV.loadSF rfl (by assumption) (fun _ => rfl) (by omega) rfl rfl (by first | simp | assumption) | exact RV.loadS rfl (by assumption) (by omega) (by first | simp | assumption)) (.none rfl) rfl ?_
  refine AO.val (RV.lenS rfl) (.none rfl) rfl ?_
  refine AO.val (RV.lss rfl rfl) (.none rfl) rfl ?_
  refine AO.nil ?_
  refine AK.cond rfl ?_ ?_
  · intro hc1
    try simp only [decide_eq_true_eq, decide_eq_false_iff_not, Bool.not_eq_true', Bool.not_eq_false', beq_iff_eq] at hc1
    refine AK.skip ?_
    refine AK.seq ?_
    refine AK.block ?_
    refine AK.seq ?_
    refine AK.region ?_
    refine AO.val (by first | exact RV.fieldAddr rfl | exact RV.fieldAddrA rfl) (.none rfl) rfl ?_
    refine AO.val (by first | exact RV.loadO rfl rfl (by first | simp | assumption) | exact RV.loadSF rfl (by assumption) (fun _ => rfl) (by omega) rfl rfl (by first | simp | assumption) | exact RV.loadS rfl (by assumption) (by omega) (by first | simp | assumption)) (.none rfl) rfl ?_
    refine AO.val (RV.move rfl) (.none rfl) rfl ?_
    refine AO.val (RV.indexS rfl rfl fi.sb (by omega) rfl) (.none rfl) rfl ?_
    refine AO.val (by first | exact RV.fieldAddr rfl | exact RV.fieldAddrA rfl) (.none rfl) rfl ?_
    refine AO.val (RV.loadSF (enc := encK) (l := f.bs.l) (fo := 0) rfl fi.sb (fun _ => rfl) (by omega) rfl rfl (by simp)) (.none rfl) rfl ?_
    refine AO.val (RV.move rfl) (.none rfl) rfl ?_
    refine AO.val (RV.eql rfl rfl) (.none rfl) rfl ?_
    refine AO.nil ?_
    refine AK.cond rfl ?_ ?_
    · intro hc2
      try simp only [decide_eq_true_eq, decide_eq_false_iff_not, Bool.not_eq_true', Bool.not_eq_false', beq_iff_eq] at hc2
      refine AK.seq ?_
      refine AK.region ?_
      refine AO.val (RV.move rfl) (.none rfl) rfl ?_
      refine AO.val (RV.assign rfl) (.none rfl) rfl ?_
      refine AO.nil ?_
      -- at L0TT
      clear hih0
      refine AK.ret (h' := h) Try.func39 (.tmp rfl .nil) ?_ (by exact SubO.sub)
      exact ⟨rfl, _, rfl, .inr ⟨hi0, by omega, by assumption⟩⟩
    · intro hc2
      try simp only [decide_eq_true_eq, decide_eq_false_iff_not, Bool.not_eq_true', Bool.not_eq_false', beq_iff_eq] at hc2
      refine AK.skip ?_
      refine AK.inBlock ?_
      refine AK.region ?_
      refine AO.val (RV.move rfl) (.none rfl) rfl ?_
      refine AO.val (by first | exact RV.addIn rfl rfl (by omega) | exact RV.add rfl rfl) (.none rfl) rfl ?_
      refine AO.val (RV.assign rfl) (.none rfl) rfl ?_
      refine AO.nil ?_
      -- round ends at L0TF
      refine AK.weak (.cons (by exact rfl) (.cons (by exact rfl) (.cons (by exact rfl) .nil))) (by first | exact SubO.sub | exact List.Sublist.refl _ | exact .cons _ (List.Sublist.refl _) | exact .cons _ (.cons _ (List.Sublist.refl _)) | exact .cons _ (.cons _ (.cons _ (List.Sublist.refl _)))) (hih0 (i + 1) ?_ ?_)
      · try dsimp only
        refine ⟨by omega, by omega, fun j h1 h2 => ?_⟩
        by_cases hj : j = i
        · subst hj; assumption
        · exact hall j h1 (by omega)
      · try dsimp only
        omega
  · intro hc1
    try simp only [decide_eq_true_eq, decide_eq_false_iff_not, Bool.not_eq_true', Bool.not_eq_false', beq_iff_eq] at hc1
    refine AK.exit rfl ?_
    refine AK.seq ?_
    refine AK.region ?_
    refine AO.val (RV.assign rfl) (.none rfl) rfl ?_
    refine AO.nil ?_
    -- at L0F
    clear hih0
    refine AK.ret (h' := h) Try.func39 (.tmp rfl .nil) ?_ (by exact SubO.sub)
    exact ⟨rfl, _, rfl, .inl ⟨rfl, fun j h1 h2 => hall j h1 (by omega)⟩⟩

theorem where_spec (B : World) (h : Own) (f : FM) (fi : FIn B h f) (hn : f.vs.l.length ≤ 1000) (a po pr : Int) : Tri Try.prog B 37 [.agg (encFM f).toArray, .int .u32 a, .int .u16 po, .int .u8 pr] h fun v h' => h = h' ∧ ∃ k : Int, v = .int .i64 k := by
  refine Tri.enter (n := 46) Try.func37 rfl rfl rfl ?_
  simp only [argsE, Nat.reduceAdd]
  try dsimp only [argsE]
  refine AK.seq ?_
  refine AK.region ?_
  refine AO.eff (EF.box rfl rfl) (.none rfl) rfl ?_
  rintro _ _ ⟨b4, hf4, rfl, rfl⟩
  refine AO.val (RV.assign rfl) (.none rfl) rfl ?_
  refine AO.nil ?_
  refine AK.seq ?_
  refine AK.seq ?_
  refine AK.region ?_
  refine AO.val (RV.assign rfl) (.none rfl) rfl ?_
  refine AO.nil ?_
  refine AK.block ?_
  refine AK.loop (α := Int) (E := fun i => [(1, .int .u32 a), (2, .int .u16 po), (3, .int .u8 pr), (4, .pointer (some ⟨b4, 0, none⟩)), (9, .int .i64 i)]) (H := fun i => ((b4, Blk.cells (encFM f) 37 (0, 0)) :: h)) (Inv := fun i => 0 ≤ i ∧ i ≤ f.vs.l.length) (μ := fun i => (f.vs.l.length - i).toNat) 0 ?_ (.cons (by exact rfl) (.cons (by exact rfl) (.cons (by exact rfl) (.cons (by exact rfl) (.cons (by exact rfl) .nil))))) ?_ ?_
  · exact ⟨by omega, by omega⟩
  · exact (by first | exact SubO.sub | exact List.Sublist.refl _ | exact .cons _ (List.Sublist.refl _) | exact .cons _ (.cons _ (List.Sublist.refl _)) | exact .cons _ (.cons _ (.cons _ (List.Sublist.refl _))))
  rintro i ⟨hi0, hi1⟩ hih0
  try dsimp only at hih0 ⊢
  refine AK.seq ?_
  refine AK.seq ?_
  refine AK.region ?_
  refine AO.val (RV.move rfl) (.none rfl) rfl ?_
  refine AO.val (by first | exact RV.fieldAddr rfl | exact RV.fieldAddrA rfl) (.none rfl) rfl ?_
  refine AO.val (by first | exact RV.loadO rfl rfl (by first | simp | assumption) | exact RV.loadSF rfl (by assumption) (fun _ => rfl) (by omega) rfl rfl (by first | simp | assumption) | exact RV.loadS rfl (by assumption) (by omega) (by first | simp | assumption)) (.none rfl) rfl ?_
  refine AO.val (RV.lenS rfl) (.none rfl) rfl ?_
  refine AO.val (RV.lss rfl rfl) (.none rfl) rfl ?_
  refine AO.nil ?_
  refine AK.cond rfl ?_ ?_
  · intro hc1
    try simp only [decide_eq_true_eq, decide_eq_false_iff_not, Bool.not_eq_true', Bool.not_eq_false', beq_iff_eq] at hc1
    refine AK.skip ?_
    refine AK.seq ?_
    refine AK.block ?_
    refine AK.seq ?_
    refine AK.region ?_
    refine AO.val (by first | exact RV.fieldAddr rfl | exact RV.fieldAddrA rfl) (.none rfl) rfl ?_
    refine AO.val (by first | exact RV.loadO rfl rfl (by first | simp | assumption) | exact RV.loadSF rfl (by assumption) (fun _ => rfl) (by omega) rfl rfl (by first | simp | assumption) | exact RV.loadS rfl (by assumption) (by omega) (by first | simp | assumption)) (.none rfl) rfl ?_
    refine AO.val (RV.move rfl) (.none rfl) rfl ?_
    refine AO.val (RV.indexS rfl rfl fi.sv (by omega) rfl) (.none rfl) rfl ?_
    refine AO.val (by first | exact RV.fieldAddr rfl | exact RV.fieldAddrA rfl) (.none rfl) rfl ?_
    refine AO.val (RV.loadSF (enc := encV) (l := f.vs.l) (fo := 1) rfl fi.sv (fun _ => rfl) (by omega) rfl rfl (by simp)) (.none rfl) rfl ?_
    refine AO.val (RV.move rfl) (.none rfl) rfl ?_
    refine AO.val (RV.eql rfl rfl) (.none rfl) rfl ?_
    refine AO.val (RV.move rfl) (.none rfl) rfl ?_
    refine AO.caseG rfl rfl rfl ?_ ?_
    · intro hg2
      try simp only [decide_eq_true_eq, decide_eq_false_iff_not, Bool.not_eq_true', Bool.not_eq_false', beq_iff_eq] at hg2
      refine AO.val (by first | exact RV.fieldAddr rfl | exact RV.fieldAddrA rfl) (.some rfl rfl rfl rfl) rfl ?_
      refine AO.val (by first | exact RV.loadO rfl rfl (by first | simp | assumption) | exact RV.loadSF rfl (by assumption) (fun _ => rfl) (by omega) rfl rfl (by first | simp | assumption) | exact RV.loadS rfl (by assumption) (by omega) (by first | simp | assumption)) (.some rfl rfl rfl rfl) rfl ?_
      refine AO.val (RV.move rfl) (.some rfl rfl rfl rfl) rfl ?_
      refine AO.val (RV.indexS rfl rfl fi.sv (by omega) rfl) (.some rfl rfl rfl rfl) rfl ?_
      refine AO.val (by first | exact RV.fieldAddr rfl | exact RV.fieldAddrA rfl) (.some rfl rfl rfl rfl) rfl ?_
      refine AO.val (RV.loadSF (enc := encV) (l := f.vs.l) (fo := 2) rfl fi.sv (fun _ => rfl) (by omega) rfl rfl (by simp)) (.some rfl rfl rfl rfl) rfl ?_
      refine AO.val (RV.move rfl) (.some rfl rfl rfl rfl) rfl ?_
      refine AO.val (RV.eql rfl rfl) (.some rfl rfl rfl rfl) rfl ?_
      refine AO.val (RV.pickT rfl rfl) (.none rfl) rfl ?_
      refine AO.val (RV.move rfl) (.none rfl) rfl ?_
      refine AO.caseG rfl rfl rfl ?_ ?_
      · intro hg3
        try simp only [decide_eq_true_eq, decide_eq_false_iff_not, Bool.not_eq_true', Bool.not_eq_false', beq_iff_eq] at hg3
        refine AO.val (by first | exact RV.fieldAddr rfl | exact RV.fieldAddrA rfl) (.some rfl rfl rfl rfl) rfl ?_
        refine AO.val (by first | exact RV.loadO rfl rfl (by first | simp | assumption) | exact RV.loadSF rfl (by assumption) (fun _ => rfl) (by omega) rfl rfl (by first | simp | assumption) | exact RV.loadS rfl (by assumption) (by omega) (by first | simp | assumption)) (.some rfl rfl rfl rfl) rfl ?_
        refine AO.val (RV.move rfl) (.some rfl rfl rfl rfl) rfl ?_
        refine AO.val (RV.indexS rfl rfl fi.sv (by omega) rfl) (.some rfl rfl rfl rfl) rfl ?_
        refine AO.val (by first | exact RV.fieldAddr rfl | exact RV.fieldAddrA rfl) (.some rfl rfl rfl rfl) rfl ?_
        refine AO.val (RV.loadSF (enc := encV) (l := f.vs.l) (fo := 3) rfl fi.sv (fun _ => rfl) (by omega) rfl rfl (by simp)) (.some rfl rfl rfl rfl) rfl ?_
        refine AO.val (RV.move rfl) (.some rfl rfl rfl rfl) rfl ?_
        refine AO.val (RV.eql rfl rfl) (.some rfl rfl rfl rfl) rfl ?_
        refine AO.val (RV.pickT rfl rfl) (.none rfl) rfl ?_
        refine AO.nil ?_
        refine AK.cond rfl ?_ ?_
        · intro hc4
          try simp only [decide_eq_true_eq, decide_eq_false_iff_not, Bool.not_eq_true', Bool.not_eq_false', beq_iff_eq] at hc4
          refine AK.seq ?_
          refine AK.region ?_
          refine AO.val (RV.move rfl) (.none rfl) rfl ?_
          refine AO.val (RV.assign rfl) (.none rfl) rfl ?_
          refine AO.nil ?_
          -- at L0TttT
          clear hih0
          refine AK.ret (h' := h) Try.func37 (.tmp rfl .nil) ?_ (by exact SubO.sub)
          exact ⟨rfl, _, rfl⟩
        · intro hc4
          try simp only [decide_eq_true_eq, decide_eq_false_iff_not, Bool.not_eq_true', Bool.not_eq_false', beq_iff_eq] at hc4
          refine AK.skip ?_
          refine AK.inBlock ?_
          refine AK.region ?_
          refine AO.val (RV.move rfl) (.none rfl) rfl ?_
          refine AO.val (by first | exact RV.addIn rfl rfl (by omega) | exact RV.add rfl rfl) (.none rfl) rfl ?_
          refine AO.val (RV.assign rfl) (.none rfl) rfl ?_
          refine AO.nil ?_
          -- round ends at L0TttF
          refine AK.weak (.cons (by exact rfl) (.cons (by exact rfl) (.cons (by exact rfl) (.cons (by exact rfl) (.cons (by exact rfl) .nil))))) (by first | exact SubO.sub | exact List.Sublist.refl _ | exact .cons _ (List.Sublist.refl _) | exact .cons _ (.cons _ (List.Sublist.refl _)) | exact .cons _ (.cons _ (.cons _ (List.Sublist.refl _)))) (hih0 (i + 1) ?_ ?_)
          · try dsimp only
            exact ⟨by omega, by omega⟩
          · try dsimp only
            (try simp only); omega
      · intro hg3
        try simp only [decide_eq_true_eq, decide_eq_false_iff_not, Bool.not_eq_true', Bool.not_eq_false', beq_iff_eq] at hg3
        refine AO.pass (.some rfl rfl rfl rfl) rfl ?_
        refine AO.pass (.some rfl rfl rfl rfl) rfl ?_
        refine AO.pass (.some rfl rfl rfl rfl) rfl ?_
        refine AO.pass (.some rfl rfl rfl rfl) rfl ?_
        refine AO.pass (.some rfl rfl rfl rfl) rfl ?_
        refine AO.pass (.some rfl rfl rfl rfl) rfl ?_
        refine AO.pass (.some rfl rfl rfl rfl) rfl ?_
        refine AO.pass (.some rfl rfl rfl rfl) rfl ?_
        refine AO.val (RV.pickF rfl rfl) (.none rfl) rfl ?_
        refine AO.nil ?_
        refine AK.condF rfl ?_
        refine AK.skip ?_
        refine AK.inBlock ?_
        refine AK.region ?_
        refine AO.val (RV.move rfl) (.none rfl) rfl ?_
        refine AO.val (by first | exact RV.addIn rfl rfl (by omega) | exact RV.add rfl rfl) (.none rfl) rfl ?_
        refine AO.val (RV.assign rfl) (.none rfl) rfl ?_
        refine AO.nil ?_
        -- round ends at L0Ttf
        refine AK.weak (.cons (by exact rfl) (.cons (by exact rfl) (.cons (by exact rfl) (.cons (by exact rfl) (.cons (by exact rfl) .nil))))) (by first | exact SubO.sub | exact List.Sublist.refl _ | exact .cons _ (List.Sublist.refl _) | exact .cons _ (.cons _ (List.Sublist.refl _)) | exact .cons _ (.cons _ (.cons _ (List.Sublist.refl _)))) (hih0 (i + 1) ?_ ?_)
        · try dsimp only
          exact ⟨by omega, by omega⟩
        · try dsimp only
          (try simp only); omega
    · intro hg2
      try simp only [decide_eq_true_eq, decide_eq_false_iff_not, Bool.not_eq_true', Bool.not_eq_false', beq_iff_eq] at hg2
      refine AO.pass (.some rfl rfl rfl rfl) rfl ?_
      refine AO.pass (.some rfl rfl rfl rfl) rfl ?_
      refine AO.pass (.some rfl rfl rfl rfl) rfl ?_
      refine AO.pass (.some rfl rfl rfl rfl) rfl ?_
      refine AO.pass (.some rfl rfl rfl rfl) rfl ?_
      refine AO.pass (.some rfl rfl rfl rfl) rfl ?_
      refine AO.pass (.some rfl rfl rfl rfl) rfl ?_
      refine AO.pass (.some rfl rfl rfl rfl) rfl ?_
      refine AO.val (RV.pickF rfl rfl) (.none rfl) rfl ?_
      refine AO.val (RV.move rfl) (.none rfl) rfl ?_
      refine AO.pass (.some rfl rfl rfl rfl) rfl ?_
      refine AO.pass (.some rfl rfl rfl rfl) rfl ?_
      refine AO.pass (.some rfl rfl rfl rfl) rfl ?_
      refine AO.pass (.some rfl rfl rfl rfl) rfl ?_
      refine AO.pass (.some rfl rfl rfl rfl) rfl ?_
      refine AO.pass (.some rfl rfl rfl rfl) rfl ?_
      refine AO.pass (.some rfl rfl rfl rfl) rfl ?_
      refine AO.pass (.some rfl rfl rfl rfl) rfl ?_
      refine AO.val (RV.pickF rfl rfl) (.none rfl) rfl ?_
      refine AO.nil ?_
      refine AK.condF rfl ?_
      refine AK.skip ?_
      refine AK.inBlock ?_
      refine AK.region ?_
      refine AO.val (RV.move rfl) (.none rfl) rfl ?_
      refine AO.val (by first | exact RV.addIn rfl rfl (by omega) | exact RV.add rfl rfl) (.none rfl) rfl ?_
      refine AO.val (RV.assign rfl) (.none rfl) rfl ?_
      refine AO.nil ?_
      -- round ends at L0Tf
      refine AK.weak (.cons (by exact rfl) (.cons (by exact rfl) (.cons (by exact rfl) (.cons (by exact rfl) (.cons (by exact rfl) .nil))))) (by first | exact SubO.sub | exact List.Sublist.refl _ | exact .cons _ (List.Sublist.refl _) | exact .cons _ (.cons _ (List.Sublist.refl _)) | exact .cons _ (.cons _ (.cons _ (List.Sublist.refl _)))) (hih0 (i + 1) ?_ ?_)
      · try dsimp only
        exact ⟨by omega, by omega⟩
      · try dsimp only
        (try simp only); omega
  · intro hc1
    try simp only [decide_eq_true_eq, decide_eq_false_iff_not, Bool.not_eq_true', Bool.not_eq_false', beq_iff_eq] at hc1
    refine AK.exit rfl ?_
    refine AK.seq ?_
    refine AK.region ?_
    refine AO.val (RV.assign rfl) (.none rfl) rfl ?_
    refine AO.nil ?_
    -- at L0F
    clear hih0
    refine AK.ret (h' := h) Try.func37 (.tmp rfl .nil) ?_ (by exact SubO.sub)
    exact ⟨rfl, _, rfl⟩

set_option maxHeartbeats 2000000 in
theorem addvip_spec (B : World) (h : Own) (D : Own) (hD : ∀ x ∈ D, x ∈ h) (f : FM) (fiD : FIn B D f) (fo : FarmOk f) (v : VpT) : Tri Try.prog B 19 [.agg (encFM f).toArray, .agg (encV v).toArray] h fun r h' => ∃ (f' : FM) (part : Own) (e : Int), r = .tuple #[.agg (encFM f').toArray, .int .i64 e] ∧ FIn B (part ++ D) f' ∧ FarmOk f' ∧ h' = part ++ h := by
  have fi := fiD.mono hD
  have hlv := fo.lv
  have hlb := fo.lb
  have hcv := fi.cv
  have hcb := fi.cb
  refine Tri.enter (n := 83) Try.func19 rfl rfl rfl ?_
  simp only [argsE, Nat.reduceAdd]
  try dsimp only [argsE]
  refine AK.seq ?_
  refine AK.region ?_
  refine AO.eff (EF.box rfl rfl) (.none rfl) rfl ?_
  rintro _ _ ⟨b2, hf2, rfl, rfl⟩
  refine AO.eff (EF.box rfl rfl) (.none rfl) rfl ?_
  rintro _ _ ⟨b3, hf3, rfl, rfl⟩
  refine AO.eff (EF.alloc) (.none rfl) rfl ?_
  rintro _ _ ⟨b4, hf4, rfl, rfl⟩
  refine AO.val (RV.assign rfl) (.none rfl) rfl ?_
  refine AO.nil ?_
  refine AK.seq ?_
  refine AK.seq ?_
  refine AK.region ?_
  refine AO.val (by first | exact RV.loadAggO rfl rfl (by first | simp | assumption) | exact RV.loadAggP rfl rfl rfl (by first | simp | assumption)) (.none rfl) rfl ?_
  refine AO.eff (EF.callF rfl (goodv_spec B _ v)) (.none rfl) rfl ?_
  rintro _ _ ⟨rfl, gv, rfl, hgv⟩
  refine AO.val (RV.not rfl) (.none rfl) rfl ?_
  refine AO.nil ?_
  refine AK.cond rfl ?_ ?_
  · intro hc1
    try simp only [decide_eq_true_eq, decide_eq_false_iff_not, Bool.not_eq_true', Bool.not_eq_false', beq_iff_eq] at hc1
    refine AK.seq ?_
    refine AK.region ?_
    refine AO.val (by first | exact RV.loadAggO rfl rfl (by first | simp | assumption) | exact RV.loadAggP rfl rfl rfl (by first | simp | assumption)) (.none rfl) rfl ?_
    refine AO.effN (EF.storeO rfl rfl rfl rfl rfl rfl) (.none rfl) ?_
    rintro _ _ rfl
    refine AO.val (RV.assign rfl) (.none rfl) rfl ?_
    refine AO.nil ?_
    -- at T
    refine AK.ret (h' := h) Try.func19 (.aggO rfl rfl (.tmp rfl .nil)) ?_ (by first | exact SubO.sub | exact List.Sublist.append_left (.cons _ (.cons _ (.cons _ (.cons _ (List.Sublist.refl _))))) _ | exact List.Sublist.append_left (.cons _ (.cons _ (.cons _ (.cons _ (.cons _ (List.Sublist.refl _)))))) _)
    exact ⟨f, [], _, rfl, fiD, fo, rfl⟩
  · intro hc1
    try simp only [decide_eq_true_eq, decide_eq_false_iff_not, Bool.not_eq_true', Bool.not_eq_false', beq_iff_eq] at hc1
    have hgt : gv = true := by simpa using hc1
    subst hgt
    refine AK.skip ?_
    refine AK.seq ?_
    refine AK.seq ?_
    refine AK.region ?_
    refine AO.val (by first | exact RV.loadAggO rfl rfl (by first | simp | assumption) | exact RV.loadAggP rfl rfl rfl (by first | simp | assumption)) (.none rfl) rfl ?_
    refine AO.val (by first | exact RV.fieldAddr rfl | exact RV.fieldAddrA rfl) (.none rfl) rfl ?_
    refine AO.val (by first | exact RV.loadO rfl rfl (by first | simp | assumption) | exact RV.loadSF rfl (by assumption) (fun _ => rfl) (by omega) rfl rfl (by first | simp | assumption) | exact RV.loadS rfl (by assumption) (by omega) (by first | simp | assumption)) (.none rfl) rfl ?_
    refine AO.eff (EF.callF rfl (vipat_spec B _ f (fi.mono fun x hx => by simp [hx]) (by omega) _)) (.none rfl) rfl ?_
    rintro _ _ ⟨rfl, kv, rfl, hkv⟩
    refine AO.val (RV.geq rfl rfl) (.none rfl) rfl ?_
    refine AO.val (RV.move rfl) (.none rfl) rfl ?_
    refine AO.caseG rfl rfl rfl ?_ ?_
    · intro hg2
      try simp only [decide_eq_true_eq, decide_eq_false_iff_not, Bool.not_eq_true', Bool.not_eq_false', beq_iff_eq] at hg2
      refine AO.pass (.some rfl rfl rfl rfl) rfl ?_
      refine AO.pass (.some rfl rfl rfl rfl) rfl ?_
      refine AO.pass (.some rfl rfl rfl rfl) rfl ?_
      refine AO.pass (.some rfl rfl rfl rfl) rfl ?_
      refine AO.pass (.some rfl rfl rfl rfl) rfl ?_
      refine AO.pass (.some rfl rfl rfl rfl) rfl ?_
      refine AO.pass (.some rfl rfl rfl rfl) rfl ?_
      refine AO.pass (.some rfl rfl rfl rfl) rfl ?_
      refine AO.pass (.some rfl rfl rfl rfl) rfl ?_
      refine AO.val (RV.pickT rfl rfl) (.none rfl) rfl ?_
      refine AO.nil ?_
      refine AK.condT rfl ?_
      refine AK.seq ?_
      refine AK.region ?_
      refine AO.val (by first | exact RV.loadAggO rfl rfl (by first | simp | assumption) | exact RV.loadAggP rfl rfl rfl (by first | simp | assumption)) (.none rfl) rfl ?_
      refine AO.effN (EF.storeO rfl rfl rfl rfl rfl rfl) (.none rfl) ?_
      rintro _ _ rfl
      refine AO.val (RV.assign rfl) (.none rfl) rfl ?_
      refine AO.nil ?_
      -- at Ft
      refine AK.ret (h' := h) Try.func19 (.aggO rfl rfl (.tmp rfl .nil)) ?_ (by first | exact SubO.sub | exact List.Sublist.append_left (.cons _ (.cons _ (.cons _ (.cons _ (List.Sublist.refl _))))) _ | exact List.Sublist.append_left (.cons _ (.cons _ (.cons _ (.cons _ (.cons _ (List.Sublist.refl _)))))) _)
      exact ⟨f, [], _, rfl, fiD, fo, rfl⟩
    · intro hg2
      try simp only [decide_eq_true_eq, decide_eq_false_iff_not, Bool.not_eq_true', Bool.not_eq_false', beq_iff_eq] at hg2
      refine AO.val (by first | exact RV.loadAggO rfl rfl (by first | simp | assumption) | exact RV.loadAggP rfl rfl rfl (by first | simp | assumption)) (.some rfl rfl rfl rfl) rfl ?_
      refine AO.val (by first | exact RV.fieldAddr rfl | exact RV.fieldAddrA rfl) (.some rfl rfl rfl rfl) rfl ?_
      refine AO.val (by first | exact RV.loadO rfl rfl (by first | simp | assumption) | exact RV.loadSF rfl (by assumption) (fun _ => rfl) (by omega) rfl rfl (by first | simp | assumption) | exact RV.loadS rfl (by assumption) (by omega) (by first | simp | assumption)) (.some rfl rfl rfl rfl) rfl ?_
      refine AO.val (by first | exact RV.fieldAddr rfl | exact RV.fieldAddrA rfl) (.some rfl rfl rfl rfl) rfl ?_
      refine AO.val (by first | exact RV.loadO rfl rfl (by first | simp | assumption) | exact RV.loadSF rfl (by assumption) (fun _ => rfl) (by omega) rfl rfl (by first | simp | assumption) | exact RV.loadS rfl (by assumption) (by omega) (by first | simp | assumption)) (.some rfl rfl rfl rfl) rfl ?_
      refine AO.val (by first | exact RV.fieldAddr rfl | exact RV.fieldAddrA rfl) (.some rfl rfl rfl rfl) rfl ?_
      refine AO.val (by first | exact RV.loadO rfl rfl (by first | simp | assumption) | exact RV.loadSF rfl (by assumption) (fun _ => rfl) (by omega) rfl rfl (by first | simp | assumption) | exact RV.loadS rfl (by assumption) (by omega) (by first | simp | assumption)) (.some rfl rfl rfl rfl) rfl ?_
      refine AO.eff (EF.callF rfl (where_spec B _ f (fi.mono fun x hx => by simp [hx]) (by omega) _ _ _)) (.some rfl rfl rfl rfl) rfl ?_
      rintro _ _ ⟨rfl, kw, rfl⟩
      refine AO.val (RV.geq rfl rfl) (.some rfl rfl rfl rfl) rfl ?_
      refine AO.val (RV.pickF rfl rfl) (.none rfl) rfl ?_
      refine AO.nil ?_
      refine AK.cond rfl ?_ ?_
      · intro hc3
        try simp only [decide_eq_true_eq, decide_eq_false_iff_not, Bool.not_eq_true', Bool.not_eq_false', beq_iff_eq] at hc3
        refine AK.seq ?_
        refine AK.region ?_
        refine AO.val (by first | exact RV.loadAggO rfl rfl (by first | simp | assumption) | exact RV.loadAggP rfl rfl rfl (by first | simp | assumption)) (.none rfl) rfl ?_
        refine AO.effN (EF.storeO rfl rfl rfl rfl rfl rfl) (.none rfl) ?_
        rintro _ _ rfl
        refine AO.val (RV.assign rfl) (.none rfl) rfl ?_
        refine AO.nil ?_
        -- at FfT
        refine AK.ret (h' := h) Try.func19 (.aggO rfl rfl (.tmp rfl .nil)) ?_ (by first | exact SubO.sub | exact List.Sublist.append_left (.cons _ (.cons _ (.cons _ (.cons _ (List.Sublist.refl _))))) _ | exact List.Sublist.append_left (.cons _ (.cons _ (.cons _ (.cons _ (.cons _ (List.Sublist.refl _)))))) _)
        exact ⟨f, [], _, rfl, fiD, fo, rfl⟩
      · intro hc3
        try simp only [decide_eq_true_eq, decide_eq_false_iff_not, Bool.not_eq_true', Bool.not_eq_false', beq_iff_eq] at hc3
        refine AK.skip ?_
        refine AK.seq ?_
        refine AK.seq ?_
        refine AK.region ?_
        refine AO.val (by first | exact RV.fieldAddr rfl | exact RV.fieldAddrA rfl) (.none rfl) rfl ?_
        refine AO.val (by first | exact RV.loadO rfl rfl (by first | simp | assumption) | exact RV.loadSF rfl (by assumption) (fun _ => rfl) (by omega) rfl rfl (by first | simp | assumption) | exact RV.loadS rfl (by assumption) (by omega) (by first | simp | assumption)) (.none rfl) rfl ?_
        refine AO.val (RV.lenS rfl) (.none rfl) rfl ?_
        refine AO.val (RV.eql rfl rfl) (.none rfl) rfl ?_
        refine AO.nil ?_
        refine AK.cond rfl ?_ ?_
        · intro hc4
          try simp only [decide_eq_true_eq, decide_eq_false_iff_not, Bool.not_eq_true', Bool.not_eq_false', beq_iff_eq] at hc4
          refine AK.seq ?_
          refine AK.region ?_
          refine AO.val (by first | exact RV.loadAggO rfl rfl (by first | simp | assumption) | exact RV.loadAggP rfl rfl rfl (by first | simp | assumption)) (.none rfl) rfl ?_
          refine AO.effN (EF.storeO rfl rfl rfl rfl rfl rfl) (.none rfl) ?_
          rintro _ _ rfl
          refine AO.val (RV.assign rfl) (.none rfl) rfl ?_
          refine AO.nil ?_
          -- at FfFT
          refine AK.ret (h' := h) Try.func19 (.aggO rfl rfl (.tmp rfl .nil)) ?_ (by first | exact SubO.sub | exact List.Sublist.append_left (.cons _ (.cons _ (.cons _ (.cons _ (List.Sublist.refl _))))) _ | exact List.Sublist.append_left (.cons _ (.cons _ (.cons _ (.cons _ (.cons _ (List.Sublist.refl _)))))) _)
          exact ⟨f, [], _, rfl, fiD, fo, rfl⟩
        · intro hc4
          try simp only [decide_eq_true_eq, decide_eq_false_iff_not, Bool.not_eq_true', Bool.not_eq_false', beq_iff_eq] at hc4
          refine AK.skip ?_
          refine AK.seq ?_
          refine AK.region ?_
          refine AO.val (by first | exact RV.fieldAddr rfl | exact RV.fieldAddrA rfl) (.none rfl) rfl ?_
          refine AO.val (by first | exact RV.loadO rfl rfl (by first | simp | assumption) | exact RV.loadSF rfl (by assumption) (fun _ => rfl) (by omega) rfl rfl (by first | simp | assumption) | exact RV.loadS rfl (by assumption) (by omega) (by first | simp | assumption)) (.none rfl) rfl ?_
          refine AO.val (RV.build rfl (.cons rfl rfl rfl rfl .nil)) (.none rfl) rfl ?_
          refine AO.eff (EF.alloc) (.none rfl) rfl ?_
          rintro _ _ ⟨b6, hf6, rfl, rfl⟩
          refine AO.effN (EF.storeO rfl rfl rfl rfl rfl rfl) (.none rfl) ?_
          rintro _ _ rfl
          refine AO.nil ?_
          refine AK.seq ?_
          refine AK.region ?_
          refine AO.val (RV.assign rfl) (.none rfl) rfl ?_
          refine AO.nil ?_
          refine AK.seq ?_
          refine AK.seq ?_
          refine AK.region ?_
          refine AO.val (RV.assign rfl) (.none rfl) rfl ?_
          refine AO.nil ?_
          refine AK.block ?_
          refine AK.loop (α := Int × Option Addr × Nat × Own × List VpT × Bool) (E := fun (i, Ao, co, po, out, bi) => [(2, .pointer (some ⟨b2, 0, none⟩)), (3, .pointer (some ⟨b3, 0, none⟩)), (4, .pointer (some ⟨b4, 0, none⟩)), (6, .pointer (some ⟨b6, 0, none⟩)), (7, .bool bi), (8, .int .i64 i)]) (H := fun (i, Ao, co, po, out, bi) => po ++ ((b6, Blk.cells [.slice Ao out.length co, .slice f.bs.A f.bs.l.length f.bs.cap] 37 (0, 0)) :: (b4, Blk.cells (encFM ZF) 37 (0, 0)) :: (b3, Blk.cells (encV v) 41 (0, 0)) :: (b2, Blk.cells (encFM f) 37 (0, 0)) :: h)) (Inv := fun (i, Ao, co, po, out, bi) => 0 ≤ i ∧ i ≤ f.vs.l.length ∧ Row 41 5 (.slice Ao out.length co) out.length (flat encV out) po ∧ out.length ≤ co ∧ (out.length : Int) ≤ i + (if bi = true then 1 else 0) ∧ (∀ x ∈ out, x ∈ f.vs.l ∨ x = v) ∧ ∀ x ∈ f.vs.l.take i.toNat, x ∈ out) (μ := fun (i, Ao, co, po, out, bi) => (f.vs.l.length - i).toNat) (0, none, 0, [], [], false) ?_ (.cons (by exact rfl) (.cons (by exact rfl) (.cons (by exact rfl) (.cons (by exact rfl) (.cons (by exact rfl) (.cons (by exact rfl) .nil)))))) ?_ ?_
          · exact ⟨by omega, by omega, .nil, Nat.le_refl 0, by simp, by simp, by simp⟩
          · exact (by first | exact SubO.sub | exact List.Sublist.refl _ | exact .cons _ (List.Sublist.refl _) | exact .cons _ (.cons _ (List.Sublist.refl _)) | exact .cons _ (.cons _ (.cons _ (List.Sublist.refl _))))
          rintro ⟨i, Ao, co, po, out, bi⟩ ⟨hi0, hi1, hro, hco, hol, hou, hin⟩ hih0
          try dsimp only at hih0 ⊢
          have hol2 : (out.length : Int) ≤ i + 1 := by split at hol <;> omega
          refine AK.seq ?_
          refine AK.seq ?_
          refine AK.region ?_
          refine AO.val (RV.move rfl) (.none rfl) rfl ?_
          refine AO.val (by first | exact RV.fieldAddr rfl | exact RV.fieldAddrA rfl) (.none rfl) rfl ?_
          refine AO.val (by first | exact RV.loadO rfl rfl (by first | simp | assumption) | exact RV.loadSF rfl (by assumption) (fun _ => rfl) (by omega) rfl rfl (by first | simp | assumption) | exact RV.loadS rfl (by assumption) (by omega) (by first | simp | assumption)) (.none rfl) rfl ?_
          refine AO.val (RV.lenS rfl) (.none rfl) rfl ?_
          refine AO.val (RV.lss rfl rfl) (.none rfl) rfl ?_
          refine AO.nil ?_
          refine AK.cond rfl ?_ ?_
          · intro hc5
            try simp only [decide_eq_true_eq, decide_eq_false_iff_not, Bool.not_eq_true', Bool.not_eq_false', beq_iff_eq] at hc5
            refine AK.skip ?_
            refine AK.seq ?_
            refine AK.block ?_
            refine AK.seq ?_
            refine AK.seq ?_
            refine AK.draw [] [] mixed ?_
            refine AD.takeP 0 rfl (by kernel_rfl) (RV.move rfl) (.none rfl) rfl ?_
            refine AD.takeP 1 rfl (by kernel_rfl) (RV.not rfl) (.none rfl) rfl ?_
            refine AD.takeP 2 rfl (by kernel_rfl) (RV.move rfl) (.none rfl) rfl ?_
            refine AD.caseG (d := 47) (j := 2) rfl rfl ?_ ?_
            · intro hg6
              try simp only [decide_eq_true_eq, decide_eq_false_iff_not, Bool.not_eq_true', Bool.not_eq_false', beq_iff_eq] at hg6
              refine AD.takeP 3 rfl (by kernel_rfl) (by first | exact RV.fieldAddr rfl | exact RV.fieldAddrA rfl) (.some rfl rfl rfl rfl) rfl ?_
              refine AD.take 4 rfl (by kernel_rfl) (by first | exact RV.loadO rfl rfl (by first | simp | assumption) | exact RV.loadSF rfl (by assumption) (fun _ => rfl) (by omega) rfl rfl (by first | simp | assumption) | exact RV.loadS rfl (by assumption) (by omega) (by first | simp | assumption)) (.some rfl rfl rfl rfl) rfl ?_
              refine AD.takeP 5 rfl (by kernel_rfl) (by first | exact RV.fieldAddr rfl | exact RV.fieldAddrA rfl) (.some rfl rfl rfl rfl) rfl ?_
              refine AD.take 6 rfl (by kernel_rfl) (by first | exact RV.loadO rfl rfl (by first | simp | assumption) | exact RV.loadSF rfl (by assumption) (fun _ => rfl) (by omega) rfl rfl (by first | simp | assumption) | exact RV.loadS rfl (by assumption) (by omega) (by first | simp | assumption)) (.some rfl rfl rfl rfl) rfl ?_
              refine AD.takeP 7 rfl (by kernel_rfl) (RV.move rfl) (.some rfl rfl rfl rfl) rfl ?_
              refine AD.takeP 8 rfl (by kernel_rfl) (RV.indexS rfl rfl fi.sv (by omega) rfl) (.some rfl rfl rfl rfl) rfl ?_
              refine AD.takeP 9 rfl (by kernel_rfl) (by first | exact RV.fieldAddr rfl | exact RV.fieldAddrA rfl) (.some rfl rfl rfl rfl) rfl ?_
              refine AD.take 10 rfl (by kernel_rfl) (RV.loadSF (enc := encV) (l := f.vs.l) (fo := 0) rfl fi.sv (fun _ => rfl) (by omega) rfl rfl (by simp)) (.some rfl rfl rfl rfl) rfl ?_
              refine AD.takeP 11 rfl (by kernel_rfl) (RV.lss rfl rfl) (.some rfl rfl rfl rfl) rfl ?_
              refine AD.takeP 12 rfl (by kernel_rfl) (RV.pickT rfl rfl) (.none rfl) rfl ?_
              refine AD.done (by kernel_rfl) ?_
              refine AK.cond rfl ?_ ?_
              · intro hc7
                try simp only [decide_eq_true_eq, decide_eq_false_iff_not, Bool.not_eq_true', Bool.not_eq_false', beq_iff_eq] at hc7
                refine AK.seq ?_
                refine AK.region ?_
                refine AO.val (by first | exact RV.fieldAddr rfl | exact RV.fieldAddrA rfl) (.none rfl) rfl ?_
                refine AO.val (by first | exact RV.loadO rfl rfl (by first | simp | assumption) | exact RV.loadSF rfl (by assumption) (fun _ => rfl) (by omega) rfl rfl (by first | simp | assumption) | exact RV.loadS rfl (by assumption) (by omega) (by first | simp | assumption)) (.none rfl) rfl ?_
                refine AO.val (by first | exact RV.loadAggO rfl rfl (by first | simp | assumption) | exact RV.loadAggP rfl rfl rfl (by first | simp | assumption)) (.none rfl) rfl ?_
                refine AO.eff (EF.buildSlice rfl rfl rfl (.cons rfl rfl rfl rfl .nil)) (.none rfl) rfl ?_
                rintro _ _ ⟨b61, hf61, rfl, rfl⟩
                refine AO.eff (EF.appendS (n' := (out ++ [v]).length) (ys := flat encV (out ++ [v])) rfl rfl hro (Src.of_new (el := 41) (cs := encV v) List.mem_cons_self 1 5 (Nat.le_refl _)) (by simp) (flat_snoc encV out _) rfl (by decide) rfl (by (try simp only [List.length_append, List.length_cons, List.length_nil]); omega) (by (try simp only [List.length_append, List.length_cons, List.length_nil]); omega)) (.none rfl) rfl ?_
                rintro _ _ ⟨A62, c62, p62, rfl, hr62, hc62, rfl⟩
                refine AO.val (by first | exact RV.fieldAddr rfl | exact RV.fieldAddrA rfl) (.none rfl) rfl ?_
                refine AO.effN (EF.storeO rfl rfl rfl rfl rfl rfl) (.none rfl) ?_
                rintro _ _ rfl
                refine AO.nil ?_
                refine AK.region ?_
                refine AO.val (RV.assign rfl) (.none rfl) rfl ?_
                refine AO.nil ?_
                refine AK.draw [] [8, 10] mixed ?_
                refine AD.takeP 0 rfl (by kernel_rfl) (by first | exact RV.fieldAddr rfl | exact RV.fieldAddrA rfl) (.none rfl) rfl ?_
                refine AD.take 1 rfl (by kernel_rfl) (by first | exact RV.loadO rfl rfl (by first | simp | assumption) | exact RV.loadSF rfl (by assumption) (fun _ => rfl) (by omega) rfl rfl (by first | simp | assumption) | exact RV.loadS rfl (by assumption) (by omega) (by first | simp | assumption)) (.none rfl) rfl ?_
                refine AD.takeP 2 rfl (by kernel_rfl) (by first | exact RV.fieldAddr rfl | exact RV.fieldAddrA rfl) (.none rfl) rfl ?_
                refine AD.take 3 rfl (by kernel_rfl) (by first | exact RV.loadO rfl rfl (by first | simp | assumption) | exact RV.loadSF rfl (by assumption) (fun _ => rfl) (by omega) rfl rfl (by first | simp | assumption) | exact RV.loadS rfl (by assumption) (by omega) (by first | simp | assumption)) (.none rfl) rfl ?_
                refine AD.takeP 4 rfl (by kernel_rfl) (RV.move rfl) (.none rfl) rfl ?_
                refine AD.takeP 5 rfl (by kernel_rfl) (RV.indexS rfl rfl fi.sv (by omega) rfl) (.none rfl) rfl ?_
                refine AD.take 6 rfl (by kernel_rfl) (RV.loadSA (enc := encV) (l := f.vs.l) rfl fi.sv (fun _ => rfl) (by omega) (by simp)) (.none rfl) rfl ?_
                refine AD.one 7 (by kernel_rfl) (AE.eff rfl (EF.buildSlice rfl rfl rfl (.cons rfl rfl rfl rfl .nil)) (.none rfl) rfl ?_)
                rintro _ _ ⟨b71, hf71, rfl, rfl⟩
                refine ⟨(by first | exact .inr fun x hx hM => hx | exact .inr fun x hx hM => List.mem_cons_of_mem _ hx | exact .inr fun x hx hM => List.mem_append_right _ hx), ?_⟩
                refine AD.one 8 (by kernel_rfl) (AE.eff rfl (EF.appendS (n' := ((out ++ [v]) ++ [(lget f.vs.l i)]).length) (ys := flat encV ((out ++ [v]) ++ [(lget f.vs.l i)])) rfl rfl hr62 (Src.of_new (el := 41) (cs := encV (lget f.vs.l i)) List.mem_cons_self 1 5 (Nat.le_refl _)) (by simp) (flat_snoc encV (out ++ [v]) _) rfl (by decide) rfl (by (try simp only [List.length_append, List.length_cons, List.length_nil]); omega) (by (try simp only [List.length_append, List.length_cons, List.length_nil]); omega)) (.none rfl) rfl ?_)
                rintro _ _ ⟨A72, c72, p72, rfl, hr72, hc72, rfl⟩
                refine ⟨.inl (by kernel_rfl), ?_⟩
                refine AD.takeP 9 rfl (by kernel_rfl) (by first | exact RV.fieldAddr rfl | exact RV.fieldAddrA rfl) (.none rfl) rfl ?_
                refine AD.one 10 (by kernel_rfl) (AE.effN rfl (EF.storeO rfl rfl rfl rfl rfl rfl) (.none rfl) ?_)
                rintro _ _ rfl
                refine ⟨.inl (by kernel_rfl), ?_⟩
                refine AD.done (by kernel_rfl) ?_
                refine AK.inBlock ?_
                refine AK.region ?_
                refine AO.val (RV.move rfl) (.none rfl) rfl ?_
                refine AO.val (by first | exact RV.addIn rfl rfl (by omega) | exact RV.add rfl rfl) (.none rfl) rfl ?_
                refine AO.val (RV.assign rfl) (.none rfl) rfl ?_
                refine AO.nil ?_
                -- round ends at FfFFL0TtT
                refine AK.weak (.cons (by exact rfl) (.cons (by exact rfl) (.cons (by exact rfl) (.cons (by exact rfl) (.cons (by exact rfl) (.cons (by exact rfl) .nil)))))) (by first | exact List.Sublist.append_left (.cons _ (List.Sublist.refl _)) _ | exact List.Sublist.append_left (.cons _ (.cons _ (List.Sublist.refl _))) _) (hih0 (i + 1, A72, c72, p72, ((out ++ [v]) ++ [(lget f.vs.l i)]), true) ?_ ?_)
                · try dsimp only
                  have hm := lget_memV (l := f.vs.l) (i := i) ⟨hi0, by omega⟩
                  refine ⟨by omega, by omega, hr72, hc72, ?_, fun x hx => ?_, fun x hx => ?_⟩
                  · have h9 : bi = true ∨ bi = false := by cases bi <;> simp
                    simp only [List.length_append, List.length_cons, List.length_nil]
                    rcases h9 with h9 | h9 <;> simp_all <;> omega
                  · simp only [List.mem_append, List.mem_singleton] at hx
                    rcases hx with (hx | hx) | hx
                    · exact hou x hx
                    · exact .inr hx
                    · exact .inl (hx ▸ hm)
                  · rcases mem_take_next hi0 (by omega) hx with h1 | h1
                    · have := hin x h1; simp [this]
                    · simp [h1]
                · try dsimp only
                  omega
              · intro hc7
                try simp only [decide_eq_true_eq, decide_eq_false_iff_not, Bool.not_eq_true', Bool.not_eq_false', beq_iff_eq] at hc7
                refine AK.skip ?_
                refine AK.draw [] [8, 10] mixed ?_
                refine AD.takeP 0 rfl (by kernel_rfl) (by first | exact RV.fieldAddr rfl | exact RV.fieldAddrA rfl) (.none rfl) rfl ?_
                refine AD.take 1 rfl (by kernel_rfl) (by first | exact RV.loadO rfl rfl (by first | simp | assumption) | exact RV.loadSF rfl (by assumption) (fun _ => rfl) (by omega) rfl rfl (by first | simp | assumption) | exact RV.loadS rfl (by assumption) (by omega) (by first | simp | assumption)) (.none rfl) rfl ?_
                refine AD.takeP 2 rfl (by kernel_rfl) (by first | exact RV.fieldAddr rfl | exact RV.fieldAddrA rfl) (.none rfl) rfl ?_
                refine AD.take 3 rfl (by kernel_rfl) (by first | exact RV.loadO rfl rfl (by first | simp | assumption) | exact RV.loadSF rfl (by assumption) (fun _ => rfl) (by omega) rfl rfl (by first | simp | assumption) | exact RV.loadS rfl (by assumption) (by omega) (by first | simp | assumption)) (.none rfl) rfl ?_
                refine AD.takeP 4 rfl (by kernel_rfl) (RV.move rfl) (.none rfl) rfl ?_
                refine AD.takeP 5 rfl (by kernel_rfl) (RV.indexS rfl rfl fi.sv (by omega) rfl) (.none rfl) rfl ?_
                refine AD.take 6 rfl (by kernel_rfl) (RV.loadSA (enc := encV) (l := f.vs.l) rfl fi.sv (fun _ => rfl) (by omega) (by simp)) (.none rfl) rfl ?_
                refine AD.one 7 (by kernel_rfl) (AE.eff rfl (EF.buildSlice rfl rfl rfl (.cons rfl rfl rfl rfl .nil)) (.none rfl) rfl ?_)
                rintro _ _ ⟨b71, hf71, rfl, rfl⟩
                refine ⟨(by first | exact .inr fun x hx hM => hx | exact .inr fun x hx hM => List.mem_cons_of_mem _ hx | exact .inr fun x hx hM => List.mem_append_right _ hx), ?_⟩
                refine AD.one 8 (by kernel_rfl) (AE.eff rfl (EF.appendS (n' := (out ++ [(lget f.vs.l i)]).length) (ys := flat encV (out ++ [(lget f.vs.l i)])) rfl rfl hro (Src.of_new (el := 41) (cs := encV (lget f.vs.l i)) List.mem_cons_self 1 5 (Nat.le_refl _)) (by simp) (flat_snoc encV out _) rfl (by decide) rfl (by (try simp only [List.length_append, List.length_cons, List.length_nil]); omega) (by (try simp only [List.length_append, List.length_cons, List.length_nil]); omega)) (.none rfl) rfl ?_)
                rintro _ _ ⟨A72, c72, p72, rfl, hr72, hc72, rfl⟩
                refine ⟨.inl (by kernel_rfl), ?_⟩
                refine AD.takeP 9 rfl (by kernel_rfl) (by first | exact RV.fieldAddr rfl | exact RV.fieldAddrA rfl) (.none rfl) rfl ?_
                refine AD.one 10 (by kernel_rfl) (AE.effN rfl (EF.storeO rfl rfl rfl rfl rfl rfl) (.none rfl) ?_)
                rintro _ _ rfl
                refine ⟨.inl (by kernel_rfl), ?_⟩
                refine AD.done (by kernel_rfl) ?_
                refine AK.inBlock ?_
                refine AK.region ?_
                refine AO.val (RV.move rfl) (.none rfl) rfl ?_
                refine AO.val (by first | exact RV.addIn rfl rfl (by omega) | exact RV.add rfl rfl) (.none rfl) rfl ?_
                refine AO.val (RV.assign rfl) (.none rfl) rfl ?_
                refine AO.nil ?_
                -- round ends at FfFFL0TtF
                refine AK.weak (.cons (by exact rfl) (.cons (by exact rfl) (.cons (by exact rfl) (.cons (by exact rfl) (.cons (by exact rfl) (.cons (by exact rfl) .nil)))))) (by first | exact List.Sublist.append_left (.cons _ (List.Sublist.refl _)) _ | exact List.Sublist.append_left (.cons _ (.cons _ (List.Sublist.refl _))) _) (hih0 (i + 1, A72, c72, p72, (out ++ [(lget f.vs.l i)]), bi) ?_ ?_)
                · try dsimp only
                  have hm := lget_memV (l := f.vs.l) (i := i) ⟨hi0, by omega⟩
                  refine ⟨by omega, by omega, hr72, hc72, ?_, fun x hx => ?_, fun x hx => ?_⟩
                  · have h9 : bi = true ∨ bi = false := by cases bi <;> simp
                    simp only [List.length_append, List.length_cons, List.length_nil]
                    rcases h9 with h9 | h9 <;> simp_all <;> omega
                  · simp only [List.mem_append, List.mem_singleton] at hx
                    rcases hx with hx | hx
                    · exact hou x hx
                    · exact .inl (hx ▸ hm)
                  · rcases mem_take_next hi0 (by omega) hx with h1 | h1
                    · have := hin x h1; simp [this]
                    · simp [h1]
                · try dsimp only
                  omega
            · intro hg6
              try simp only [decide_eq_true_eq, decide_eq_false_iff_not, Bool.not_eq_true', Bool.not_eq_false', beq_iff_eq] at hg6
              refine AD.pass 3 rfl (by kernel_rfl) (.some rfl rfl rfl rfl) rfl ?_
              refine AD.pass 4 rfl (by kernel_rfl) (.some rfl rfl rfl rfl) rfl ?_
              refine AD.pass 5 rfl (by kernel_rfl) (.some rfl rfl rfl rfl) rfl ?_
              refine AD.pass 6 rfl (by kernel_rfl) (.some rfl rfl rfl rfl) rfl ?_
              refine AD.pass 7 rfl (by kernel_rfl) (.some rfl rfl rfl rfl) rfl ?_
              refine AD.pass 8 rfl (by kernel_rfl) (.some rfl rfl rfl rfl) rfl ?_
              refine AD.pass 9 rfl (by kernel_rfl) (.some rfl rfl rfl rfl) rfl ?_
              refine AD.pass 10 rfl (by kernel_rfl) (.some rfl rfl rfl rfl) rfl ?_
              refine AD.pass 11 rfl (by kernel_rfl) (.some rfl rfl rfl rfl) rfl ?_
              refine AD.takeP 12 rfl (by kernel_rfl) (RV.pickF rfl rfl) (.none rfl) rfl ?_
              refine AD.done (by kernel_rfl) ?_
              refine AK.condF rfl ?_
              refine AK.skip ?_
              refine AK.draw [] [8, 10] mixed ?_
              refine AD.takeP 0 rfl (by kernel_rfl) (by first | exact RV.fieldAddr rfl | exact RV.fieldAddrA rfl) (.none rfl) rfl ?_
              refine AD.take 1 rfl (by kernel_rfl) (by first | exact RV.loadO rfl rfl (by first | simp | assumption) | exact RV.loadSF rfl (by assumption) (fun _ => rfl) (by omega) rfl rfl (by first | simp | assumption) | exact RV.loadS rfl (by assumption) (by omega) (by first | simp | assumption)) (.none rfl) rfl ?_
              refine AD.takeP 2 rfl (by kernel_rfl) (by first | exact RV.fieldAddr rfl | exact RV.fieldAddrA rfl) (.none rfl) rfl ?_
              refine AD.take 3 rfl (by kernel_rfl) (by first | exact RV.loadO rfl rfl (by first | simp | assumption) | exact RV.loadSF rfl (by assumption) (fun _ => rfl) (by omega) rfl rfl (by first | simp | assumption) | exact RV.loadS rfl (by assumption) (by omega) (by first | simp | assumption)) (.none rfl) rfl ?_
              refine AD.takeP 4 rfl (by kernel_rfl) (RV.move rfl) (.none rfl) rfl ?_
              refine AD.takeP 5 rfl (by kernel_rfl) (RV.indexS rfl rfl fi.sv (by omega) rfl) (.none rfl) rfl ?_
              refine AD.take 6 rfl (by kernel_rfl) (RV.loadSA (enc := encV) (l := f.vs.l) rfl fi.sv (fun _ => rfl) (by omega) (by simp)) (.none rfl) rfl ?_
              refine AD.one 7 (by kernel_rfl) (AE.eff rfl (EF.buildSlice rfl rfl rfl (.cons rfl rfl rfl rfl .nil)) (.none rfl) rfl ?_)
              rintro _ _ ⟨b71, hf71, rfl, rfl⟩
              refine ⟨(by first | exact .inr fun x hx hM => hx | exact .inr fun x hx hM => List.mem_cons_of_mem _ hx | exact .inr fun x hx hM => List.mem_append_right _ hx), ?_⟩
              refine AD.one 8 (by kernel_rfl) (AE.eff rfl (EF.appendS (n' := (out ++ [(lget f.vs.l i)]).length) (ys := flat encV (out ++ [(lget f.vs.l i)])) rfl rfl hro (Src.of_new (el := 41) (cs := encV (lget f.vs.l i)) List.mem_cons_self 1 5 (Nat.le_refl _)) (by simp) (flat_snoc encV out _) rfl (by decide) rfl (by (try simp only [List.length_append, List.length_cons, List.length_nil]); omega) (by (try simp only [List.length_append, List.length_cons, List.length_nil]); omega)) (.none rfl) rfl ?_)
              rintro _ _ ⟨A72, c72, p72, rfl, hr72, hc72, rfl⟩
              refine ⟨.inl (by kernel_rfl), ?_⟩
              refine AD.takeP 9 rfl (by kernel_rfl) (by first | exact RV.fieldAddr rfl | exact RV.fieldAddrA rfl) (.none rfl) rfl ?_
              refine AD.one 10 (by kernel_rfl) (AE.effN rfl (EF.storeO rfl rfl rfl rfl rfl rfl) (.none rfl) ?_)
              rintro _ _ rfl
              refine ⟨.inl (by kernel_rfl), ?_⟩
              refine AD.done (by kernel_rfl) ?_
              refine AK.inBlock ?_
              refine AK.region ?_
              refine AO.val (RV.move rfl) (.none rfl) rfl ?_
              refine AO.val (by first | exact RV.addIn rfl rfl (by omega) | exact RV.add rfl rfl) (.none rfl) rfl ?_
              refine AO.val (RV.assign rfl) (.none rfl) rfl ?_
              refine AO.nil ?_
              -- round ends at FfFFL0Tf
              refine AK.weak (.cons (by exact rfl) (.cons (by exact rfl) (.cons (by exact rfl) (.cons (by exact rfl) (.cons (by exact rfl) (.cons (by exact rfl) .nil)))))) (by first | exact List.Sublist.append_left (.cons _ (List.Sublist.refl _)) _ | exact List.Sublist.append_left (.cons _ (.cons _ (List.Sublist.refl _))) _) (hih0 (i + 1, A72, c72, p72, (out ++ [(lget f.vs.l i)]), bi) ?_ ?_)
              · try dsimp only
                have hm := lget_memV (l := f.vs.l) (i := i) ⟨hi0, by omega⟩
                refine ⟨by omega, by omega, hr72, hc72, ?_, fun x hx => ?_, fun x hx => ?_⟩
                · have h9 : bi = true ∨ bi = false := by cases bi <;> simp
                  simp only [List.length_append, List.length_cons, List.length_nil]
                  rcases h9 with h9 | h9 <;> simp_all <;> omega
                · simp only [List.mem_append, List.mem_singleton] at hx
                  rcases hx with hx | hx
                  · exact hou x hx
                  · exact .inl (hx ▸ hm)
                · rcases mem_take_next hi0 (by omega) hx with h1 | h1
                  · have := hin x h1; simp [this]
                  · simp [h1]
              · try dsimp only
                omega
          · intro hc5
            try simp only [decide_eq_true_eq, decide_eq_false_iff_not, Bool.not_eq_true', Bool.not_eq_false', beq_iff_eq] at hc5
            refine AK.exit rfl ?_
            refine AK.seq ?_
            refine AK.seq ?_
            refine AK.region ?_
            refine AO.val (RV.move rfl) (.none rfl) rfl ?_
            refine AO.val (RV.not rfl) (.none rfl) rfl ?_
            refine AO.nil ?_
            refine AK.cond rfl ?_ ?_
            · intro hc8
              try simp only [decide_eq_true_eq, decide_eq_false_iff_not, Bool.not_eq_true', Bool.not_eq_false', beq_iff_eq] at hc8
              refine AK.region ?_
              refine AO.val (by first | exact RV.fieldAddr rfl | exact RV.fieldAddrA rfl) (.none rfl) rfl ?_
              refine AO.val (by first | exact RV.loadO rfl rfl (by first | simp | assumption) | exact RV.loadSF rfl (by assumption) (fun _ => rfl) (by omega) rfl rfl (by first | simp | assumption) | exact RV.loadS rfl (by assumption) (by omega) (by first | simp | assumption)) (.none rfl) rfl ?_
              refine AO.val (by first | exact RV.loadAggO rfl rfl (by first | simp | assumption) | exact RV.loadAggP rfl rfl rfl (by first | simp | assumption)) (.none rfl) rfl ?_
              refine AO.eff (EF.buildSlice rfl rfl rfl (.cons rfl rfl rfl rfl .nil)) (.none rfl) rfl ?_
              rintro _ _ ⟨b79, hf79, rfl, rfl⟩
              refine AO.eff (EF.appendS (n' := (out ++ [v]).length) (ys := flat encV (out ++ [v])) rfl rfl hro (Src.of_new (el := 41) (cs := encV v) List.mem_cons_self 1 5 (Nat.le_refl _)) (by simp) (flat_snoc encV out _) rfl (by decide) rfl (by (try simp only [List.length_append, List.length_cons, List.length_nil]); omega) (by (try simp only [List.length_append, List.length_cons, List.length_nil]); omega)) (.none rfl) rfl ?_
              rintro _ _ ⟨A80, c80, p80, rfl, hr80, hc80, rfl⟩
              refine AO.val (by first | exact RV.fieldAddr rfl | exact RV.fieldAddrA rfl) (.none rfl) rfl ?_
              refine AO.effN (EF.storeO rfl rfl rfl rfl rfl rfl) (.none rfl) ?_
              rintro _ _ rfl
              refine AO.nil ?_
              refine AK.seq ?_
              refine AK.region ?_
              refine AO.val (by first | exact RV.loadAggO rfl rfl (by first | simp | assumption) | exact RV.loadAggP rfl rfl rfl (by first | simp | assumption)) (.none rfl) rfl ?_
              refine AO.effN (EF.storeO rfl rfl rfl rfl rfl rfl) (.none rfl) ?_
              rintro _ _ rfl
              refine AO.val (RV.assign rfl) (.none rfl) rfl ?_
              refine AO.nil ?_
              -- at FfFFL0FT
              clear hih0
              refine AK.ret (h' := p80 ++ h) Try.func19 (.aggO rfl rfl (.tmp rfl .nil)) ?_ (by first | exact SubO.sub | exact List.Sublist.append_left (.cons _ (.cons _ (.cons _ (.cons _ (List.Sublist.refl _))))) _ | exact List.Sublist.append_left (.cons _ (.cons _ (.cons _ (.cons _ (.cons _ (List.Sublist.refl _)))))) _)
              have hti : f.vs.l.take i.toNat = f.vs.l := List.take_of_length_le (by omega)
              rw [hti] at hin
              refine ⟨⟨⟨A80, c80, (out ++ [v])⟩, f.bs⟩, p80, _, rfl, ⟨hr80.src fun x hx => by simp [hx], hc80, fiD.sb.mono fun x hx => by simp [hx], fi.cb⟩, fo.withV ?_ (fun x hx => ?_) (fun x hx => ?_), rfl⟩
              · simp only [List.length_append, List.length_cons, List.length_nil]; simp_all; omega
              · rcases List.mem_append.1 hx with hx | hx
                · rcases hou x hx with h1 | h1
                  · exact fo.idv x h1
                  · subst h1; exact hgv rfl
                · simp only [List.mem_singleton] at hx; subst hx; exact hgv rfl
              · exact List.mem_map.2 ⟨x, by have := hin x hx; exact List.mem_append_left _ this, rfl⟩
            · intro hc8
              try simp only [decide_eq_true_eq, decide_eq_false_iff_not, Bool.not_eq_true', Bool.not_eq_false', beq_iff_eq] at hc8
              have hnb := hc8
              refine AK.skip ?_
              refine AK.seq ?_
              refine AK.region ?_
              refine AO.val (by first | exact RV.loadAggO rfl rfl (by first | simp | assumption) | exact RV.loadAggP rfl rfl rfl (by first | simp | assumption)) (.none rfl) rfl ?_
              refine AO.effN (EF.storeO rfl rfl rfl rfl rfl rfl) (.none rfl) ?_
              rintro _ _ rfl
              refine AO.val (RV.assign rfl) (.none rfl) rfl ?_
              refine AO.nil ?_
              -- at FfFFL0FF
              clear hih0
              refine AK.ret (h' := po ++ h) Try.func19 (.aggO rfl rfl (.tmp rfl .nil)) ?_ (by first | exact SubO.sub | exact List.Sublist.append_left (.cons _ (.cons _ (.cons _ (.cons _ (List.Sublist.refl _))))) _ | exact List.Sublist.append_left (.cons _ (.cons _ (.cons _ (.cons _ (.cons _ (List.Sublist.refl _)))))) _)
              have hti : f.vs.l.take i.toNat = f.vs.l := List.take_of_length_le (by omega)
              rw [hti] at hin
              refine ⟨⟨⟨Ao, co, out⟩, f.bs⟩, po, _, rfl, ⟨hro.src fun x hx => by simp [hx], hco, fiD.sb.mono fun x hx => by simp [hx], fi.cb⟩, fo.withV ?_ (fun x hx => ?_) (fun x hx => ?_), rfl⟩
              · have h9 : bi = true := by simpa using hnb
                rw [h9] at hol; simp at hol; omega
              · rcases hou x hx with h1 | h1
                · exact fo.idv x h1
                · subst h1; exact hgv rfl
              · exact List.mem_map.2 ⟨x, hin x hx, rfl⟩

end Go.Proofs.Ytbdlohjmifgcaaa
