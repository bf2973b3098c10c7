/- Walks through the code: what each function that is named here gives back, from any memory that holds its arguments. Written by a program of the claim's author, out of the program's form in Lean. -/
import Derived.Test.YtbdlohjmifgcaaaW5
set_option linter.unusedSimpArgs false
set_option linter.unusedVariables false
namespace Go.Proofs.Ytbdlohjmifgcaaa
open Go.Sep Go.Sep.Sip Go.Sep.Perm Go.Sep.Maglev Go.Sep.Board Go.Sep.Cookie
abbrev Dd := Int × VpT × Bk × Int × Unit
abbrev encDd (d : Dd) : List Value := .int .i64 d.1 :: (encV d.2.1 ++ (encK d.2.2.1 ++ [.int .i64 d.2.2.2.1]))
instance : Inhabited Dd := ⟨(0, default, default, 0, ())⟩
theorem perm_made (p X h : Own) (a b : Nat × Blk) : (p ++ (a :: b :: (X ++ h))).Perm (a :: b :: ((p ++ X) ++ h)) := perm_count fun y => by simp only [List.count_append, List.count_cons]; omega

set_option maxHeartbeats 2000000 in
theorem addback_spec (B : World) (h : Own) (D : Own) (hD : ∀ x ∈ D, x ∈ h) (f : FM) (fiD : FIn B D f) (fo : FarmOk f) (b : Bk) : Tri Try.prog B 20 [.agg (encFM f).toArray, .agg (encK b).toArray] h fun r h' => ∃ (f' : FM) (part : Own) (e : Int), r = .tuple #[.agg (encFM f').toArray, .int .i64 e] ∧ FIn B (part ++ D) f' ∧ FarmOk f' ∧ h' = part ++ h := by
  have fi := fiD.mono hD
  have hlv := fo.lv
  have hlb := fo.lb
  have hcv := fi.cv
  have hcb := fi.cb
  refine Tri.enter (n := 80) Try.func20 rfl rfl rfl ?_
  simp only [argsE, Nat.reduceAdd]
  try dsimp only [argsE]
  refine AK.seq ?_
  refine AK.region ?_
  refine AO.eff (EF.box rfl rfl) (.none rfl) rfl ?_
  rintro _ _ ⟨b2, hf2, rfl, rfl⟩
  refine AO.eff (EF.box rfl rfl) (.none rfl) rfl ?_
  rintro _ _ ⟨b3, hf3, rfl, rfl⟩
  refine AO.eff (EF.alloc) (.none rfl) rfl ?_
  rintro _ _ ⟨b4, hf4, rfl, rfl⟩
  refine AO.val (RV.assign rfl) (.none rfl) rfl ?_
  refine AO.nil ?_
  refine AK.seq ?_
  refine AK.region ?_
  refine AO.val (by first | exact RV.fieldAddr rfl | exact RV.fieldAddrA rfl) (.none rfl) rfl ?_
  refine AO.effN (EF.storeO rfl rfl rfl rfl rfl rfl) (.none rfl) ?_
  rintro _ _ rfl
  refine AO.nil ?_
  refine AK.seq ?_
  refine AK.region ?_
  refine AO.val (by first | exact RV.fieldAddr rfl | exact RV.fieldAddrA rfl) (.none rfl) rfl ?_
  refine AO.effN (EF.storeO rfl rfl rfl rfl rfl rfl) (.none rfl) ?_
  rintro _ _ rfl
  refine AO.nil ?_
  refine AK.seq ?_
  refine AK.seq ?_
  refine AK.region ?_
  refine AO.val (by first | exact RV.loadAggO rfl rfl (by first | simp | assumption) | exact RV.loadAggP rfl rfl rfl (by first | simp | assumption)) (.none rfl) rfl ?_
  refine AO.eff (EF.callF rfl (goodb_spec B _ ((b.1, b.2.1, b.2.2.1, b.2.2.2.1, 1, false, ()) : Bk))) (.none rfl) rfl ?_
  rintro _ _ ⟨rfl, gv, rfl, hgv⟩
  refine AO.val (RV.not rfl) (.none rfl) rfl ?_
  refine AO.nil ?_
  refine AK.cond rfl ?_ ?_
  · intro hc1
    try simp only [decide_eq_true_eq, decide_eq_false_iff_not, Bool.not_eq_true', Bool.not_eq_false', beq_iff_eq] at hc1
    refine AK.seq ?_
    refine AK.region ?_
    refine AO.val (by first | exact RV.loadAggO rfl rfl (by first | simp | assumption) | exact RV.loadAggP rfl rfl rfl (by first | simp | assumption)) (.none rfl) rfl ?_
    refine AO.effN (EF.storeO rfl rfl rfl rfl rfl rfl) (.none rfl) ?_
    rintro _ _ rfl
    refine AO.val (RV.assign rfl) (.none rfl) rfl ?_
    refine AO.nil ?_
    -- at T
    refine AK.ret (h' := h) Try.func20 (.aggO rfl rfl (.tmp rfl .nil)) ?_ (by first | exact SubO.sub | exact List.Sublist.append_left (.cons _ (List.Sublist.refl _)) _ | exact List.Sublist.append_left (.cons _ (.cons _ (List.Sublist.refl _))) _ | exact List.Sublist.append_left (.cons _ (.cons _ (.cons _ (List.Sublist.refl _)))) _ | exact List.Sublist.append_left (.cons _ (.cons _ (.cons _ (.cons _ (List.Sublist.refl _))))) _ | exact List.Sublist.append_left (.cons _ (.cons _ (.cons _ (.cons _ (.cons _ (List.Sublist.refl _)))))) _ | exact List.Sublist.append_left (.cons _ (.cons _ (.cons _ (.cons _ (.cons _ (.cons _ (List.Sublist.refl _))))))) _)
    exact ⟨f, [], _, rfl, fiD, fo, rfl⟩
  · intro hc1
    try simp only [decide_eq_true_eq, decide_eq_false_iff_not, Bool.not_eq_true', Bool.not_eq_false', beq_iff_eq] at hc1
    have hgt : gv = true := by simpa using hc1
    subst hgt
    refine AK.skip ?_
    refine AK.seq ?_
    refine AK.seq ?_
    refine AK.region ?_
    refine AO.val (by first | exact RV.loadAggO rfl rfl (by first | simp | assumption) | exact RV.loadAggP rfl rfl rfl (by first | simp | assumption)) (.none rfl) rfl ?_
    refine AO.val (by first | exact RV.fieldAddr rfl | exact RV.fieldAddrA rfl) (.none rfl) rfl ?_
    refine AO.val (by first | exact RV.loadO rfl rfl (by first | simp | assumption) | exact RV.loadSF rfl (by assumption) (fun _ => rfl) (by omega) rfl rfl (by first | simp | assumption) | exact RV.loadS rfl (by assumption) (by omega) (by first | simp | assumption)) (.none rfl) rfl ?_
    refine AO.eff (EF.callF rfl (vipat_spec B _ f (fi.mono fun x hx => by simp [hx]) (by omega) _)) (.none rfl) rfl ?_
    rintro _ _ ⟨rfl, kv, rfl, hkv⟩
    refine AO.val (RV.lss rfl rfl) (.none rfl) rfl ?_
    refine AO.nil ?_
    refine AK.cond rfl ?_ ?_
    · intro hc2
      try simp only [decide_eq_true_eq, decide_eq_false_iff_not, Bool.not_eq_true', Bool.not_eq_false', beq_iff_eq] at hc2
      refine AK.seq ?_
      refine AK.region ?_
      refine AO.val (by first | exact RV.loadAggO rfl rfl (by first | simp | assumption) | exact RV.loadAggP rfl rfl rfl (by first | simp | assumption)) (.none rfl) rfl ?_
      refine AO.effN (EF.storeO rfl rfl rfl rfl rfl rfl) (.none rfl) ?_
      rintro _ _ rfl
      refine AO.val (RV.assign rfl) (.none rfl) rfl ?_
      refine AO.nil ?_
      -- at FT
      refine AK.ret (h' := h) Try.func20 (.aggO rfl rfl (.tmp rfl .nil)) ?_ (by first | exact SubO.sub | exact List.Sublist.append_left (.cons _ (List.Sublist.refl _)) _ | exact List.Sublist.append_left (.cons _ (.cons _ (List.Sublist.refl _))) _ | exact List.Sublist.append_left (.cons _ (.cons _ (.cons _ (List.Sublist.refl _)))) _ | exact List.Sublist.append_left (.cons _ (.cons _ (.cons _ (.cons _ (List.Sublist.refl _))))) _ | exact List.Sublist.append_left (.cons _ (.cons _ (.cons _ (.cons _ (.cons _ (List.Sublist.refl _)))))) _ | exact List.Sublist.append_left (.cons _ (.cons _ (.cons _ (.cons _ (.cons _ (.cons _ (List.Sublist.refl _))))))) _)
      exact ⟨f, [], _, rfl, fiD, fo, rfl⟩
    · intro hc2
      try simp only [decide_eq_true_eq, decide_eq_false_iff_not, Bool.not_eq_true', Bool.not_eq_false', beq_iff_eq] at hc2
      have hvm : b.2.1 ∈ f.vs.l.map (·.1) := by
        rcases hkv with h1 | h1
        · exact absurd h1.1 (by omega)
        · exact List.mem_map.2 ⟨lget f.vs.l kv, lget_memV ⟨h1.1, h1.2.1⟩, h1.2.2⟩
      refine AK.skip ?_
      refine AK.seq ?_
      refine AK.seq ?_
      refine AK.region ?_
      refine AO.val (by first | exact RV.loadAggO rfl rfl (by first | simp | assumption) | exact RV.loadAggP rfl rfl rfl (by first | simp | assumption)) (.none rfl) rfl ?_
      refine AO.val (by first | exact RV.fieldAddr rfl | exact RV.fieldAddrA rfl) (.none rfl) rfl ?_
      refine AO.val (by first | exact RV.loadO rfl rfl (by first | simp | assumption) | exact RV.loadSF rfl (by assumption) (fun _ => rfl) (by omega) rfl rfl (by first | simp | assumption) | exact RV.loadS rfl (by assumption) (by omega) (by first | simp | assumption)) (.none rfl) rfl ?_
      refine AO.eff (EF.callF rfl (backat_spec B _ f (fi.mono fun x hx => by simp [hx]) (by omega) _)) (.none rfl) rfl ?_
      rintro _ _ ⟨rfl, kb, rfl, hkb⟩
      refine AO.val (RV.geq rfl rfl) (.none rfl) rfl ?_
      refine AO.nil ?_
      refine AK.cond rfl ?_ ?_
      · intro hc3
        try simp only [decide_eq_true_eq, decide_eq_false_iff_not, Bool.not_eq_true', Bool.not_eq_false', beq_iff_eq] at hc3
        refine AK.seq ?_
        refine AK.region ?_
        refine AO.val (by first | exact RV.loadAggO rfl rfl (by first | simp | assumption) | exact RV.loadAggP rfl rfl rfl (by first | simp | assumption)) (.none rfl) rfl ?_
        refine AO.effN (EF.storeO rfl rfl rfl rfl rfl rfl) (.none rfl) ?_
        rintro _ _ rfl
        refine AO.val (RV.assign rfl) (.none rfl) rfl ?_
        refine AO.nil ?_
        -- at FFT
        refine AK.ret (h' := h) Try.func20 (.aggO rfl rfl (.tmp rfl .nil)) ?_ (by first | exact SubO.sub | exact List.Sublist.append_left (.cons _ (List.Sublist.refl _)) _ | exact List.Sublist.append_left (.cons _ (.cons _ (List.Sublist.refl _))) _ | exact List.Sublist.append_left (.cons _ (.cons _ (.cons _ (List.Sublist.refl _)))) _ | exact List.Sublist.append_left (.cons _ (.cons _ (.cons _ (.cons _ (List.Sublist.refl _))))) _ | exact List.Sublist.append_left (.cons _ (.cons _ (.cons _ (.cons _ (.cons _ (List.Sublist.refl _)))))) _ | exact List.Sublist.append_left (.cons _ (.cons _ (.cons _ (.cons _ (.cons _ (.cons _ (List.Sublist.refl _))))))) _)
        exact ⟨f, [], _, rfl, fiD, fo, rfl⟩
      · intro hc3
        try simp only [decide_eq_true_eq, decide_eq_false_iff_not, Bool.not_eq_true', Bool.not_eq_false', beq_iff_eq] at hc3
        refine AK.skip ?_
        refine AK.seq ?_
        refine AK.seq ?_
        refine AK.region ?_
        refine AO.val (by first | exact RV.fieldAddr rfl | exact RV.fieldAddrA rfl) (.none rfl) rfl ?_
        refine AO.val (by first | exact RV.loadO rfl rfl (by first | simp | assumption) | exact RV.loadSF rfl (by assumption) (fun _ => rfl) (by omega) rfl rfl (by first | simp | assumption) | exact RV.loadS rfl (by assumption) (by omega) (by first | simp | assumption)) (.none rfl) rfl ?_
        refine AO.val (RV.lenS rfl) (.none rfl) rfl ?_
        refine AO.val (RV.eql rfl rfl) (.none rfl) rfl ?_
        refine AO.nil ?_
        refine AK.cond rfl ?_ ?_
        · intro hc4
          try simp only [decide_eq_true_eq, decide_eq_false_iff_not, Bool.not_eq_true', Bool.not_eq_false', beq_iff_eq] at hc4
          refine AK.seq ?_
          refine AK.region ?_
          refine AO.val (by first | exact RV.loadAggO rfl rfl (by first | simp | assumption) | exact RV.loadAggP rfl rfl rfl (by first | simp | assumption)) (.none rfl) rfl ?_
          refine AO.effN (EF.storeO rfl rfl rfl rfl rfl rfl) (.none rfl) ?_
          rintro _ _ rfl
          refine AO.val (RV.assign rfl) (.none rfl) rfl ?_
          refine AO.nil ?_
          -- at FFFT
          refine AK.ret (h' := h) Try.func20 (.aggO rfl rfl (.tmp rfl .nil)) ?_ (by first | exact SubO.sub | exact List.Sublist.append_left (.cons _ (List.Sublist.refl _)) _ | exact List.Sublist.append_left (.cons _ (.cons _ (List.Sublist.refl _))) _ | exact List.Sublist.append_left (.cons _ (.cons _ (.cons _ (List.Sublist.refl _)))) _ | exact List.Sublist.append_left (.cons _ (.cons _ (.cons _ (.cons _ (List.Sublist.refl _))))) _ | exact List.Sublist.append_left (.cons _ (.cons _ (.cons _ (.cons _ (.cons _ (List.Sublist.refl _)))))) _ | exact List.Sublist.append_left (.cons _ (.cons _ (.cons _ (.cons _ (.cons _ (.cons _ (List.Sublist.refl _))))))) _)
          exact ⟨f, [], _, rfl, fiD, fo, rfl⟩
        · intro hc4
          try simp only [decide_eq_true_eq, decide_eq_false_iff_not, Bool.not_eq_true', Bool.not_eq_false', beq_iff_eq] at hc4
          refine AK.skip ?_
          refine AK.seq ?_
          refine AK.region ?_
          refine AO.val (by first | exact RV.fieldAddr rfl | exact RV.fieldAddrA rfl) (.none rfl) rfl ?_
          refine AO.val (by first | exact RV.loadO rfl rfl (by first | simp | assumption) | exact RV.loadSF rfl (by assumption) (fun _ => rfl) (by omega) rfl rfl (by first | simp | assumption) | exact RV.loadS rfl (by assumption) (by omega) (by first | simp | assumption)) (.none rfl) rfl ?_
          refine AO.val (RV.build rfl (.cons rfl rfl rfl rfl .nil)) (.none rfl) rfl ?_
          refine AO.eff (EF.alloc) (.none rfl) rfl ?_
          rintro _ _ ⟨b6, hf6, rfl, rfl⟩
          refine AO.effN (EF.storeO rfl rfl rfl rfl rfl rfl) (.none rfl) ?_
          rintro _ _ rfl
          refine AO.nil ?_
          refine AK.seq ?_
          refine AK.region ?_
          refine AO.val (RV.assign rfl) (.none rfl) rfl ?_
          refine AO.nil ?_
          refine AK.seq ?_
          refine AK.seq ?_
          refine AK.region ?_
          refine AO.val (RV.assign rfl) (.none rfl) rfl ?_
          refine AO.nil ?_
          refine AK.block ?_
          refine AK.loop (α := Int × Option Addr × Nat × Own × List Bk × Bool) (E := fun (i, Ao, co, po, out, bi) => [(2, .pointer (some ⟨b2, 0, none⟩)), (3, .pointer (some ⟨b3, 0, none⟩)), (4, .pointer (some ⟨b4, 0, none⟩)), (6, .pointer (some ⟨b6, 0, none⟩)), (7, .bool bi), (8, .int .i64 i)]) (H := fun (i, Ao, co, po, out, bi) => po ++ ((b6, Blk.cells [.slice f.vs.A f.vs.l.length f.vs.cap, .slice Ao out.length co] 37 (0, 0)) :: (b4, Blk.cells (encFM ZF) 37 (0, 0)) :: (b3, Blk.cells (encK ((b.1, b.2.1, b.2.2.1, b.2.2.2.1, 1, false, ()) : Bk)) 43 (0, 0)) :: (b2, Blk.cells (encFM f) 37 (0, 0)) :: h)) (Inv := fun (i, Ao, co, po, out, bi) => 0 ≤ i ∧ i ≤ f.bs.l.length ∧ Row 43 6 (.slice Ao out.length co) out.length (flat encK out) po ∧ out.length ≤ co ∧ (out.length : Int) ≤ i + (if bi = true then 1 else 0) ∧ (∀ x ∈ out, x ∈ f.bs.l ∨ x = ((b.1, b.2.1, b.2.2.1, b.2.2.2.1, 1, false, ()) : Bk))) (μ := fun (i, Ao, co, po, out, bi) => (f.bs.l.length - i).toNat) (0, none, 0, [], [], false) ?_ (.cons (by exact rfl) (.cons (by exact rfl) (.cons (by exact rfl) (.cons (by exact rfl) (.cons (by exact rfl) (.cons (by exact rfl) .nil)))))) ?_ ?_
          · exact ⟨by omega, by omega, .nil, Nat.le_refl 0, by simp, by simp⟩
          · exact (by first | exact SubO.sub | exact List.Sublist.refl _ | exact .cons _ (List.Sublist.refl _) | exact .cons _ (.cons _ (List.Sublist.refl _)) | exact .cons _ (.cons _ (.cons _ (List.Sublist.refl _))))
          rintro ⟨i, Ao, co, po, out, bi⟩ ⟨hi0, hi1, hro, hco, hol, hou⟩ hih0
          try dsimp only at hih0 ⊢
          have hol2 : (out.length : Int) ≤ i + 1 := by split at hol <;> omega
          refine AK.seq ?_
          refine AK.seq ?_
          refine AK.region ?_
          refine AO.val (RV.move rfl) (.none rfl) rfl ?_
          refine AO.val (by first | exact RV.fieldAddr rfl | exact RV.fieldAddrA rfl) (.none rfl) rfl ?_
          refine AO.val (by first | exact RV.loadO rfl rfl (by first | simp | assumption) | exact RV.loadSF rfl (by assumption) (fun _ => rfl) (by omega) rfl rfl (by first | simp | assumption) | exact RV.loadS rfl (by assumption) (by omega) (by first | simp | assumption)) (.none rfl) rfl ?_
          refine AO.val (RV.lenS rfl) (.none rfl) rfl ?_
          refine AO.val (RV.lss rfl rfl) (.none rfl) rfl ?_
          refine AO.nil ?_
          refine AK.cond rfl ?_ ?_
          · intro hc5
            try simp only [decide_eq_true_eq, decide_eq_false_iff_not, Bool.not_eq_true', Bool.not_eq_false', beq_iff_eq] at hc5
            refine AK.skip ?_
            refine AK.seq ?_
            refine AK.block ?_
            refine AK.seq ?_
            refine AK.seq ?_
            refine AK.draw [] [] mixed ?_
            refine AD.takeP 0 rfl (by kernel_rfl) (RV.move rfl) (.none rfl) rfl ?_
            refine AD.takeP 1 rfl (by kernel_rfl) (RV.not rfl) (.none rfl) rfl ?_
            refine AD.takeP 2 rfl (by kernel_rfl) (RV.move rfl) (.none rfl) rfl ?_
            refine AD.caseG (d := 44) (j := 2) rfl rfl ?_ ?_
            · intro hg6
              try simp only [decide_eq_true_eq, decide_eq_false_iff_not, Bool.not_eq_true', Bool.not_eq_false', beq_iff_eq] at hg6
              refine AD.takeP 3 rfl (by kernel_rfl) (by first | exact RV.fieldAddr rfl | exact RV.fieldAddrA rfl) (.some rfl rfl rfl rfl) rfl ?_
              refine AD.take 4 rfl (by kernel_rfl) (by first | exact RV.loadO rfl rfl (by first | simp | assumption) | exact RV.loadSF rfl (by assumption) (fun _ => rfl) (by omega) rfl rfl (by first | simp | assumption) | exact RV.loadS rfl (by assumption) (by omega) (by first | simp | assumption)) (.some rfl rfl rfl rfl) rfl ?_
              refine AD.takeP 5 rfl (by kernel_rfl) (by first | exact RV.fieldAddr rfl | exact RV.fieldAddrA rfl) (.some rfl rfl rfl rfl) rfl ?_
              refine AD.take 6 rfl (by kernel_rfl) (by first | exact RV.loadO rfl rfl (by first | simp | assumption) | exact RV.loadSF rfl (by assumption) (fun _ => rfl) (by omega) rfl rfl (by first | simp | assumption) | exact RV.loadS rfl (by assumption) (by omega) (by first | simp | assumption)) (.some rfl rfl rfl rfl) rfl ?_
              refine AD.takeP 7 rfl (by kernel_rfl) (RV.move rfl) (.some rfl rfl rfl rfl) rfl ?_
              refine AD.takeP 8 rfl (by kernel_rfl) (RV.indexS rfl rfl fi.sb (by omega) rfl) (.some rfl rfl rfl rfl) rfl ?_
              refine AD.takeP 9 rfl (by kernel_rfl) (by first | exact RV.fieldAddr rfl | exact RV.fieldAddrA rfl) (.some rfl rfl rfl rfl) rfl ?_
              refine AD.take 10 rfl (by kernel_rfl) (RV.loadSF (enc := encK) (l := f.bs.l) (fo := 0) rfl fi.sb (fun _ => rfl) (by omega) rfl rfl (by simp)) (.some rfl rfl rfl rfl) rfl ?_
              refine AD.takeP 11 rfl (by kernel_rfl) (RV.lss rfl rfl) (.some rfl rfl rfl rfl) rfl ?_
              refine AD.takeP 12 rfl (by kernel_rfl) (RV.pickT rfl rfl) (.none rfl) rfl ?_
              refine AD.done (by kernel_rfl) ?_
              refine AK.cond rfl ?_ ?_
              · intro hc7
                try simp only [decide_eq_true_eq, decide_eq_false_iff_not, Bool.not_eq_true', Bool.not_eq_false', beq_iff_eq] at hc7
                refine AK.seq ?_
                refine AK.region ?_
                refine AO.val (by first | exact RV.fieldAddr rfl | exact RV.fieldAddrA rfl) (.none rfl) rfl ?_
                refine AO.val (by first | exact RV.loadO rfl rfl (by first | simp | assumption) | exact RV.loadSF rfl (by assumption) (fun _ => rfl) (by omega) rfl rfl (by first | simp | assumption) | exact RV.loadS rfl (by assumption) (by omega) (by first | simp | assumption)) (.none rfl) rfl ?_
                refine AO.val (by first | exact RV.loadAggO rfl rfl (by first | simp | assumption) | exact RV.loadAggP rfl rfl rfl (by first | simp | assumption)) (.none rfl) rfl ?_
                refine AO.eff (EF.buildSlice rfl rfl rfl (.cons rfl rfl rfl rfl .nil)) (.none rfl) rfl ?_
                rintro _ _ ⟨b58, hf58, rfl, rfl⟩
                refine AO.eff (EF.appendS (n' := (out ++ [((b.1, b.2.1, b.2.2.1, b.2.2.2.1, 1, false, ()) : Bk)]).length) (ys := flat encK (out ++ [((b.1, b.2.1, b.2.2.1, b.2.2.2.1, 1, false, ()) : Bk)])) rfl rfl hro (Src.of_new (el := 43) (cs := encK ((b.1, b.2.1, b.2.2.1, b.2.2.2.1, 1, false, ()) : Bk)) List.mem_cons_self 1 6 (Nat.le_refl _)) (by simp) (flat_snoc encK out _) rfl (by decide) rfl (by (try simp only [List.length_append, List.length_cons, List.length_nil]); omega) (by (try simp only [List.length_append, List.length_cons, List.length_nil]); omega)) (.none rfl) rfl ?_
                rintro _ _ ⟨A59, c59, p59, rfl, hr59, hc59, rfl⟩
                refine AO.val (by first | exact RV.fieldAddr rfl | exact RV.fieldAddrA rfl) (.none rfl) rfl ?_
                refine AO.effN (EF.storeO rfl rfl rfl rfl rfl rfl) (.none rfl) ?_
                rintro _ _ rfl
                refine AO.nil ?_
                refine AK.region ?_
                refine AO.val (RV.assign rfl) (.none rfl) rfl ?_
                refine AO.nil ?_
                refine AK.draw [] [8, 10] mixed ?_
                refine AD.takeP 0 rfl (by kernel_rfl) (by first | exact RV.fieldAddr rfl | exact RV.fieldAddrA rfl) (.none rfl) rfl ?_
                refine AD.take 1 rfl (by kernel_rfl) (by first | exact RV.loadO rfl rfl (by first | simp | assumption) | exact RV.loadSF rfl (by assumption) (fun _ => rfl) (by omega) rfl rfl (by first | simp | assumption) | exact RV.loadS rfl (by assumption) (by omega) (by first | simp | assumption)) (.none rfl) rfl ?_
                refine AD.takeP 2 rfl (by kernel_rfl) (by first | exact RV.fieldAddr rfl | exact RV.fieldAddrA rfl) (.none rfl) rfl ?_
                refine AD.take 3 rfl (by kernel_rfl) (by first | exact RV.loadO rfl rfl (by first | simp | assumption) | exact RV.loadSF rfl (by assumption) (fun _ => rfl) (by omega) rfl rfl (by first | simp | assumption) | exact RV.loadS rfl (by assumption) (by omega) (by first | simp | assumption)) (.none rfl) rfl ?_
                refine AD.takeP 4 rfl (by kernel_rfl) (RV.move rfl) (.none rfl) rfl ?_
                refine AD.takeP 5 rfl (by kernel_rfl) (RV.indexS rfl rfl fi.sb (by omega) rfl) (.none rfl) rfl ?_
                refine AD.take 6 rfl (by kernel_rfl) (RV.loadSA (enc := encK) (l := f.bs.l) rfl fi.sb (fun _ => rfl) (by omega) (by simp)) (.none rfl) rfl ?_
                refine AD.one 7 (by kernel_rfl) (AE.eff rfl (EF.buildSlice rfl rfl rfl (.cons rfl rfl rfl rfl .nil)) (.none rfl) rfl ?_)
                rintro _ _ ⟨b68, hf68, rfl, rfl⟩
                refine ⟨(by first | exact .inr fun x hx hM => hx | exact .inr fun x hx hM => List.mem_cons_of_mem _ hx | exact .inr fun x hx hM => List.mem_append_right _ hx), ?_⟩
                refine AD.one 8 (by kernel_rfl) (AE.eff rfl (EF.appendS (n' := ((out ++ [((b.1, b.2.1, b.2.2.1, b.2.2.2.1, 1, false, ()) : Bk)]) ++ [(lget f.bs.l i)]).length) (ys := flat encK ((out ++ [((b.1, b.2.1, b.2.2.1, b.2.2.2.1, 1, false, ()) : Bk)]) ++ [(lget f.bs.l i)])) rfl rfl hr59 (Src.of_new (el := 43) (cs := encK (lget f.bs.l i)) List.mem_cons_self 1 6 (Nat.le_refl _)) (by simp) (flat_snoc encK (out ++ [((b.1, b.2.1, b.2.2.1, b.2.2.2.1, 1, false, ()) : Bk)]) _) rfl (by decide) rfl (by (try simp only [List.length_append, List.length_cons, List.length_nil]); omega) (by (try simp only [List.length_append, List.length_cons, List.length_nil]); omega)) (.none rfl) rfl ?_)
                rintro _ _ ⟨A69, c69, p69, rfl, hr69, hc69, rfl⟩
                refine ⟨.inl (by kernel_rfl), ?_⟩
                refine AD.takeP 9 rfl (by kernel_rfl) (by first | exact RV.fieldAddr rfl | exact RV.fieldAddrA rfl) (.none rfl) rfl ?_
                refine AD.one 10 (by kernel_rfl) (AE.effN rfl (EF.storeO rfl rfl rfl rfl rfl rfl) (.none rfl) ?_)
                rintro _ _ rfl
                refine ⟨.inl (by kernel_rfl), ?_⟩
                refine AD.done (by kernel_rfl) ?_
                refine AK.inBlock ?_
                refine AK.region ?_
                refine AO.val (RV.move rfl) (.none rfl) rfl ?_
                refine AO.val (by first | exact RV.addIn rfl rfl (by omega) | exact RV.add rfl rfl) (.none rfl) rfl ?_
                refine AO.val (RV.assign rfl) (.none rfl) rfl ?_
                refine AO.nil ?_
                -- round ends at FFFFL0TtT
                refine AK.weak (.cons (by exact rfl) (.cons (by exact rfl) (.cons (by exact rfl) (.cons (by exact rfl) (.cons (by exact rfl) (.cons (by exact rfl) .nil)))))) (by first | exact SubO.sub | exact List.Sublist.append_left (.cons _ (List.Sublist.refl _)) _ | exact List.Sublist.append_left (.cons _ (.cons _ (List.Sublist.refl _))) _ | exact List.Sublist.append_left (.cons _ (.cons _ (.cons _ (List.Sublist.refl _)))) _ | exact List.Sublist.append_left (.cons _ (.cons _ (.cons _ (.cons _ (List.Sublist.refl _))))) _ | exact List.Sublist.append_left (.cons _ (.cons _ (.cons _ (.cons _ (.cons _ (List.Sublist.refl _)))))) _ | exact List.Sublist.append_left (.cons _ (.cons _ (.cons _ (.cons _ (.cons _ (.cons _ (List.Sublist.refl _))))))) _) (hih0 (i + 1, A69, c69, p69, ((out ++ [((b.1, b.2.1, b.2.2.1, b.2.2.2.1, 1, false, ()) : Bk)]) ++ [(lget f.bs.l i)]), true) ?_ ?_)
                · try dsimp only
                  have hm := lget_memV (l := f.bs.l) (i := i) ⟨hi0, by omega⟩
                  refine ⟨by omega, by omega, hr69, hc69, ?_, fun x hx => ?_⟩
                  · have h9 : bi = true ∨ bi = false := by cases bi <;> simp
                    simp only [List.length_append, List.length_cons, List.length_nil]
                    rcases h9 with h9 | h9 <;> simp_all <;> omega
                  · simp only [List.mem_append, List.mem_singleton] at hx
                    rcases hx with (hx | hx) | hx
                    · exact hou x hx
                    · exact .inr hx
                    · exact .inl (hx ▸ hm)
                · try dsimp only
                  omega
              · intro hc7
                try simp only [decide_eq_true_eq, decide_eq_false_iff_not, Bool.not_eq_true', Bool.not_eq_false', beq_iff_eq] at hc7
                refine AK.skip ?_
                refine AK.draw [] [8, 10] mixed ?_
                refine AD.takeP 0 rfl (by kernel_rfl) (by first | exact RV.fieldAddr rfl | exact RV.fieldAddrA rfl) (.none rfl) rfl ?_
                refine AD.take 1 rfl (by kernel_rfl) (by first | exact RV.loadO rfl rfl (by first | simp | assumption) | exact RV.loadSF rfl (by assumption) (fun _ => rfl) (by omega) rfl rfl (by first | simp | assumption) | exact RV.loadS rfl (by assumption) (by omega) (by first | simp | assumption)) (.none rfl) rfl ?_
                refine AD.takeP 2 rfl (by kernel_rfl) (by first | exact RV.fieldAddr rfl | exact RV.fieldAddrA rfl) (.none rfl) rfl ?_
                refine AD.take 3 rfl (by kernel_rfl) (by first | exact RV.loadO rfl rfl (by first | simp | assumption) | exact RV.loadSF rfl (by assumption) (fun _ => rfl) (by omega) rfl rfl (by first | simp | assumption) | exact RV.loadS rfl (by assumption) (by omega) (by first | simp | assumption)) (.none rfl) rfl ?_
                refine AD.takeP 4 rfl (by kernel_rfl) (RV.move rfl) (.none rfl) rfl ?_
                refine AD.takeP 5 rfl (by kernel_rfl) (RV.indexS rfl rfl fi.sb (by omega) rfl) (.none rfl) rfl ?_
                refine AD.take 6 rfl (by kernel_rfl) (RV.loadSA (enc := encK) (l := f.bs.l) rfl fi.sb (fun _ => rfl) (by omega) (by simp)) (.none rfl) rfl ?_
                refine AD.one 7 (by kernel_rfl) (AE.eff rfl (EF.buildSlice rfl rfl rfl (.cons rfl rfl rfl rfl .nil)) (.none rfl) rfl ?_)
                rintro _ _ ⟨b68, hf68, rfl, rfl⟩
                refine ⟨(by first | exact .inr fun x hx hM => hx | exact .inr fun x hx hM => List.mem_cons_of_mem _ hx | exact .inr fun x hx hM => List.mem_append_right _ hx), ?_⟩
                refine AD.one 8 (by kernel_rfl) (AE.eff rfl (EF.appendS (n' := (out ++ [(lget f.bs.l i)]).length) (ys := flat encK (out ++ [(lget f.bs.l i)])) rfl rfl hro (Src.of_new (el := 43) (cs := encK (lget f.bs.l i)) List.mem_cons_self 1 6 (Nat.le_refl _)) (by simp) (flat_snoc encK out _) rfl (by decide) rfl (by (try simp only [List.length_append, List.length_cons, List.length_nil]); omega) (by (try simp only [List.length_append, List.length_cons, List.length_nil]); omega)) (.none rfl) rfl ?_)
                rintro _ _ ⟨A69, c69, p69, rfl, hr69, hc69, rfl⟩
                refine ⟨.inl (by kernel_rfl), ?_⟩
                refine AD.takeP 9 rfl (by kernel_rfl) (by first | exact RV.fieldAddr rfl | exact RV.fieldAddrA rfl) (.none rfl) rfl ?_
                refine AD.one 10 (by kernel_rfl) (AE.effN rfl (EF.storeO rfl rfl rfl rfl rfl rfl) (.none rfl) ?_)
                rintro _ _ rfl
                refine ⟨.inl (by kernel_rfl), ?_⟩
                refine AD.done (by kernel_rfl) ?_
                refine AK.inBlock ?_
                refine AK.region ?_
                refine AO.val (RV.move rfl) (.none rfl) rfl ?_
                refine AO.val (by first | exact RV.addIn rfl rfl (by omega) | exact RV.add rfl rfl) (.none rfl) rfl ?_
                refine AO.val (RV.assign rfl) (.none rfl) rfl ?_
                refine AO.nil ?_
                -- round ends at FFFFL0TtF
                refine AK.weak (.cons (by exact rfl) (.cons (by exact rfl) (.cons (by exact rfl) (.cons (by exact rfl) (.cons (by exact rfl) (.cons (by exact rfl) .nil)))))) (by first | exact SubO.sub | exact List.Sublist.append_left (.cons _ (List.Sublist.refl _)) _ | exact List.Sublist.append_left (.cons _ (.cons _ (List.Sublist.refl _))) _ | exact List.Sublist.append_left (.cons _ (.cons _ (.cons _ (List.Sublist.refl _)))) _ | exact List.Sublist.append_left (.cons _ (.cons _ (.cons _ (.cons _ (List.Sublist.refl _))))) _ | exact List.Sublist.append_left (.cons _ (.cons _ (.cons _ (.cons _ (.cons _ (List.Sublist.refl _)))))) _ | exact List.Sublist.append_left (.cons _ (.cons _ (.cons _ (.cons _ (.cons _ (.cons _ (List.Sublist.refl _))))))) _) (hih0 (i + 1, A69, c69, p69, (out ++ [(lget f.bs.l i)]), bi) ?_ ?_)
                · try dsimp only
                  have hm := lget_memV (l := f.bs.l) (i := i) ⟨hi0, by omega⟩
                  refine ⟨by omega, by omega, hr69, hc69, ?_, fun x hx => ?_⟩
                  · have h9 : bi = true ∨ bi = false := by cases bi <;> simp
                    simp only [List.length_append, List.length_cons, List.length_nil]
                    rcases h9 with h9 | h9 <;> simp_all <;> omega
                  · simp only [List.mem_append, List.mem_singleton] at hx
                    rcases hx with hx | hx
                    · exact hou x hx
                    · exact .inl (hx ▸ hm)
                · try dsimp only
                  omega
            · intro hg6
              try simp only [decide_eq_true_eq, decide_eq_false_iff_not, Bool.not_eq_true', Bool.not_eq_false', beq_iff_eq] at hg6
              refine AD.pass 3 rfl (by kernel_rfl) (.some rfl rfl rfl rfl) rfl ?_
              refine AD.pass 4 rfl (by kernel_rfl) (.some rfl rfl rfl rfl) rfl ?_
              refine AD.pass 5 rfl (by kernel_rfl) (.some rfl rfl rfl rfl) rfl ?_
              refine AD.pass 6 rfl (by kernel_rfl) (.some rfl rfl rfl rfl) rfl ?_
              refine AD.pass 7 rfl (by kernel_rfl) (.some rfl rfl rfl rfl) rfl ?_
              refine AD.pass 8 rfl (by kernel_rfl) (.some rfl rfl rfl rfl) rfl ?_
              refine AD.pass 9 rfl (by kernel_rfl) (.some rfl rfl rfl rfl) rfl ?_
              refine AD.pass 10 rfl (by kernel_rfl) (.some rfl rfl rfl rfl) rfl ?_
              refine AD.pass 11 rfl (by kernel_rfl) (.some rfl rfl rfl rfl) rfl ?_
              refine AD.takeP 12 rfl (by kernel_rfl) (RV.pickF rfl rfl) (.none rfl) rfl ?_
              refine AD.done (by kernel_rfl) ?_
              refine AK.condF rfl ?_
              refine AK.skip ?_
              refine AK.draw [] [8, 10] mixed ?_
              refine AD.takeP 0 rfl (by kernel_rfl) (by first | exact RV.fieldAddr rfl | exact RV.fieldAddrA rfl) (.none rfl) rfl ?_
              refine AD.take 1 rfl (by kernel_rfl) (by first | exact RV.loadO rfl rfl (by first | simp | assumption) | exact RV.loadSF rfl (by assumption) (fun _ => rfl) (by omega) rfl rfl (by first | simp | assumption) | exact RV.loadS rfl (by assumption) (by omega) (by first | simp | assumption)) (.none rfl) rfl ?_
              refine AD.takeP 2 rfl (by kernel_rfl) (by first | exact RV.fieldAddr rfl | exact RV.fieldAddrA rfl) (.none rfl) rfl ?_
              refine AD.take 3 rfl (by kernel_rfl) (by first | exact RV.loadO rfl rfl (by first | simp | assumption) | exact RV.loadSF rfl (by assumption) (fun _ => rfl) (by omega) rfl rfl (by first | simp | assumption) | exact RV.loadS rfl (by assumption) (by omega) (by first | simp | assumption)) (.none rfl) rfl ?_
              refine AD.takeP 4 rfl (by kernel_rfl) (RV.move rfl) (.none rfl) rfl ?_
              refine AD.takeP 5 rfl (by kernel_rfl) (RV.indexS rfl rfl fi.sb (by omega) rfl) (.none rfl) rfl ?_
              refine AD.take 6 rfl (by kernel_rfl) (RV.loadSA (enc := encK) (l := f.bs.l) rfl fi.sb (fun _ => rfl) (by omega) (by simp)) (.none rfl) rfl ?_
              refine AD.one 7 (by kernel_rfl) (AE.eff rfl (EF.buildSlice rfl rfl rfl (.cons rfl rfl rfl rfl .nil)) (.none rfl) rfl ?_)
              rintro _ _ ⟨b68, hf68, rfl, rfl⟩
              refine ⟨(by first | exact .inr fun x hx hM => hx | exact .inr fun x hx hM => List.mem_cons_of_mem _ hx | exact .inr fun x hx hM => List.mem_append_right _ hx), ?_⟩
              refine AD.one 8 (by kernel_rfl) (AE.eff rfl (EF.appendS (n' := (out ++ [(lget f.bs.l i)]).length) (ys := flat encK (out ++ [(lget f.bs.l i)])) rfl rfl hro (Src.of_new (el := 43) (cs := encK (lget f.bs.l i)) List.mem_cons_self 1 6 (Nat.le_refl _)) (by simp) (flat_snoc encK out _) rfl (by decide) rfl (by (try simp only [List.length_append, List.length_cons, List.length_nil]); omega) (by (try simp only [List.length_append, List.length_cons, List.length_nil]); omega)) (.none rfl) rfl ?_)
              rintro _ _ ⟨A69, c69, p69, rfl, hr69, hc69, rfl⟩
              refine ⟨.inl (by kernel_rfl), ?_⟩
              refine AD.takeP 9 rfl (by kernel_rfl) (by first | exact RV.fieldAddr rfl | exact RV.fieldAddrA rfl) (.none rfl) rfl ?_
              refine AD.one 10 (by kernel_rfl) (AE.effN rfl (EF.storeO rfl rfl rfl rfl rfl rfl) (.none rfl) ?_)
              rintro _ _ rfl
              refine ⟨.inl (by kernel_rfl), ?_⟩
              refine AD.done (by kernel_rfl) ?_
              refine AK.inBlock ?_
              refine AK.region ?_
              refine AO.val (RV.move rfl) (.none rfl) rfl ?_
              refine AO.val (by first | exact RV.addIn rfl rfl (by omega) | exact RV.add rfl rfl) (.none rfl) rfl ?_
              refine AO.val (RV.assign rfl) (.none rfl) rfl ?_
              refine AO.nil ?_
              -- round ends at FFFFL0Tf
              refine AK.weak (.cons (by exact rfl) (.cons (by exact rfl) (.cons (by exact rfl) (.cons (by exact rfl) (.cons (by exact rfl) (.cons (by exact rfl) .nil)))))) (by first | exact SubO.sub | exact List.Sublist.append_left (.cons _ (List.Sublist.refl _)) _ | exact List.Sublist.append_left (.cons _ (.cons _ (List.Sublist.refl _))) _ | exact List.Sublist.append_left (.cons _ (.cons _ (.cons _ (List.Sublist.refl _)))) _ | exact List.Sublist.append_left (.cons _ (.cons _ (.cons _ (.cons _ (List.Sublist.refl _))))) _ | exact List.Sublist.append_left (.cons _ (.cons _ (.cons _ (.cons _ (.cons _ (List.Sublist.refl _)))))) _ | exact List.Sublist.append_left (.cons _ (.cons _ (.cons _ (.cons _ (.cons _ (.cons _ (List.Sublist.refl _))))))) _) (hih0 (i + 1, A69, c69, p69, (out ++ [(lget f.bs.l i)]), bi) ?_ ?_)
              · try dsimp only
                have hm := lget_memV (l := f.bs.l) (i := i) ⟨hi0, by omega⟩
                refine ⟨by omega, by omega, hr69, hc69, ?_, fun x hx => ?_⟩
                · have h9 : bi = true ∨ bi = false := by cases bi <;> simp
                  simp only [List.length_append, List.length_cons, List.length_nil]
                  rcases h9 with h9 | h9 <;> simp_all <;> omega
                · simp only [List.mem_append, List.mem_singleton] at hx
                  rcases hx with hx | hx
                  · exact hou x hx
                  · exact .inl (hx ▸ hm)
              · try dsimp only
                omega
          · intro hc5
            try simp only [decide_eq_true_eq, decide_eq_false_iff_not, Bool.not_eq_true', Bool.not_eq_false', beq_iff_eq] at hc5
            refine AK.exit rfl ?_
            refine AK.seq ?_
            refine AK.seq ?_
            refine AK.region ?_
            refine AO.val (RV.move rfl) (.none rfl) rfl ?_
            refine AO.val (RV.not rfl) (.none rfl) rfl ?_
            refine AO.nil ?_
            refine AK.cond rfl ?_ ?_
            · intro hc8
              try simp only [decide_eq_true_eq, decide_eq_false_iff_not, Bool.not_eq_true', Bool.not_eq_false', beq_iff_eq] at hc8
              refine AK.region ?_
              refine AO.val (by first | exact RV.fieldAddr rfl | exact RV.fieldAddrA rfl) (.none rfl) rfl ?_
              refine AO.val (by first | exact RV.loadO rfl rfl (by first | simp | assumption) | exact RV.loadSF rfl (by assumption) (fun _ => rfl) (by omega) rfl rfl (by first | simp | assumption) | exact RV.loadS rfl (by assumption) (by omega) (by first | simp | assumption)) (.none rfl) rfl ?_
              refine AO.val (by first | exact RV.loadAggO rfl rfl (by first | simp | assumption) | exact RV.loadAggP rfl rfl rfl (by first | simp | assumption)) (.none rfl) rfl ?_
              refine AO.eff (EF.buildSlice rfl rfl rfl (.cons rfl rfl rfl rfl .nil)) (.none rfl) rfl ?_
              rintro _ _ ⟨b76, hf76, rfl, rfl⟩
              refine AO.eff (EF.appendS (n' := (out ++ [((b.1, b.2.1, b.2.2.1, b.2.2.2.1, 1, false, ()) : Bk)]).length) (ys := flat encK (out ++ [((b.1, b.2.1, b.2.2.1, b.2.2.2.1, 1, false, ()) : Bk)])) rfl rfl hro (Src.of_new (el := 43) (cs := encK ((b.1, b.2.1, b.2.2.1, b.2.2.2.1, 1, false, ()) : Bk)) List.mem_cons_self 1 6 (Nat.le_refl _)) (by simp) (flat_snoc encK out _) rfl (by decide) rfl (by (try simp only [List.length_append, List.length_cons, List.length_nil]); omega) (by (try simp only [List.length_append, List.length_cons, List.length_nil]); omega)) (.none rfl) rfl ?_
              rintro _ _ ⟨A77, c77, p77, rfl, hr77, hc77, rfl⟩
              refine AO.val (by first | exact RV.fieldAddr rfl | exact RV.fieldAddrA rfl) (.none rfl) rfl ?_
              refine AO.effN (EF.storeO rfl rfl rfl rfl rfl rfl) (.none rfl) ?_
              rintro _ _ rfl
              refine AO.nil ?_
              refine AK.seq ?_
              refine AK.region ?_
              refine AO.val (by first | exact RV.loadAggO rfl rfl (by first | simp | assumption) | exact RV.loadAggP rfl rfl rfl (by first | simp | assumption)) (.none rfl) rfl ?_
              refine AO.effN (EF.storeO rfl rfl rfl rfl rfl rfl) (.none rfl) ?_
              rintro _ _ rfl
              refine AO.val (RV.assign rfl) (.none rfl) rfl ?_
              refine AO.nil ?_
              -- at FFFFL0FT
              clear hih0
              refine AK.ret (h' := p77 ++ h) Try.func20 (.aggO rfl rfl (.tmp rfl .nil)) ?_ (by first | exact SubO.sub | exact List.Sublist.append_left (.cons _ (List.Sublist.refl _)) _ | exact List.Sublist.append_left (.cons _ (.cons _ (List.Sublist.refl _))) _ | exact List.Sublist.append_left (.cons _ (.cons _ (.cons _ (List.Sublist.refl _)))) _ | exact List.Sublist.append_left (.cons _ (.cons _ (.cons _ (.cons _ (List.Sublist.refl _))))) _ | exact List.Sublist.append_left (.cons _ (.cons _ (.cons _ (.cons _ (.cons _ (List.Sublist.refl _)))))) _ | exact List.Sublist.append_left (.cons _ (.cons _ (.cons _ (.cons _ (.cons _ (.cons _ (List.Sublist.refl _))))))) _)
              refine ⟨⟨f.vs, ⟨A77, c77, (out ++ [((b.1, b.2.1, b.2.2.1, b.2.2.2.1, 1, false, ()) : Bk)])⟩⟩, p77, _, rfl, ⟨fiD.sv.mono fun x hx => by simp [hx], fi.cv, hr77.src fun x hx => by simp [hx], hc77⟩, fo.withB (b := ((b.1, b.2.1, b.2.2.1, b.2.2.2.1, 1, false, ()) : Bk)) ?_ (fun x hx => ?_) (hgv rfl) hvm, rfl⟩
              · simp only [List.length_append, List.length_cons, List.length_nil]; simp_all; omega
              · rcases List.mem_append.1 hx with hx | hx
                · exact hou x hx
                · simp only [List.mem_singleton] at hx; exact .inr hx
            · intro hc8
              try simp only [decide_eq_true_eq, decide_eq_false_iff_not, Bool.not_eq_true', Bool.not_eq_false', beq_iff_eq] at hc8
              have hnb := hc8
              refine AK.skip ?_
              refine AK.seq ?_
              refine AK.region ?_
              refine AO.val (by first | exact RV.loadAggO rfl rfl (by first | simp | assumption) | exact RV.loadAggP rfl rfl rfl (by first | simp | assumption)) (.none rfl) rfl ?_
              refine AO.effN (EF.storeO rfl rfl rfl rfl rfl rfl) (.none rfl) ?_
              rintro _ _ rfl
              refine AO.val (RV.assign rfl) (.none rfl) rfl ?_
              refine AO.nil ?_
              -- at FFFFL0FF
              clear hih0
              refine AK.ret (h' := po ++ h) Try.func20 (.aggO rfl rfl (.tmp rfl .nil)) ?_ (by first | exact SubO.sub | exact List.Sublist.append_left (.cons _ (List.Sublist.refl _)) _ | exact List.Sublist.append_left (.cons _ (.cons _ (List.Sublist.refl _))) _ | exact List.Sublist.append_left (.cons _ (.cons _ (.cons _ (List.Sublist.refl _)))) _ | exact List.Sublist.append_left (.cons _ (.cons _ (.cons _ (.cons _ (List.Sublist.refl _))))) _ | exact List.Sublist.append_left (.cons _ (.cons _ (.cons _ (.cons _ (.cons _ (List.Sublist.refl _)))))) _ | exact List.Sublist.append_left (.cons _ (.cons _ (.cons _ (.cons _ (.cons _ (.cons _ (List.Sublist.refl _))))))) _)
              refine ⟨⟨f.vs, ⟨Ao, co, out⟩⟩, po, _, rfl, ⟨fiD.sv.mono fun x hx => by simp [hx], fi.cv, hro.src fun x hx => by simp [hx], hco⟩, fo.withB (b := ((b.1, b.2.1, b.2.2.1, b.2.2.2.1, 1, false, ()) : Bk)) ?_ (fun x hx => ?_) (hgv rfl) hvm, rfl⟩
              · have h9 : bi = true := by simpa using hnb
                rw [h9] at hol; simp at hol; omega
              · exact hou x hx

theorem with_spec (B : World) (h : Own) (D : Own) (hD : ∀ x ∈ D, x ∈ h) (f : FM) (fiD : FIn B D f) (hlb : f.bs.l.length ≤ 16) (b : Bk) (nn : Bool) : Tri Try.prog B 40 [.agg (encFM f).toArray, .agg (encK b).toArray, .bool nn] h fun r h' => ∃ (A : Option Addr) (c : Nat) (out : List Bk) (part : Own), r = .agg (encFM ⟨f.vs, ⟨A, c, out⟩⟩).toArray ∧ (∀ x ∈ out, x ∈ f.bs.l ∨ x = b) ∧ out.length ≤ f.bs.l.length ∧ FIn B (part ++ D) ⟨f.vs, ⟨A, c, out⟩⟩ ∧ h' = part ++ h := by
  have fi := fiD.mono hD
  have hcv := fi.cv
  have hcb := fi.cb
  refine Tri.enter (n := 47) Try.func40 rfl rfl rfl ?_
  simp only [argsE, Nat.reduceAdd]
  try dsimp only [argsE]
  refine AK.seq ?_
  refine AK.region ?_
  refine AO.eff (EF.box rfl rfl) (.none rfl) rfl ?_
  rintro _ _ ⟨b3, hf3, rfl, rfl⟩
  refine AO.eff (EF.box rfl rfl) (.none rfl) rfl ?_
  rintro _ _ ⟨b4, hf4, rfl, rfl⟩
  refine AO.eff (EF.alloc) (.none rfl) rfl ?_
  rintro _ _ ⟨b6, hf6, rfl, rfl⟩
  refine AO.nil ?_
  refine AK.seq ?_
  refine AK.region ?_
  refine AO.val (by first | exact RV.fieldAddr rfl | exact RV.fieldAddrA rfl) (.none rfl) rfl ?_
  refine AO.val (by first | exact RV.loadO rfl rfl (by first | simp | assumption) | exact RV.loadSF rfl (by assumption) (fun _ => rfl) (by omega) rfl rfl (by first | simp | assumption) | exact RV.loadS rfl (by assumption) (by omega) (by first | simp | assumption)) (.none rfl) rfl ?_
  refine AO.val (RV.build rfl (.cons rfl rfl rfl rfl .nil)) (.none rfl) rfl ?_
  refine AO.eff (EF.alloc) (.none rfl) rfl ?_
  rintro _ _ ⟨b7, hf7, rfl, rfl⟩
  refine AO.effN (EF.storeO rfl rfl rfl rfl rfl rfl) (.none rfl) ?_
  rintro _ _ rfl
  refine AO.nil ?_
  refine AK.seq ?_
  refine AK.seq ?_
  refine AK.region ?_
  refine AO.val (RV.assign rfl) (.none rfl) rfl ?_
  refine AO.nil ?_
  refine AK.block ?_
  refine AK.loop (α := Int × Option Addr × Nat × Own × List Bk) (E := fun (i, Ao, co, po, out) => [(2, .bool nn), (3, .pointer (some ⟨b3, 0, none⟩)), (4, .pointer (some ⟨b4, 0, none⟩)), (6, .pointer (some ⟨b6, 0, none⟩)), (7, .pointer (some ⟨b7, 0, none⟩)), (8, .int .i64 i)]) (H := fun (i, Ao, co, po, out) => po ++ ((b7, Blk.cells [.slice f.vs.A f.vs.l.length f.vs.cap, .slice Ao out.length co] 37 (0, 0)) :: (b6, Blk.cells (encFM ZF) 37 (0, 0)) :: (b4, Blk.cells (encK b) 43 (0, 0)) :: (b3, Blk.cells (encFM f) 37 (0, 0)) :: h)) (Inv := fun (i, Ao, co, po, out) => 0 ≤ i ∧ i ≤ f.bs.l.length ∧ Row 43 6 (.slice Ao out.length co) out.length (flat encK out) po ∧ out.length ≤ co ∧ (out.length : Int) ≤ i ∧ (∀ x ∈ out, x ∈ f.bs.l ∨ x = b)) (μ := fun (i, Ao, co, po, out) => (f.bs.l.length - i).toNat) (0, none, 0, [], []) ?_ (.cons (by exact rfl) (.cons (by exact rfl) (.cons (by exact rfl) (.cons (by exact rfl) (.cons (by exact rfl) (.cons (by exact rfl) .nil)))))) ?_ ?_
  · exact ⟨by omega, by omega, .nil, Nat.le_refl 0, by simp, by simp⟩
  · exact (by first | exact SubO.sub | exact List.Sublist.refl _ | exact .cons _ (List.Sublist.refl _) | exact .cons _ (.cons _ (List.Sublist.refl _)) | exact .cons _ (.cons _ (.cons _ (List.Sublist.refl _))))
  rintro ⟨i, Ao, co, po, out⟩ ⟨hi0, hi1, hro, hco, hol, hou⟩ hih0
  try dsimp only at hih0 ⊢
  refine AK.seq ?_
  refine AK.seq ?_
  refine AK.region ?_
  refine AO.val (RV.move rfl) (.none rfl) rfl ?_
  refine AO.val (by first | exact RV.fieldAddr rfl | exact RV.fieldAddrA rfl) (.none rfl) rfl ?_
  refine AO.val (by first | exact RV.loadO rfl rfl (by first | simp | assumption) | exact RV.loadSF rfl (by assumption) (fun _ => rfl) (by omega) rfl rfl (by first | simp | assumption) | exact RV.loadS rfl (by assumption) (by omega) (by first | simp | assumption)) (.none rfl) rfl ?_
  refine AO.val (RV.lenS rfl) (.none rfl) rfl ?_
  refine AO.val (RV.lss rfl rfl) (.none rfl) rfl ?_
  refine AO.nil ?_
  refine AK.cond rfl ?_ ?_
  · intro hc1
    try simp only [decide_eq_true_eq, decide_eq_false_iff_not, Bool.not_eq_true', Bool.not_eq_false', beq_iff_eq] at hc1
    refine AK.skip ?_
    refine AK.seq ?_
    refine AK.block ?_
    refine AK.seq ?_
    refine AK.draw [] [] mixed ?_
    refine AD.takeP 0 rfl (by kernel_rfl) (by first | exact RV.fieldAddr rfl | exact RV.fieldAddrA rfl) (.none rfl) rfl ?_
    refine AD.take 1 rfl (by kernel_rfl) (by first | exact RV.loadO rfl rfl (by first | simp | assumption) | exact RV.loadSF rfl (by assumption) (fun _ => rfl) (by omega) rfl rfl (by first | simp | assumption) | exact RV.loadS rfl (by assumption) (by omega) (by first | simp | assumption)) (.none rfl) rfl ?_
    refine AD.takeP 2 rfl (by kernel_rfl) (RV.move rfl) (.none rfl) rfl ?_
    refine AD.takeP 3 rfl (by kernel_rfl) (RV.indexS rfl rfl fi.sb (by omega) rfl) (.none rfl) rfl ?_
    refine AD.takeP 4 rfl (by kernel_rfl) (by first | exact RV.fieldAddr rfl | exact RV.fieldAddrA rfl) (.none rfl) rfl ?_
    refine AD.take 5 rfl (by kernel_rfl) (RV.loadSF (enc := encK) (l := f.bs.l) (fo := 0) rfl fi.sb (fun _ => rfl) (by omega) rfl rfl (by simp)) (.none rfl) rfl ?_
    refine AD.takeP 6 rfl (by kernel_rfl) (by first | exact RV.fieldAddr rfl | exact RV.fieldAddrA rfl) (.none rfl) rfl ?_
    refine AD.take 7 rfl (by kernel_rfl) (by first | exact RV.loadO rfl rfl (by first | simp | assumption) | exact RV.loadSF rfl (by assumption) (fun _ => rfl) (by omega) rfl rfl (by first | simp | assumption) | exact RV.loadS rfl (by assumption) (by omega) (by first | simp | assumption)) (.none rfl) rfl ?_
    refine AD.takeP 8 rfl (by kernel_rfl) (RV.neq rfl rfl) (.none rfl) rfl ?_
    refine AD.done (by kernel_rfl) ?_
    refine AK.cond rfl ?_ ?_
    · intro hc2
      try simp only [decide_eq_true_eq, decide_eq_false_iff_not, Bool.not_eq_true', Bool.not_eq_false', beq_iff_eq] at hc2
      refine AK.draw [] [8, 10] mixed ?_
      refine AD.takeP 0 rfl (by kernel_rfl) (by first | exact RV.fieldAddr rfl | exact RV.fieldAddrA rfl) (.none rfl) rfl ?_
      refine AD.take 1 rfl (by kernel_rfl) (by first | exact RV.loadO rfl rfl (by first | simp | assumption) | exact RV.loadSF rfl (by assumption) (fun _ => rfl) (by omega) rfl rfl (by first | simp | assumption) | exact RV.loadS rfl (by assumption) (by omega) (by first | simp | assumption)) (.none rfl) rfl ?_
      refine AD.takeP 2 rfl (by kernel_rfl) (by first | exact RV.fieldAddr rfl | exact RV.fieldAddrA rfl) (.none rfl) rfl ?_
      refine AD.take 3 rfl (by kernel_rfl) (by first | exact RV.loadO rfl rfl (by first | simp | assumption) | exact RV.loadSF rfl (by assumption) (fun _ => rfl) (by omega) rfl rfl (by first | simp | assumption) | exact RV.loadS rfl (by assumption) (by omega) (by first | simp | assumption)) (.none rfl) rfl ?_
      refine AD.takeP 4 rfl (by kernel_rfl) (RV.move rfl) (.none rfl) rfl ?_
      refine AD.takeP 5 rfl (by kernel_rfl) (RV.indexS rfl rfl fi.sb (by omega) rfl) (.none rfl) rfl ?_
      refine AD.take 6 rfl (by kernel_rfl) (RV.loadSA (enc := encK) (l := f.bs.l) rfl fi.sb (fun _ => rfl) (by omega) (by simp)) (.none rfl) rfl ?_
      refine AD.one 7 (by kernel_rfl) (AE.eff rfl (EF.buildSlice rfl rfl rfl (.cons rfl rfl rfl rfl .nil)) (.none rfl) rfl ?_)
      rintro _ _ ⟨b35, hf35, rfl, rfl⟩
      refine ⟨(by first | exact .inr fun x hx hM => hx | exact .inr fun x hx hM => List.mem_cons_of_mem _ hx | exact .inr fun x hx hM => List.mem_append_right _ hx), ?_⟩
      refine AD.one 8 (by kernel_rfl) (AE.eff rfl (EF.appendS (n' := (out ++ [(lget f.bs.l i)]).length) (ys := flat encK (out ++ [(lget f.bs.l i)])) rfl rfl hro (Src.of_new (el := 43) (cs := encK (lget f.bs.l i)) List.mem_cons_self 1 6 (Nat.le_refl _)) (by simp) (flat_snoc encK out _) rfl (by decide) rfl (by (try simp only [List.length_append, List.length_cons, List.length_nil]); omega) (by (try simp only [List.length_append, List.length_cons, List.length_nil]); omega)) (.none rfl) rfl ?_)
      rintro _ _ ⟨A36, c36, p36, rfl, hr36, hc36, rfl⟩
      refine ⟨.inl (by kernel_rfl), ?_⟩
      refine AD.takeP 9 rfl (by kernel_rfl) (by first | exact RV.fieldAddr rfl | exact RV.fieldAddrA rfl) (.none rfl) rfl ?_
      refine AD.one 10 (by kernel_rfl) (AE.effN rfl (EF.storeO rfl rfl rfl rfl rfl rfl) (.none rfl) ?_)
      rintro _ _ rfl
      refine ⟨.inl (by kernel_rfl), ?_⟩
      refine AD.done (by kernel_rfl) ?_
      refine AK.inBlock ?_
      refine AK.region ?_
      refine AO.val (RV.move rfl) (.none rfl) rfl ?_
      refine AO.val (by first | exact RV.addIn rfl rfl (by omega) | exact RV.add rfl rfl) (.none rfl) rfl ?_
      refine AO.val (RV.assign rfl) (.none rfl) rfl ?_
      refine AO.nil ?_
      -- round ends at L0TT
      refine AK.weak (.cons (by exact rfl) (.cons (by exact rfl) (.cons (by exact rfl) (.cons (by exact rfl) (.cons (by exact rfl) (.cons (by exact rfl) .nil)))))) (by first | exact SubO.sub | exact List.Sublist.append_left (.cons _ (List.Sublist.refl _)) _ | exact List.Sublist.append_left (.cons _ (.cons _ (List.Sublist.refl _))) _ | exact List.Sublist.append_left (.cons _ (.cons _ (.cons _ (List.Sublist.refl _)))) _ | exact List.Sublist.append_left (.cons _ (.cons _ (.cons _ (.cons _ (List.Sublist.refl _))))) _ | exact List.Sublist.append_left (.cons _ (.cons _ (.cons _ (.cons _ (.cons _ (List.Sublist.refl _)))))) _ | exact List.Sublist.append_left (.cons _ (.cons _ (.cons _ (.cons _ (.cons _ (.cons _ (List.Sublist.refl _))))))) _) (hih0 (i + 1, A36, c36, p36, out ++ [(lget f.bs.l i)]) ?_ ?_)
      · try dsimp only
        have hm := lget_memV (l := f.bs.l) (i := i) ⟨hi0, by omega⟩
        refine ⟨by omega, by omega, hr36, hc36, by simp; omega, fun x hx => ?_⟩
        simp only [List.mem_append, List.mem_singleton] at hx
        rcases hx with hx | hx
        · exact hou x hx
        · exact .inl (hx ▸ hm)
      · try dsimp only
        omega
    · intro hc2
      try simp only [decide_eq_true_eq, decide_eq_false_iff_not, Bool.not_eq_true', Bool.not_eq_false', beq_iff_eq] at hc2
      refine AK.seq ?_
      refine AK.region ?_
      refine AO.val (RV.move rfl) (.none rfl) rfl ?_
      refine AO.val (RV.not rfl) (.none rfl) rfl ?_
      refine AO.nil ?_
      refine AK.cond rfl ?_ ?_
      · intro hc3
        try simp only [decide_eq_true_eq, decide_eq_false_iff_not, Bool.not_eq_true', Bool.not_eq_false', beq_iff_eq] at hc3
        refine AK.region ?_
        refine AO.val (by first | exact RV.fieldAddr rfl | exact RV.fieldAddrA rfl) (.none rfl) rfl ?_
        refine AO.val (by first | exact RV.loadO rfl rfl (by first | simp | assumption) | exact RV.loadSF rfl (by assumption) (fun _ => rfl) (by omega) rfl rfl (by first | simp | assumption) | exact RV.loadS rfl (by assumption) (by omega) (by first | simp | assumption)) (.none rfl) rfl ?_
        refine AO.val (by first | exact RV.loadAggO rfl rfl (by first | simp | assumption) | exact RV.loadAggP rfl rfl rfl (by first | simp | assumption)) (.none rfl) rfl ?_
        refine AO.eff (EF.buildSlice rfl rfl rfl (.cons rfl rfl rfl rfl .nil)) (.none rfl) rfl ?_
        rintro _ _ ⟨b43, hf43, rfl, rfl⟩
        refine AO.eff (EF.appendS (n' := (out ++ [b]).length) (ys := flat encK (out ++ [b])) rfl rfl hro (Src.of_new (el := 43) (cs := encK b) List.mem_cons_self 1 6 (Nat.le_refl _)) (by simp) (flat_snoc encK out _) rfl (by decide) rfl (by (try simp only [List.length_append, List.length_cons, List.length_nil]); omega) (by (try simp only [List.length_append, List.length_cons, List.length_nil]); omega)) (.none rfl) rfl ?_
        rintro _ _ ⟨A44, c44, p44, rfl, hr44, hc44, rfl⟩
        refine AO.val (by first | exact RV.fieldAddr rfl | exact RV.fieldAddrA rfl) (.none rfl) rfl ?_
        refine AO.effN (EF.storeO rfl rfl rfl rfl rfl rfl) (.none rfl) ?_
        rintro _ _ rfl
        refine AO.nil ?_
        refine AK.inBlock ?_
        refine AK.region ?_
        refine AO.val (RV.move rfl) (.none rfl) rfl ?_
        refine AO.val (by first | exact RV.addIn rfl rfl (by omega) | exact RV.add rfl rfl) (.none rfl) rfl ?_
        refine AO.val (RV.assign rfl) (.none rfl) rfl ?_
        refine AO.nil ?_
        -- round ends at L0TFT
        refine AK.weak (.cons (by exact rfl) (.cons (by exact rfl) (.cons (by exact rfl) (.cons (by exact rfl) (.cons (by exact rfl) (.cons (by exact rfl) .nil)))))) (by first | exact SubO.sub | exact List.Sublist.append_left (.cons _ (List.Sublist.refl _)) _ | exact List.Sublist.append_left (.cons _ (.cons _ (List.Sublist.refl _))) _ | exact List.Sublist.append_left (.cons _ (.cons _ (.cons _ (List.Sublist.refl _)))) _ | exact List.Sublist.append_left (.cons _ (.cons _ (.cons _ (.cons _ (List.Sublist.refl _))))) _ | exact List.Sublist.append_left (.cons _ (.cons _ (.cons _ (.cons _ (.cons _ (List.Sublist.refl _)))))) _ | exact List.Sublist.append_left (.cons _ (.cons _ (.cons _ (.cons _ (.cons _ (.cons _ (List.Sublist.refl _))))))) _) (hih0 (i + 1, A44, c44, p44, out ++ [b]) ?_ ?_)
        · try dsimp only
          have hm := lget_memV (l := f.bs.l) (i := i) ⟨hi0, by omega⟩
          refine ⟨by omega, by omega, hr44, hc44, by simp; omega, fun x hx => ?_⟩
          simp only [List.mem_append, List.mem_singleton] at hx
          rcases hx with hx | hx
          · exact hou x hx
          · exact .inr hx
        · try dsimp only
          omega
      · intro hc3
        try simp only [decide_eq_true_eq, decide_eq_false_iff_not, Bool.not_eq_true', Bool.not_eq_false', beq_iff_eq] at hc3
        refine AK.skip ?_
        refine AK.inBlock ?_
        refine AK.region ?_
        refine AO.val (RV.move rfl) (.none rfl) rfl ?_
        refine AO.val (by first | exact RV.addIn rfl rfl (by omega) | exact RV.add rfl rfl) (.none rfl) rfl ?_
        refine AO.val (RV.assign rfl) (.none rfl) rfl ?_
        refine AO.nil ?_
        -- round ends at L0TFF
        refine AK.weak (.cons (by exact rfl) (.cons (by exact rfl) (.cons (by exact rfl) (.cons (by exact rfl) (.cons (by exact rfl) (.cons (by exact rfl) .nil)))))) (by first | exact SubO.sub | exact List.Sublist.refl _ | exact .cons _ (List.Sublist.refl _) | exact .cons _ (.cons _ (List.Sublist.refl _)) | exact .cons _ (.cons _ (.cons _ (List.Sublist.refl _)))) (hih0 (i + 1, Ao, co, po, out) ?_ ?_)
        · try dsimp only
          exact ⟨by omega, by omega, hro, hco, by omega, hou⟩
        · try dsimp only
          (try simp only); omega
  · intro hc1
    try simp only [decide_eq_true_eq, decide_eq_false_iff_not, Bool.not_eq_true', Bool.not_eq_false', beq_iff_eq] at hc1
    refine AK.exit rfl ?_
    refine AK.seq ?_
    refine AK.region ?_
    refine AO.val (by first | exact RV.loadAggO rfl rfl (by first | simp | assumption) | exact RV.loadAggP rfl rfl rfl (by first | simp | assumption)) (.none rfl) rfl ?_
    refine AO.effN (EF.storeO rfl rfl rfl rfl rfl rfl) (.none rfl) ?_
    rintro _ _ rfl
    refine AO.nil ?_
    -- at L0F
    clear hih0
    refine AK.ret (h' := po ++ h) Try.func40 (.aggO rfl rfl .nil) ?_ (by first | exact SubO.sub | exact List.Sublist.append_left (.cons _ (List.Sublist.refl _)) _ | exact List.Sublist.append_left (.cons _ (.cons _ (List.Sublist.refl _))) _ | exact List.Sublist.append_left (.cons _ (.cons _ (.cons _ (List.Sublist.refl _)))) _ | exact List.Sublist.append_left (.cons _ (.cons _ (.cons _ (.cons _ (List.Sublist.refl _))))) _ | exact List.Sublist.append_left (.cons _ (.cons _ (.cons _ (.cons _ (.cons _ (List.Sublist.refl _)))))) _ | exact List.Sublist.append_left (.cons _ (.cons _ (.cons _ (.cons _ (.cons _ (.cons _ (List.Sublist.refl _))))))) _)
    exact ⟨Ao, co, out, po, rfl, hou, by omega, ⟨fiD.sv.mono fun x hx => by simp [hx], fi.cv, hro.src fun x hx => by simp [hx], hco⟩, rfl⟩

set_option maxHeartbeats 2000000 in
theorem change_spec (B : World) (h : Own) (D : Own) (hD : ∀ x ∈ D, x ∈ h) (f : FM) (fiD : FIn B D f) (fo : FarmOk f) (kind id w : Int) : Tri Try.prog B 21 [.agg (encFM f).toArray, .int .i64 kind, .int .i64 id, .int .i64 w] h fun r h' => ∃ (f' : FM) (part : Own) (e : Int), r = .tuple #[.agg (encFM f').toArray, .int .i64 e] ∧ FIn B (part ++ D) f' ∧ FarmOk f' ∧ h' = part ++ h := by
  have fi := fiD.mono hD
  have hlv := fo.lv
  have hlb := fo.lb
  have hcv := fi.cv
  have hcb := fi.cb
  refine Tri.enter (n := 51) Try.func21 rfl rfl rfl ?_
  simp only [argsE, Nat.reduceAdd]
  try dsimp only [argsE]
  refine AK.seq ?_
  refine AK.region ?_
  refine AO.eff (EF.box rfl rfl) (.none rfl) rfl ?_
  rintro _ _ ⟨b4, hf4, rfl, rfl⟩
  refine AO.eff (EF.alloc) (.none rfl) rfl ?_
  rintro _ _ ⟨b8, hf8, rfl, rfl⟩
  refine AO.val (RV.assign rfl) (.none rfl) rfl ?_
  refine AO.nil ?_
  refine AK.seq ?_
  refine AK.seq ?_
  refine AK.region ?_
  refine AO.val (RV.move rfl) (.none rfl) rfl ?_
  refine AO.val (RV.eql rfl rfl) (.none rfl) rfl ?_
  refine AO.val (RV.move rfl) (.none rfl) rfl ?_
  refine AO.caseG rfl rfl rfl ?_ ?_
  · intro hg1
    try simp only [decide_eq_true_eq, decide_eq_false_iff_not, Bool.not_eq_true', Bool.not_eq_false', beq_iff_eq] at hg1
    refine AO.val (RV.move rfl) (.some rfl rfl rfl rfl) rfl ?_
    refine AO.val (RV.lss rfl rfl) (.some rfl rfl rfl rfl) rfl ?_
    refine AO.val (RV.move rfl) (.some rfl rfl rfl rfl) rfl ?_
    refine AO.caseG rfl rfl rfl ?_ ?_
    · intro hg2
      try simp only [decide_eq_true_eq, decide_eq_false_iff_not, Bool.not_eq_true', Bool.not_eq_false', beq_iff_eq] at hg2
      refine AO.pass (.some rfl rfl rfl rfl) rfl ?_
      refine AO.pass (.some rfl rfl rfl rfl) rfl ?_
      refine AO.val (RV.pickT rfl rfl) (.some rfl rfl rfl rfl) rfl ?_
      refine AO.val (RV.pickT rfl rfl) (.none rfl) rfl ?_
      refine AO.nil ?_
      refine AK.condT rfl ?_
      refine AK.seq ?_
      refine AK.region ?_
      refine AO.val (by first | exact RV.loadAggO rfl rfl (by first | simp | assumption) | exact RV.loadAggP rfl rfl rfl (by first | simp | assumption)) (.none rfl) rfl ?_
      refine AO.effN (EF.storeO rfl rfl rfl rfl rfl rfl) (.none rfl) ?_
      rintro _ _ rfl
      refine AO.val (RV.assign rfl) (.none rfl) rfl ?_
      refine AO.nil ?_
      -- at tt
      refine AK.ret (h' := h) Try.func21 (.aggO rfl rfl (.tmp rfl .nil)) ?_ (by first | exact SubO.sub | exact List.Sublist.append_left (.cons _ (List.Sublist.refl _)) _ | exact List.Sublist.append_left (.cons _ (.cons _ (List.Sublist.refl _))) _ | exact List.Sublist.append_left (.cons _ (.cons _ (.cons _ (List.Sublist.refl _)))) _ | exact List.Sublist.append_left (.cons _ (.cons _ (.cons _ (.cons _ (List.Sublist.refl _))))) _ | exact List.Sublist.append_left (.cons _ (.cons _ (.cons _ (.cons _ (.cons _ (List.Sublist.refl _)))))) _ | exact List.Sublist.append_left (.cons _ (.cons _ (.cons _ (.cons _ (.cons _ (.cons _ (List.Sublist.refl _))))))) _)
      exact ⟨f, [], _, rfl, fiD, fo, rfl⟩
    · intro hg2
      try simp only [decide_eq_true_eq, decide_eq_false_iff_not, Bool.not_eq_true', Bool.not_eq_false', beq_iff_eq] at hg2
      refine AO.val (RV.move rfl) (.some rfl rfl rfl rfl) rfl ?_
      refine AO.val (RV.gtr rfl rfl) (.some rfl rfl rfl rfl) rfl ?_
      refine AO.val (RV.pickF rfl rfl) (.some rfl rfl rfl rfl) rfl ?_
      refine AO.val (RV.pickT rfl rfl) (.none rfl) rfl ?_
      refine AO.nil ?_
      refine AK.cond rfl ?_ ?_
      · intro hc3
        try simp only [decide_eq_true_eq, decide_eq_false_iff_not, Bool.not_eq_true', Bool.not_eq_false', beq_iff_eq] at hc3
        refine AK.seq ?_
        refine AK.region ?_
        refine AO.val (by first | exact RV.loadAggO rfl rfl (by first | simp | assumption) | exact RV.loadAggP rfl rfl rfl (by first | simp | assumption)) (.none rfl) rfl ?_
        refine AO.effN (EF.storeO rfl rfl rfl rfl rfl rfl) (.none rfl) ?_
        rintro _ _ rfl
        refine AO.val (RV.assign rfl) (.none rfl) rfl ?_
        refine AO.nil ?_
        -- at tfT
        refine AK.ret (h' := h) Try.func21 (.aggO rfl rfl (.tmp rfl .nil)) ?_ (by first | exact SubO.sub | exact List.Sublist.append_left (.cons _ (List.Sublist.refl _)) _ | exact List.Sublist.append_left (.cons _ (.cons _ (List.Sublist.refl _))) _ | exact List.Sublist.append_left (.cons _ (.cons _ (.cons _ (List.Sublist.refl _)))) _ | exact List.Sublist.append_left (.cons _ (.cons _ (.cons _ (.cons _ (List.Sublist.refl _))))) _ | exact List.Sublist.append_left (.cons _ (.cons _ (.cons _ (.cons _ (.cons _ (List.Sublist.refl _)))))) _ | exact List.Sublist.append_left (.cons _ (.cons _ (.cons _ (.cons _ (.cons _ (.cons _ (List.Sublist.refl _))))))) _)
        exact ⟨f, [], _, rfl, fiD, fo, rfl⟩
      · intro hc3
        try simp only [decide_eq_true_eq, decide_eq_false_iff_not, Bool.not_eq_true', Bool.not_eq_false', beq_iff_eq] at hc3
        refine AK.skip ?_
        refine AK.seq ?_
        refine AK.region ?_
        refine AO.val (by first | exact RV.loadAggO rfl rfl (by first | simp | assumption) | exact RV.loadAggP rfl rfl rfl (by first | simp | assumption)) (.none rfl) rfl ?_
        refine AO.val (RV.move rfl) (.none rfl) rfl ?_
        refine AO.eff (EF.callF rfl (backat_spec B _ f (fi.mono fun x hx => by simp [hx]) (by omega) _)) (.none rfl) rfl ?_
        rintro _ _ ⟨rfl, kb, rfl, hkb⟩
        refine AO.val (RV.assign rfl) (.none rfl) rfl ?_
        refine AO.nil ?_
        refine AK.seq ?_
        refine AK.seq ?_
        refine AK.region ?_
        refine AO.val (RV.move rfl) (.none rfl) rfl ?_
        refine AO.val (RV.lss rfl rfl) (.none rfl) rfl ?_
        refine AO.nil ?_
        refine AK.cond rfl ?_ ?_
        · intro hc4
          try simp only [decide_eq_true_eq, decide_eq_false_iff_not, Bool.not_eq_true', Bool.not_eq_false', beq_iff_eq] at hc4
          refine AK.seq ?_
          refine AK.region ?_
          refine AO.val (by first | exact RV.loadAggO rfl rfl (by first | simp | assumption) | exact RV.loadAggP rfl rfl rfl (by first | simp | assumption)) (.none rfl) rfl ?_
          refine AO.effN (EF.storeO rfl rfl rfl rfl rfl rfl) (.none rfl) ?_
          rintro _ _ rfl
          refine AO.val (RV.assign rfl) (.none rfl) rfl ?_
          refine AO.nil ?_
          -- at tfFT
          refine AK.ret (h' := h) Try.func21 (.aggO rfl rfl (.tmp rfl .nil)) ?_ (by first | exact SubO.sub | exact List.Sublist.append_left (.cons _ (List.Sublist.refl _)) _ | exact List.Sublist.append_left (.cons _ (.cons _ (List.Sublist.refl _))) _ | exact List.Sublist.append_left (.cons _ (.cons _ (.cons _ (List.Sublist.refl _)))) _ | exact List.Sublist.append_left (.cons _ (.cons _ (.cons _ (.cons _ (List.Sublist.refl _))))) _ | exact List.Sublist.append_left (.cons _ (.cons _ (.cons _ (.cons _ (.cons _ (List.Sublist.refl _)))))) _ | exact List.Sublist.append_left (.cons _ (.cons _ (.cons _ (.cons _ (.cons _ (.cons _ (List.Sublist.refl _))))))) _)
          exact ⟨f, [], _, rfl, fiD, fo, rfl⟩
        · intro hc4
          try simp only [decide_eq_true_eq, decide_eq_false_iff_not, Bool.not_eq_true', Bool.not_eq_false', beq_iff_eq] at hc4
          have hkb2 : 0 ≤ kb ∧ kb < f.bs.l.length := by
            rcases hkb with h1 | h1
            · exact absurd h1.1 (by omega)
            · exact ⟨h1.1, h1.2.1⟩
          have hym := lget_memV (l := f.bs.l) (i := kb) hkb2
          have hyg := fo.ok _ hym
          unfold BGood at hyg
          refine AK.skip ?_
          refine AK.seq ?_
          refine AK.region ?_
          refine AO.val (by first | exact RV.fieldAddr rfl | exact RV.fieldAddrA rfl) (.none rfl) rfl ?_
          refine AO.val (by first | exact RV.loadO rfl rfl (by first | simp | assumption) | exact RV.loadSF rfl (by assumption) (fun _ => rfl) (by omega) rfl rfl (by first | simp | assumption) | exact RV.loadS rfl (by assumption) (by omega) (by first | simp | assumption)) (.none rfl) rfl ?_
          refine AO.val (RV.move rfl) (.none rfl) rfl ?_
          refine AO.val (RV.indexS rfl rfl fi.sb (by omega) rfl) (.none rfl) rfl ?_
          refine AO.val (RV.loadSA (enc := encK) (l := f.bs.l) rfl fi.sb (fun _ => rfl) (by omega) (by simp)) (.none rfl) rfl ?_
          refine AO.eff (EF.alloc) (.none rfl) rfl ?_
          rintro _ _ ⟨b11, hf11, rfl, rfl⟩
          refine AO.effN (EF.storeO rfl rfl rfl rfl rfl rfl) (.none rfl) ?_
          rintro _ _ rfl
          refine AO.nil ?_
          refine AK.seq ?_
          refine AK.seq ?_
          refine AK.region ?_
          refine AO.val (RV.move rfl) (.none rfl) rfl ?_
          refine AO.val (RV.eql rfl rfl) (.none rfl) rfl ?_
          refine AO.nil ?_
          refine AK.cond rfl ?_ ?_
          · intro hc5
            try simp only [decide_eq_true_eq, decide_eq_false_iff_not, Bool.not_eq_true', Bool.not_eq_false', beq_iff_eq] at hc5
            refine AK.region ?_
            refine AO.val (by first | exact RV.fieldAddr rfl | exact RV.fieldAddrA rfl) (.none rfl) rfl ?_
            refine AO.effN (EF.storeO rfl rfl rfl rfl rfl rfl) (.none rfl) ?_
            rintro _ _ rfl
            refine AO.nil ?_
            refine AK.seq ?_
            refine AK.seq ?_
            refine AK.region ?_
            refine AO.val (RV.move rfl) (.none rfl) rfl ?_
            refine AO.val (RV.eql rfl rfl) (.none rfl) rfl ?_
            refine AO.nil ?_
            refine AK.cond rfl ?_ ?_
            · intro hc6
              try simp only [decide_eq_true_eq, decide_eq_false_iff_not, Bool.not_eq_true', Bool.not_eq_false', beq_iff_eq] at hc6
              refine AK.region ?_
              refine AO.val (RV.move rfl) (.none rfl) rfl ?_
              refine AO.val (by first | exact RV.fieldAddr rfl | exact RV.fieldAddrA rfl) (.none rfl) rfl ?_
              refine AO.effN (EF.storeO rfl rfl rfl rfl rfl rfl) (.none rfl) ?_
              rintro _ _ rfl
              refine AO.nil ?_
              refine AK.seq ?_
              refine AK.seq ?_
              refine AK.region ?_
              refine AO.val (RV.move rfl) (.none rfl) rfl ?_
              refine AO.val (RV.gtr rfl rfl) (.none rfl) rfl ?_
              refine AO.nil ?_
              refine AK.cond rfl ?_ ?_
              · intro hc7
                try simp only [decide_eq_true_eq, decide_eq_false_iff_not, Bool.not_eq_true', Bool.not_eq_false', beq_iff_eq] at hc7
                refine AK.region ?_
                refine AO.val (RV.move rfl) (.none rfl) rfl ?_
                refine AO.val (RV.eql rfl rfl) (.none rfl) rfl ?_
                refine AO.val (by first | exact RV.fieldAddr rfl | exact RV.fieldAddrA rfl) (.none rfl) rfl ?_
                refine AO.effN (EF.storeO rfl rfl rfl rfl rfl rfl) (.none rfl) ?_
                rintro _ _ rfl
                refine AO.nil ?_
                refine AK.seq ?_
                refine AK.region ?_
                refine AO.val (by first | exact RV.loadAggO rfl rfl (by first | simp | assumption) | exact RV.loadAggP rfl rfl rfl (by first | simp | assumption)) (.none rfl) rfl ?_
                refine AO.val (by first | exact RV.loadAggO rfl rfl (by first | simp | assumption) | exact RV.loadAggP rfl rfl rfl (by first | simp | assumption)) (.none rfl) rfl ?_
                refine AO.val (RV.move rfl) (.none rfl) rfl ?_
                refine AO.val (RV.eql rfl rfl) (.none rfl) rfl ?_
                refine AO.eff (EF.callF rfl (with_spec B _ D (fun x hx => by simp [hD x hx]) f fiD (by omega) (((lget f.bs.l kb).1, (lget f.bs.l kb).2.1, (lget f.bs.l kb).2.2.1, w, 2, (decide (kind = 3)), ()) : Bk) (decide (kind = 0)))) (.none rfl) rfl ?_
                rintro _ _ ⟨Aw, cw, ow, pw, rfl, how, hol, fiw, rfl⟩
                refine AO.effN (EF.storeO rfl rfl rfl rfl rfl rfl) (.none rfl) ?_
                rintro _ _ rfl
                refine AO.val (RV.assign rfl) (.none rfl) rfl ?_
                refine AO.nil ?_
                -- at tfFFTTT
                refine AK.ret (h' := pw ++ h) Try.func21 (.aggO rfl rfl (.tmp rfl .nil)) ?_ (by first | exact SubO.sub | exact List.Sublist.append_left (.cons _ (List.Sublist.refl _)) _ | exact List.Sublist.append_left (.cons _ (.cons _ (List.Sublist.refl _))) _ | exact List.Sublist.append_left (.cons _ (.cons _ (.cons _ (List.Sublist.refl _)))) _ | exact List.Sublist.append_left (.cons _ (.cons _ (.cons _ (.cons _ (List.Sublist.refl _))))) _ | exact List.Sublist.append_left (.cons _ (.cons _ (.cons _ (.cons _ (.cons _ (List.Sublist.refl _)))))) _ | exact List.Sublist.append_left (.cons _ (.cons _ (.cons _ (.cons _ (.cons _ (.cons _ (List.Sublist.refl _))))))) _)
                exact ⟨⟨f.vs, ⟨Aw, cw, ow⟩⟩, pw, _, rfl, fiw, fo.withB (by omega) how (by unfold BGood; dsimp only; omega) (by exact fo.vip (lget f.bs.l kb) hym), rfl⟩
              · intro hc7
                try simp only [decide_eq_true_eq, decide_eq_false_iff_not, Bool.not_eq_true', Bool.not_eq_false', beq_iff_eq] at hc7
                refine AK.skip ?_
                refine AK.seq ?_
                refine AK.region ?_
                refine AO.val (by first | exact RV.loadAggO rfl rfl (by first | simp | assumption) | exact RV.loadAggP rfl rfl rfl (by first | simp | assumption)) (.none rfl) rfl ?_
                refine AO.val (by first | exact RV.loadAggO rfl rfl (by first | simp | assumption) | exact RV.loadAggP rfl rfl rfl (by first | simp | assumption)) (.none rfl) rfl ?_
                refine AO.val (RV.move rfl) (.none rfl) rfl ?_
                refine AO.val (RV.eql rfl rfl) (.none rfl) rfl ?_
                refine AO.eff (EF.callF rfl (with_spec B _ D (fun x hx => by simp [hD x hx]) f fiD (by omega) (((lget f.bs.l kb).1, (lget f.bs.l kb).2.1, (lget f.bs.l kb).2.2.1, w, 2, (lget f.bs.l kb).2.2.2.2.2.1, ()) : Bk) (decide (kind = 0)))) (.none rfl) rfl ?_
                rintro _ _ ⟨Aw, cw, ow, pw, rfl, how, hol, fiw, rfl⟩
                refine AO.effN (EF.storeO rfl rfl rfl rfl rfl rfl) (.none rfl) ?_
                rintro _ _ rfl
                refine AO.val (RV.assign rfl) (.none rfl) rfl ?_
                refine AO.nil ?_
                -- at tfFFTTF
                refine AK.ret (h' := pw ++ h) Try.func21 (.aggO rfl rfl (.tmp rfl .nil)) ?_ (by first | exact SubO.sub | exact List.Sublist.append_left (.cons _ (List.Sublist.refl _)) _ | exact List.Sublist.append_left (.cons _ (.cons _ (List.Sublist.refl _))) _ | exact List.Sublist.append_left (.cons _ (.cons _ (.cons _ (List.Sublist.refl _)))) _ | exact List.Sublist.append_left (.cons _ (.cons _ (.cons _ (.cons _ (List.Sublist.refl _))))) _ | exact List.Sublist.append_left (.cons _ (.cons _ (.cons _ (.cons _ (.cons _ (List.Sublist.refl _)))))) _ | exact List.Sublist.append_left (.cons _ (.cons _ (.cons _ (.cons _ (.cons _ (.cons _ (List.Sublist.refl _))))))) _)
                exact ⟨⟨f.vs, ⟨Aw, cw, ow⟩⟩, pw, _, rfl, fiw, fo.withB (by omega) how (by unfold BGood; dsimp only; omega) (by exact fo.vip (lget f.bs.l kb) hym), rfl⟩
            · intro hc6
              try simp only [decide_eq_true_eq, decide_eq_false_iff_not, Bool.not_eq_true', Bool.not_eq_false', beq_iff_eq] at hc6
              refine AK.skip ?_
              refine AK.seq ?_
              refine AK.seq ?_
              refine AK.region ?_
              refine AO.val (RV.move rfl) (.none rfl) rfl ?_
              refine AO.val (RV.gtr rfl rfl) (.none rfl) rfl ?_
              refine AO.nil ?_
              refine AK.cond rfl ?_ ?_
              · intro hc8
                try simp only [decide_eq_true_eq, decide_eq_false_iff_not, Bool.not_eq_true', Bool.not_eq_false', beq_iff_eq] at hc8
                refine AK.region ?_
                refine AO.val (RV.move rfl) (.none rfl) rfl ?_
                refine AO.val (RV.eql rfl rfl) (.none rfl) rfl ?_
                refine AO.val (by first | exact RV.fieldAddr rfl | exact RV.fieldAddrA rfl) (.none rfl) rfl ?_
                refine AO.effN (EF.storeO rfl rfl rfl rfl rfl rfl) (.none rfl) ?_
                rintro _ _ rfl
                refine AO.nil ?_
                refine AK.seq ?_
                refine AK.region ?_
                refine AO.val (by first | exact RV.loadAggO rfl rfl (by first | simp | assumption) | exact RV.loadAggP rfl rfl rfl (by first | simp | assumption)) (.none rfl) rfl ?_
                refine AO.val (by first | exact RV.loadAggO rfl rfl (by first | simp | assumption) | exact RV.loadAggP rfl rfl rfl (by first | simp | assumption)) (.none rfl) rfl ?_
                refine AO.val (RV.move rfl) (.none rfl) rfl ?_
                refine AO.val (RV.eql rfl rfl) (.none rfl) rfl ?_
                refine AO.eff (EF.callF rfl (with_spec B _ D (fun x hx => by simp [hD x hx]) f fiD (by omega) (((lget f.bs.l kb).1, (lget f.bs.l kb).2.1, (lget f.bs.l kb).2.2.1, (lget f.bs.l kb).2.2.2.1, 2, (decide (kind = 3)), ()) : Bk) (decide (kind = 0)))) (.none rfl) rfl ?_
                rintro _ _ ⟨Aw, cw, ow, pw, rfl, how, hol, fiw, rfl⟩
                refine AO.effN (EF.storeO rfl rfl rfl rfl rfl rfl) (.none rfl) ?_
                rintro _ _ rfl
                refine AO.val (RV.assign rfl) (.none rfl) rfl ?_
                refine AO.nil ?_
                -- at tfFFTFT
                refine AK.ret (h' := pw ++ h) Try.func21 (.aggO rfl rfl (.tmp rfl .nil)) ?_ (by first | exact SubO.sub | exact List.Sublist.append_left (.cons _ (List.Sublist.refl _)) _ | exact List.Sublist.append_left (.cons _ (.cons _ (List.Sublist.refl _))) _ | exact List.Sublist.append_left (.cons _ (.cons _ (.cons _ (List.Sublist.refl _)))) _ | exact List.Sublist.append_left (.cons _ (.cons _ (.cons _ (.cons _ (List.Sublist.refl _))))) _ | exact List.Sublist.append_left (.cons _ (.cons _ (.cons _ (.cons _ (.cons _ (List.Sublist.refl _)))))) _ | exact List.Sublist.append_left (.cons _ (.cons _ (.cons _ (.cons _ (.cons _ (.cons _ (List.Sublist.refl _))))))) _)
                exact ⟨⟨f.vs, ⟨Aw, cw, ow⟩⟩, pw, _, rfl, fiw, fo.withB (by omega) how (by unfold BGood; dsimp only; omega) (by exact fo.vip (lget f.bs.l kb) hym), rfl⟩
              · intro hc8
                try simp only [decide_eq_true_eq, decide_eq_false_iff_not, Bool.not_eq_true', Bool.not_eq_false', beq_iff_eq] at hc8
                refine AK.skip ?_
                refine AK.seq ?_
                refine AK.region ?_
                refine AO.val (by first | exact RV.loadAggO rfl rfl (by first | simp | assumption) | exact RV.loadAggP rfl rfl rfl (by first | simp | assumption)) (.none rfl) rfl ?_
                refine AO.val (by first | exact RV.loadAggO rfl rfl (by first | simp | assumption) | exact RV.loadAggP rfl rfl rfl (by first | simp | assumption)) (.none rfl) rfl ?_
                refine AO.val (RV.move rfl) (.none rfl) rfl ?_
                refine AO.val (RV.eql rfl rfl) (.none rfl) rfl ?_
                refine AO.eff (EF.callF rfl (with_spec B _ D (fun x hx => by simp [hD x hx]) f fiD (by omega) (((lget f.bs.l kb).1, (lget f.bs.l kb).2.1, (lget f.bs.l kb).2.2.1, (lget f.bs.l kb).2.2.2.1, 2, (lget f.bs.l kb).2.2.2.2.2.1, ()) : Bk) (decide (kind = 0)))) (.none rfl) rfl ?_
                rintro _ _ ⟨Aw, cw, ow, pw, rfl, how, hol, fiw, rfl⟩
                refine AO.effN (EF.storeO rfl rfl rfl rfl rfl rfl) (.none rfl) ?_
                rintro _ _ rfl
                refine AO.val (RV.assign rfl) (.none rfl) rfl ?_
                refine AO.nil ?_
                -- at tfFFTFF
                refine AK.ret (h' := pw ++ h) Try.func21 (.aggO rfl rfl (.tmp rfl .nil)) ?_ (by first | exact SubO.sub | exact List.Sublist.append_left (.cons _ (List.Sublist.refl _)) _ | exact List.Sublist.append_left (.cons _ (.cons _ (List.Sublist.refl _))) _ | exact List.Sublist.append_left (.cons _ (.cons _ (.cons _ (List.Sublist.refl _)))) _ | exact List.Sublist.append_left (.cons _ (.cons _ (.cons _ (.cons _ (List.Sublist.refl _))))) _ | exact List.Sublist.append_left (.cons _ (.cons _ (.cons _ (.cons _ (.cons _ (List.Sublist.refl _)))))) _ | exact List.Sublist.append_left (.cons _ (.cons _ (.cons _ (.cons _ (.cons _ (.cons _ (List.Sublist.refl _))))))) _)
                exact ⟨⟨f.vs, ⟨Aw, cw, ow⟩⟩, pw, _, rfl, fiw, fo.withB (by omega) how (by unfold BGood; dsimp only; omega) (by exact fo.vip (lget f.bs.l kb) hym), rfl⟩
          · intro hc5
            try simp only [decide_eq_true_eq, decide_eq_false_iff_not, Bool.not_eq_true', Bool.not_eq_false', beq_iff_eq] at hc5
            refine AK.skip ?_
            refine AK.seq ?_
            refine AK.seq ?_
            refine AK.region ?_
            refine AO.val (RV.move rfl) (.none rfl) rfl ?_
            refine AO.val (RV.eql rfl rfl) (.none rfl) rfl ?_
            refine AO.nil ?_
            refine AK.cond rfl ?_ ?_
            · intro hc9
              try simp only [decide_eq_true_eq, decide_eq_false_iff_not, Bool.not_eq_true', Bool.not_eq_false', beq_iff_eq] at hc9
              refine AK.region ?_
              refine AO.val (RV.move rfl) (.none rfl) rfl ?_
              refine AO.val (by first | exact RV.fieldAddr rfl | exact RV.fieldAddrA rfl) (.none rfl) rfl ?_
              refine AO.effN (EF.storeO rfl rfl rfl rfl rfl rfl) (.none rfl) ?_
              rintro _ _ rfl
              refine AO.nil ?_
              refine AK.seq ?_
              refine AK.seq ?_
              refine AK.region ?_
              refine AO.val (RV.move rfl) (.none rfl) rfl ?_
              refine AO.val (RV.gtr rfl rfl) (.none rfl) rfl ?_
              refine AO.nil ?_
              refine AK.cond rfl ?_ ?_
              · intro hc10
                try simp only [decide_eq_true_eq, decide_eq_false_iff_not, Bool.not_eq_true', Bool.not_eq_false', beq_iff_eq] at hc10
                refine AK.region ?_
                refine AO.val (RV.move rfl) (.none rfl) rfl ?_
                refine AO.val (RV.eql rfl rfl) (.none rfl) rfl ?_
                refine AO.val (by first | exact RV.fieldAddr rfl | exact RV.fieldAddrA rfl) (.none rfl) rfl ?_
                refine AO.effN (EF.storeO rfl rfl rfl rfl rfl rfl) (.none rfl) ?_
                rintro _ _ rfl
                refine AO.nil ?_
                refine AK.seq ?_
                refine AK.region ?_
                refine AO.val (by first | exact RV.loadAggO rfl rfl (by first | simp | assumption) | exact RV.loadAggP rfl rfl rfl (by first | simp | assumption)) (.none rfl) rfl ?_
                refine AO.val (by first | exact RV.loadAggO rfl rfl (by first | simp | assumption) | exact RV.loadAggP rfl rfl rfl (by first | simp | assumption)) (.none rfl) rfl ?_
                refine AO.val (RV.move rfl) (.none rfl) rfl ?_
                refine AO.val (RV.eql rfl rfl) (.none rfl) rfl ?_
                refine AO.eff (EF.callF rfl (with_spec B _ D (fun x hx => by simp [hD x hx]) f fiD (by omega) (((lget f.bs.l kb).1, (lget f.bs.l kb).2.1, (lget f.bs.l kb).2.2.1, w, (lget f.bs.l kb).2.2.2.2.1, (decide (kind = 3)), ()) : Bk) (decide (kind = 0)))) (.none rfl) rfl ?_
                rintro _ _ ⟨Aw, cw, ow, pw, rfl, how, hol, fiw, rfl⟩
                refine AO.effN (EF.storeO rfl rfl rfl rfl rfl rfl) (.none rfl) ?_
                rintro _ _ rfl
                refine AO.val (RV.assign rfl) (.none rfl) rfl ?_
                refine AO.nil ?_
                -- at tfFFFTT
                refine AK.ret (h' := pw ++ h) Try.func21 (.aggO rfl rfl (.tmp rfl .nil)) ?_ (by first | exact SubO.sub | exact List.Sublist.append_left (.cons _ (List.Sublist.refl _)) _ | exact List.Sublist.append_left (.cons _ (.cons _ (List.Sublist.refl _))) _ | exact List.Sublist.append_left (.cons _ (.cons _ (.cons _ (List.Sublist.refl _)))) _ | exact List.Sublist.append_left (.cons _ (.cons _ (.cons _ (.cons _ (List.Sublist.refl _))))) _ | exact List.Sublist.append_left (.cons _ (.cons _ (.cons _ (.cons _ (.cons _ (List.Sublist.refl _)))))) _ | exact List.Sublist.append_left (.cons _ (.cons _ (.cons _ (.cons _ (.cons _ (.cons _ (List.Sublist.refl _))))))) _)
                exact ⟨⟨f.vs, ⟨Aw, cw, ow⟩⟩, pw, _, rfl, fiw, fo.withB (by omega) how (by unfold BGood; dsimp only; omega) (by exact fo.vip (lget f.bs.l kb) hym), rfl⟩
              · intro hc10
                try simp only [decide_eq_true_eq, decide_eq_false_iff_not, Bool.not_eq_true', Bool.not_eq_false', beq_iff_eq] at hc10
                refine AK.skip ?_
                refine AK.seq ?_
                refine AK.region ?_
                refine AO.val (by first | exact RV.loadAggO rfl rfl (by first | simp | assumption) | exact RV.loadAggP rfl rfl rfl (by first | simp | assumption)) (.none rfl) rfl ?_
                refine AO.val (by first | exact RV.loadAggO rfl rfl (by first | simp | assumption) | exact RV.loadAggP rfl rfl rfl (by first | simp | assumption)) (.none rfl) rfl ?_
                refine AO.val (RV.move rfl) (.none rfl) rfl ?_
                refine AO.val (RV.eql rfl rfl) (.none rfl) rfl ?_
                refine AO.eff (EF.callF rfl (with_spec B _ D (fun x hx => by simp [hD x hx]) f fiD (by omega) (((lget f.bs.l kb).1, (lget f.bs.l kb).2.1, (lget f.bs.l kb).2.2.1, w, (lget f.bs.l kb).2.2.2.2.1, (lget f.bs.l kb).2.2.2.2.2.1, ()) : Bk) (decide (kind = 0)))) (.none rfl) rfl ?_
                rintro _ _ ⟨Aw, cw, ow, pw, rfl, how, hol, fiw, rfl⟩
                refine AO.effN (EF.storeO rfl rfl rfl rfl rfl rfl) (.none rfl) ?_
                rintro _ _ rfl
                refine AO.val (RV.assign rfl) (.none rfl) rfl ?_
                refine AO.nil ?_
                -- at tfFFFTF
                refine AK.ret (h' := pw ++ h) Try.func21 (.aggO rfl rfl (.tmp rfl .nil)) ?_ (by first | exact SubO.sub | exact List.Sublist.append_left (.cons _ (List.Sublist.refl _)) _ | exact List.Sublist.append_left (.cons _ (.cons _ (List.Sublist.refl _))) _ | exact List.Sublist.append_left (.cons _ (.cons _ (.cons _ (List.Sublist.refl _)))) _ | exact List.Sublist.append_left (.cons _ (.cons _ (.cons _ (.cons _ (List.Sublist.refl _))))) _ | exact List.Sublist.append_left (.cons _ (.cons _ (.cons _ (.cons _ (.cons _ (List.Sublist.refl _)))))) _ | exact List.Sublist.append_left (.cons _ (.cons _ (.cons _ (.cons _ (.cons _ (.cons _ (List.Sublist.refl _))))))) _)
                exact ⟨⟨f.vs, ⟨Aw, cw, ow⟩⟩, pw, _, rfl, fiw, fo.withB (by omega) how (by unfold BGood; dsimp only; omega) (by exact fo.vip (lget f.bs.l kb) hym), rfl⟩
            · intro hc9
              try simp only [decide_eq_true_eq, decide_eq_false_iff_not, Bool.not_eq_true', Bool.not_eq_false', beq_iff_eq] at hc9
              refine AK.skip ?_
              refine AK.seq ?_
              refine AK.seq ?_
              refine AK.region ?_
              refine AO.val (RV.move rfl) (.none rfl) rfl ?_
              refine AO.val (RV.gtr rfl rfl) (.none rfl) rfl ?_
              refine AO.nil ?_
              refine AK.cond rfl ?_ ?_
              · intro hc11
                try simp only [decide_eq_true_eq, decide_eq_false_iff_not, Bool.not_eq_true', Bool.not_eq_false', beq_iff_eq] at hc11
                refine AK.region ?_
                refine AO.val (RV.move rfl) (.none rfl) rfl ?_
                refine AO.val (RV.eql rfl rfl) (.none rfl) rfl ?_
                refine AO.val (by first | exact RV.fieldAddr rfl | exact RV.fieldAddrA rfl) (.none rfl) rfl ?_
                refine AO.effN (EF.storeO rfl rfl rfl rfl rfl rfl) (.none rfl) ?_
                rintro _ _ rfl
                refine AO.nil ?_
                refine AK.seq ?_
                refine AK.region ?_
                refine AO.val (by first | exact RV.loadAggO rfl rfl (by first | simp | assumption) | exact RV.loadAggP rfl rfl rfl (by first | simp | assumption)) (.none rfl) rfl ?_
                refine AO.val (by first | exact RV.loadAggO rfl rfl (by first | simp | assumption) | exact RV.loadAggP rfl rfl rfl (by first | simp | assumption)) (.none rfl) rfl ?_
                refine AO.val (RV.move rfl) (.none rfl) rfl ?_
                refine AO.val (RV.eql rfl rfl) (.none rfl) rfl ?_
                refine AO.eff (EF.callF rfl (with_spec B _ D (fun x hx => by simp [hD x hx]) f fiD (by omega) (((lget f.bs.l kb).1, (lget f.bs.l kb).2.1, (lget f.bs.l kb).2.2.1, (lget f.bs.l kb).2.2.2.1, (lget f.bs.l kb).2.2.2.2.1, (decide (kind = 3)), ()) : Bk) (decide (kind = 0)))) (.none rfl) rfl ?_
                rintro _ _ ⟨Aw, cw, ow, pw, rfl, how, hol, fiw, rfl⟩
                refine AO.effN (EF.storeO rfl rfl rfl rfl rfl rfl) (.none rfl) ?_
                rintro _ _ rfl
                refine AO.val (RV.assign rfl) (.none rfl) rfl ?_
                refine AO.nil ?_
                -- at tfFFFFT
                refine AK.ret (h' := pw ++ h) Try.func21 (.aggO rfl rfl (.tmp rfl .nil)) ?_ (by first | exact SubO.sub | exact List.Sublist.append_left (.cons _ (List.Sublist.refl _)) _ | exact List.Sublist.append_left (.cons _ (.cons _ (List.Sublist.refl _))) _ | exact List.Sublist.append_left (.cons _ (.cons _ (.cons _ (List.Sublist.refl _)))) _ | exact List.Sublist.append_left (.cons _ (.cons _ (.cons _ (.cons _ (List.Sublist.refl _))))) _ | exact List.Sublist.append_left (.cons _ (.cons _ (.cons _ (.cons _ (.cons _ (List.Sublist.refl _)))))) _ | exact List.Sublist.append_left (.cons _ (.cons _ (.cons _ (.cons _ (.cons _ (.cons _ (List.Sublist.refl _))))))) _)
                exact ⟨⟨f.vs, ⟨Aw, cw, ow⟩⟩, pw, _, rfl, fiw, fo.withB (by omega) how (by unfold BGood; dsimp only; omega) (by exact fo.vip (lget f.bs.l kb) hym), rfl⟩
              · intro hc11
                try simp only [decide_eq_true_eq, decide_eq_false_iff_not, Bool.not_eq_true', Bool.not_eq_false', beq_iff_eq] at hc11
                refine AK.skip ?_
                refine AK.seq ?_
                refine AK.region ?_
                refine AO.val (by first | exact RV.loadAggO rfl rfl (by first | simp | assumption) | exact RV.loadAggP rfl rfl rfl (by first | simp | assumption)) (.none rfl) rfl ?_
                refine AO.val (by first | exact RV.loadAggO rfl rfl (by first | simp | assumption) | exact RV.loadAggP rfl rfl rfl (by first | simp | assumption)) (.none rfl) rfl ?_
                refine AO.val (RV.move rfl) (.none rfl) rfl ?_
                refine AO.val (RV.eql rfl rfl) (.none rfl) rfl ?_
                refine AO.eff (EF.callF rfl (with_spec B _ D (fun x hx => by simp [hD x hx]) f fiD (by omega) (((lget f.bs.l kb).1, (lget f.bs.l kb).2.1, (lget f.bs.l kb).2.2.1, (lget f.bs.l kb).2.2.2.1, (lget f.bs.l kb).2.2.2.2.1, (lget f.bs.l kb).2.2.2.2.2.1, ()) : Bk) (decide (kind = 0)))) (.none rfl) rfl ?_
                rintro _ _ ⟨Aw, cw, ow, pw, rfl, how, hol, fiw, rfl⟩
                refine AO.effN (EF.storeO rfl rfl rfl rfl rfl rfl) (.none rfl) ?_
                rintro _ _ rfl
                refine AO.val (RV.assign rfl) (.none rfl) rfl ?_
                refine AO.nil ?_
                -- at tfFFFFF
                refine AK.ret (h' := pw ++ h) Try.func21 (.aggO rfl rfl (.tmp rfl .nil)) ?_ (by first | exact SubO.sub | exact List.Sublist.append_left (.cons _ (List.Sublist.refl _)) _ | exact List.Sublist.append_left (.cons _ (.cons _ (List.Sublist.refl _))) _ | exact List.Sublist.append_left (.cons _ (.cons _ (.cons _ (List.Sublist.refl _)))) _ | exact List.Sublist.append_left (.cons _ (.cons _ (.cons _ (.cons _ (List.Sublist.refl _))))) _ | exact List.Sublist.append_left (.cons _ (.cons _ (.cons _ (.cons _ (.cons _ (List.Sublist.refl _)))))) _ | exact List.Sublist.append_left (.cons _ (.cons _ (.cons _ (.cons _ (.cons _ (.cons _ (List.Sublist.refl _))))))) _)
                exact ⟨⟨f.vs, ⟨Aw, cw, ow⟩⟩, pw, _, rfl, fiw, fo.withB (by omega) how (by unfold BGood; dsimp only; omega) (by exact fo.vip (lget f.bs.l kb) hym), rfl⟩
  · intro hg1
    try simp only [decide_eq_true_eq, decide_eq_false_iff_not, Bool.not_eq_true', Bool.not_eq_false', beq_iff_eq] at hg1
    refine AO.pass (.some rfl rfl rfl rfl) rfl ?_
    refine AO.pass (.some rfl rfl rfl rfl) rfl ?_
    refine AO.pass (.some rfl rfl rfl rfl) rfl ?_
    refine AO.pass (.undef rfl rfl rfl) rfl ?_
    refine AO.pass (.undef rfl rfl rfl) rfl ?_
    refine AO.pass (.some rfl rfl rfl rfl) rfl ?_
    refine AO.val (RV.pickF rfl rfl) (.none rfl) rfl ?_
    refine AO.nil ?_
    refine AK.condF rfl ?_
    refine AK.skip ?_
    refine AK.seq ?_
    refine AK.region ?_
    refine AO.val (by first | exact RV.loadAggO rfl rfl (by first | simp | assumption) | exact RV.loadAggP rfl rfl rfl (by first | simp | assumption)) (.none rfl) rfl ?_
    refine AO.val (RV.move rfl) (.none rfl) rfl ?_
    refine AO.eff (EF.callF rfl (backat_spec B _ f (fi.mono fun x hx => by simp [hx]) (by omega) _)) (.none rfl) rfl ?_
    rintro _ _ ⟨rfl, kb, rfl, hkb⟩
    refine AO.val (RV.assign rfl) (.none rfl) rfl ?_
    refine AO.nil ?_
    refine AK.seq ?_
    refine AK.seq ?_
    refine AK.region ?_
    refine AO.val (RV.move rfl) (.none rfl) rfl ?_
    refine AO.val (RV.lss rfl rfl) (.none rfl) rfl ?_
    refine AO.nil ?_
    refine AK.cond rfl ?_ ?_
    · intro hc12
      try simp only [decide_eq_true_eq, decide_eq_false_iff_not, Bool.not_eq_true', Bool.not_eq_false', beq_iff_eq] at hc12
      refine AK.seq ?_
      refine AK.region ?_
      refine AO.val (by first | exact RV.loadAggO rfl rfl (by first | simp | assumption) | exact RV.loadAggP rfl rfl rfl (by first | simp | assumption)) (.none rfl) rfl ?_
      refine AO.effN (EF.storeO rfl rfl rfl rfl rfl rfl) (.none rfl) ?_
      rintro _ _ rfl
      refine AO.val (RV.assign rfl) (.none rfl) rfl ?_
      refine AO.nil ?_
      -- at fT
      refine AK.ret (h' := h) Try.func21 (.aggO rfl rfl (.tmp rfl .nil)) ?_ (by first | exact SubO.sub | exact List.Sublist.append_left (.cons _ (List.Sublist.refl _)) _ | exact List.Sublist.append_left (.cons _ (.cons _ (List.Sublist.refl _))) _ | exact List.Sublist.append_left (.cons _ (.cons _ (.cons _ (List.Sublist.refl _)))) _ | exact List.Sublist.append_left (.cons _ (.cons _ (.cons _ (.cons _ (List.Sublist.refl _))))) _ | exact List.Sublist.append_left (.cons _ (.cons _ (.cons _ (.cons _ (.cons _ (List.Sublist.refl _)))))) _ | exact List.Sublist.append_left (.cons _ (.cons _ (.cons _ (.cons _ (.cons _ (.cons _ (List.Sublist.refl _))))))) _)
      exact ⟨f, [], _, rfl, fiD, fo, rfl⟩
    · intro hc12
      try simp only [decide_eq_true_eq, decide_eq_false_iff_not, Bool.not_eq_true', Bool.not_eq_false', beq_iff_eq] at hc12
      have hkb2 : 0 ≤ kb ∧ kb < f.bs.l.length := by
        rcases hkb with h1 | h1
        · exact absurd h1.1 (by omega)
        · exact ⟨h1.1, h1.2.1⟩
      have hym := lget_memV (l := f.bs.l) (i := kb) hkb2
      have hyg := fo.ok _ hym
      unfold BGood at hyg
      refine AK.skip ?_
      refine AK.seq ?_
      refine AK.region ?_
      refine AO.val (by first | exact RV.fieldAddr rfl | exact RV.fieldAddrA rfl) (.none rfl) rfl ?_
      refine AO.val (by first | exact RV.loadO rfl rfl (by first | simp | assumption) | exact RV.loadSF rfl (by assumption) (fun _ => rfl) (by omega) rfl rfl (by first | simp | assumption) | exact RV.loadS rfl (by assumption) (by omega) (by first | simp | assumption)) (.none rfl) rfl ?_
      refine AO.val (RV.move rfl) (.none rfl) rfl ?_
      refine AO.val (RV.indexS rfl rfl fi.sb (by omega) rfl) (.none rfl) rfl ?_
      refine AO.val (RV.loadSA (enc := encK) (l := f.bs.l) rfl fi.sb (fun _ => rfl) (by omega) (by simp)) (.none rfl) rfl ?_
      refine AO.eff (EF.alloc) (.none rfl) rfl ?_
      rintro _ _ ⟨b11, hf11, rfl, rfl⟩
      refine AO.effN (EF.storeO rfl rfl rfl rfl rfl rfl) (.none rfl) ?_
      rintro _ _ rfl
      refine AO.nil ?_
      refine AK.seq ?_
      refine AK.seq ?_
      refine AK.region ?_
      refine AO.val (RV.move rfl) (.none rfl) rfl ?_
      refine AO.val (RV.eql rfl rfl) (.none rfl) rfl ?_
      refine AO.nil ?_
      refine AK.cond rfl ?_ ?_
      · intro hc13
        try simp only [decide_eq_true_eq, decide_eq_false_iff_not, Bool.not_eq_true', Bool.not_eq_false', beq_iff_eq] at hc13
        refine AK.region ?_
        refine AO.val (by first | exact RV.fieldAddr rfl | exact RV.fieldAddrA rfl) (.none rfl) rfl ?_
        refine AO.effN (EF.storeO rfl rfl rfl rfl rfl rfl) (.none rfl) ?_
        rintro _ _ rfl
        refine AO.nil ?_
        refine AK.seq ?_
        refine AK.seq ?_
        refine AK.region ?_
        refine AO.val (RV.move rfl) (.none rfl) rfl ?_
        refine AO.val (RV.eql rfl rfl) (.none rfl) rfl ?_
        refine AO.nil ?_
        refine AK.cond rfl ?_ ?_
        · intro hc14
          try simp only [decide_eq_true_eq, decide_eq_false_iff_not, Bool.not_eq_true', Bool.not_eq_false', beq_iff_eq] at hc14
          refine AK.region ?_
          refine AO.val (RV.move rfl) (.none rfl) rfl ?_
          refine AO.val (by first | exact RV.fieldAddr rfl | exact RV.fieldAddrA rfl) (.none rfl) rfl ?_
          refine AO.effN (EF.storeO rfl rfl rfl rfl rfl rfl) (.none rfl) ?_
          rintro _ _ rfl
          refine AO.nil ?_
          refine AK.seq ?_
          refine AK.seq ?_
          refine AK.region ?_
          refine AO.val (RV.move rfl) (.none rfl) rfl ?_
          refine AO.val (RV.gtr rfl rfl) (.none rfl) rfl ?_
          refine AO.nil ?_
          refine AK.cond rfl ?_ ?_
          · intro hc15
            try simp only [decide_eq_true_eq, decide_eq_false_iff_not, Bool.not_eq_true', Bool.not_eq_false', beq_iff_eq] at hc15
            refine AK.region ?_
            refine AO.val (RV.move rfl) (.none rfl) rfl ?_
            refine AO.val (RV.eql rfl rfl) (.none rfl) rfl ?_
            refine AO.val (by first | exact RV.fieldAddr rfl | exact RV.fieldAddrA rfl) (.none rfl) rfl ?_
            refine AO.effN (EF.storeO rfl rfl rfl rfl rfl rfl) (.none rfl) ?_
            rintro _ _ rfl
            refine AO.nil ?_
            refine AK.seq ?_
            refine AK.region ?_
            refine AO.val (by first | exact RV.loadAggO rfl rfl (by first | simp | assumption) | exact RV.loadAggP rfl rfl rfl (by first | simp | assumption)) (.none rfl) rfl ?_
            refine AO.val (by first | exact RV.loadAggO rfl rfl (by first | simp | assumption) | exact RV.loadAggP rfl rfl rfl (by first | simp | assumption)) (.none rfl) rfl ?_
            refine AO.val (RV.move rfl) (.none rfl) rfl ?_
            refine AO.val (RV.eql rfl rfl) (.none rfl) rfl ?_
            refine AO.eff (EF.callF rfl (with_spec B _ D (fun x hx => by simp [hD x hx]) f fiD (by omega) (((lget f.bs.l kb).1, (lget f.bs.l kb).2.1, (lget f.bs.l kb).2.2.1, w, 2, (decide (kind = 3)), ()) : Bk) (decide (kind = 0)))) (.none rfl) rfl ?_
            rintro _ _ ⟨Aw, cw, ow, pw, rfl, how, hol, fiw, rfl⟩
            refine AO.effN (EF.storeO rfl rfl rfl rfl rfl rfl) (.none rfl) ?_
            rintro _ _ rfl
            refine AO.val (RV.assign rfl) (.none rfl) rfl ?_
            refine AO.nil ?_
            -- at fFTTT
            refine AK.ret (h' := pw ++ h) Try.func21 (.aggO rfl rfl (.tmp rfl .nil)) ?_ (by first | exact SubO.sub | exact List.Sublist.append_left (.cons _ (List.Sublist.refl _)) _ | exact List.Sublist.append_left (.cons _ (.cons _ (List.Sublist.refl _))) _ | exact List.Sublist.append_left (.cons _ (.cons _ (.cons _ (List.Sublist.refl _)))) _ | exact List.Sublist.append_left (.cons _ (.cons _ (.cons _ (.cons _ (List.Sublist.refl _))))) _ | exact List.Sublist.append_left (.cons _ (.cons _ (.cons _ (.cons _ (.cons _ (List.Sublist.refl _)))))) _ | exact List.Sublist.append_left (.cons _ (.cons _ (.cons _ (.cons _ (.cons _ (.cons _ (List.Sublist.refl _))))))) _)
            exact ⟨⟨f.vs, ⟨Aw, cw, ow⟩⟩, pw, _, rfl, fiw, fo.withB (by omega) how (by unfold BGood; dsimp only; omega) (by exact fo.vip (lget f.bs.l kb) hym), rfl⟩
          · intro hc15
            try simp only [decide_eq_true_eq, decide_eq_false_iff_not, Bool.not_eq_true', Bool.not_eq_false', beq_iff_eq] at hc15
            refine AK.skip ?_
            refine AK.seq ?_
            refine AK.region ?_
            refine AO.val (by first | exact RV.loadAggO rfl rfl (by first | simp | assumption) | exact RV.loadAggP rfl rfl rfl (by first | simp | assumption)) (.none rfl) rfl ?_
            refine AO.val (by first | exact RV.loadAggO rfl rfl (by first | simp | assumption) | exact RV.loadAggP rfl rfl rfl (by first | simp | assumption)) (.none rfl) rfl ?_
            refine AO.val (RV.move rfl) (.none rfl) rfl ?_
            refine AO.val (RV.eql rfl rfl) (.none rfl) rfl ?_
            refine AO.eff (EF.callF rfl (with_spec B _ D (fun x hx => by simp [hD x hx]) f fiD (by omega) (((lget f.bs.l kb).1, (lget f.bs.l kb).2.1, (lget f.bs.l kb).2.2.1, w, 2, (lget f.bs.l kb).2.2.2.2.2.1, ()) : Bk) (decide (kind = 0)))) (.none rfl) rfl ?_
            rintro _ _ ⟨Aw, cw, ow, pw, rfl, how, hol, fiw, rfl⟩
            refine AO.effN (EF.storeO rfl rfl rfl rfl rfl rfl) (.none rfl) ?_
            rintro _ _ rfl
            refine AO.val (RV.assign rfl) (.none rfl) rfl ?_
            refine AO.nil ?_
            -- at fFTTF
            refine AK.ret (h' := pw ++ h) Try.func21 (.aggO rfl rfl (.tmp rfl .nil)) ?_ (by first | exact SubO.sub | exact List.Sublist.append_left (.cons _ (List.Sublist.refl _)) _ | exact List.Sublist.append_left (.cons _ (.cons _ (List.Sublist.refl _))) _ | exact List.Sublist.append_left (.cons _ (.cons _ (.cons _ (List.Sublist.refl _)))) _ | exact List.Sublist.append_left (.cons _ (.cons _ (.cons _ (.cons _ (List.Sublist.refl _))))) _ | exact List.Sublist.append_left (.cons _ (.cons _ (.cons _ (.cons _ (.cons _ (List.Sublist.refl _)))))) _ | exact List.Sublist.append_left (.cons _ (.cons _ (.cons _ (.cons _ (.cons _ (.cons _ (List.Sublist.refl _))))))) _)
            exact ⟨⟨f.vs, ⟨Aw, cw, ow⟩⟩, pw, _, rfl, fiw, fo.withB (by omega) how (by unfold BGood; dsimp only; omega) (by exact fo.vip (lget f.bs.l kb) hym), rfl⟩
        · intro hc14
          try simp only [decide_eq_true_eq, decide_eq_false_iff_not, Bool.not_eq_true', Bool.not_eq_false', beq_iff_eq] at hc14
          refine AK.skip ?_
          refine AK.seq ?_
          refine AK.seq ?_
          refine AK.region ?_
          refine AO.val (RV.move rfl) (.none rfl) rfl ?_
          refine AO.val (RV.gtr rfl rfl) (.none rfl) rfl ?_
          refine AO.nil ?_
          refine AK.cond rfl ?_ ?_
          · intro hc16
            try simp only [decide_eq_true_eq, decide_eq_false_iff_not, Bool.not_eq_true', Bool.not_eq_false', beq_iff_eq] at hc16
            refine AK.region ?_
            refine AO.val (RV.move rfl) (.none rfl) rfl ?_
            refine AO.val (RV.eql rfl rfl) (.none rfl) rfl ?_
            refine AO.val (by first | exact RV.fieldAddr rfl | exact RV.fieldAddrA rfl) (.none rfl) rfl ?_
            refine AO.effN (EF.storeO rfl rfl rfl rfl rfl rfl) (.none rfl) ?_
            rintro _ _ rfl
            refine AO.nil ?_
            refine AK.seq ?_
            refine AK.region ?_
            refine AO.val (by first | exact RV.loadAggO rfl rfl (by first | simp | assumption) | exact RV.loadAggP rfl rfl rfl (by first | simp | assumption)) (.none rfl) rfl ?_
            refine AO.val (by first | exact RV.loadAggO rfl rfl (by first | simp | assumption) | exact RV.loadAggP rfl rfl rfl (by first | simp | assumption)) (.none rfl) rfl ?_
            refine AO.val (RV.move rfl) (.none rfl) rfl ?_
            refine AO.val (RV.eql rfl rfl) (.none rfl) rfl ?_
            refine AO.eff (EF.callF rfl (with_spec B _ D (fun x hx => by simp [hD x hx]) f fiD (by omega) (((lget f.bs.l kb).1, (lget f.bs.l kb).2.1, (lget f.bs.l kb).2.2.1, (lget f.bs.l kb).2.2.2.1, 2, (decide (kind = 3)), ()) : Bk) (decide (kind = 0)))) (.none rfl) rfl ?_
            rintro _ _ ⟨Aw, cw, ow, pw, rfl, how, hol, fiw, rfl⟩
            refine AO.effN (EF.storeO rfl rfl rfl rfl rfl rfl) (.none rfl) ?_
            rintro _ _ rfl
            refine AO.val (RV.assign rfl) (.none rfl) rfl ?_
            refine AO.nil ?_
            -- at fFTFT
            refine AK.ret (h' := pw ++ h) Try.func21 (.aggO rfl rfl (.tmp rfl .nil)) ?_ (by first | exact SubO.sub | exact List.Sublist.append_left (.cons _ (List.Sublist.refl _)) _ | exact List.Sublist.append_left (.cons _ (.cons _ (List.Sublist.refl _))) _ | exact List.Sublist.append_left (.cons _ (.cons _ (.cons _ (List.Sublist.refl _)))) _ | exact List.Sublist.append_left (.cons _ (.cons _ (.cons _ (.cons _ (List.Sublist.refl _))))) _ | exact List.Sublist.append_left (.cons _ (.cons _ (.cons _ (.cons _ (.cons _ (List.Sublist.refl _)))))) _ | exact List.Sublist.append_left (.cons _ (.cons _ (.cons _ (.cons _ (.cons _ (.cons _ (List.Sublist.refl _))))))) _)
            exact ⟨⟨f.vs, ⟨Aw, cw, ow⟩⟩, pw, _, rfl, fiw, fo.withB (by omega) how (by unfold BGood; dsimp only; omega) (by exact fo.vip (lget f.bs.l kb) hym), rfl⟩
          · intro hc16
            try simp only [decide_eq_true_eq, decide_eq_false_iff_not, Bool.not_eq_true', Bool.not_eq_false', beq_iff_eq] at hc16
            refine AK.skip ?_
            refine AK.seq ?_
            refine AK.region ?_
            refine AO.val (by first | exact RV.loadAggO rfl rfl (by first | simp | assumption) | exact RV.loadAggP rfl rfl rfl (by first | simp | assumption)) (.none rfl) rfl ?_
            refine AO.val (by first | exact RV.loadAggO rfl rfl (by first | simp | assumption) | exact RV.loadAggP rfl rfl rfl (by first | simp | assumption)) (.none rfl) rfl ?_
            refine AO.val (RV.move rfl) (.none rfl) rfl ?_
            refine AO.val (RV.eql rfl rfl) (.none rfl) rfl ?_
            refine AO.eff (EF.callF rfl (with_spec B _ D (fun x hx => by simp [hD x hx]) f fiD (by omega) (((lget f.bs.l kb).1, (lget f.bs.l kb).2.1, (lget f.bs.l kb).2.2.1, (lget f.bs.l kb).2.2.2.1, 2, (lget f.bs.l kb).2.2.2.2.2.1, ()) : Bk) (decide (kind = 0)))) (.none rfl) rfl ?_
            rintro _ _ ⟨Aw, cw, ow, pw, rfl, how, hol, fiw, rfl⟩
            refine AO.effN (EF.storeO rfl rfl rfl rfl rfl rfl) (.none rfl) ?_
            rintro _ _ rfl
            refine AO.val (RV.assign rfl) (.none rfl) rfl ?_
            refine AO.nil ?_
            -- at fFTFF
            refine AK.ret (h' := pw ++ h) Try.func21 (.aggO rfl rfl (.tmp rfl .nil)) ?_ (by first | exact SubO.sub | exact List.Sublist.append_left (.cons _ (List.Sublist.refl _)) _ | exact List.Sublist.append_left (.cons _ (.cons _ (List.Sublist.refl _))) _ | exact List.Sublist.append_left (.cons _ (.cons _ (.cons _ (List.Sublist.refl _)))) _ | exact List.Sublist.append_left (.cons _ (.cons _ (.cons _ (.cons _ (List.Sublist.refl _))))) _ | exact List.Sublist.append_left (.cons _ (.cons _ (.cons _ (.cons _ (.cons _ (List.Sublist.refl _)))))) _ | exact List.Sublist.append_left (.cons _ (.cons _ (.cons _ (.cons _ (.cons _ (.cons _ (List.Sublist.refl _))))))) _)
            exact ⟨⟨f.vs, ⟨Aw, cw, ow⟩⟩, pw, _, rfl, fiw, fo.withB (by omega) how (by unfold BGood; dsimp only; omega) (by exact fo.vip (lget f.bs.l kb) hym), rfl⟩
      · intro hc13
        try simp only [decide_eq_true_eq, decide_eq_false_iff_not, Bool.not_eq_true', Bool.not_eq_false', beq_iff_eq] at hc13
        refine AK.skip ?_
        refine AK.seq ?_
        refine AK.seq ?_
        refine AK.region ?_
        refine AO.val (RV.move rfl) (.none rfl) rfl ?_
        refine AO.val (RV.eql rfl rfl) (.none rfl) rfl ?_
        refine AO.nil ?_
        refine AK.cond rfl ?_ ?_
        · intro hc17
          try simp only [decide_eq_true_eq, decide_eq_false_iff_not, Bool.not_eq_true', Bool.not_eq_false', beq_iff_eq] at hc17
          refine AK.region ?_
          refine AO.val (RV.move rfl) (.none rfl) rfl ?_
          refine AO.val (by first | exact RV.fieldAddr rfl | exact RV.fieldAddrA rfl) (.none rfl) rfl ?_
          refine AO.effN (EF.storeO rfl rfl rfl rfl rfl rfl) (.none rfl) ?_
          rintro _ _ rfl
          refine AO.nil ?_
          refine AK.seq ?_
          refine AK.seq ?_
          refine AK.region ?_
          refine AO.val (RV.move rfl) (.none rfl) rfl ?_
          refine AO.val (RV.gtr rfl rfl) (.none rfl) rfl ?_
          refine AO.nil ?_
          refine AK.cond rfl ?_ ?_
          · intro hc18
            try simp only [decide_eq_true_eq, decide_eq_false_iff_not, Bool.not_eq_true', Bool.not_eq_false', beq_iff_eq] at hc18
            refine AK.region ?_
            refine AO.val (RV.move rfl) (.none rfl) rfl ?_
            refine AO.val (RV.eql rfl rfl) (.none rfl) rfl ?_
            refine AO.val (by first | exact RV.fieldAddr rfl | exact RV.fieldAddrA rfl) (.none rfl) rfl ?_
            refine AO.effN (EF.storeO rfl rfl rfl rfl rfl rfl) (.none rfl) ?_
            rintro _ _ rfl
            refine AO.nil ?_
            refine AK.seq ?_
            refine AK.region ?_
            refine AO.val (by first | exact RV.loadAggO rfl rfl (by first | simp | assumption) | exact RV.loadAggP rfl rfl rfl (by first | simp | assumption)) (.none rfl) rfl ?_
            refine AO.val (by first | exact RV.loadAggO rfl rfl (by first | simp | assumption) | exact RV.loadAggP rfl rfl rfl (by first | simp | assumption)) (.none rfl) rfl ?_
            refine AO.val (RV.move rfl) (.none rfl) rfl ?_
            refine AO.val (RV.eql rfl rfl) (.none rfl) rfl ?_
            refine AO.eff (EF.callF rfl (with_spec B _ D (fun x hx => by simp [hD x hx]) f fiD (by omega) (((lget f.bs.l kb).1, (lget f.bs.l kb).2.1, (lget f.bs.l kb).2.2.1, w, (lget f.bs.l kb).2.2.2.2.1, (decide (kind = 3)), ()) : Bk) (decide (kind = 0)))) (.none rfl) rfl ?_
            rintro _ _ ⟨Aw, cw, ow, pw, rfl, how, hol, fiw, rfl⟩
            refine AO.effN (EF.storeO rfl rfl rfl rfl rfl rfl) (.none rfl) ?_
            rintro _ _ rfl
            refine AO.val (RV.assign rfl) (.none rfl) rfl ?_
            refine AO.nil ?_
            -- at fFFTT
            refine AK.ret (h' := pw ++ h) Try.func21 (.aggO rfl rfl (.tmp rfl .nil)) ?_ (by first | exact SubO.sub | exact List.Sublist.append_left (.cons _ (List.Sublist.refl _)) _ | exact List.Sublist.append_left (.cons _ (.cons _ (List.Sublist.refl _))) _ | exact List.Sublist.append_left (.cons _ (.cons _ (.cons _ (List.Sublist.refl _)))) _ | exact List.Sublist.append_left (.cons _ (.cons _ (.cons _ (.cons _ (List.Sublist.refl _))))) _ | exact List.Sublist.append_left (.cons _ (.cons _ (.cons _ (.cons _ (.cons _ (List.Sublist.refl _)))))) _ | exact List.Sublist.append_left (.cons _ (.cons _ (.cons _ (.cons _ (.cons _ (.cons _ (List.Sublist.refl _))))))) _)
            exact ⟨⟨f.vs, ⟨Aw, cw, ow⟩⟩, pw, _, rfl, fiw, fo.withB (by omega) how (by unfold BGood; dsimp only; omega) (by exact fo.vip (lget f.bs.l kb) hym), rfl⟩
          · intro hc18
            try simp only [decide_eq_true_eq, decide_eq_false_iff_not, Bool.not_eq_true', Bool.not_eq_false', beq_iff_eq] at hc18
            refine AK.skip ?_
            refine AK.seq ?_
            refine AK.region ?_
            refine AO.val (by first | exact RV.loadAggO rfl rfl (by first | simp | assumption) | exact RV.loadAggP rfl rfl rfl (by first | simp | assumption)) (.none rfl) rfl ?_
            refine AO.val (by first | exact RV.loadAggO rfl rfl (by first | simp | assumption) | exact RV.loadAggP rfl rfl rfl (by first | simp | assumption)) (.none rfl) rfl ?_
            refine AO.val (RV.move rfl) (.none rfl) rfl ?_
            refine AO.val (RV.eql rfl rfl) (.none rfl) rfl ?_
            refine AO.eff (EF.callF rfl (with_spec B _ D (fun x hx => by simp [hD x hx]) f fiD (by omega) (((lget f.bs.l kb).1, (lget f.bs.l kb).2.1, (lget f.bs.l kb).2.2.1, w, (lget f.bs.l kb).2.2.2.2.1, (lget f.bs.l kb).2.2.2.2.2.1, ()) : Bk) (decide (kind = 0)))) (.none rfl) rfl ?_
            rintro _ _ ⟨Aw, cw, ow, pw, rfl, how, hol, fiw, rfl⟩
            refine AO.effN (EF.storeO rfl rfl rfl rfl rfl rfl) (.none rfl) ?_
            rintro _ _ rfl
            refine AO.val (RV.assign rfl) (.none rfl) rfl ?_
            refine AO.nil ?_
            -- at fFFTF
            refine AK.ret (h' := pw ++ h) Try.func21 (.aggO rfl rfl (.tmp rfl .nil)) ?_ (by first | exact SubO.sub | exact List.Sublist.append_left (.cons _ (List.Sublist.refl _)) _ | exact List.Sublist.append_left (.cons _ (.cons _ (List.Sublist.refl _))) _ | exact List.Sublist.append_left (.cons _ (.cons _ (.cons _ (List.Sublist.refl _)))) _ | exact List.Sublist.append_left (.cons _ (.cons _ (.cons _ (.cons _ (List.Sublist.refl _))))) _ | exact List.Sublist.append_left (.cons _ (.cons _ (.cons _ (.cons _ (.cons _ (List.Sublist.refl _)))))) _ | exact List.Sublist.append_left (.cons _ (.cons _ (.cons _ (.cons _ (.cons _ (.cons _ (List.Sublist.refl _))))))) _)
            exact ⟨⟨f.vs, ⟨Aw, cw, ow⟩⟩, pw, _, rfl, fiw, fo.withB (by omega) how (by unfold BGood; dsimp only; omega) (by exact fo.vip (lget f.bs.l kb) hym), rfl⟩
        · intro hc17
          try simp only [decide_eq_true_eq, decide_eq_false_iff_not, Bool.not_eq_true', Bool.not_eq_false', beq_iff_eq] at hc17
          refine AK.skip ?_
          refine AK.seq ?_
          refine AK.seq ?_
          refine AK.region ?_
          refine AO.val (RV.move rfl) (.none rfl) rfl ?_
          refine AO.val (RV.gtr rfl rfl) (.none rfl) rfl ?_
          refine AO.nil ?_
          refine AK.cond rfl ?_ ?_
          · intro hc19
            try simp only [decide_eq_true_eq, decide_eq_false_iff_not, Bool.not_eq_true', Bool.not_eq_false', beq_iff_eq] at hc19
            refine AK.region ?_
            refine AO.val (RV.move rfl) (.none rfl) rfl ?_
            refine AO.val (RV.eql rfl rfl) (.none rfl) rfl ?_
            refine AO.val (by first | exact RV.fieldAddr rfl | exact RV.fieldAddrA rfl) (.none rfl) rfl ?_
            refine AO.effN (EF.storeO rfl rfl rfl rfl rfl rfl) (.none rfl) ?_
            rintro _ _ rfl
            refine AO.nil ?_
            refine AK.seq ?_
            refine AK.region ?_
            refine AO.val (by first | exact RV.loadAggO rfl rfl (by first | simp | assumption) | exact RV.loadAggP rfl rfl rfl (by first | simp | assumption)) (.none rfl) rfl ?_
            refine AO.val (by first | exact RV.loadAggO rfl rfl (by first | simp | assumption) | exact RV.loadAggP rfl rfl rfl (by first | simp | assumption)) (.none rfl) rfl ?_
            refine AO.val (RV.move rfl) (.none rfl) rfl ?_
            refine AO.val (RV.eql rfl rfl) (.none rfl) rfl ?_
            refine AO.eff (EF.callF rfl (with_spec B _ D (fun x hx => by simp [hD x hx]) f fiD (by omega) (((lget f.bs.l kb).1, (lget f.bs.l kb).2.1, (lget f.bs.l kb).2.2.1, (lget f.bs.l kb).2.2.2.1, (lget f.bs.l kb).2.2.2.2.1, (decide (kind = 3)), ()) : Bk) (decide (kind = 0)))) (.none rfl) rfl ?_
            rintro _ _ ⟨Aw, cw, ow, pw, rfl, how, hol, fiw, rfl⟩
            refine AO.effN (EF.storeO rfl rfl rfl rfl rfl rfl) (.none rfl) ?_
            rintro _ _ rfl
            refine AO.val (RV.assign rfl) (.none rfl) rfl ?_
            refine AO.nil ?_
            -- at fFFFT
            refine AK.ret (h' := pw ++ h) Try.func21 (.aggO rfl rfl (.tmp rfl .nil)) ?_ (by first | exact SubO.sub | exact List.Sublist.append_left (.cons _ (List.Sublist.refl _)) _ | exact List.Sublist.append_left (.cons _ (.cons _ (List.Sublist.refl _))) _ | exact List.Sublist.append_left (.cons _ (.cons _ (.cons _ (List.Sublist.refl _)))) _ | exact List.Sublist.append_left (.cons _ (.cons _ (.cons _ (.cons _ (List.Sublist.refl _))))) _ | exact List.Sublist.append_left (.cons _ (.cons _ (.cons _ (.cons _ (.cons _ (List.Sublist.refl _)))))) _ | exact List.Sublist.append_left (.cons _ (.cons _ (.cons _ (.cons _ (.cons _ (.cons _ (List.Sublist.refl _))))))) _)
            exact ⟨⟨f.vs, ⟨Aw, cw, ow⟩⟩, pw, _, rfl, fiw, fo.withB (by omega) how (by unfold BGood; dsimp only; omega) (by exact fo.vip (lget f.bs.l kb) hym), rfl⟩
          · intro hc19
            try simp only [decide_eq_true_eq, decide_eq_false_iff_not, Bool.not_eq_true', Bool.not_eq_false', beq_iff_eq] at hc19
            refine AK.skip ?_
            refine AK.seq ?_
            refine AK.region ?_
            refine AO.val (by first | exact RV.loadAggO rfl rfl (by first | simp | assumption) | exact RV.loadAggP rfl rfl rfl (by first | simp | assumption)) (.none rfl) rfl ?_
            refine AO.val (by first | exact RV.loadAggO rfl rfl (by first | simp | assumption) | exact RV.loadAggP rfl rfl rfl (by first | simp | assumption)) (.none rfl) rfl ?_
            refine AO.val (RV.move rfl) (.none rfl) rfl ?_
            refine AO.val (RV.eql rfl rfl) (.none rfl) rfl ?_
            refine AO.eff (EF.callF rfl (with_spec B _ D (fun x hx => by simp [hD x hx]) f fiD (by omega) (((lget f.bs.l kb).1, (lget f.bs.l kb).2.1, (lget f.bs.l kb).2.2.1, (lget f.bs.l kb).2.2.2.1, (lget f.bs.l kb).2.2.2.2.1, (lget f.bs.l kb).2.2.2.2.2.1, ()) : Bk) (decide (kind = 0)))) (.none rfl) rfl ?_
            rintro _ _ ⟨Aw, cw, ow, pw, rfl, how, hol, fiw, rfl⟩
            refine AO.effN (EF.storeO rfl rfl rfl rfl rfl rfl) (.none rfl) ?_
            rintro _ _ rfl
            refine AO.val (RV.assign rfl) (.none rfl) rfl ?_
            refine AO.nil ?_
            -- at fFFFF
            refine AK.ret (h' := pw ++ h) Try.func21 (.aggO rfl rfl (.tmp rfl .nil)) ?_ (by first | exact SubO.sub | exact List.Sublist.append_left (.cons _ (List.Sublist.refl _)) _ | exact List.Sublist.append_left (.cons _ (.cons _ (List.Sublist.refl _))) _ | exact List.Sublist.append_left (.cons _ (.cons _ (.cons _ (List.Sublist.refl _)))) _ | exact List.Sublist.append_left (.cons _ (.cons _ (.cons _ (.cons _ (List.Sublist.refl _))))) _ | exact List.Sublist.append_left (.cons _ (.cons _ (.cons _ (.cons _ (.cons _ (List.Sublist.refl _)))))) _ | exact List.Sublist.append_left (.cons _ (.cons _ (.cons _ (.cons _ (.cons _ (.cons _ (List.Sublist.refl _))))))) _)
            exact ⟨⟨f.vs, ⟨Aw, cw, ow⟩⟩, pw, _, rfl, fiw, fo.withB (by omega) how (by unfold BGood; dsimp only; omega) (by exact fo.vip (lget f.bs.l kb) hym), rfl⟩

set_option maxHeartbeats 2000000 in
theorem mode_spec (B : World) (h : Own) (D : Own) (hD : ∀ x ∈ D, x ∈ h) (f : FM) (fiD : FIn B D f) (fo : FarmOk f) (id m : Int) : Tri Try.prog B 22 [.agg (encFM f).toArray, .int .i64 id, .int .i64 m] h fun r h' => ∃ (f' : FM) (part : Own) (e : Int), r = .tuple #[.agg (encFM f').toArray, .int .i64 e] ∧ FIn B (part ++ D) f' ∧ FarmOk f' ∧ h' = part ++ h := by
  have fi := fiD.mono hD
  have hlv := fo.lv
  have hlb := fo.lb
  have hcv := fi.cv
  have hcb := fi.cb
  refine Tri.enter (n := 64) Try.func22 rfl rfl rfl ?_
  simp only [argsE, Nat.reduceAdd]
  try dsimp only [argsE]
  refine AK.seq ?_
  refine AK.region ?_
  refine AO.eff (EF.box rfl rfl) (.none rfl) rfl ?_
  rintro _ _ ⟨b3, hf3, rfl, rfl⟩
  refine AO.eff (EF.alloc) (.none rfl) rfl ?_
  rintro _ _ ⟨b6, hf6, rfl, rfl⟩
  refine AO.val (RV.assign rfl) (.none rfl) rfl ?_
  refine AO.nil ?_
  refine AK.seq ?_
  refine AK.seq ?_
  refine AK.region ?_
  refine AO.val (RV.move rfl) (.none rfl) rfl ?_
  refine AO.val (RV.neq rfl rfl) (.none rfl) rfl ?_
  refine AO.val (RV.move rfl) (.none rfl) rfl ?_
  refine AO.caseG rfl rfl rfl ?_ ?_
  · intro hg1
    try simp only [decide_eq_true_eq, decide_eq_false_iff_not, Bool.not_eq_true', Bool.not_eq_false', beq_iff_eq] at hg1
    refine AO.val (RV.move rfl) (.some rfl rfl rfl rfl) rfl ?_
    refine AO.val (RV.neq rfl rfl) (.some rfl rfl rfl rfl) rfl ?_
    refine AO.val (RV.pickT rfl rfl) (.none rfl) rfl ?_
    refine AO.nil ?_
    refine AK.cond rfl ?_ ?_
    · intro hc2
      try simp only [decide_eq_true_eq, decide_eq_false_iff_not, Bool.not_eq_true', Bool.not_eq_false', beq_iff_eq] at hc2
      refine AK.seq ?_
      refine AK.region ?_
      refine AO.val (by first | exact RV.loadAggO rfl rfl (by first | simp | assumption) | exact RV.loadAggP rfl rfl rfl (by first | simp | assumption)) (.none rfl) rfl ?_
      refine AO.effN (EF.storeO rfl rfl rfl rfl rfl rfl) (.none rfl) ?_
      rintro _ _ rfl
      refine AO.val (RV.assign rfl) (.none rfl) rfl ?_
      refine AO.nil ?_
      -- at tT
      refine AK.ret (h' := h) Try.func22 (.aggO rfl rfl (.tmp rfl .nil)) ?_ (by first | exact SubO.sub | exact List.Sublist.append_left (.cons _ (List.Sublist.refl _)) _ | exact List.Sublist.append_left (.cons _ (.cons _ (List.Sublist.refl _))) _ | exact List.Sublist.append_left (.cons _ (.cons _ (.cons _ (List.Sublist.refl _)))) _ | exact List.Sublist.append_left (.cons _ (.cons _ (.cons _ (.cons _ (List.Sublist.refl _))))) _ | exact List.Sublist.append_left (.cons _ (.cons _ (.cons _ (.cons _ (.cons _ (List.Sublist.refl _)))))) _ | exact List.Sublist.append_left (.cons _ (.cons _ (.cons _ (.cons _ (.cons _ (.cons _ (List.Sublist.refl _))))))) _)
      exact ⟨f, [], _, rfl, fiD, fo, rfl⟩
    · intro hc2
      try simp only [decide_eq_true_eq, decide_eq_false_iff_not, Bool.not_eq_true', Bool.not_eq_false', beq_iff_eq] at hc2
      refine AK.skip ?_
      refine AK.seq ?_
      refine AK.region ?_
      refine AO.val (by first | exact RV.loadAggO rfl rfl (by first | simp | assumption) | exact RV.loadAggP rfl rfl rfl (by first | simp | assumption)) (.none rfl) rfl ?_
      refine AO.val (RV.move rfl) (.none rfl) rfl ?_
      refine AO.eff (EF.callF rfl (vipat_spec B _ f (fi.mono fun x hx => by simp [hx]) (by omega) _)) (.none rfl) rfl ?_
      rintro _ _ ⟨rfl, kv, rfl, hkv⟩
      refine AO.val (RV.assign rfl) (.none rfl) rfl ?_
      refine AO.nil ?_
      refine AK.seq ?_
      refine AK.seq ?_
      refine AK.region ?_
      refine AO.val (RV.move rfl) (.none rfl) rfl ?_
      refine AO.val (RV.lss rfl rfl) (.none rfl) rfl ?_
      refine AO.nil ?_
      refine AK.cond rfl ?_ ?_
      · intro hc3
        try simp only [decide_eq_true_eq, decide_eq_false_iff_not, Bool.not_eq_true', Bool.not_eq_false', beq_iff_eq] at hc3
        refine AK.seq ?_
        refine AK.region ?_
        refine AO.val (by first | exact RV.loadAggO rfl rfl (by first | simp | assumption) | exact RV.loadAggP rfl rfl rfl (by first | simp | assumption)) (.none rfl) rfl ?_
        refine AO.effN (EF.storeO rfl rfl rfl rfl rfl rfl) (.none rfl) ?_
        rintro _ _ rfl
        refine AO.val (RV.assign rfl) (.none rfl) rfl ?_
        refine AO.nil ?_
        -- at tFT
        refine AK.ret (h' := h) Try.func22 (.aggO rfl rfl (.tmp rfl .nil)) ?_ (by first | exact SubO.sub | exact List.Sublist.append_left (.cons _ (List.Sublist.refl _)) _ | exact List.Sublist.append_left (.cons _ (.cons _ (List.Sublist.refl _))) _ | exact List.Sublist.append_left (.cons _ (.cons _ (.cons _ (List.Sublist.refl _)))) _ | exact List.Sublist.append_left (.cons _ (.cons _ (.cons _ (.cons _ (List.Sublist.refl _))))) _ | exact List.Sublist.append_left (.cons _ (.cons _ (.cons _ (.cons _ (.cons _ (List.Sublist.refl _)))))) _ | exact List.Sublist.append_left (.cons _ (.cons _ (.cons _ (.cons _ (.cons _ (.cons _ (List.Sublist.refl _))))))) _)
        exact ⟨f, [], _, rfl, fiD, fo, rfl⟩
      · intro hc3
        try simp only [decide_eq_true_eq, decide_eq_false_iff_not, Bool.not_eq_true', Bool.not_eq_false', beq_iff_eq] at hc3
        have hkv2 : 0 ≤ kv ∧ kv < f.vs.l.length := by
          rcases hkv with h1 | h1
          · exact absurd h1.1 (by omega)
          · exact ⟨h1.1, h1.2.1⟩
        refine AK.skip ?_
        refine AK.seq ?_
        refine AK.seq ?_
        refine AK.region ?_
        refine AO.val (RV.move rfl) (.none rfl) rfl ?_
        refine AO.val (RV.eql rfl rfl) (.none rfl) rfl ?_
        refine AO.val (RV.move rfl) (.none rfl) rfl ?_
        refine AO.caseG rfl rfl rfl ?_ ?_
        · intro hg4
          try simp only [decide_eq_true_eq, decide_eq_false_iff_not, Bool.not_eq_true', Bool.not_eq_false', beq_iff_eq] at hg4
          refine AO.val (by first | exact RV.fieldAddr rfl | exact RV.fieldAddrA rfl) (.some rfl rfl rfl rfl) rfl ?_
          refine AO.val (by first | exact RV.loadO rfl rfl (by first | simp | assumption) | exact RV.loadSF rfl (by assumption) (fun _ => rfl) (by omega) rfl rfl (by first | simp | assumption) | exact RV.loadS rfl (by assumption) (by omega) (by first | simp | assumption)) (.some rfl rfl rfl rfl) rfl ?_
          refine AO.val (RV.move rfl) (.some rfl rfl rfl rfl) rfl ?_
          refine AO.val (RV.indexS rfl rfl fi.sv (by omega) rfl) (.some rfl rfl rfl rfl) rfl ?_
          refine AO.val (by first | exact RV.fieldAddr rfl | exact RV.fieldAddrA rfl) (.some rfl rfl rfl rfl) rfl ?_
          refine AO.val (RV.loadSF (enc := encV) (l := f.vs.l) (fo := 3) rfl fi.sv (fun _ => rfl) (by omega) rfl rfl (by simp)) (.some rfl rfl rfl rfl) rfl ?_
          refine AO.val (RV.neq rfl rfl) (.some rfl rfl rfl rfl) rfl ?_
          refine AO.val (RV.pickT rfl rfl) (.none rfl) rfl ?_
          refine AO.nil ?_
          refine AK.cond rfl ?_ ?_
          · intro hc5
            try simp only [decide_eq_true_eq, decide_eq_false_iff_not, Bool.not_eq_true', Bool.not_eq_false', beq_iff_eq] at hc5
            refine AK.seq ?_
            refine AK.region ?_
            refine AO.val (by first | exact RV.loadAggO rfl rfl (by first | simp | assumption) | exact RV.loadAggP rfl rfl rfl (by first | simp | assumption)) (.none rfl) rfl ?_
            refine AO.effN (EF.storeO rfl rfl rfl rfl rfl rfl) (.none rfl) ?_
            rintro _ _ rfl
            refine AO.val (RV.assign rfl) (.none rfl) rfl ?_
            refine AO.nil ?_
            -- at tFFtT
            refine AK.ret (h' := h) Try.func22 (.aggO rfl rfl (.tmp rfl .nil)) ?_ (by first | exact SubO.sub | exact List.Sublist.append_left (.cons _ (List.Sublist.refl _)) _ | exact List.Sublist.append_left (.cons _ (.cons _ (List.Sublist.refl _))) _ | exact List.Sublist.append_left (.cons _ (.cons _ (.cons _ (List.Sublist.refl _)))) _ | exact List.Sublist.append_left (.cons _ (.cons _ (.cons _ (.cons _ (List.Sublist.refl _))))) _ | exact List.Sublist.append_left (.cons _ (.cons _ (.cons _ (.cons _ (.cons _ (List.Sublist.refl _)))))) _ | exact List.Sublist.append_left (.cons _ (.cons _ (.cons _ (.cons _ (.cons _ (.cons _ (List.Sublist.refl _))))))) _)
            exact ⟨f, [], _, rfl, fiD, fo, rfl⟩
          · intro hc5
            try simp only [decide_eq_true_eq, decide_eq_false_iff_not, Bool.not_eq_true', Bool.not_eq_false', beq_iff_eq] at hc5
            refine AK.skip ?_
            refine AK.seq ?_
            refine AK.region ?_
            refine AO.val (by first | exact RV.fieldAddr rfl | exact RV.fieldAddrA rfl) (.none rfl) rfl ?_
            refine AO.val (by first | exact RV.loadO rfl rfl (by first | simp | assumption) | exact RV.loadSF rfl (by assumption) (fun _ => rfl) (by omega) rfl rfl (by first | simp | assumption) | exact RV.loadS rfl (by assumption) (by omega) (by first | simp | assumption)) (.none rfl) rfl ?_
            refine AO.val (RV.build rfl (.cons rfl rfl rfl rfl .nil)) (.none rfl) rfl ?_
            refine AO.eff (EF.alloc) (.none rfl) rfl ?_
            rintro _ _ ⟨b9, hf9, rfl, rfl⟩
            refine AO.effN (EF.storeO rfl rfl rfl rfl rfl rfl) (.none rfl) ?_
            rintro _ _ rfl
            refine AO.nil ?_
            refine AK.seq ?_
            refine AK.seq ?_
            refine AK.region ?_
            refine AO.val (RV.assign rfl) (.none rfl) rfl ?_
            refine AO.nil ?_
            refine AK.block ?_
            refine AK.loop (α := Int × Option Addr × Nat × Own × List VpT) (E := fun (i, Ao, co, po, out) => [(2, .int .i64 m), (3, .pointer (some ⟨b3, 0, none⟩)), (6, .pointer (some ⟨b6, 0, none⟩)), (8, .int .i64 kv), (9, .pointer (some ⟨b9, 0, none⟩)), (10, .int .i64 i)]) (H := fun (i, Ao, co, po, out) => po ++ ((b9, Blk.cells [.slice Ao out.length co, .slice f.bs.A f.bs.l.length f.bs.cap] 37 (0, 0)) :: (b6, Blk.cells (encFM ZF) 37 (0, 0)) :: (b3, Blk.cells (encFM f) 37 (0, 0)) :: h)) (Inv := fun (i, Ao, co, po, out) => 0 ≤ i ∧ i ≤ f.vs.l.length ∧ Row 41 5 (.slice Ao out.length co) out.length (flat encV out) po ∧ out.length ≤ co ∧ (out.length : Int) = i ∧ out.map (·.1) = (f.vs.l.take i.toNat).map (·.1)) (μ := fun (i, Ao, co, po, out) => (f.vs.l.length - i).toNat) (0, none, 0, [], []) ?_ (.cons (by exact rfl) (.cons (by exact rfl) (.cons (by exact rfl) (.cons (by exact rfl) (.cons (by exact rfl) (.cons (by exact rfl) .nil)))))) ?_ ?_
            · exact ⟨by omega, by omega, .nil, Nat.le_refl 0, by simp, by simp⟩
            · exact (by first | exact SubO.sub | exact List.Sublist.refl _ | exact .cons _ (List.Sublist.refl _) | exact .cons _ (.cons _ (List.Sublist.refl _)) | exact .cons _ (.cons _ (.cons _ (List.Sublist.refl _))))
            rintro ⟨i, Ao, co, po, out⟩ ⟨hi0, hi1, hro, hco, hol, hou⟩ hih0
            try dsimp only at hih0 ⊢
            refine AK.seq ?_
            refine AK.seq ?_
            refine AK.region ?_
            refine AO.val (RV.move rfl) (.none rfl) rfl ?_
            refine AO.val (by first | exact RV.fieldAddr rfl | exact RV.fieldAddrA rfl) (.none rfl) rfl ?_
            refine AO.val (by first | exact RV.loadO rfl rfl (by first | simp | assumption) | exact RV.loadSF rfl (by assumption) (fun _ => rfl) (by omega) rfl rfl (by first | simp | assumption) | exact RV.loadS rfl (by assumption) (by omega) (by first | simp | assumption)) (.none rfl) rfl ?_
            refine AO.val (RV.lenS rfl) (.none rfl) rfl ?_
            refine AO.val (RV.lss rfl rfl) (.none rfl) rfl ?_
            refine AO.nil ?_
            refine AK.cond rfl ?_ ?_
            · intro hc6
              try simp only [decide_eq_true_eq, decide_eq_false_iff_not, Bool.not_eq_true', Bool.not_eq_false', beq_iff_eq] at hc6
              refine AK.skip ?_
              refine AK.seq ?_
              refine AK.block ?_
              refine AK.seq ?_
              refine AK.region ?_
              refine AO.val (by first | exact RV.fieldAddr rfl | exact RV.fieldAddrA rfl) (.none rfl) rfl ?_
              refine AO.val (by first | exact RV.loadO rfl rfl (by first | simp | assumption) | exact RV.loadSF rfl (by assumption) (fun _ => rfl) (by omega) rfl rfl (by first | simp | assumption) | exact RV.loadS rfl (by assumption) (by omega) (by first | simp | assumption)) (.none rfl) rfl ?_
              refine AO.val (RV.move rfl) (.none rfl) rfl ?_
              refine AO.val (RV.indexS rfl rfl fi.sv (by omega) rfl) (.none rfl) rfl ?_
              refine AO.val (RV.loadSA (enc := encV) (l := f.vs.l) rfl fi.sv (fun _ => rfl) (by omega) (by simp)) (.none rfl) rfl ?_
              refine AO.eff (EF.alloc) (.none rfl) rfl ?_
              rintro _ _ ⟨b11, hf11, rfl, rfl⟩
              refine AO.effN (EF.storeO rfl rfl rfl rfl rfl rfl) (.none rfl) ?_
              rintro _ _ rfl
              refine AO.nil ?_
              refine AK.seq ?_
              refine AK.seq ?_
              refine AK.region ?_
              refine AO.val (RV.move rfl) (.none rfl) rfl ?_
              refine AO.val (RV.move rfl) (.none rfl) rfl ?_
              refine AO.val (RV.eql rfl rfl) (.none rfl) rfl ?_
              refine AO.nil ?_
              refine AK.cond rfl ?_ ?_
              · intro hc7
                try simp only [decide_eq_true_eq, decide_eq_false_iff_not, Bool.not_eq_true', Bool.not_eq_false', beq_iff_eq] at hc7
                refine AK.region ?_
                refine AO.val (RV.move rfl) (.none rfl) rfl ?_
                refine AO.val (by first | exact RV.fieldAddr rfl | exact RV.fieldAddrA rfl) (.none rfl) rfl ?_
                refine AO.effN (EF.storeO rfl rfl rfl rfl rfl rfl) (.none rfl) ?_
                rintro _ _ rfl
                refine AO.nil ?_
                refine AK.region ?_
                refine AO.val (by first | exact RV.fieldAddr rfl | exact RV.fieldAddrA rfl) (.none rfl) rfl ?_
                refine AO.val (by first | exact RV.loadO rfl rfl (by first | simp | assumption) | exact RV.loadSF rfl (by assumption) (fun _ => rfl) (by omega) rfl rfl (by first | simp | assumption) | exact RV.loadS rfl (by assumption) (by omega) (by first | simp | assumption)) (.none rfl) rfl ?_
                refine AO.val (by first | exact RV.loadAggO rfl rfl (by first | simp | assumption) | exact RV.loadAggP rfl rfl rfl (by first | simp | assumption)) (.none rfl) rfl ?_
                refine AO.eff (EF.buildSlice rfl rfl rfl (.cons rfl rfl rfl rfl .nil)) (.none rfl) rfl ?_
                rintro _ _ ⟨b60, hf60, rfl, rfl⟩
                refine AO.eff (EF.appendS (n' := (out ++ [(((lget f.vs.l i).1, (lget f.vs.l i).2.1, (lget f.vs.l i).2.2.1, (lget f.vs.l i).2.2.2.1, m, ()) : VpT)]).length) (ys := flat encV (out ++ [(((lget f.vs.l i).1, (lget f.vs.l i).2.1, (lget f.vs.l i).2.2.1, (lget f.vs.l i).2.2.2.1, m, ()) : VpT)])) rfl rfl hro (Src.of_new (el := 41) (cs := encV (((lget f.vs.l i).1, (lget f.vs.l i).2.1, (lget f.vs.l i).2.2.1, (lget f.vs.l i).2.2.2.1, m, ()) : VpT)) List.mem_cons_self 1 5 (Nat.le_refl _)) (by simp) (flat_snoc encV out _) rfl (by decide) rfl (by (try simp only [List.length_append, List.length_cons, List.length_nil]); omega) (by (try simp only [List.length_append, List.length_cons, List.length_nil]); omega)) (.none rfl) rfl ?_
                rintro _ _ ⟨A61, c61, p61, rfl, hr61, hc61, rfl⟩
                refine AO.val (by first | exact RV.fieldAddr rfl | exact RV.fieldAddrA rfl) (.none rfl) rfl ?_
                refine AO.effN (EF.storeO rfl rfl rfl rfl rfl rfl) (.none rfl) ?_
                rintro _ _ rfl
                refine AO.nil ?_
                refine AK.inBlock ?_
                refine AK.region ?_
                refine AO.val (RV.move rfl) (.none rfl) rfl ?_
                refine AO.val (by first | exact RV.addIn rfl rfl (by omega) | exact RV.add rfl rfl) (.none rfl) rfl ?_
                refine AO.val (RV.assign rfl) (.none rfl) rfl ?_
                refine AO.nil ?_
                -- round ends at tFFtFL0TT
                refine AK.weak (.cons (by exact rfl) (.cons (by exact rfl) (.cons (by exact rfl) (.cons (by exact rfl) (.cons (by exact rfl) (.cons (by exact rfl) .nil)))))) (by first | exact SubO.sub | exact List.Sublist.append_left (.cons _ (List.Sublist.refl _)) _ | exact List.Sublist.append_left (.cons _ (.cons _ (List.Sublist.refl _))) _ | exact List.Sublist.append_left (.cons _ (.cons _ (.cons _ (List.Sublist.refl _)))) _ | exact List.Sublist.append_left (.cons _ (.cons _ (.cons _ (.cons _ (List.Sublist.refl _))))) _ | exact List.Sublist.append_left (.cons _ (.cons _ (.cons _ (.cons _ (.cons _ (List.Sublist.refl _)))))) _ | exact List.Sublist.append_left (.cons _ (.cons _ (.cons _ (.cons _ (.cons _ (.cons _ (List.Sublist.refl _))))))) _) (hih0 (i + 1, A61, c61, p61, out ++ [(((lget f.vs.l i).1, (lget f.vs.l i).2.1, (lget f.vs.l i).2.2.1, (lget f.vs.l i).2.2.2.1, m, ()) : VpT)]) ?_ ?_)
                · try dsimp only
                  refine ⟨by omega, by omega, hr61, hc61, by simp; omega, ?_⟩
                  rw [take_step (fun x : VpT => x.1) hi0 (by omega), List.map_append, hou]; rfl
                · try dsimp only
                  omega
              · intro hc7
                try simp only [decide_eq_true_eq, decide_eq_false_iff_not, Bool.not_eq_true', Bool.not_eq_false', beq_iff_eq] at hc7
                refine AK.skip ?_
                refine AK.region ?_
                refine AO.val (by first | exact RV.fieldAddr rfl | exact RV.fieldAddrA rfl) (.none rfl) rfl ?_
                refine AO.val (by first | exact RV.loadO rfl rfl (by first | simp | assumption) | exact RV.loadSF rfl (by assumption) (fun _ => rfl) (by omega) rfl rfl (by first | simp | assumption) | exact RV.loadS rfl (by assumption) (by omega) (by first | simp | assumption)) (.none rfl) rfl ?_
                refine AO.val (by first | exact RV.loadAggO rfl rfl (by first | simp | assumption) | exact RV.loadAggP rfl rfl rfl (by first | simp | assumption)) (.none rfl) rfl ?_
                refine AO.eff (EF.buildSlice rfl rfl rfl (.cons rfl rfl rfl rfl .nil)) (.none rfl) rfl ?_
                rintro _ _ ⟨b60, hf60, rfl, rfl⟩
                refine AO.eff (EF.appendS (n' := (out ++ [(lget f.vs.l i)]).length) (ys := flat encV (out ++ [(lget f.vs.l i)])) rfl rfl hro (Src.of_new (el := 41) (cs := encV (lget f.vs.l i)) List.mem_cons_self 1 5 (Nat.le_refl _)) (by simp) (flat_snoc encV out _) rfl (by decide) rfl (by (try simp only [List.length_append, List.length_cons, List.length_nil]); omega) (by (try simp only [List.length_append, List.length_cons, List.length_nil]); omega)) (.none rfl) rfl ?_
                rintro _ _ ⟨A61, c61, p61, rfl, hr61, hc61, rfl⟩
                refine AO.val (by first | exact RV.fieldAddr rfl | exact RV.fieldAddrA rfl) (.none rfl) rfl ?_
                refine AO.effN (EF.storeO rfl rfl rfl rfl rfl rfl) (.none rfl) ?_
                rintro _ _ rfl
                refine AO.nil ?_
                refine AK.inBlock ?_
                refine AK.region ?_
                refine AO.val (RV.move rfl) (.none rfl) rfl ?_
                refine AO.val (by first | exact RV.addIn rfl rfl (by omega) | exact RV.add rfl rfl) (.none rfl) rfl ?_
                refine AO.val (RV.assign rfl) (.none rfl) rfl ?_
                refine AO.nil ?_
                -- round ends at tFFtFL0TF
                refine AK.weak (.cons (by exact rfl) (.cons (by exact rfl) (.cons (by exact rfl) (.cons (by exact rfl) (.cons (by exact rfl) (.cons (by exact rfl) .nil)))))) (by first | exact SubO.sub | exact List.Sublist.append_left (.cons _ (List.Sublist.refl _)) _ | exact List.Sublist.append_left (.cons _ (.cons _ (List.Sublist.refl _))) _ | exact List.Sublist.append_left (.cons _ (.cons _ (.cons _ (List.Sublist.refl _)))) _ | exact List.Sublist.append_left (.cons _ (.cons _ (.cons _ (.cons _ (List.Sublist.refl _))))) _ | exact List.Sublist.append_left (.cons _ (.cons _ (.cons _ (.cons _ (.cons _ (List.Sublist.refl _)))))) _ | exact List.Sublist.append_left (.cons _ (.cons _ (.cons _ (.cons _ (.cons _ (.cons _ (List.Sublist.refl _))))))) _) (hih0 (i + 1, A61, c61, p61, out ++ [(lget f.vs.l i)]) ?_ ?_)
                · try dsimp only
                  refine ⟨by omega, by omega, hr61, hc61, by simp; omega, ?_⟩
                  rw [take_step (fun x : VpT => x.1) hi0 (by omega), List.map_append, hou]; rfl
                · try dsimp only
                  omega
            · intro hc6
              try simp only [decide_eq_true_eq, decide_eq_false_iff_not, Bool.not_eq_true', Bool.not_eq_false', beq_iff_eq] at hc6
              refine AK.exit rfl ?_
              refine AK.seq ?_
              refine AK.region ?_
              refine AO.val (by first | exact RV.loadAggO rfl rfl (by first | simp | assumption) | exact RV.loadAggP rfl rfl rfl (by first | simp | assumption)) (.none rfl) rfl ?_
              refine AO.effN (EF.storeO rfl rfl rfl rfl rfl rfl) (.none rfl) ?_
              rintro _ _ rfl
              refine AO.val (RV.assign rfl) (.none rfl) rfl ?_
              refine AO.nil ?_
              -- at tFFtFL0F
              clear hih0
              refine AK.ret (h' := po ++ h) Try.func22 (.aggO rfl rfl (.tmp rfl .nil)) ?_ (by first | exact SubO.sub | exact List.Sublist.append_left (.cons _ (List.Sublist.refl _)) _ | exact List.Sublist.append_left (.cons _ (.cons _ (List.Sublist.refl _))) _ | exact List.Sublist.append_left (.cons _ (.cons _ (.cons _ (List.Sublist.refl _)))) _ | exact List.Sublist.append_left (.cons _ (.cons _ (.cons _ (.cons _ (List.Sublist.refl _))))) _ | exact List.Sublist.append_left (.cons _ (.cons _ (.cons _ (.cons _ (.cons _ (List.Sublist.refl _)))))) _ | exact List.Sublist.append_left (.cons _ (.cons _ (.cons _ (.cons _ (.cons _ (.cons _ (List.Sublist.refl _))))))) _)
              rw [List.take_of_length_le (by omega)] at hou
              refine ⟨⟨⟨Ao, co, out⟩, f.bs⟩, po, _, rfl, ⟨hro.src fun x hx => by simp [hx], hco, fiD.sb.mono fun x hx => by simp [hx], fi.cb⟩, fo.withV (by omega) (fun x hx => ?_) (fun x hx => ?_), rfl⟩
              · have h1 : x.1 ∈ out.map (·.1) := List.mem_map.2 ⟨x, hx, rfl⟩
                rw [hou] at h1
                obtain ⟨z, hz, e⟩ := List.mem_map.1 h1
                rw [← e]; exact fo.idv z hz
              · rw [hou]; exact List.mem_map.2 ⟨x, hx, rfl⟩
        · intro hg4
          try simp only [decide_eq_true_eq, decide_eq_false_iff_not, Bool.not_eq_true', Bool.not_eq_false', beq_iff_eq] at hg4
          refine AO.pass (.some rfl rfl rfl rfl) rfl ?_
          refine AO.pass (.some rfl rfl rfl rfl) rfl ?_
          refine AO.pass (.some rfl rfl rfl rfl) rfl ?_
          refine AO.pass (.some rfl rfl rfl rfl) rfl ?_
          refine AO.pass (.some rfl rfl rfl rfl) rfl ?_
          refine AO.pass (.some rfl rfl rfl rfl) rfl ?_
          refine AO.pass (.some rfl rfl rfl rfl) rfl ?_
          refine AO.val (RV.pickF rfl rfl) (.none rfl) rfl ?_
          refine AO.nil ?_
          refine AK.condF rfl ?_
          refine AK.skip ?_
          refine AK.seq ?_
          refine AK.region ?_
          refine AO.val (by first | exact RV.fieldAddr rfl | exact RV.fieldAddrA rfl) (.none rfl) rfl ?_
          refine AO.val (by first | exact RV.loadO rfl rfl (by first | simp | assumption) | exact RV.loadSF rfl (by assumption) (fun _ => rfl) (by omega) rfl rfl (by first | simp | assumption) | exact RV.loadS rfl (by assumption) (by omega) (by first | simp | assumption)) (.none rfl) rfl ?_
          refine AO.val (RV.build rfl (.cons rfl rfl rfl rfl .nil)) (.none rfl) rfl ?_
          refine AO.eff (EF.alloc) (.none rfl) rfl ?_
          rintro _ _ ⟨b9, hf9, rfl, rfl⟩
          refine AO.effN (EF.storeO rfl rfl rfl rfl rfl rfl) (.none rfl) ?_
          rintro _ _ rfl
          refine AO.nil ?_
          refine AK.seq ?_
          refine AK.seq ?_
          refine AK.region ?_
          refine AO.val (RV.assign rfl) (.none rfl) rfl ?_
          refine AO.nil ?_
          refine AK.block ?_
          refine AK.loop (α := Int × Option Addr × Nat × Own × List VpT) (E := fun (i, Ao, co, po, out) => [(2, .int .i64 m), (3, .pointer (some ⟨b3, 0, none⟩)), (6, .pointer (some ⟨b6, 0, none⟩)), (8, .int .i64 kv), (9, .pointer (some ⟨b9, 0, none⟩)), (10, .int .i64 i)]) (H := fun (i, Ao, co, po, out) => po ++ ((b9, Blk.cells [.slice Ao out.length co, .slice f.bs.A f.bs.l.length f.bs.cap] 37 (0, 0)) :: (b6, Blk.cells (encFM ZF) 37 (0, 0)) :: (b3, Blk.cells (encFM f) 37 (0, 0)) :: h)) (Inv := fun (i, Ao, co, po, out) => 0 ≤ i ∧ i ≤ f.vs.l.length ∧ Row 41 5 (.slice Ao out.length co) out.length (flat encV out) po ∧ out.length ≤ co ∧ (out.length : Int) = i ∧ out.map (·.1) = (f.vs.l.take i.toNat).map (·.1)) (μ := fun (i, Ao, co, po, out) => (f.vs.l.length - i).toNat) (0, none, 0, [], []) ?_ (.cons (by exact rfl) (.cons (by exact rfl) (.cons (by exact rfl) (.cons (by exact rfl) (.cons (by exact rfl) (.cons (by exact rfl) .nil)))))) ?_ ?_
          · exact ⟨by omega, by omega, .nil, Nat.le_refl 0, by simp, by simp⟩
          · exact (by first | exact SubO.sub | exact List.Sublist.refl _ | exact .cons _ (List.Sublist.refl _) | exact .cons _ (.cons _ (List.Sublist.refl _)) | exact .cons _ (.cons _ (.cons _ (List.Sublist.refl _))))
          rintro ⟨i, Ao, co, po, out⟩ ⟨hi0, hi1, hro, hco, hol, hou⟩ hih0
          try dsimp only at hih0 ⊢
          refine AK.seq ?_
          refine AK.seq ?_
          refine AK.region ?_
          refine AO.val (RV.move rfl) (.none rfl) rfl ?_
          refine AO.val (by first | exact RV.fieldAddr rfl | exact RV.fieldAddrA rfl) (.none rfl) rfl ?_
          refine AO.val (by first | exact RV.loadO rfl rfl (by first | simp | assumption) | exact RV.loadSF rfl (by assumption) (fun _ => rfl) (by omega) rfl rfl (by first | simp | assumption) | exact RV.loadS rfl (by assumption) (by omega) (by first | simp | assumption)) (.none rfl) rfl ?_
          refine AO.val (RV.lenS rfl) (.none rfl) rfl ?_
          refine AO.val (RV.lss rfl rfl) (.none rfl) rfl ?_
          refine AO.nil ?_
          refine AK.cond rfl ?_ ?_
          · intro hc8
            try simp only [decide_eq_true_eq, decide_eq_false_iff_not, Bool.not_eq_true', Bool.not_eq_false', beq_iff_eq] at hc8
            refine AK.skip ?_
            refine AK.seq ?_
            refine AK.block ?_
            refine AK.seq ?_
            refine AK.region ?_
            refine AO.val (by first | exact RV.fieldAddr rfl | exact RV.fieldAddrA rfl) (.none rfl) rfl ?_
            refine AO.val (by first | exact RV.loadO rfl rfl (by first | simp | assumption) | exact RV.loadSF rfl (by assumption) (fun _ => rfl) (by omega) rfl rfl (by first | simp | assumption) | exact RV.loadS rfl (by assumption) (by omega) (by first | simp | assumption)) (.none rfl) rfl ?_
            refine AO.val (RV.move rfl) (.none rfl) rfl ?_
            refine AO.val (RV.indexS rfl rfl fi.sv (by omega) rfl) (.none rfl) rfl ?_
            refine AO.val (RV.loadSA (enc := encV) (l := f.vs.l) rfl fi.sv (fun _ => rfl) (by omega) (by simp)) (.none rfl) rfl ?_
            refine AO.eff (EF.alloc) (.none rfl) rfl ?_
            rintro _ _ ⟨b11, hf11, rfl, rfl⟩
            refine AO.effN (EF.storeO rfl rfl rfl rfl rfl rfl) (.none rfl) ?_
            rintro _ _ rfl
            refine AO.nil ?_
            refine AK.seq ?_
            refine AK.seq ?_
            refine AK.region ?_
            refine AO.val (RV.move rfl) (.none rfl) rfl ?_
            refine AO.val (RV.move rfl) (.none rfl) rfl ?_
            refine AO.val (RV.eql rfl rfl) (.none rfl) rfl ?_
            refine AO.nil ?_
            refine AK.cond rfl ?_ ?_
            · intro hc9
              try simp only [decide_eq_true_eq, decide_eq_false_iff_not, Bool.not_eq_true', Bool.not_eq_false', beq_iff_eq] at hc9
              refine AK.region ?_
              refine AO.val (RV.move rfl) (.none rfl) rfl ?_
              refine AO.val (by first | exact RV.fieldAddr rfl | exact RV.fieldAddrA rfl) (.none rfl) rfl ?_
              refine AO.effN (EF.storeO rfl rfl rfl rfl rfl rfl) (.none rfl) ?_
              rintro _ _ rfl
              refine AO.nil ?_
              refine AK.region ?_
              refine AO.val (by first | exact RV.fieldAddr rfl | exact RV.fieldAddrA rfl) (.none rfl) rfl ?_
              refine AO.val (by first | exact RV.loadO rfl rfl (by first | simp | assumption) | exact RV.loadSF rfl (by assumption) (fun _ => rfl) (by omega) rfl rfl (by first | simp | assumption) | exact RV.loadS rfl (by assumption) (by omega) (by first | simp | assumption)) (.none rfl) rfl ?_
              refine AO.val (by first | exact RV.loadAggO rfl rfl (by first | simp | assumption) | exact RV.loadAggP rfl rfl rfl (by first | simp | assumption)) (.none rfl) rfl ?_
              refine AO.eff (EF.buildSlice rfl rfl rfl (.cons rfl rfl rfl rfl .nil)) (.none rfl) rfl ?_
              rintro _ _ ⟨b60, hf60, rfl, rfl⟩
              refine AO.eff (EF.appendS (n' := (out ++ [(((lget f.vs.l i).1, (lget f.vs.l i).2.1, (lget f.vs.l i).2.2.1, (lget f.vs.l i).2.2.2.1, m, ()) : VpT)]).length) (ys := flat encV (out ++ [(((lget f.vs.l i).1, (lget f.vs.l i).2.1, (lget f.vs.l i).2.2.1, (lget f.vs.l i).2.2.2.1, m, ()) : VpT)])) rfl rfl hro (Src.of_new (el := 41) (cs := encV (((lget f.vs.l i).1, (lget f.vs.l i).2.1, (lget f.vs.l i).2.2.1, (lget f.vs.l i).2.2.2.1, m, ()) : VpT)) List.mem_cons_self 1 5 (Nat.le_refl _)) (by simp) (flat_snoc encV out _) rfl (by decide) rfl (by (try simp only [List.length_append, List.length_cons, List.length_nil]); omega) (by (try simp only [List.length_append, List.length_cons, List.length_nil]); omega)) (.none rfl) rfl ?_
              rintro _ _ ⟨A61, c61, p61, rfl, hr61, hc61, rfl⟩
              refine AO.val (by first | exact RV.fieldAddr rfl | exact RV.fieldAddrA rfl) (.none rfl) rfl ?_
              refine AO.effN (EF.storeO rfl rfl rfl rfl rfl rfl) (.none rfl) ?_
              rintro _ _ rfl
              refine AO.nil ?_
              refine AK.inBlock ?_
              refine AK.region ?_
              refine AO.val (RV.move rfl) (.none rfl) rfl ?_
              refine AO.val (by first | exact RV.addIn rfl rfl (by omega) | exact RV.add rfl rfl) (.none rfl) rfl ?_
              refine AO.val (RV.assign rfl) (.none rfl) rfl ?_
              refine AO.nil ?_
              -- round ends at tFFfL0TT
              refine AK.weak (.cons (by exact rfl) (.cons (by exact rfl) (.cons (by exact rfl) (.cons (by exact rfl) (.cons (by exact rfl) (.cons (by exact rfl) .nil)))))) (by first | exact SubO.sub | exact List.Sublist.append_left (.cons _ (List.Sublist.refl _)) _ | exact List.Sublist.append_left (.cons _ (.cons _ (List.Sublist.refl _))) _ | exact List.Sublist.append_left (.cons _ (.cons _ (.cons _ (List.Sublist.refl _)))) _ | exact List.Sublist.append_left (.cons _ (.cons _ (.cons _ (.cons _ (List.Sublist.refl _))))) _ | exact List.Sublist.append_left (.cons _ (.cons _ (.cons _ (.cons _ (.cons _ (List.Sublist.refl _)))))) _ | exact List.Sublist.append_left (.cons _ (.cons _ (.cons _ (.cons _ (.cons _ (.cons _ (List.Sublist.refl _))))))) _) (hih0 (i + 1, A61, c61, p61, out ++ [(((lget f.vs.l i).1, (lget f.vs.l i).2.1, (lget f.vs.l i).2.2.1, (lget f.vs.l i).2.2.2.1, m, ()) : VpT)]) ?_ ?_)
              · try dsimp only
                refine ⟨by omega, by omega, hr61, hc61, by simp; omega, ?_⟩
                rw [take_step (fun x : VpT => x.1) hi0 (by omega), List.map_append, hou]; rfl
              · try dsimp only
                omega
            · intro hc9
              try simp only [decide_eq_true_eq, decide_eq_false_iff_not, Bool.not_eq_true', Bool.not_eq_false', beq_iff_eq] at hc9
              refine AK.skip ?_
              refine AK.region ?_
              refine AO.val (by first | exact RV.fieldAddr rfl | exact RV.fieldAddrA rfl) (.none rfl) rfl ?_
              refine AO.val (by first | exact RV.loadO rfl rfl (by first | simp | assumption) | exact RV.loadSF rfl (by assumption) (fun _ => rfl) (by omega) rfl rfl (by first | simp | assumption) | exact RV.loadS rfl (by assumption) (by omega) (by first | simp | assumption)) (.none rfl) rfl ?_
              refine AO.val (by first | exact RV.loadAggO rfl rfl (by first | simp | assumption) | exact RV.loadAggP rfl rfl rfl (by first | simp | assumption)) (.none rfl) rfl ?_
              refine AO.eff (EF.buildSlice rfl rfl rfl (.cons rfl rfl rfl rfl .nil)) (.none rfl) rfl ?_
              rintro _ _ ⟨b60, hf60, rfl, rfl⟩
              refine AO.eff (EF.appendS (n' := (out ++ [(lget f.vs.l i)]).length) (ys := flat encV (out ++ [(lget f.vs.l i)])) rfl rfl hro (Src.of_new (el := 41) (cs := encV (lget f.vs.l i)) List.mem_cons_self 1 5 (Nat.le_refl _)) (by simp) (flat_snoc encV out _) rfl (by decide) rfl (by (try simp only [List.length_append, List.length_cons, List.length_nil]); omega) (by (try simp only [List.length_append, List.length_cons, List.length_nil]); omega)) (.none rfl) rfl ?_
              rintro _ _ ⟨A61, c61, p61, rfl, hr61, hc61, rfl⟩
              refine AO.val (by first | exact RV.fieldAddr rfl | exact RV.fieldAddrA rfl) (.none rfl) rfl ?_
              refine AO.effN (EF.storeO rfl rfl rfl rfl rfl rfl) (.none rfl) ?_
              rintro _ _ rfl
              refine AO.nil ?_
              refine AK.inBlock ?_
              refine AK.region ?_
              refine AO.val (RV.move rfl) (.none rfl) rfl ?_
              refine AO.val (by first | exact RV.addIn rfl rfl (by omega) | exact RV.add rfl rfl) (.none rfl) rfl ?_
              refine AO.val (RV.assign rfl) (.none rfl) rfl ?_
              refine AO.nil ?_
              -- round ends at tFFfL0TF
              refine AK.weak (.cons (by exact rfl) (.cons (by exact rfl) (.cons (by exact rfl) (.cons (by exact rfl) (.cons (by exact rfl) (.cons (by exact rfl) .nil)))))) (by first | exact SubO.sub | exact List.Sublist.append_left (.cons _ (List.Sublist.refl _)) _ | exact List.Sublist.append_left (.cons _ (.cons _ (List.Sublist.refl _))) _ | exact List.Sublist.append_left (.cons _ (.cons _ (.cons _ (List.Sublist.refl _)))) _ | exact List.Sublist.append_left (.cons _ (.cons _ (.cons _ (.cons _ (List.Sublist.refl _))))) _ | exact List.Sublist.append_left (.cons _ (.cons _ (.cons _ (.cons _ (.cons _ (List.Sublist.refl _)))))) _ | exact List.Sublist.append_left (.cons _ (.cons _ (.cons _ (.cons _ (.cons _ (.cons _ (List.Sublist.refl _))))))) _) (hih0 (i + 1, A61, c61, p61, out ++ [(lget f.vs.l i)]) ?_ ?_)
              · try dsimp only
                refine ⟨by omega, by omega, hr61, hc61, by simp; omega, ?_⟩
                rw [take_step (fun x : VpT => x.1) hi0 (by omega), List.map_append, hou]; rfl
              · try dsimp only
                omega
          · intro hc8
            try simp only [decide_eq_true_eq, decide_eq_false_iff_not, Bool.not_eq_true', Bool.not_eq_false', beq_iff_eq] at hc8
            refine AK.exit rfl ?_
            refine AK.seq ?_
            refine AK.region ?_
            refine AO.val (by first | exact RV.loadAggO rfl rfl (by first | simp | assumption) | exact RV.loadAggP rfl rfl rfl (by first | simp | assumption)) (.none rfl) rfl ?_
            refine AO.effN (EF.storeO rfl rfl rfl rfl rfl rfl) (.none rfl) ?_
            rintro _ _ rfl
            refine AO.val (RV.assign rfl) (.none rfl) rfl ?_
            refine AO.nil ?_
            -- at tFFfL0F
            clear hih0
            refine AK.ret (h' := po ++ h) Try.func22 (.aggO rfl rfl (.tmp rfl .nil)) ?_ (by first | exact SubO.sub | exact List.Sublist.append_left (.cons _ (List.Sublist.refl _)) _ | exact List.Sublist.append_left (.cons _ (.cons _ (List.Sublist.refl _))) _ | exact List.Sublist.append_left (.cons _ (.cons _ (.cons _ (List.Sublist.refl _)))) _ | exact List.Sublist.append_left (.cons _ (.cons _ (.cons _ (.cons _ (List.Sublist.refl _))))) _ | exact List.Sublist.append_left (.cons _ (.cons _ (.cons _ (.cons _ (.cons _ (List.Sublist.refl _)))))) _ | exact List.Sublist.append_left (.cons _ (.cons _ (.cons _ (.cons _ (.cons _ (.cons _ (List.Sublist.refl _))))))) _)
            rw [List.take_of_length_le (by omega)] at hou
            refine ⟨⟨⟨Ao, co, out⟩, f.bs⟩, po, _, rfl, ⟨hro.src fun x hx => by simp [hx], hco, fiD.sb.mono fun x hx => by simp [hx], fi.cb⟩, fo.withV (by omega) (fun x hx => ?_) (fun x hx => ?_), rfl⟩
            · have h1 : x.1 ∈ out.map (·.1) := List.mem_map.2 ⟨x, hx, rfl⟩
              rw [hou] at h1
              obtain ⟨z, hz, e⟩ := List.mem_map.1 h1
              rw [← e]; exact fo.idv z hz
            · rw [hou]; exact List.mem_map.2 ⟨x, hx, rfl⟩
  · intro hg1
    try simp only [decide_eq_true_eq, decide_eq_false_iff_not, Bool.not_eq_true', Bool.not_eq_false', beq_iff_eq] at hg1
    refine AO.pass (.some rfl rfl rfl rfl) rfl ?_
    refine AO.pass (.some rfl rfl rfl rfl) rfl ?_
    refine AO.val (RV.pickF rfl rfl) (.none rfl) rfl ?_
    refine AO.nil ?_
    refine AK.condF rfl ?_
    refine AK.skip ?_
    refine AK.seq ?_
    refine AK.region ?_
    refine AO.val (by first | exact RV.loadAggO rfl rfl (by first | simp | assumption) | exact RV.loadAggP rfl rfl rfl (by first | simp | assumption)) (.none rfl) rfl ?_
    refine AO.val (RV.move rfl) (.none rfl) rfl ?_
    refine AO.eff (EF.callF rfl (vipat_spec B _ f (fi.mono fun x hx => by simp [hx]) (by omega) _)) (.none rfl) rfl ?_
    rintro _ _ ⟨rfl, kv, rfl, hkv⟩
    refine AO.val (RV.assign rfl) (.none rfl) rfl ?_
    refine AO.nil ?_
    refine AK.seq ?_
    refine AK.seq ?_
    refine AK.region ?_
    refine AO.val (RV.move rfl) (.none rfl) rfl ?_
    refine AO.val (RV.lss rfl rfl) (.none rfl) rfl ?_
    refine AO.nil ?_
    refine AK.cond rfl ?_ ?_
    · intro hc10
      try simp only [decide_eq_true_eq, decide_eq_false_iff_not, Bool.not_eq_true', Bool.not_eq_false', beq_iff_eq] at hc10
      refine AK.seq ?_
      refine AK.region ?_
      refine AO.val (by first | exact RV.loadAggO rfl rfl (by first | simp | assumption) | exact RV.loadAggP rfl rfl rfl (by first | simp | assumption)) (.none rfl) rfl ?_
      refine AO.effN (EF.storeO rfl rfl rfl rfl rfl rfl) (.none rfl) ?_
      rintro _ _ rfl
      refine AO.val (RV.assign rfl) (.none rfl) rfl ?_
      refine AO.nil ?_
      -- at fT
      refine AK.ret (h' := h) Try.func22 (.aggO rfl rfl (.tmp rfl .nil)) ?_ (by first | exact SubO.sub | exact List.Sublist.append_left (.cons _ (List.Sublist.refl _)) _ | exact List.Sublist.append_left (.cons _ (.cons _ (List.Sublist.refl _))) _ | exact List.Sublist.append_left (.cons _ (.cons _ (.cons _ (List.Sublist.refl _)))) _ | exact List.Sublist.append_left (.cons _ (.cons _ (.cons _ (.cons _ (List.Sublist.refl _))))) _ | exact List.Sublist.append_left (.cons _ (.cons _ (.cons _ (.cons _ (.cons _ (List.Sublist.refl _)))))) _ | exact List.Sublist.append_left (.cons _ (.cons _ (.cons _ (.cons _ (.cons _ (.cons _ (List.Sublist.refl _))))))) _)
      exact ⟨f, [], _, rfl, fiD, fo, rfl⟩
    · intro hc10
      try simp only [decide_eq_true_eq, decide_eq_false_iff_not, Bool.not_eq_true', Bool.not_eq_false', beq_iff_eq] at hc10
      have hkv2 : 0 ≤ kv ∧ kv < f.vs.l.length := by
        rcases hkv with h1 | h1
        · exact absurd h1.1 (by omega)
        · exact ⟨h1.1, h1.2.1⟩
      refine AK.skip ?_
      refine AK.seq ?_
      refine AK.seq ?_
      refine AK.region ?_
      refine AO.val (RV.move rfl) (.none rfl) rfl ?_
      refine AO.val (RV.eql rfl rfl) (.none rfl) rfl ?_
      refine AO.val (RV.move rfl) (.none rfl) rfl ?_
      refine AO.caseG rfl rfl rfl ?_ ?_
      · intro hg11
        try simp only [decide_eq_true_eq, decide_eq_false_iff_not, Bool.not_eq_true', Bool.not_eq_false', beq_iff_eq] at hg11
        refine AO.val (by first | exact RV.fieldAddr rfl | exact RV.fieldAddrA rfl) (.some rfl rfl rfl rfl) rfl ?_
        refine AO.val (by first | exact RV.loadO rfl rfl (by first | simp | assumption) | exact RV.loadSF rfl (by assumption) (fun _ => rfl) (by omega) rfl rfl (by first | simp | assumption) | exact RV.loadS rfl (by assumption) (by omega) (by first | simp | assumption)) (.some rfl rfl rfl rfl) rfl ?_
        refine AO.val (RV.move rfl) (.some rfl rfl rfl rfl) rfl ?_
        refine AO.val (RV.indexS rfl rfl fi.sv (by omega) rfl) (.some rfl rfl rfl rfl) rfl ?_
        refine AO.val (by first | exact RV.fieldAddr rfl | exact RV.fieldAddrA rfl) (.some rfl rfl rfl rfl) rfl ?_
        refine AO.val (RV.loadSF (enc := encV) (l := f.vs.l) (fo := 3) rfl fi.sv (fun _ => rfl) (by omega) rfl rfl (by simp)) (.some rfl rfl rfl rfl) rfl ?_
        refine AO.val (RV.neq rfl rfl) (.some rfl rfl rfl rfl) rfl ?_
        refine AO.val (RV.pickT rfl rfl) (.none rfl) rfl ?_
        refine AO.nil ?_
        refine AK.cond rfl ?_ ?_
        · intro hc12
          try simp only [decide_eq_true_eq, decide_eq_false_iff_not, Bool.not_eq_true', Bool.not_eq_false', beq_iff_eq] at hc12
          refine AK.seq ?_
          refine AK.region ?_
          refine AO.val (by first | exact RV.loadAggO rfl rfl (by first | simp | assumption) | exact RV.loadAggP rfl rfl rfl (by first | simp | assumption)) (.none rfl) rfl ?_
          refine AO.effN (EF.storeO rfl rfl rfl rfl rfl rfl) (.none rfl) ?_
          rintro _ _ rfl
          refine AO.val (RV.assign rfl) (.none rfl) rfl ?_
          refine AO.nil ?_
          -- at fFtT
          refine AK.ret (h' := h) Try.func22 (.aggO rfl rfl (.tmp rfl .nil)) ?_ (by first | exact SubO.sub | exact List.Sublist.append_left (.cons _ (List.Sublist.refl _)) _ | exact List.Sublist.append_left (.cons _ (.cons _ (List.Sublist.refl _))) _ | exact List.Sublist.append_left (.cons _ (.cons _ (.cons _ (List.Sublist.refl _)))) _ | exact List.Sublist.append_left (.cons _ (.cons _ (.cons _ (.cons _ (List.Sublist.refl _))))) _ | exact List.Sublist.append_left (.cons _ (.cons _ (.cons _ (.cons _ (.cons _ (List.Sublist.refl _)))))) _ | exact List.Sublist.append_left (.cons _ (.cons _ (.cons _ (.cons _ (.cons _ (.cons _ (List.Sublist.refl _))))))) _)
          exact ⟨f, [], _, rfl, fiD, fo, rfl⟩
        · intro hc12
          try simp only [decide_eq_true_eq, decide_eq_false_iff_not, Bool.not_eq_true', Bool.not_eq_false', beq_iff_eq] at hc12
          refine AK.skip ?_
          refine AK.seq ?_
          refine AK.region ?_
          refine AO.val (by first | exact RV.fieldAddr rfl | exact RV.fieldAddrA rfl) (.none rfl) rfl ?_
          refine AO.val (by first | exact RV.loadO rfl rfl (by first | simp | assumption) | exact RV.loadSF rfl (by assumption) (fun _ => rfl) (by omega) rfl rfl (by first | simp | assumption) | exact RV.loadS rfl (by assumption) (by omega) (by first | simp | assumption)) (.none rfl) rfl ?_
          refine AO.val (RV.build rfl (.cons rfl rfl rfl rfl .nil)) (.none rfl) rfl ?_
          refine AO.eff (EF.alloc) (.none rfl) rfl ?_
          rintro _ _ ⟨b9, hf9, rfl, rfl⟩
          refine AO.effN (EF.storeO rfl rfl rfl rfl rfl rfl) (.none rfl) ?_
          rintro _ _ rfl
          refine AO.nil ?_
          refine AK.seq ?_
          refine AK.seq ?_
          refine AK.region ?_
          refine AO.val (RV.assign rfl) (.none rfl) rfl ?_
          refine AO.nil ?_
          refine AK.block ?_
          refine AK.loop (α := Int × Option Addr × Nat × Own × List VpT) (E := fun (i, Ao, co, po, out) => [(2, .int .i64 m), (3, .pointer (some ⟨b3, 0, none⟩)), (6, .pointer (some ⟨b6, 0, none⟩)), (8, .int .i64 kv), (9, .pointer (some ⟨b9, 0, none⟩)), (10, .int .i64 i)]) (H := fun (i, Ao, co, po, out) => po ++ ((b9, Blk.cells [.slice Ao out.length co, .slice f.bs.A f.bs.l.length f.bs.cap] 37 (0, 0)) :: (b6, Blk.cells (encFM ZF) 37 (0, 0)) :: (b3, Blk.cells (encFM f) 37 (0, 0)) :: h)) (Inv := fun (i, Ao, co, po, out) => 0 ≤ i ∧ i ≤ f.vs.l.length ∧ Row 41 5 (.slice Ao out.length co) out.length (flat encV out) po ∧ out.length ≤ co ∧ (out.length : Int) = i ∧ out.map (·.1) = (f.vs.l.take i.toNat).map (·.1)) (μ := fun (i, Ao, co, po, out) => (f.vs.l.length - i).toNat) (0, none, 0, [], []) ?_ (.cons (by exact rfl) (.cons (by exact rfl) (.cons (by exact rfl) (.cons (by exact rfl) (.cons (by exact rfl) (.cons (by exact rfl) .nil)))))) ?_ ?_
          · exact ⟨by omega, by omega, .nil, Nat.le_refl 0, by simp, by simp⟩
          · exact (by first | exact SubO.sub | exact List.Sublist.refl _ | exact .cons _ (List.Sublist.refl _) | exact .cons _ (.cons _ (List.Sublist.refl _)) | exact .cons _ (.cons _ (.cons _ (List.Sublist.refl _))))
          rintro ⟨i, Ao, co, po, out⟩ ⟨hi0, hi1, hro, hco, hol, hou⟩ hih0
          try dsimp only at hih0 ⊢
          refine AK.seq ?_
          refine AK.seq ?_
          refine AK.region ?_
          refine AO.val (RV.move rfl) (.none rfl) rfl ?_
          refine AO.val (by first | exact RV.fieldAddr rfl | exact RV.fieldAddrA rfl) (.none rfl) rfl ?_
          refine AO.val (by first | exact RV.loadO rfl rfl (by first | simp | assumption) | exact RV.loadSF rfl (by assumption) (fun _ => rfl) (by omega) rfl rfl (by first | simp | assumption) | exact RV.loadS rfl (by assumption) (by omega) (by first | simp | assumption)) (.none rfl) rfl ?_
          refine AO.val (RV.lenS rfl) (.none rfl) rfl ?_
          refine AO.val (RV.lss rfl rfl) (.none rfl) rfl ?_
          refine AO.nil ?_
          refine AK.cond rfl ?_ ?_
          · intro hc13
            try simp only [decide_eq_true_eq, decide_eq_false_iff_not, Bool.not_eq_true', Bool.not_eq_false', beq_iff_eq] at hc13
            refine AK.skip ?_
            refine AK.seq ?_
            refine AK.block ?_
            refine AK.seq ?_
            refine AK.region ?_
            refine AO.val (by first | exact RV.fieldAddr rfl | exact RV.fieldAddrA rfl) (.none rfl) rfl ?_
            refine AO.val (by first | exact RV.loadO rfl rfl (by first | simp | assumption) | exact RV.loadSF rfl (by assumption) (fun _ => rfl) (by omega) rfl rfl (by first | simp | assumption) | exact RV.loadS rfl (by assumption) (by omega) (by first | simp | assumption)) (.none rfl) rfl ?_
            refine AO.val (RV.move rfl) (.none rfl) rfl ?_
            refine AO.val (RV.indexS rfl rfl fi.sv (by omega) rfl) (.none rfl) rfl ?_
            refine AO.val (RV.loadSA (enc := encV) (l := f.vs.l) rfl fi.sv (fun _ => rfl) (by omega) (by simp)) (.none rfl) rfl ?_
            refine AO.eff (EF.alloc) (.none rfl) rfl ?_
            rintro _ _ ⟨b11, hf11, rfl, rfl⟩
            refine AO.effN (EF.storeO rfl rfl rfl rfl rfl rfl) (.none rfl) ?_
            rintro _ _ rfl
            refine AO.nil ?_
            refine AK.seq ?_
            refine AK.seq ?_
            refine AK.region ?_
            refine AO.val (RV.move rfl) (.none rfl) rfl ?_
            refine AO.val (RV.move rfl) (.none rfl) rfl ?_
            refine AO.val (RV.eql rfl rfl) (.none rfl) rfl ?_
            refine AO.nil ?_
            refine AK.cond rfl ?_ ?_
            · intro hc14
              try simp only [decide_eq_true_eq, decide_eq_false_iff_not, Bool.not_eq_true', Bool.not_eq_false', beq_iff_eq] at hc14
              refine AK.region ?_
              refine AO.val (RV.move rfl) (.none rfl) rfl ?_
              refine AO.val (by first | exact RV.fieldAddr rfl | exact RV.fieldAddrA rfl) (.none rfl) rfl ?_
              refine AO.effN (EF.storeO rfl rfl rfl rfl rfl rfl) (.none rfl) ?_
              rintro _ _ rfl
              refine AO.nil ?_
              refine AK.region ?_
              refine AO.val (by first | exact RV.fieldAddr rfl | exact RV.fieldAddrA rfl) (.none rfl) rfl ?_
              refine AO.val (by first | exact RV.loadO rfl rfl (by first | simp | assumption) | exact RV.loadSF rfl (by assumption) (fun _ => rfl) (by omega) rfl rfl (by first | simp | assumption) | exact RV.loadS rfl (by assumption) (by omega) (by first | simp | assumption)) (.none rfl) rfl ?_
              refine AO.val (by first | exact RV.loadAggO rfl rfl (by first | simp | assumption) | exact RV.loadAggP rfl rfl rfl (by first | simp | assumption)) (.none rfl) rfl ?_
              refine AO.eff (EF.buildSlice rfl rfl rfl (.cons rfl rfl rfl rfl .nil)) (.none rfl) rfl ?_
              rintro _ _ ⟨b60, hf60, rfl, rfl⟩
              refine AO.eff (EF.appendS (n' := (out ++ [(((lget f.vs.l i).1, (lget f.vs.l i).2.1, (lget f.vs.l i).2.2.1, (lget f.vs.l i).2.2.2.1, m, ()) : VpT)]).length) (ys := flat encV (out ++ [(((lget f.vs.l i).1, (lget f.vs.l i).2.1, (lget f.vs.l i).2.2.1, (lget f.vs.l i).2.2.2.1, m, ()) : VpT)])) rfl rfl hro (Src.of_new (el := 41) (cs := encV (((lget f.vs.l i).1, (lget f.vs.l i).2.1, (lget f.vs.l i).2.2.1, (lget f.vs.l i).2.2.2.1, m, ()) : VpT)) List.mem_cons_self 1 5 (Nat.le_refl _)) (by simp) (flat_snoc encV out _) rfl (by decide) rfl (by (try simp only [List.length_append, List.length_cons, List.length_nil]); omega) (by (try simp only [List.length_append, List.length_cons, List.length_nil]); omega)) (.none rfl) rfl ?_
              rintro _ _ ⟨A61, c61, p61, rfl, hr61, hc61, rfl⟩
              refine AO.val (by first | exact RV.fieldAddr rfl | exact RV.fieldAddrA rfl) (.none rfl) rfl ?_
              refine AO.effN (EF.storeO rfl rfl rfl rfl rfl rfl) (.none rfl) ?_
              rintro _ _ rfl
              refine AO.nil ?_
              refine AK.inBlock ?_
              refine AK.region ?_
              refine AO.val (RV.move rfl) (.none rfl) rfl ?_
              refine AO.val (by first | exact RV.addIn rfl rfl (by omega) | exact RV.add rfl rfl) (.none rfl) rfl ?_
              refine AO.val (RV.assign rfl) (.none rfl) rfl ?_
              refine AO.nil ?_
              -- round ends at fFtFL0TT
              refine AK.weak (.cons (by exact rfl) (.cons (by exact rfl) (.cons (by exact rfl) (.cons (by exact rfl) (.cons (by exact rfl) (.cons (by exact rfl) .nil)))))) (by first | exact SubO.sub | exact List.Sublist.append_left (.cons _ (List.Sublist.refl _)) _ | exact List.Sublist.append_left (.cons _ (.cons _ (List.Sublist.refl _))) _ | exact List.Sublist.append_left (.cons _ (.cons _ (.cons _ (List.Sublist.refl _)))) _ | exact List.Sublist.append_left (.cons _ (.cons _ (.cons _ (.cons _ (List.Sublist.refl _))))) _ | exact List.Sublist.append_left (.cons _ (.cons _ (.cons _ (.cons _ (.cons _ (List.Sublist.refl _)))))) _ | exact List.Sublist.append_left (.cons _ (.cons _ (.cons _ (.cons _ (.cons _ (.cons _ (List.Sublist.refl _))))))) _) (hih0 (i + 1, A61, c61, p61, out ++ [(((lget f.vs.l i).1, (lget f.vs.l i).2.1, (lget f.vs.l i).2.2.1, (lget f.vs.l i).2.2.2.1, m, ()) : VpT)]) ?_ ?_)
              · try dsimp only
                refine ⟨by omega, by omega, hr61, hc61, by simp; omega, ?_⟩
                rw [take_step (fun x : VpT => x.1) hi0 (by omega), List.map_append, hou]; rfl
              · try dsimp only
                omega
            · intro hc14
              try simp only [decide_eq_true_eq, decide_eq_false_iff_not, Bool.not_eq_true', Bool.not_eq_false', beq_iff_eq] at hc14
              refine AK.skip ?_
              refine AK.region ?_
              refine AO.val (by first | exact RV.fieldAddr rfl | exact RV.fieldAddrA rfl) (.none rfl) rfl ?_
              refine AO.val (by first | exact RV.loadO rfl rfl (by first | simp | assumption) | exact RV.loadSF rfl (by assumption) (fun _ => rfl) (by omega) rfl rfl (by first | simp | assumption) | exact RV.loadS rfl (by assumption) (by omega) (by first | simp | assumption)) (.none rfl) rfl ?_
              refine AO.val (by first | exact RV.loadAggO rfl rfl (by first | simp | assumption) | exact RV.loadAggP rfl rfl rfl (by first | simp | assumption)) (.none rfl) rfl ?_
              refine AO.eff (EF.buildSlice rfl rfl rfl (.cons rfl rfl rfl rfl .nil)) (.none rfl) rfl ?_
              rintro _ _ ⟨b60, hf60, rfl, rfl⟩
              refine AO.eff (EF.appendS (n' := (out ++ [(lget f.vs.l i)]).length) (ys := flat encV (out ++ [(lget f.vs.l i)])) rfl rfl hro (Src.of_new (el := 41) (cs := encV (lget f.vs.l i)) List.mem_cons_self 1 5 (Nat.le_refl _)) (by simp) (flat_snoc encV out _) rfl (by decide) rfl (by (try simp only [List.length_append, List.length_cons, List.length_nil]); omega) (by (try simp only [List.length_append, List.length_cons, List.length_nil]); omega)) (.none rfl) rfl ?_
              rintro _ _ ⟨A61, c61, p61, rfl, hr61, hc61, rfl⟩
              refine AO.val (by first | exact RV.fieldAddr rfl | exact RV.fieldAddrA rfl) (.none rfl) rfl ?_
              refine AO.effN (EF.storeO rfl rfl rfl rfl rfl rfl) (.none rfl) ?_
              rintro _ _ rfl
              refine AO.nil ?_
              refine AK.inBlock ?_
              refine AK.region ?_
              refine AO.val (RV.move rfl) (.none rfl) rfl ?_
              refine AO.val (by first | exact RV.addIn rfl rfl (by omega) | exact RV.add rfl rfl) (.none rfl) rfl ?_
              refine AO.val (RV.assign rfl) (.none rfl) rfl ?_
              refine AO.nil ?_
              -- round ends at fFtFL0TF
              refine AK.weak (.cons (by exact rfl) (.cons (by exact rfl) (.cons (by exact rfl) (.cons (by exact rfl) (.cons (by exact rfl) (.cons (by exact rfl) .nil)))))) (by first | exact SubO.sub | exact List.Sublist.append_left (.cons _ (List.Sublist.refl _)) _ | exact List.Sublist.append_left (.cons _ (.cons _ (List.Sublist.refl _))) _ | exact List.Sublist.append_left (.cons _ (.cons _ (.cons _ (List.Sublist.refl _)))) _ | exact List.Sublist.append_left (.cons _ (.cons _ (.cons _ (.cons _ (List.Sublist.refl _))))) _ | exact List.Sublist.append_left (.cons _ (.cons _ (.cons _ (.cons _ (.cons _ (List.Sublist.refl _)))))) _ | exact List.Sublist.append_left (.cons _ (.cons _ (.cons _ (.cons _ (.cons _ (.cons _ (List.Sublist.refl _))))))) _) (hih0 (i + 1, A61, c61, p61, out ++ [(lget f.vs.l i)]) ?_ ?_)
              · try dsimp only
                refine ⟨by omega, by omega, hr61, hc61, by simp; omega, ?_⟩
                rw [take_step (fun x : VpT => x.1) hi0 (by omega), List.map_append, hou]; rfl
              · try dsimp only
                omega
          · intro hc13
            try simp only [decide_eq_true_eq, decide_eq_false_iff_not, Bool.not_eq_true', Bool.not_eq_false', beq_iff_eq] at hc13
            refine AK.exit rfl ?_
            refine AK.seq ?_
            refine AK.region ?_
            refine AO.val (by first | exact RV.loadAggO rfl rfl (by first | simp | assumption) | exact RV.loadAggP rfl rfl rfl (by first | simp | assumption)) (.none rfl) rfl ?_
            refine AO.effN (EF.storeO rfl rfl rfl rfl rfl rfl) (.none rfl) ?_
            rintro _ _ rfl
            refine AO.val (RV.assign rfl) (.none rfl) rfl ?_
            refine AO.nil ?_
            -- at fFtFL0F
            clear hih0
            refine AK.ret (h' := po ++ h) Try.func22 (.aggO rfl rfl (.tmp rfl .nil)) ?_ (by first | exact SubO.sub | exact List.Sublist.append_left (.cons _ (List.Sublist.refl _)) _ | exact List.Sublist.append_left (.cons _ (.cons _ (List.Sublist.refl _))) _ | exact List.Sublist.append_left (.cons _ (.cons _ (.cons _ (List.Sublist.refl _)))) _ | exact List.Sublist.append_left (.cons _ (.cons _ (.cons _ (.cons _ (List.Sublist.refl _))))) _ | exact List.Sublist.append_left (.cons _ (.cons _ (.cons _ (.cons _ (.cons _ (List.Sublist.refl _)))))) _ | exact List.Sublist.append_left (.cons _ (.cons _ (.cons _ (.cons _ (.cons _ (.cons _ (List.Sublist.refl _))))))) _)
            rw [List.take_of_length_le (by omega)] at hou
            refine ⟨⟨⟨Ao, co, out⟩, f.bs⟩, po, _, rfl, ⟨hro.src fun x hx => by simp [hx], hco, fiD.sb.mono fun x hx => by simp [hx], fi.cb⟩, fo.withV (by omega) (fun x hx => ?_) (fun x hx => ?_), rfl⟩
            · have h1 : x.1 ∈ out.map (·.1) := List.mem_map.2 ⟨x, hx, rfl⟩
              rw [hou] at h1
              obtain ⟨z, hz, e⟩ := List.mem_map.1 h1
              rw [← e]; exact fo.idv z hz
            · rw [hou]; exact List.mem_map.2 ⟨x, hx, rfl⟩
      · intro hg11
        try simp only [decide_eq_true_eq, decide_eq_false_iff_not, Bool.not_eq_true', Bool.not_eq_false', beq_iff_eq] at hg11
        refine AO.pass (.some rfl rfl rfl rfl) rfl ?_
        refine AO.pass (.some rfl rfl rfl rfl) rfl ?_
        refine AO.pass (.some rfl rfl rfl rfl) rfl ?_
        refine AO.pass (.some rfl rfl rfl rfl) rfl ?_
        refine AO.pass (.some rfl rfl rfl rfl) rfl ?_
        refine AO.pass (.some rfl rfl rfl rfl) rfl ?_
        refine AO.pass (.some rfl rfl rfl rfl) rfl ?_
        refine AO.val (RV.pickF rfl rfl) (.none rfl) rfl ?_
        refine AO.nil ?_
        refine AK.condF rfl ?_
        refine AK.skip ?_
        refine AK.seq ?_
        refine AK.region ?_
        refine AO.val (by first | exact RV.fieldAddr rfl | exact RV.fieldAddrA rfl) (.none rfl) rfl ?_
        refine AO.val (by first | exact RV.loadO rfl rfl (by first | simp | assumption) | exact RV.loadSF rfl (by assumption) (fun _ => rfl) (by omega) rfl rfl (by first | simp | assumption) | exact RV.loadS rfl (by assumption) (by omega) (by first | simp | assumption)) (.none rfl) rfl ?_
        refine AO.val (RV.build rfl (.cons rfl rfl rfl rfl .nil)) (.none rfl) rfl ?_
        refine AO.eff (EF.alloc) (.none rfl) rfl ?_
        rintro _ _ ⟨b9, hf9, rfl, rfl⟩
        refine AO.effN (EF.storeO rfl rfl rfl rfl rfl rfl) (.none rfl) ?_
        rintro _ _ rfl
        refine AO.nil ?_
        refine AK.seq ?_
        refine AK.seq ?_
        refine AK.region ?_
        refine AO.val (RV.assign rfl) (.none rfl) rfl ?_
        refine AO.nil ?_
        refine AK.block ?_
        refine AK.loop (α := Int × Option Addr × Nat × Own × List VpT) (E := fun (i, Ao, co, po, out) => [(2, .int .i64 m), (3, .pointer (some ⟨b3, 0, none⟩)), (6, .pointer (some ⟨b6, 0, none⟩)), (8, .int .i64 kv), (9, .pointer (some ⟨b9, 0, none⟩)), (10, .int .i64 i)]) (H := fun (i, Ao, co, po, out) => po ++ ((b9, Blk.cells [.slice Ao out.length co, .slice f.bs.A f.bs.l.length f.bs.cap] 37 (0, 0)) :: (b6, Blk.cells (encFM ZF) 37 (0, 0)) :: (b3, Blk.cells (encFM f) 37 (0, 0)) :: h)) (Inv := fun (i, Ao, co, po, out) => 0 ≤ i ∧ i ≤ f.vs.l.length ∧ Row 41 5 (.slice Ao out.length co) out.length (flat encV out) po ∧ out.length ≤ co ∧ (out.length : Int) = i ∧ out.map (·.1) = (f.vs.l.take i.toNat).map (·.1)) (μ := fun (i, Ao, co, po, out) => (f.vs.l.length - i).toNat) (0, none, 0, [], []) ?_ (.cons (by exact rfl) (.cons (by exact rfl) (.cons (by exact rfl) (.cons (by exact rfl) (.cons (by exact rfl) (.cons (by exact rfl) .nil)))))) ?_ ?_
        · exact ⟨by omega, by omega, .nil, Nat.le_refl 0, by simp, by simp⟩
        · exact (by first | exact SubO.sub | exact List.Sublist.refl _ | exact .cons _ (List.Sublist.refl _) | exact .cons _ (.cons _ (List.Sublist.refl _)) | exact .cons _ (.cons _ (.cons _ (List.Sublist.refl _))))
        rintro ⟨i, Ao, co, po, out⟩ ⟨hi0, hi1, hro, hco, hol, hou⟩ hih0
        try dsimp only at hih0 ⊢
        refine AK.seq ?_
        refine AK.seq ?_
        refine AK.region ?_
        refine AO.val (RV.move rfl) (.none rfl) rfl ?_
        refine AO.val (by first | exact RV.fieldAddr rfl | exact RV.fieldAddrA rfl) (.none rfl) rfl ?_
        refine AO.val (by first | exact RV.loadO rfl rfl (by first | simp | assumption) | exact RV.loadSF rfl (by assumption) (fun _ => rfl) (by omega) rfl rfl (by first | simp | assumption) | exact RV.loadS rfl (by assumption) (by omega) (by first | simp | assumption)) (.none rfl) rfl ?_
        refine AO.val (RV.lenS rfl) (.none rfl) rfl ?_
        refine AO.val (RV.lss rfl rfl) (.none rfl) rfl ?_
        refine AO.nil ?_
        refine AK.cond rfl ?_ ?_
        · intro hc15
          try simp only [decide_eq_true_eq, decide_eq_false_iff_not, Bool.not_eq_true', Bool.not_eq_false', beq_iff_eq] at hc15
          refine AK.skip ?_
          refine AK.seq ?_
          refine AK.block ?_
          refine AK.seq ?_
          refine AK.region ?_
          refine AO.val (by first | exact RV.fieldAddr rfl | exact RV.fieldAddrA rfl) (.none rfl) rfl ?_
          refine AO.val (by first | exact RV.loadO rfl rfl (by first | simp | assumption) | exact RV.loadSF rfl (by assumption) (fun _ => rfl) (by omega) rfl rfl (by first | simp | assumption) | exact RV.loadS rfl (by assumption) (by omega) (by first | simp | assumption)) (.none rfl) rfl ?_
          refine AO.val (RV.move rfl) (.none rfl) rfl ?_
          refine AO.val (RV.indexS rfl rfl fi.sv (by omega) rfl) (.none rfl) rfl ?_
          refine AO.val (RV.loadSA (enc := encV) (l := f.vs.l) rfl fi.sv (fun _ => rfl) (by omega) (by simp)) (.none rfl) rfl ?_
          refine AO.eff (EF.alloc) (.none rfl) rfl ?_
          rintro _ _ ⟨b11, hf11, rfl, rfl⟩
          refine AO.effN (EF.storeO rfl rfl rfl rfl rfl rfl) (.none rfl) ?_
          rintro _ _ rfl
          refine AO.nil ?_
          refine AK.seq ?_
          refine AK.seq ?_
          refine AK.region ?_
          refine AO.val (RV.move rfl) (.none rfl) rfl ?_
          refine AO.val (RV.move rfl) (.none rfl) rfl ?_
          refine AO.val (RV.eql rfl rfl) (.none rfl) rfl ?_
          refine AO.nil ?_
          refine AK.cond rfl ?_ ?_
          · intro hc16
            try simp only [decide_eq_true_eq, decide_eq_false_iff_not, Bool.not_eq_true', Bool.not_eq_false', beq_iff_eq] at hc16
            refine AK.region ?_
            refine AO.val (RV.move rfl) (.none rfl) rfl ?_
            refine AO.val (by first | exact RV.fieldAddr rfl | exact RV.fieldAddrA rfl) (.none rfl) rfl ?_
            refine AO.effN (EF.storeO rfl rfl rfl rfl rfl rfl) (.none rfl) ?_
            rintro _ _ rfl
            refine AO.nil ?_
            refine AK.region ?_
            refine AO.val (by first | exact RV.fieldAddr rfl | exact RV.fieldAddrA rfl) (.none rfl) rfl ?_
            refine AO.val (by first | exact RV.loadO rfl rfl (by first | simp | assumption) | exact RV.loadSF rfl (by assumption) (fun _ => rfl) (by omega) rfl rfl (by first | simp | assumption) | exact RV.loadS rfl (by assumption) (by omega) (by first | simp | assumption)) (.none rfl) rfl ?_
            refine AO.val (by first | exact RV.loadAggO rfl rfl (by first | simp | assumption) | exact RV.loadAggP rfl rfl rfl (by first | simp | assumption)) (.none rfl) rfl ?_
            refine AO.eff (EF.buildSlice rfl rfl rfl (.cons rfl rfl rfl rfl .nil)) (.none rfl) rfl ?_
            rintro _ _ ⟨b60, hf60, rfl, rfl⟩
            refine AO.eff (EF.appendS (n' := (out ++ [(((lget f.vs.l i).1, (lget f.vs.l i).2.1, (lget f.vs.l i).2.2.1, (lget f.vs.l i).2.2.2.1, m, ()) : VpT)]).length) (ys := flat encV (out ++ [(((lget f.vs.l i).1, (lget f.vs.l i).2.1, (lget f.vs.l i).2.2.1, (lget f.vs.l i).2.2.2.1, m, ()) : VpT)])) rfl rfl hro (Src.of_new (el := 41) (cs := encV (((lget f.vs.l i).1, (lget f.vs.l i).2.1, (lget f.vs.l i).2.2.1, (lget f.vs.l i).2.2.2.1, m, ()) : VpT)) List.mem_cons_self 1 5 (Nat.le_refl _)) (by simp) (flat_snoc encV out _) rfl (by decide) rfl (by (try simp only [List.length_append, List.length_cons, List.length_nil]); omega) (by (try simp only [List.length_append, List.length_cons, List.length_nil]); omega)) (.none rfl) rfl ?_
            rintro _ _ ⟨A61, c61, p61, rfl, hr61, hc61, rfl⟩
            refine AO.val (by first | exact RV.fieldAddr rfl | exact RV.fieldAddrA rfl) (.none rfl) rfl ?_
            refine AO.effN (EF.storeO rfl rfl rfl rfl rfl rfl) (.none rfl) ?_
            rintro _ _ rfl
            refine AO.nil ?_
            refine AK.inBlock ?_
            refine AK.region ?_
            refine AO.val (RV.move rfl) (.none rfl) rfl ?_
            refine AO.val (by first | exact RV.addIn rfl rfl (by omega) | exact RV.add rfl rfl) (.none rfl) rfl ?_
            refine AO.val (RV.assign rfl) (.none rfl) rfl ?_
            refine AO.nil ?_
            -- round ends at fFfL0TT
            refine AK.weak (.cons (by exact rfl) (.cons (by exact rfl) (.cons (by exact rfl) (.cons (by exact rfl) (.cons (by exact rfl) (.cons (by exact rfl) .nil)))))) (by first | exact SubO.sub | exact List.Sublist.append_left (.cons _ (List.Sublist.refl _)) _ | exact List.Sublist.append_left (.cons _ (.cons _ (List.Sublist.refl _))) _ | exact List.Sublist.append_left (.cons _ (.cons _ (.cons _ (List.Sublist.refl _)))) _ | exact List.Sublist.append_left (.cons _ (.cons _ (.cons _ (.cons _ (List.Sublist.refl _))))) _ | exact List.Sublist.append_left (.cons _ (.cons _ (.cons _ (.cons _ (.cons _ (List.Sublist.refl _)))))) _ | exact List.Sublist.append_left (.cons _ (.cons _ (.cons _ (.cons _ (.cons _ (.cons _ (List.Sublist.refl _))))))) _) (hih0 (i + 1, A61, c61, p61, out ++ [(((lget f.vs.l i).1, (lget f.vs.l i).2.1, (lget f.vs.l i).2.2.1, (lget f.vs.l i).2.2.2.1, m, ()) : VpT)]) ?_ ?_)
            · try dsimp only
              refine ⟨by omega, by omega, hr61, hc61, by simp; omega, ?_⟩
              rw [take_step (fun x : VpT => x.1) hi0 (by omega), List.map_append, hou]; rfl
            · try dsimp only
              omega
          · intro hc16
            try simp only [decide_eq_true_eq, decide_eq_false_iff_not, Bool.not_eq_true', Bool.not_eq_false', beq_iff_eq] at hc16
            refine AK.skip ?_
            refine AK.region ?_
            refine AO.val (by first | exact RV.fieldAddr rfl | exact RV.fieldAddrA rfl) (.none rfl) rfl ?_
            refine AO.val (by first | exact RV.loadO rfl rfl (by first | simp | assumption) | exact RV.loadSF rfl (by assumption) (fun _ => rfl) (by omega) rfl rfl (by first | simp | assumption) | exact RV.loadS rfl (by assumption) (by omega) (by first | simp | assumption)) (.none rfl) rfl ?_
            refine AO.val (by first | exact RV.loadAggO rfl rfl (by first | simp | assumption) | exact RV.loadAggP rfl rfl rfl (by first | simp | assumption)) (.none rfl) rfl ?_
            refine AO.eff (EF.buildSlice rfl rfl rfl (.cons rfl rfl rfl rfl .nil)) (.none rfl) rfl ?_
            rintro _ _ ⟨b60, hf60, rfl, rfl⟩
            refine AO.eff (EF.appendS (n' := (out ++ [(lget f.vs.l i)]).length) (ys := flat encV (out ++ [(lget f.vs.l i)])) rfl rfl hro (Src.of_new (el := 41) (cs := encV (lget f.vs.l i)) List.mem_cons_self 1 5 (Nat.le_refl _)) (by simp) (flat_snoc encV out _) rfl (by decide) rfl (by (try simp only [List.length_append, List.length_cons, List.length_nil]); omega) (by (try simp only [List.length_append, List.length_cons, List.length_nil]); omega)) (.none rfl) rfl ?_
            rintro _ _ ⟨A61, c61, p61, rfl, hr61, hc61, rfl⟩
            refine AO.val (by first | exact RV.fieldAddr rfl | exact RV.fieldAddrA rfl) (.none rfl) rfl ?_
            refine AO.effN (EF.storeO rfl rfl rfl rfl rfl rfl) (.none rfl) ?_
            rintro _ _ rfl
            refine AO.nil ?_
            refine AK.inBlock ?_
            refine AK.region ?_
            refine AO.val (RV.move rfl) (.none rfl) rfl ?_
            refine AO.val (by first | exact RV.addIn rfl rfl (by omega) | exact RV.add rfl rfl) (.none rfl) rfl ?_
            refine AO.val (RV.assign rfl) (.none rfl) rfl ?_
            refine AO.nil ?_
            -- round ends at fFfL0TF
            refine AK.weak (.cons (by exact rfl) (.cons (by exact rfl) (.cons (by exact rfl) (.cons (by exact rfl) (.cons (by exact rfl) (.cons (by exact rfl) .nil)))))) (by first | exact SubO.sub | exact List.Sublist.append_left (.cons _ (List.Sublist.refl _)) _ | exact List.Sublist.append_left (.cons _ (.cons _ (List.Sublist.refl _))) _ | exact List.Sublist.append_left (.cons _ (.cons _ (.cons _ (List.Sublist.refl _)))) _ | exact List.Sublist.append_left (.cons _ (.cons _ (.cons _ (.cons _ (List.Sublist.refl _))))) _ | exact List.Sublist.append_left (.cons _ (.cons _ (.cons _ (.cons _ (.cons _ (List.Sublist.refl _)))))) _ | exact List.Sublist.append_left (.cons _ (.cons _ (.cons _ (.cons _ (.cons _ (.cons _ (List.Sublist.refl _))))))) _) (hih0 (i + 1, A61, c61, p61, out ++ [(lget f.vs.l i)]) ?_ ?_)
            · try dsimp only
              refine ⟨by omega, by omega, hr61, hc61, by simp; omega, ?_⟩
              rw [take_step (fun x : VpT => x.1) hi0 (by omega), List.map_append, hou]; rfl
            · try dsimp only
              omega
        · intro hc15
          try simp only [decide_eq_true_eq, decide_eq_false_iff_not, Bool.not_eq_true', Bool.not_eq_false', beq_iff_eq] at hc15
          refine AK.exit rfl ?_
          refine AK.seq ?_
          refine AK.region ?_
          refine AO.val (by first | exact RV.loadAggO rfl rfl (by first | simp | assumption) | exact RV.loadAggP rfl rfl rfl (by first | simp | assumption)) (.none rfl) rfl ?_
          refine AO.effN (EF.storeO rfl rfl rfl rfl rfl rfl) (.none rfl) ?_
          rintro _ _ rfl
          refine AO.val (RV.assign rfl) (.none rfl) rfl ?_
          refine AO.nil ?_
          -- at fFfL0F
          clear hih0
          refine AK.ret (h' := po ++ h) Try.func22 (.aggO rfl rfl (.tmp rfl .nil)) ?_ (by first | exact SubO.sub | exact List.Sublist.append_left (.cons _ (List.Sublist.refl _)) _ | exact List.Sublist.append_left (.cons _ (.cons _ (List.Sublist.refl _))) _ | exact List.Sublist.append_left (.cons _ (.cons _ (.cons _ (List.Sublist.refl _)))) _ | exact List.Sublist.append_left (.cons _ (.cons _ (.cons _ (.cons _ (List.Sublist.refl _))))) _ | exact List.Sublist.append_left (.cons _ (.cons _ (.cons _ (.cons _ (.cons _ (List.Sublist.refl _)))))) _ | exact List.Sublist.append_left (.cons _ (.cons _ (.cons _ (.cons _ (.cons _ (.cons _ (List.Sublist.refl _))))))) _)
          rw [List.take_of_length_le (by omega)] at hou
          refine ⟨⟨⟨Ao, co, out⟩, f.bs⟩, po, _, rfl, ⟨hro.src fun x hx => by simp [hx], hco, fiD.sb.mono fun x hx => by simp [hx], fi.cb⟩, fo.withV (by omega) (fun x hx => ?_) (fun x hx => ?_), rfl⟩
          · have h1 : x.1 ∈ out.map (·.1) := List.mem_map.2 ⟨x, hx, rfl⟩
            rw [hou] at h1
            obtain ⟨z, hz, e⟩ := List.mem_map.1 h1
            rw [← e]; exact fo.idv z hz
          · rw [hou]; exact List.mem_map.2 ⟨x, hx, rfl⟩

set_option maxHeartbeats 2000000 in
theorem would_spec (B : World) (h : Own) (D : Own) (hD : ∀ x ∈ D, x ∈ h) (f : FM) (fiD : FIn B D f) (fo : FarmOk f) (d : Dd) : Tri Try.prog B 9 [.agg (encFM f).toArray, .agg (encDd d).toArray] h fun r h' => ∃ (f' : FM) (part : Own) (e : Int), r = .tuple #[.agg (encFM f').toArray, .int .i64 e] ∧ FIn B (part ++ D) f' ∧ FarmOk f' ∧ h' = part ++ h := by
  refine Tri.enter (n := 51) Try.func9 rfl rfl rfl ?_
  simp only [argsE, Nat.reduceAdd]
  try dsimp only [argsE]
  refine AK.seq ?_
  refine AK.region ?_
  refine AO.eff (EF.box rfl rfl) (.none rfl) rfl ?_
  rintro _ _ ⟨b2, hf2, rfl, rfl⟩
  refine AO.eff (EF.box rfl rfl) (.none rfl) rfl ?_
  rintro _ _ ⟨b3, hf3, rfl, rfl⟩
  refine AO.eff (EF.alloc) (.none rfl) rfl ?_
  rintro _ _ ⟨b4, hf4, rfl, rfl⟩
  refine AO.val (RV.assign rfl) (.none rfl) rfl ?_
  refine AO.nil ?_
  refine AK.seq ?_
  refine AK.seq ?_
  refine AK.region ?_
  refine AO.val (by first | exact RV.fieldAddr rfl | exact RV.fieldAddrA rfl) (.none rfl) rfl ?_
  refine AO.val (by first | exact RV.loadO rfl rfl (by first | simp | assumption) | exact RV.loadSF rfl (by assumption) (fun _ => rfl) (by omega) rfl rfl (by first | simp | assumption) | exact RV.loadS rfl (by assumption) (by omega) (by first | simp | assumption)) (.none rfl) rfl ?_
  refine AO.nil ?_
  refine AK.block ?_
  refine AK.seq ?_
  refine AK.region ?_
  refine AO.val (RV.eql rfl rfl) (.none rfl) rfl ?_
  refine AO.val (RV.assign rfl) (.none rfl) rfl ?_
  refine AO.nil ?_
  refine AK.cond rfl ?_ ?_
  · intro hc1
    try simp only [decide_eq_true_eq, decide_eq_false_iff_not, Bool.not_eq_true', Bool.not_eq_false', beq_iff_eq] at hc1
    refine AK.seq ?_
    refine AK.region ?_
    refine AO.val (by first | exact RV.loadAggO rfl rfl (by first | simp | assumption) | exact RV.loadAggP rfl rfl rfl (by first | simp | assumption)) (.none rfl) rfl ?_
    refine AO.val (by first | exact RV.fieldAddr rfl | exact RV.fieldAddrA rfl) (.none rfl) rfl ?_
    refine AO.val (by first | exact RV.loadAggO rfl rfl (by first | simp | assumption) | exact RV.loadAggP rfl rfl rfl (by first | simp | assumption)) (.none rfl) rfl ?_
    refine AO.eff (EF.callF rfl (addvip_spec B _ D (fun x hx => by simp [hD x hx]) f fiD fo d.2.1)) (.none rfl) rfl ?_
    rintro _ _ ⟨f2, part, e, rfl, fi2, fo2, rfl⟩
    refine AO.val (RV.extract rfl rfl) (.none rfl) rfl ?_
    refine AO.val (RV.extract rfl rfl) (.none rfl) rfl ?_
    refine AO.effN (EF.storeO rfl rfl rfl rfl rfl rfl) (.none rfl) ?_
    rintro _ _ rfl
    refine AO.val (RV.assign rfl) (.none rfl) rfl ?_
    refine AO.nil ?_
    -- at T
    refine AK.ret (h' := part ++ h) Try.func9 (.aggO rfl rfl (.tmp rfl .nil)) ?_ (by first | exact SubO.sub | exact List.Sublist.append_left (.cons _ (List.Sublist.refl _)) _ | exact List.Sublist.append_left (.cons _ (.cons _ (List.Sublist.refl _))) _ | exact List.Sublist.append_left (.cons _ (.cons _ (.cons _ (List.Sublist.refl _)))) _ | exact List.Sublist.append_left (.cons _ (.cons _ (.cons _ (.cons _ (List.Sublist.refl _))))) _ | exact List.Sublist.append_left (.cons _ (.cons _ (.cons _ (.cons _ (.cons _ (List.Sublist.refl _)))))) _ | exact List.Sublist.append_left (.cons _ (.cons _ (.cons _ (.cons _ (.cons _ (.cons _ (List.Sublist.refl _))))))) _)
    exact ⟨f2, part, e, rfl, fi2, fo2, rfl⟩
  · intro hc1
    try simp only [decide_eq_true_eq, decide_eq_false_iff_not, Bool.not_eq_true', Bool.not_eq_false', beq_iff_eq] at hc1
    refine AK.seq ?_
    refine AK.region ?_
    refine AO.val (RV.eql rfl rfl) (.none rfl) rfl ?_
    refine AO.val (RV.assign rfl) (.none rfl) rfl ?_
    refine AO.nil ?_
    refine AK.cond rfl ?_ ?_
    · intro hc2
      try simp only [decide_eq_true_eq, decide_eq_false_iff_not, Bool.not_eq_true', Bool.not_eq_false', beq_iff_eq] at hc2
      refine AK.seq ?_
      refine AK.region ?_
      refine AO.val (by first | exact RV.loadAggO rfl rfl (by first | simp | assumption) | exact RV.loadAggP rfl rfl rfl (by first | simp | assumption)) (.none rfl) rfl ?_
      refine AO.val (by first | exact RV.fieldAddr rfl | exact RV.fieldAddrA rfl) (.none rfl) rfl ?_
      refine AO.val (by first | exact RV.loadAggO rfl rfl (by first | simp | assumption) | exact RV.loadAggP rfl rfl rfl (by first | simp | assumption)) (.none rfl) rfl ?_
      refine AO.eff (EF.callF rfl (addback_spec B _ D (fun x hx => by simp [hD x hx]) f fiD fo d.2.2.1)) (.none rfl) rfl ?_
      rintro _ _ ⟨f2, part, e, rfl, fi2, fo2, rfl⟩
      refine AO.val (RV.extract rfl rfl) (.none rfl) rfl ?_
      refine AO.val (RV.extract rfl rfl) (.none rfl) rfl ?_
      refine AO.effN (EF.storeO rfl rfl rfl rfl rfl rfl) (.none rfl) ?_
      rintro _ _ rfl
      refine AO.val (RV.assign rfl) (.none rfl) rfl ?_
      refine AO.nil ?_
      -- at FT
      refine AK.ret (h' := part ++ h) Try.func9 (.aggO rfl rfl (.tmp rfl .nil)) ?_ (by first | exact SubO.sub | exact List.Sublist.append_left (.cons _ (List.Sublist.refl _)) _ | exact List.Sublist.append_left (.cons _ (.cons _ (List.Sublist.refl _))) _ | exact List.Sublist.append_left (.cons _ (.cons _ (.cons _ (List.Sublist.refl _)))) _ | exact List.Sublist.append_left (.cons _ (.cons _ (.cons _ (.cons _ (List.Sublist.refl _))))) _ | exact List.Sublist.append_left (.cons _ (.cons _ (.cons _ (.cons _ (.cons _ (List.Sublist.refl _)))))) _ | exact List.Sublist.append_left (.cons _ (.cons _ (.cons _ (.cons _ (.cons _ (.cons _ (List.Sublist.refl _))))))) _)
      exact ⟨f2, part, e, rfl, fi2, fo2, rfl⟩
    · intro hc2
      try simp only [decide_eq_true_eq, decide_eq_false_iff_not, Bool.not_eq_true', Bool.not_eq_false', beq_iff_eq] at hc2
      refine AK.seq ?_
      refine AK.seq ?_
      refine AK.region ?_
      refine AO.val (RV.eql rfl rfl) (.none rfl) rfl ?_
      refine AO.val (RV.assign rfl) (.none rfl) rfl ?_
      refine AO.nil ?_
      refine AK.cond rfl ?_ ?_
      · intro hc3
        try simp only [decide_eq_true_eq, decide_eq_false_iff_not, Bool.not_eq_true', Bool.not_eq_false', beq_iff_eq] at hc3
        refine AK.skip ?_
        refine AK.cond rfl ?_ ?_
        · intro hc4
          try simp only [decide_eq_true_eq, decide_eq_false_iff_not, Bool.not_eq_true', Bool.not_eq_false', beq_iff_eq] at hc4
          refine AK.seq ?_
          refine AK.region ?_
          refine AO.val (by first | exact RV.loadAggO rfl rfl (by first | simp | assumption) | exact RV.loadAggP rfl rfl rfl (by first | simp | assumption)) (.none rfl) rfl ?_
          refine AO.val (by first | exact RV.fieldAddr rfl | exact RV.fieldAddrA rfl) (.none rfl) rfl ?_
          refine AO.val (by first | exact RV.loadO rfl rfl (by first | simp | assumption) | exact RV.loadSF rfl (by assumption) (fun _ => rfl) (by omega) rfl rfl (by first | simp | assumption) | exact RV.loadS rfl (by assumption) (by omega) (by first | simp | assumption)) (.none rfl) rfl ?_
          refine AO.val (by first | exact RV.subIn rfl rfl (by omega) | exact RV.sub rfl rfl) (.none rfl) rfl ?_
          refine AO.val (by first | exact RV.fieldAddr rfl | exact RV.fieldAddrA rfl) (.none rfl) rfl ?_
          refine AO.val (by first | exact RV.fieldAddr rfl | exact RV.fieldAddrA rfl) (.none rfl) rfl ?_
          refine AO.val (by first | exact RV.loadO rfl rfl (by first | simp | assumption) | exact RV.loadSF rfl (by assumption) (fun _ => rfl) (by omega) rfl rfl (by first | simp | assumption) | exact RV.loadS rfl (by assumption) (by omega) (by first | simp | assumption)) (.none rfl) rfl ?_
          refine AO.val (by first | exact RV.fieldAddr rfl | exact RV.fieldAddrA rfl) (.none rfl) rfl ?_
          refine AO.val (by first | exact RV.loadO rfl rfl (by first | simp | assumption) | exact RV.loadSF rfl (by assumption) (fun _ => rfl) (by omega) rfl rfl (by first | simp | assumption) | exact RV.loadS rfl (by assumption) (by omega) (by first | simp | assumption)) (.none rfl) rfl ?_
          refine AO.eff (EF.callF rfl (change_spec B _ D (fun x hx => by simp [hD x hx]) f fiD fo _ _ _)) (.none rfl) rfl ?_
          rintro _ _ ⟨f2, part, e, rfl, fi2, fo2, rfl⟩
          refine AO.val (RV.extract rfl rfl) (.none rfl) rfl ?_
          refine AO.val (RV.extract rfl rfl) (.none rfl) rfl ?_
          refine AO.effN (EF.storeO rfl rfl rfl rfl rfl rfl) (.none rfl) ?_
          rintro _ _ rfl
          refine AO.val (RV.assign rfl) (.none rfl) rfl ?_
          refine AO.nil ?_
          -- at FFTT
          refine AK.ret (h' := part ++ h) Try.func9 (.aggO rfl rfl (.tmp rfl .nil)) ?_ (by first | exact SubO.sub | exact List.Sublist.append_left (.cons _ (List.Sublist.refl _)) _ | exact List.Sublist.append_left (.cons _ (.cons _ (List.Sublist.refl _))) _ | exact List.Sublist.append_left (.cons _ (.cons _ (.cons _ (List.Sublist.refl _)))) _ | exact List.Sublist.append_left (.cons _ (.cons _ (.cons _ (.cons _ (List.Sublist.refl _))))) _ | exact List.Sublist.append_left (.cons _ (.cons _ (.cons _ (.cons _ (.cons _ (List.Sublist.refl _)))))) _ | exact List.Sublist.append_left (.cons _ (.cons _ (.cons _ (.cons _ (.cons _ (.cons _ (List.Sublist.refl _))))))) _)
          exact ⟨f2, part, e, rfl, fi2, fo2, rfl⟩
        · intro hc4
          try simp only [decide_eq_true_eq, decide_eq_false_iff_not, Bool.not_eq_true', Bool.not_eq_false', beq_iff_eq] at hc4
          refine AK.skip ?_
          refine AK.inBlock ?_
          refine AK.seq ?_
          refine AK.region ?_
          refine AO.val (by first | exact RV.loadAggO rfl rfl (by first | simp | assumption) | exact RV.loadAggP rfl rfl rfl (by first | simp | assumption)) (.none rfl) rfl ?_
          refine AO.val (by first | exact RV.fieldAddr rfl | exact RV.fieldAddrA rfl) (.none rfl) rfl ?_
          refine AO.val (by first | exact RV.fieldAddr rfl | exact RV.fieldAddrA rfl) (.none rfl) rfl ?_
          refine AO.val (by first | exact RV.loadO rfl rfl (by first | simp | assumption) | exact RV.loadSF rfl (by assumption) (fun _ => rfl) (by omega) rfl rfl (by first | simp | assumption) | exact RV.loadS rfl (by assumption) (by omega) (by first | simp | assumption)) (.none rfl) rfl ?_
          refine AO.val (by first | exact RV.fieldAddr rfl | exact RV.fieldAddrA rfl) (.none rfl) rfl ?_
          refine AO.val (by first | exact RV.loadO rfl rfl (by first | simp | assumption) | exact RV.loadSF rfl (by assumption) (fun _ => rfl) (by omega) rfl rfl (by first | simp | assumption) | exact RV.loadS rfl (by assumption) (by omega) (by first | simp | assumption)) (.none rfl) rfl ?_
          refine AO.eff (EF.callF rfl (mode_spec B _ D (fun x hx => by simp [hD x hx]) f fiD fo _ _)) (.none rfl) rfl ?_
          rintro _ _ ⟨f2, part, e, rfl, fi2, fo2, rfl⟩
          refine AO.val (RV.extract rfl rfl) (.none rfl) rfl ?_
          refine AO.val (RV.extract rfl rfl) (.none rfl) rfl ?_
          refine AO.effN (EF.storeO rfl rfl rfl rfl rfl rfl) (.none rfl) ?_
          rintro _ _ rfl
          refine AO.val (RV.assign rfl) (.none rfl) rfl ?_
          refine AO.nil ?_
          -- at FFTF
          refine AK.ret (h' := part ++ h) Try.func9 (.aggO rfl rfl (.tmp rfl .nil)) ?_ (by first | exact SubO.sub | exact List.Sublist.append_left (.cons _ (List.Sublist.refl _)) _ | exact List.Sublist.append_left (.cons _ (.cons _ (List.Sublist.refl _))) _ | exact List.Sublist.append_left (.cons _ (.cons _ (.cons _ (List.Sublist.refl _)))) _ | exact List.Sublist.append_left (.cons _ (.cons _ (.cons _ (.cons _ (List.Sublist.refl _))))) _ | exact List.Sublist.append_left (.cons _ (.cons _ (.cons _ (.cons _ (.cons _ (List.Sublist.refl _)))))) _ | exact List.Sublist.append_left (.cons _ (.cons _ (.cons _ (.cons _ (.cons _ (.cons _ (List.Sublist.refl _))))))) _)
          exact ⟨f2, part, e, rfl, fi2, fo2, rfl⟩
      · intro hc3
        try simp only [decide_eq_true_eq, decide_eq_false_iff_not, Bool.not_eq_true', Bool.not_eq_false', beq_iff_eq] at hc3
        refine AK.seq ?_
        refine AK.region ?_
        refine AO.val (RV.eql rfl rfl) (.none rfl) rfl ?_
        refine AO.val (RV.assign rfl) (.none rfl) rfl ?_
        refine AO.nil ?_
        refine AK.cond rfl ?_ ?_
        · intro hc5
          try simp only [decide_eq_true_eq, decide_eq_false_iff_not, Bool.not_eq_true', Bool.not_eq_false', beq_iff_eq] at hc5
          refine AK.skip ?_
          refine AK.cond rfl ?_ ?_
          · intro hc6
            try simp only [decide_eq_true_eq, decide_eq_false_iff_not, Bool.not_eq_true', Bool.not_eq_false', beq_iff_eq] at hc6
            refine AK.seq ?_
            refine AK.region ?_
            refine AO.val (by first | exact RV.loadAggO rfl rfl (by first | simp | assumption) | exact RV.loadAggP rfl rfl rfl (by first | simp | assumption)) (.none rfl) rfl ?_
            refine AO.val (by first | exact RV.fieldAddr rfl | exact RV.fieldAddrA rfl) (.none rfl) rfl ?_
            refine AO.val (by first | exact RV.loadO rfl rfl (by first | simp | assumption) | exact RV.loadSF rfl (by assumption) (fun _ => rfl) (by omega) rfl rfl (by first | simp | assumption) | exact RV.loadS rfl (by assumption) (by omega) (by first | simp | assumption)) (.none rfl) rfl ?_
            refine AO.val (by first | exact RV.subIn rfl rfl (by omega) | exact RV.sub rfl rfl) (.none rfl) rfl ?_
            refine AO.val (by first | exact RV.fieldAddr rfl | exact RV.fieldAddrA rfl) (.none rfl) rfl ?_
            refine AO.val (by first | exact RV.fieldAddr rfl | exact RV.fieldAddrA rfl) (.none rfl) rfl ?_
            refine AO.val (by first | exact RV.loadO rfl rfl (by first | simp | assumption) | exact RV.loadSF rfl (by assumption) (fun _ => rfl) (by omega) rfl rfl (by first | simp | assumption) | exact RV.loadS rfl (by assumption) (by omega) (by first | simp | assumption)) (.none rfl) rfl ?_
            refine AO.val (by first | exact RV.fieldAddr rfl | exact RV.fieldAddrA rfl) (.none rfl) rfl ?_
            refine AO.val (by first | exact RV.loadO rfl rfl (by first | simp | assumption) | exact RV.loadSF rfl (by assumption) (fun _ => rfl) (by omega) rfl rfl (by first | simp | assumption) | exact RV.loadS rfl (by assumption) (by omega) (by first | simp | assumption)) (.none rfl) rfl ?_
            refine AO.eff (EF.callF rfl (change_spec B _ D (fun x hx => by simp [hD x hx]) f fiD fo _ _ _)) (.none rfl) rfl ?_
            rintro _ _ ⟨f2, part, e, rfl, fi2, fo2, rfl⟩
            refine AO.val (RV.extract rfl rfl) (.none rfl) rfl ?_
            refine AO.val (RV.extract rfl rfl) (.none rfl) rfl ?_
            refine AO.effN (EF.storeO rfl rfl rfl rfl rfl rfl) (.none rfl) ?_
            rintro _ _ rfl
            refine AO.val (RV.assign rfl) (.none rfl) rfl ?_
            refine AO.nil ?_
            -- at FFFTT
            refine AK.ret (h' := part ++ h) Try.func9 (.aggO rfl rfl (.tmp rfl .nil)) ?_ (by first | exact SubO.sub | exact List.Sublist.append_left (.cons _ (List.Sublist.refl _)) _ | exact List.Sublist.append_left (.cons _ (.cons _ (List.Sublist.refl _))) _ | exact List.Sublist.append_left (.cons _ (.cons _ (.cons _ (List.Sublist.refl _)))) _ | exact List.Sublist.append_left (.cons _ (.cons _ (.cons _ (.cons _ (List.Sublist.refl _))))) _ | exact List.Sublist.append_left (.cons _ (.cons _ (.cons _ (.cons _ (.cons _ (List.Sublist.refl _)))))) _ | exact List.Sublist.append_left (.cons _ (.cons _ (.cons _ (.cons _ (.cons _ (.cons _ (List.Sublist.refl _))))))) _)
            exact ⟨f2, part, e, rfl, fi2, fo2, rfl⟩
          · intro hc6
            try simp only [decide_eq_true_eq, decide_eq_false_iff_not, Bool.not_eq_true', Bool.not_eq_false', beq_iff_eq] at hc6
            refine AK.skip ?_
            refine AK.inBlock ?_
            refine AK.seq ?_
            refine AK.region ?_
            refine AO.val (by first | exact RV.loadAggO rfl rfl (by first | simp | assumption) | exact RV.loadAggP rfl rfl rfl (by first | simp | assumption)) (.none rfl) rfl ?_
            refine AO.val (by first | exact RV.fieldAddr rfl | exact RV.fieldAddrA rfl) (.none rfl) rfl ?_
            refine AO.val (by first | exact RV.fieldAddr rfl | exact RV.fieldAddrA rfl) (.none rfl) rfl ?_
            refine AO.val (by first | exact RV.loadO rfl rfl (by first | simp | assumption) | exact RV.loadSF rfl (by assumption) (fun _ => rfl) (by omega) rfl rfl (by first | simp | assumption) | exact RV.loadS rfl (by assumption) (by omega) (by first | simp | assumption)) (.none rfl) rfl ?_
            refine AO.val (by first | exact RV.fieldAddr rfl | exact RV.fieldAddrA rfl) (.none rfl) rfl ?_
            refine AO.val (by first | exact RV.loadO rfl rfl (by first | simp | assumption) | exact RV.loadSF rfl (by assumption) (fun _ => rfl) (by omega) rfl rfl (by first | simp | assumption) | exact RV.loadS rfl (by assumption) (by omega) (by first | simp | assumption)) (.none rfl) rfl ?_
            refine AO.eff (EF.callF rfl (mode_spec B _ D (fun x hx => by simp [hD x hx]) f fiD fo _ _)) (.none rfl) rfl ?_
            rintro _ _ ⟨f2, part, e, rfl, fi2, fo2, rfl⟩
            refine AO.val (RV.extract rfl rfl) (.none rfl) rfl ?_
            refine AO.val (RV.extract rfl rfl) (.none rfl) rfl ?_
            refine AO.effN (EF.storeO rfl rfl rfl rfl rfl rfl) (.none rfl) ?_
            rintro _ _ rfl
            refine AO.val (RV.assign rfl) (.none rfl) rfl ?_
            refine AO.nil ?_
            -- at FFFTF
            refine AK.ret (h' := part ++ h) Try.func9 (.aggO rfl rfl (.tmp rfl .nil)) ?_ (by first | exact SubO.sub | exact List.Sublist.append_left (.cons _ (List.Sublist.refl _)) _ | exact List.Sublist.append_left (.cons _ (.cons _ (List.Sublist.refl _))) _ | exact List.Sublist.append_left (.cons _ (.cons _ (.cons _ (List.Sublist.refl _)))) _ | exact List.Sublist.append_left (.cons _ (.cons _ (.cons _ (.cons _ (List.Sublist.refl _))))) _ | exact List.Sublist.append_left (.cons _ (.cons _ (.cons _ (.cons _ (.cons _ (List.Sublist.refl _)))))) _ | exact List.Sublist.append_left (.cons _ (.cons _ (.cons _ (.cons _ (.cons _ (.cons _ (List.Sublist.refl _))))))) _)
            exact ⟨f2, part, e, rfl, fi2, fo2, rfl⟩
        · intro hc5
          try simp only [decide_eq_true_eq, decide_eq_false_iff_not, Bool.not_eq_true', Bool.not_eq_false', beq_iff_eq] at hc5
          refine AK.seq ?_
          refine AK.region ?_
          refine AO.val (RV.eql rfl rfl) (.none rfl) rfl ?_
          refine AO.val (RV.assign rfl) (.none rfl) rfl ?_
          refine AO.nil ?_
          refine AK.cond rfl ?_ ?_
          · intro hc7
            try simp only [decide_eq_true_eq, decide_eq_false_iff_not, Bool.not_eq_true', Bool.not_eq_false', beq_iff_eq] at hc7
            refine AK.skip ?_
            refine AK.cond rfl ?_ ?_
            · intro hc8
              try simp only [decide_eq_true_eq, decide_eq_false_iff_not, Bool.not_eq_true', Bool.not_eq_false', beq_iff_eq] at hc8
              refine AK.seq ?_
              refine AK.region ?_
              refine AO.val (by first | exact RV.loadAggO rfl rfl (by first | simp | assumption) | exact RV.loadAggP rfl rfl rfl (by first | simp | assumption)) (.none rfl) rfl ?_
              refine AO.val (by first | exact RV.fieldAddr rfl | exact RV.fieldAddrA rfl) (.none rfl) rfl ?_
              refine AO.val (by first | exact RV.loadO rfl rfl (by first | simp | assumption) | exact RV.loadSF rfl (by assumption) (fun _ => rfl) (by omega) rfl rfl (by first | simp | assumption) | exact RV.loadS rfl (by assumption) (by omega) (by first | simp | assumption)) (.none rfl) rfl ?_
              refine AO.val (by first | exact RV.subIn rfl rfl (by omega) | exact RV.sub rfl rfl) (.none rfl) rfl ?_
              refine AO.val (by first | exact RV.fieldAddr rfl | exact RV.fieldAddrA rfl) (.none rfl) rfl ?_
              refine AO.val (by first | exact RV.fieldAddr rfl | exact RV.fieldAddrA rfl) (.none rfl) rfl ?_
              refine AO.val (by first | exact RV.loadO rfl rfl (by first | simp | assumption) | exact RV.loadSF rfl (by assumption) (fun _ => rfl) (by omega) rfl rfl (by first | simp | assumption) | exact RV.loadS rfl (by assumption) (by omega) (by first | simp | assumption)) (.none rfl) rfl ?_
              refine AO.val (by first | exact RV.fieldAddr rfl | exact RV.fieldAddrA rfl) (.none rfl) rfl ?_
              refine AO.val (by first | exact RV.loadO rfl rfl (by first | simp | assumption) | exact RV.loadSF rfl (by assumption) (fun _ => rfl) (by omega) rfl rfl (by first | simp | assumption) | exact RV.loadS rfl (by assumption) (by omega) (by first | simp | assumption)) (.none rfl) rfl ?_
              refine AO.eff (EF.callF rfl (change_spec B _ D (fun x hx => by simp [hD x hx]) f fiD fo _ _ _)) (.none rfl) rfl ?_
              rintro _ _ ⟨f2, part, e, rfl, fi2, fo2, rfl⟩
              refine AO.val (RV.extract rfl rfl) (.none rfl) rfl ?_
              refine AO.val (RV.extract rfl rfl) (.none rfl) rfl ?_
              refine AO.effN (EF.storeO rfl rfl rfl rfl rfl rfl) (.none rfl) ?_
              rintro _ _ rfl
              refine AO.val (RV.assign rfl) (.none rfl) rfl ?_
              refine AO.nil ?_
              -- at FFFFTT
              refine AK.ret (h' := part ++ h) Try.func9 (.aggO rfl rfl (.tmp rfl .nil)) ?_ (by first | exact SubO.sub | exact List.Sublist.append_left (.cons _ (List.Sublist.refl _)) _ | exact List.Sublist.append_left (.cons _ (.cons _ (List.Sublist.refl _))) _ | exact List.Sublist.append_left (.cons _ (.cons _ (.cons _ (List.Sublist.refl _)))) _ | exact List.Sublist.append_left (.cons _ (.cons _ (.cons _ (.cons _ (List.Sublist.refl _))))) _ | exact List.Sublist.append_left (.cons _ (.cons _ (.cons _ (.cons _ (.cons _ (List.Sublist.refl _)))))) _ | exact List.Sublist.append_left (.cons _ (.cons _ (.cons _ (.cons _ (.cons _ (.cons _ (List.Sublist.refl _))))))) _)
              exact ⟨f2, part, e, rfl, fi2, fo2, rfl⟩
            · intro hc8
              try simp only [decide_eq_true_eq, decide_eq_false_iff_not, Bool.not_eq_true', Bool.not_eq_false', beq_iff_eq] at hc8
              refine AK.skip ?_
              refine AK.inBlock ?_
              refine AK.seq ?_
              refine AK.region ?_
              refine AO.val (by first | exact RV.loadAggO rfl rfl (by first | simp | assumption) | exact RV.loadAggP rfl rfl rfl (by first | simp | assumption)) (.none rfl) rfl ?_
              refine AO.val (by first | exact RV.fieldAddr rfl | exact RV.fieldAddrA rfl) (.none rfl) rfl ?_
              refine AO.val (by first | exact RV.fieldAddr rfl | exact RV.fieldAddrA rfl) (.none rfl) rfl ?_
              refine AO.val (by first | exact RV.loadO rfl rfl (by first | simp | assumption) | exact RV.loadSF rfl (by assumption) (fun _ => rfl) (by omega) rfl rfl (by first | simp | assumption) | exact RV.loadS rfl (by assumption) (by omega) (by first | simp | assumption)) (.none rfl) rfl ?_
              refine AO.val (by first | exact RV.fieldAddr rfl | exact RV.fieldAddrA rfl) (.none rfl) rfl ?_
              refine AO.val (by first | exact RV.loadO rfl rfl (by first | simp | assumption) | exact RV.loadSF rfl (by assumption) (fun _ => rfl) (by omega) rfl rfl (by first | simp | assumption) | exact RV.loadS rfl (by assumption) (by omega) (by first | simp | assumption)) (.none rfl) rfl ?_
              refine AO.eff (EF.callF rfl (mode_spec B _ D (fun x hx => by simp [hD x hx]) f fiD fo _ _)) (.none rfl) rfl ?_
              rintro _ _ ⟨f2, part, e, rfl, fi2, fo2, rfl⟩
              refine AO.val (RV.extract rfl rfl) (.none rfl) rfl ?_
              refine AO.val (RV.extract rfl rfl) (.none rfl) rfl ?_
              refine AO.effN (EF.storeO rfl rfl rfl rfl rfl rfl) (.none rfl) ?_
              rintro _ _ rfl
              refine AO.val (RV.assign rfl) (.none rfl) rfl ?_
              refine AO.nil ?_
              -- at FFFFTF
              refine AK.ret (h' := part ++ h) Try.func9 (.aggO rfl rfl (.tmp rfl .nil)) ?_ (by first | exact SubO.sub | exact List.Sublist.append_left (.cons _ (List.Sublist.refl _)) _ | exact List.Sublist.append_left (.cons _ (.cons _ (List.Sublist.refl _))) _ | exact List.Sublist.append_left (.cons _ (.cons _ (.cons _ (List.Sublist.refl _)))) _ | exact List.Sublist.append_left (.cons _ (.cons _ (.cons _ (.cons _ (List.Sublist.refl _))))) _ | exact List.Sublist.append_left (.cons _ (.cons _ (.cons _ (.cons _ (.cons _ (List.Sublist.refl _)))))) _ | exact List.Sublist.append_left (.cons _ (.cons _ (.cons _ (.cons _ (.cons _ (.cons _ (List.Sublist.refl _))))))) _)
              exact ⟨f2, part, e, rfl, fi2, fo2, rfl⟩
          · intro hc7
            try simp only [decide_eq_true_eq, decide_eq_false_iff_not, Bool.not_eq_true', Bool.not_eq_false', beq_iff_eq] at hc7
            refine AK.seq ?_
            refine AK.region ?_
            refine AO.val (RV.eql rfl rfl) (.none rfl) rfl ?_
            refine AO.val (RV.assign rfl) (.none rfl) rfl ?_
            refine AO.nil ?_
            refine AK.cond rfl ?_ ?_
            · intro hc9
              try simp only [decide_eq_true_eq, decide_eq_false_iff_not, Bool.not_eq_true', Bool.not_eq_false', beq_iff_eq] at hc9
              refine AK.skip ?_
              refine AK.cond rfl ?_ ?_
              · intro hc10
                try simp only [decide_eq_true_eq, decide_eq_false_iff_not, Bool.not_eq_true', Bool.not_eq_false', beq_iff_eq] at hc10
                refine AK.seq ?_
                refine AK.region ?_
                refine AO.val (by first | exact RV.loadAggO rfl rfl (by first | simp | assumption) | exact RV.loadAggP rfl rfl rfl (by first | simp | assumption)) (.none rfl) rfl ?_
                refine AO.val (by first | exact RV.fieldAddr rfl | exact RV.fieldAddrA rfl) (.none rfl) rfl ?_
                refine AO.val (by first | exact RV.loadO rfl rfl (by first | simp | assumption) | exact RV.loadSF rfl (by assumption) (fun _ => rfl) (by omega) rfl rfl (by first | simp | assumption) | exact RV.loadS rfl (by assumption) (by omega) (by first | simp | assumption)) (.none rfl) rfl ?_
                refine AO.val (by first | exact RV.subIn rfl rfl (by omega) | exact RV.sub rfl rfl) (.none rfl) rfl ?_
                refine AO.val (by first | exact RV.fieldAddr rfl | exact RV.fieldAddrA rfl) (.none rfl) rfl ?_
                refine AO.val (by first | exact RV.fieldAddr rfl | exact RV.fieldAddrA rfl) (.none rfl) rfl ?_
                refine AO.val (by first | exact RV.loadO rfl rfl (by first | simp | assumption) | exact RV.loadSF rfl (by assumption) (fun _ => rfl) (by omega) rfl rfl (by first | simp | assumption) | exact RV.loadS rfl (by assumption) (by omega) (by first | simp | assumption)) (.none rfl) rfl ?_
                refine AO.val (by first | exact RV.fieldAddr rfl | exact RV.fieldAddrA rfl) (.none rfl) rfl ?_
                refine AO.val (by first | exact RV.loadO rfl rfl (by first | simp | assumption) | exact RV.loadSF rfl (by assumption) (fun _ => rfl) (by omega) rfl rfl (by first | simp | assumption) | exact RV.loadS rfl (by assumption) (by omega) (by first | simp | assumption)) (.none rfl) rfl ?_
                refine AO.eff (EF.callF rfl (change_spec B _ D (fun x hx => by simp [hD x hx]) f fiD fo _ _ _)) (.none rfl) rfl ?_
                rintro _ _ ⟨f2, part, e, rfl, fi2, fo2, rfl⟩
                refine AO.val (RV.extract rfl rfl) (.none rfl) rfl ?_
                refine AO.val (RV.extract rfl rfl) (.none rfl) rfl ?_
                refine AO.effN (EF.storeO rfl rfl rfl rfl rfl rfl) (.none rfl) ?_
                rintro _ _ rfl
                refine AO.val (RV.assign rfl) (.none rfl) rfl ?_
                refine AO.nil ?_
                -- at FFFFFTT
                refine AK.ret (h' := part ++ h) Try.func9 (.aggO rfl rfl (.tmp rfl .nil)) ?_ (by first | exact SubO.sub | exact List.Sublist.append_left (.cons _ (List.Sublist.refl _)) _ | exact List.Sublist.append_left (.cons _ (.cons _ (List.Sublist.refl _))) _ | exact List.Sublist.append_left (.cons _ (.cons _ (.cons _ (List.Sublist.refl _)))) _ | exact List.Sublist.append_left (.cons _ (.cons _ (.cons _ (.cons _ (List.Sublist.refl _))))) _ | exact List.Sublist.append_left (.cons _ (.cons _ (.cons _ (.cons _ (.cons _ (List.Sublist.refl _)))))) _ | exact List.Sublist.append_left (.cons _ (.cons _ (.cons _ (.cons _ (.cons _ (.cons _ (List.Sublist.refl _))))))) _)
                exact ⟨f2, part, e, rfl, fi2, fo2, rfl⟩
              · intro hc10
                try simp only [decide_eq_true_eq, decide_eq_false_iff_not, Bool.not_eq_true', Bool.not_eq_false', beq_iff_eq] at hc10
                refine AK.skip ?_
                refine AK.inBlock ?_
                refine AK.seq ?_
                refine AK.region ?_
                refine AO.val (by first | exact RV.loadAggO rfl rfl (by first | simp | assumption) | exact RV.loadAggP rfl rfl rfl (by first | simp | assumption)) (.none rfl) rfl ?_
                refine AO.val (by first | exact RV.fieldAddr rfl | exact RV.fieldAddrA rfl) (.none rfl) rfl ?_
                refine AO.val (by first | exact RV.fieldAddr rfl | exact RV.fieldAddrA rfl) (.none rfl) rfl ?_
                refine AO.val (by first | exact RV.loadO rfl rfl (by first | simp | assumption) | exact RV.loadSF rfl (by assumption) (fun _ => rfl) (by omega) rfl rfl (by first | simp | assumption) | exact RV.loadS rfl (by assumption) (by omega) (by first | simp | assumption)) (.none rfl) rfl ?_
                refine AO.val (by first | exact RV.fieldAddr rfl | exact RV.fieldAddrA rfl) (.none rfl) rfl ?_
                refine AO.val (by first | exact RV.loadO rfl rfl (by first | simp | assumption) | exact RV.loadSF rfl (by assumption) (fun _ => rfl) (by omega) rfl rfl (by first | simp | assumption) | exact RV.loadS rfl (by assumption) (by omega) (by first | simp | assumption)) (.none rfl) rfl ?_
                refine AO.eff (EF.callF rfl (mode_spec B _ D (fun x hx => by simp [hD x hx]) f fiD fo _ _)) (.none rfl) rfl ?_
                rintro _ _ ⟨f2, part, e, rfl, fi2, fo2, rfl⟩
                refine AO.val (RV.extract rfl rfl) (.none rfl) rfl ?_
                refine AO.val (RV.extract rfl rfl) (.none rfl) rfl ?_
                refine AO.effN (EF.storeO rfl rfl rfl rfl rfl rfl) (.none rfl) ?_
                rintro _ _ rfl
                refine AO.val (RV.assign rfl) (.none rfl) rfl ?_
                refine AO.nil ?_
                -- at FFFFFTF
                refine AK.ret (h' := part ++ h) Try.func9 (.aggO rfl rfl (.tmp rfl .nil)) ?_ (by first | exact SubO.sub | exact List.Sublist.append_left (.cons _ (List.Sublist.refl _)) _ | exact List.Sublist.append_left (.cons _ (.cons _ (List.Sublist.refl _))) _ | exact List.Sublist.append_left (.cons _ (.cons _ (.cons _ (List.Sublist.refl _)))) _ | exact List.Sublist.append_left (.cons _ (.cons _ (.cons _ (.cons _ (List.Sublist.refl _))))) _ | exact List.Sublist.append_left (.cons _ (.cons _ (.cons _ (.cons _ (.cons _ (List.Sublist.refl _)))))) _ | exact List.Sublist.append_left (.cons _ (.cons _ (.cons _ (.cons _ (.cons _ (.cons _ (List.Sublist.refl _))))))) _)
                exact ⟨f2, part, e, rfl, fi2, fo2, rfl⟩
            · intro hc9
              try simp only [decide_eq_true_eq, decide_eq_false_iff_not, Bool.not_eq_true', Bool.not_eq_false', beq_iff_eq] at hc9
              refine AK.region ?_
              refine AO.val (RV.eql rfl rfl) (.none rfl) rfl ?_
              refine AO.val (RV.assign rfl) (.none rfl) rfl ?_
              refine AO.nil ?_
              refine AK.cond rfl ?_ ?_
              · intro hc11
                try simp only [decide_eq_true_eq, decide_eq_false_iff_not, Bool.not_eq_true', Bool.not_eq_false', beq_iff_eq] at hc11
                refine AK.seq ?_
                refine AK.region ?_
                refine AO.val (by first | exact RV.loadAggO rfl rfl (by first | simp | assumption) | exact RV.loadAggP rfl rfl rfl (by first | simp | assumption)) (.none rfl) rfl ?_
                refine AO.val (by first | exact RV.fieldAddr rfl | exact RV.fieldAddrA rfl) (.none rfl) rfl ?_
                refine AO.val (by first | exact RV.loadO rfl rfl (by first | simp | assumption) | exact RV.loadSF rfl (by assumption) (fun _ => rfl) (by omega) rfl rfl (by first | simp | assumption) | exact RV.loadS rfl (by assumption) (by omega) (by first | simp | assumption)) (.none rfl) rfl ?_
                refine AO.val (by first | exact RV.subIn rfl rfl (by omega) | exact RV.sub rfl rfl) (.none rfl) rfl ?_
                refine AO.val (by first | exact RV.fieldAddr rfl | exact RV.fieldAddrA rfl) (.none rfl) rfl ?_
                refine AO.val (by first | exact RV.fieldAddr rfl | exact RV.fieldAddrA rfl) (.none rfl) rfl ?_
                refine AO.val (by first | exact RV.loadO rfl rfl (by first | simp | assumption) | exact RV.loadSF rfl (by assumption) (fun _ => rfl) (by omega) rfl rfl (by first | simp | assumption) | exact RV.loadS rfl (by assumption) (by omega) (by first | simp | assumption)) (.none rfl) rfl ?_
                refine AO.val (by first | exact RV.fieldAddr rfl | exact RV.fieldAddrA rfl) (.none rfl) rfl ?_
                refine AO.val (by first | exact RV.loadO rfl rfl (by first | simp | assumption) | exact RV.loadSF rfl (by assumption) (fun _ => rfl) (by omega) rfl rfl (by first | simp | assumption) | exact RV.loadS rfl (by assumption) (by omega) (by first | simp | assumption)) (.none rfl) rfl ?_
                refine AO.eff (EF.callF rfl (change_spec B _ D (fun x hx => by simp [hD x hx]) f fiD fo _ _ _)) (.none rfl) rfl ?_
                rintro _ _ ⟨f2, part, e, rfl, fi2, fo2, rfl⟩
                refine AO.val (RV.extract rfl rfl) (.none rfl) rfl ?_
                refine AO.val (RV.extract rfl rfl) (.none rfl) rfl ?_
                refine AO.effN (EF.storeO rfl rfl rfl rfl rfl rfl) (.none rfl) ?_
                rintro _ _ rfl
                refine AO.val (RV.assign rfl) (.none rfl) rfl ?_
                refine AO.nil ?_
                -- at FFFFFFT
                refine AK.ret (h' := part ++ h) Try.func9 (.aggO rfl rfl (.tmp rfl .nil)) ?_ (by first | exact SubO.sub | exact List.Sublist.append_left (.cons _ (List.Sublist.refl _)) _ | exact List.Sublist.append_left (.cons _ (.cons _ (List.Sublist.refl _))) _ | exact List.Sublist.append_left (.cons _ (.cons _ (.cons _ (List.Sublist.refl _)))) _ | exact List.Sublist.append_left (.cons _ (.cons _ (.cons _ (.cons _ (List.Sublist.refl _))))) _ | exact List.Sublist.append_left (.cons _ (.cons _ (.cons _ (.cons _ (.cons _ (List.Sublist.refl _)))))) _ | exact List.Sublist.append_left (.cons _ (.cons _ (.cons _ (.cons _ (.cons _ (.cons _ (List.Sublist.refl _))))))) _)
                exact ⟨f2, part, e, rfl, fi2, fo2, rfl⟩
              · intro hc11
                try simp only [decide_eq_true_eq, decide_eq_false_iff_not, Bool.not_eq_true', Bool.not_eq_false', beq_iff_eq] at hc11
                refine AK.skip ?_
                refine AK.inBlock ?_
                refine AK.seq ?_
                refine AK.region ?_
                refine AO.val (by first | exact RV.loadAggO rfl rfl (by first | simp | assumption) | exact RV.loadAggP rfl rfl rfl (by first | simp | assumption)) (.none rfl) rfl ?_
                refine AO.val (by first | exact RV.fieldAddr rfl | exact RV.fieldAddrA rfl) (.none rfl) rfl ?_
                refine AO.val (by first | exact RV.fieldAddr rfl | exact RV.fieldAddrA rfl) (.none rfl) rfl ?_
                refine AO.val (by first | exact RV.loadO rfl rfl (by first | simp | assumption) | exact RV.loadSF rfl (by assumption) (fun _ => rfl) (by omega) rfl rfl (by first | simp | assumption) | exact RV.loadS rfl (by assumption) (by omega) (by first | simp | assumption)) (.none rfl) rfl ?_
                refine AO.val (by first | exact RV.fieldAddr rfl | exact RV.fieldAddrA rfl) (.none rfl) rfl ?_
                refine AO.val (by first | exact RV.loadO rfl rfl (by first | simp | assumption) | exact RV.loadSF rfl (by assumption) (fun _ => rfl) (by omega) rfl rfl (by first | simp | assumption) | exact RV.loadS rfl (by assumption) (by omega) (by first | simp | assumption)) (.none rfl) rfl ?_
                refine AO.eff (EF.callF rfl (mode_spec B _ D (fun x hx => by simp [hD x hx]) f fiD fo _ _)) (.none rfl) rfl ?_
                rintro _ _ ⟨f2, part, e, rfl, fi2, fo2, rfl⟩
                refine AO.val (RV.extract rfl rfl) (.none rfl) rfl ?_
                refine AO.val (RV.extract rfl rfl) (.none rfl) rfl ?_
                refine AO.effN (EF.storeO rfl rfl rfl rfl rfl rfl) (.none rfl) ?_
                rintro _ _ rfl
                refine AO.val (RV.assign rfl) (.none rfl) rfl ?_
                refine AO.nil ?_
                -- at FFFFFFF
                refine AK.ret (h' := part ++ h) Try.func9 (.aggO rfl rfl (.tmp rfl .nil)) ?_ (by first | exact SubO.sub | exact List.Sublist.append_left (.cons _ (List.Sublist.refl _)) _ | exact List.Sublist.append_left (.cons _ (.cons _ (List.Sublist.refl _))) _ | exact List.Sublist.append_left (.cons _ (.cons _ (.cons _ (List.Sublist.refl _)))) _ | exact List.Sublist.append_left (.cons _ (.cons _ (.cons _ (.cons _ (List.Sublist.refl _))))) _ | exact List.Sublist.append_left (.cons _ (.cons _ (.cons _ (.cons _ (.cons _ (List.Sublist.refl _)))))) _ | exact List.Sublist.append_left (.cons _ (.cons _ (.cons _ (.cons _ (.cons _ (.cons _ (List.Sublist.refl _))))))) _)
                exact ⟨f2, part, e, rfl, fi2, fo2, rfl⟩

theorem made_spec (B : World) (h : Own) {A : Option Addr} {cap : Nat} (l : List Dd) (hl : Src B h A l.length 13 (flat encDd l)) (hln : l.length ≤ 9223372036854775807) : Tri Try.prog B 18 [.slice A l.length cap] h fun r h' => ∃ (f : FM) (X : Own), r = .agg (encFM f).toArray ∧ FIn B X f ∧ FarmOk f ∧ h' = X ++ h := by
  refine Tri.enter (n := 26) Try.func18 rfl rfl rfl ?_
  simp only [argsE, Nat.reduceAdd]
  try dsimp only [argsE]
  refine AK.seq ?_
  refine AK.region ?_
  refine AO.eff (EF.alloc) (.none rfl) rfl ?_
  rintro _ _ ⟨b2, hf2, rfl, rfl⟩
  refine AO.nil ?_
  refine AK.seq ?_
  refine AK.region ?_
  refine AO.val (RV.build rfl .nil) (.none rfl) rfl ?_
  refine AO.eff (EF.alloc) (.none rfl) rfl ?_
  rintro _ _ ⟨b3, hf3, rfl, rfl⟩
  refine AO.effN (EF.storeO rfl rfl rfl rfl rfl rfl) (.none rfl) ?_
  rintro _ _ rfl
  refine AO.nil ?_
  refine AK.seq ?_
  refine AK.seq ?_
  refine AK.region ?_
  refine AO.val (RV.assign rfl) (.none rfl) rfl ?_
  refine AO.nil ?_
  refine AK.block ?_
  refine AK.loop (α := Int × FM × Own) (E := fun (i, f, X) => [(0, .slice A l.length cap), (2, .pointer (some ⟨b2, 0, none⟩)), (3, .pointer (some ⟨b3, 0, none⟩)), (4, .int .i64 i)]) (H := fun (i, f, X) => (b3, Blk.cells (encFM f) 37 (0, 0)) :: (b2, Blk.cells (encFM ZF) 37 (0, 0)) :: (X ++ h)) (Inv := fun (i, f, X) => 0 ≤ i ∧ i ≤ l.length ∧ FIn B X f ∧ FarmOk f) (μ := fun (i, f, X) => (l.length - i).toNat) (0, ZF, []) ?_ (.cons (by exact rfl) (.cons (by exact rfl) (.cons (by exact rfl) (.cons (by exact rfl) .nil)))) ?_ ?_
  · exact ⟨by omega, by omega, fin_zero B [], zf_ok⟩
  · exact (by first | exact SubO.sub | exact List.Sublist.refl _ | exact .cons _ (List.Sublist.refl _) | exact .cons _ (.cons _ (List.Sublist.refl _)) | exact .cons _ (.cons _ (.cons _ (List.Sublist.refl _))))
  rintro ⟨i, f, X⟩ ⟨hi0, hi1, fi, fo⟩ hih0
  try dsimp only at hih0 ⊢
  refine AK.seq ?_
  refine AK.seq ?_
  refine AK.region ?_
  refine AO.val (RV.move rfl) (.none rfl) rfl ?_
  refine AO.val (RV.move rfl) (.none rfl) rfl ?_
  refine AO.val (RV.lenS rfl) (.none rfl) rfl ?_
  refine AO.val (RV.lss rfl rfl) (.none rfl) rfl ?_
  refine AO.val (RV.move rfl) (.none rfl) rfl ?_
  refine AO.caseG rfl rfl rfl ?_ ?_
  · intro hg1
    try simp only [decide_eq_true_eq, decide_eq_false_iff_not, Bool.not_eq_true', Bool.not_eq_false', beq_iff_eq] at hg1
    refine AO.val (RV.move rfl) (.some rfl rfl rfl rfl) rfl ?_
    refine AO.val (RV.lss rfl rfl) (.some rfl rfl rfl rfl) rfl ?_
    refine AO.val (RV.pickT rfl rfl) (.none rfl) rfl ?_
    refine AO.nil ?_
    refine AK.cond rfl ?_ ?_
    · intro hc2
      try simp only [decide_eq_true_eq, decide_eq_false_iff_not, Bool.not_eq_true', Bool.not_eq_false', beq_iff_eq] at hc2
      refine AK.skip ?_
      refine AK.seq ?_
      refine AK.block ?_
      refine AK.draw [] [5, 9] mixed ?_
      refine AD.take 0 rfl (by kernel_rfl) (by first | exact RV.loadAggO rfl rfl (by first | simp | assumption) | exact RV.loadAggP rfl rfl rfl (by first | simp | assumption)) (.none rfl) rfl ?_
      refine AD.takeP 1 rfl (by kernel_rfl) (RV.move rfl) (.none rfl) rfl ?_
      refine AD.takeP 2 rfl (by kernel_rfl) (RV.move rfl) (.none rfl) rfl ?_
      refine AD.takeP 3 rfl (by kernel_rfl) (RV.indexS rfl rfl hl (by omega) rfl) (.none rfl) rfl ?_
      refine AD.take 4 rfl (by kernel_rfl) (RV.loadSA (enc := encDd) (l := l) rfl hl (fun _ => rfl) (by omega) (by simp)) (.none rfl) rfl ?_
      refine AD.one 5 (by kernel_rfl) (AE.eff rfl (EF.callF rfl (would_spec B _ X (fun x hx => by simp [hx]) f fi fo (lget l i))) (.none rfl) rfl ?_)
      rintro _ _ ⟨f2, part, e, rfl, fi2, fo2, rfl⟩
      refine ⟨.inl (by kernel_rfl), ?_⟩
      refine AD.takeP 6 rfl (by kernel_rfl) (RV.move rfl) (.none rfl) rfl ?_
      refine AD.takeP 7 rfl (by kernel_rfl) (RV.extract rfl rfl) (.none rfl) rfl ?_
      refine AD.takeP 8 rfl (by kernel_rfl) (RV.extract rfl rfl) (.none rfl) rfl ?_
      refine AD.one 9 (by kernel_rfl) (AE.effN rfl (EF.storeO rfl rfl rfl rfl rfl rfl) (.none rfl) ?_)
      rintro _ _ rfl
      refine ⟨.inl (by kernel_rfl), ?_⟩
      refine AD.done (by kernel_rfl) ?_
      refine AK.inBlock ?_
      refine AK.region ?_
      refine AO.val (RV.move rfl) (.none rfl) rfl ?_
      refine AO.val (by first | exact RV.addIn rfl rfl (by omega) | exact RV.add rfl rfl) (.none rfl) rfl ?_
      refine AO.val (RV.assign rfl) (.none rfl) rfl ?_
      refine AO.nil ?_
      -- round ends at L0tT
      refine AK.perm (perm_made ..) ?_
      refine AK.weak (.cons (by exact rfl) (.cons (by exact rfl) (.cons (by exact rfl) (.cons (by exact rfl) .nil)))) (by first | exact SubO.sub | exact List.Sublist.refl _ | exact .cons _ (List.Sublist.refl _) | exact .cons _ (.cons _ (List.Sublist.refl _)) | exact .cons _ (.cons _ (.cons _ (List.Sublist.refl _)))) (hih0 (i + 1, f2, part ++ X) ?_ ?_)
      · try dsimp only
        exact ⟨by omega, by omega, fi2, fo2⟩
      · try dsimp only
        omega
    · intro hc2
      try simp only [decide_eq_true_eq, decide_eq_false_iff_not, Bool.not_eq_true', Bool.not_eq_false', beq_iff_eq] at hc2
      refine AK.exit rfl ?_
      refine AK.seq ?_
      refine AK.region ?_
      refine AO.val (by first | exact RV.loadAggO rfl rfl (by first | simp | assumption) | exact RV.loadAggP rfl rfl rfl (by first | simp | assumption)) (.none rfl) rfl ?_
      refine AO.effN (EF.storeO rfl rfl rfl rfl rfl rfl) (.none rfl) ?_
      rintro _ _ rfl
      refine AO.nil ?_
      -- at L0tF
      clear hih0
      refine AK.ret (h' := X ++ h) Try.func18 (.aggO rfl rfl .nil) ?_ (by first | exact SubO.sub | exact .cons _ (.cons _ (List.Sublist.refl _)))
      exact ⟨f, X, rfl, fi, fo, rfl⟩
  · intro hg1
    try simp only [decide_eq_true_eq, decide_eq_false_iff_not, Bool.not_eq_true', Bool.not_eq_false', beq_iff_eq] at hg1
    refine AO.pass (.some rfl rfl rfl rfl) rfl ?_
    refine AO.pass (.some rfl rfl rfl rfl) rfl ?_
    refine AO.val (RV.pickF rfl rfl) (.none rfl) rfl ?_
    refine AO.nil ?_
    refine AK.condF rfl ?_
    refine AK.exit rfl ?_
    refine AK.seq ?_
    refine AK.region ?_
    refine AO.val (by first | exact RV.loadAggO rfl rfl (by first | simp | assumption) | exact RV.loadAggP rfl rfl rfl (by first | simp | assumption)) (.none rfl) rfl ?_
    refine AO.effN (EF.storeO rfl rfl rfl rfl rfl rfl) (.none rfl) ?_
    rintro _ _ rfl
    refine AO.nil ?_
    -- at L0f
    clear hih0
    refine AK.ret (h' := X ++ h) Try.func18 (.aggO rfl rfl .nil) ?_ (by first | exact SubO.sub | exact .cons _ (.cons _ (List.Sublist.refl _)))
    exact ⟨f, X, rfl, fi, fo, rfl⟩

end Go.Proofs.Ytbdlohjmifgcaaa
