/- Walks through the code: what each function that is named here gives back, from any memory that holds its arguments. Written by a program of the claim's author, out of the program's form in Lean. -/
import Derived.Test.YtagfegkpgdaimaaS01R2
import Derived.Test.YtagfegkpgdaimaaS13W2
import Derived.Test.YtagfegkpgdaimaaPlain27
set_option linter.unusedSimpArgs false
set_option linter.unusedVariables false
namespace Go.Proofs.Ytagfegkpgdaimaa
open Go.Sep Go.Sep.Sip Go.Sep.Cookie

theorem fbytes_spec (B : World) (h : Own) (f : Flow) : Tri Try.prog B 54 [.agg (encF f).toArray] h fun v h' => NewS 5 1 (FB f).length ((FB f).map (fun x => Value.int .u8 x)) h v h' := by
  refine Tri.enter (n := 19) Try.func54 rfl rfl rfl ?_
  simp only [argsE, Nat.reduceAdd]
  try dsimp only [argsE]
  refine AK.seq ?_
  refine AK.region ?_
  refine AO.eff (EF.box rfl rfl) (.none rfl) rfl ?_
  rintro _ _ ⟨b1, hf1, rfl, rfl⟩
  refine AO.val (RV.assign rfl) (.none rfl) rfl ?_
  refine AO.nil ?_
  refine AK.seq ?_
  refine AK.draw [] [15] mixed ?_
  refine AD.takeP 0 rfl (by kernel_rfl) (RV.fieldAddr rfl) (.none rfl) rfl ?_
  refine AD.take 1 rfl (by kernel_rfl) (by first | exact RV.loadO rfl rfl (by first | simp | assumption) | exact RV.loadS rfl (by assumption) (by omega) (by first | simp | assumption)) (.none rfl) rfl ?_
  refine AD.takeP 2 rfl (by kernel_rfl) (RV.fieldAddr rfl) (.none rfl) rfl ?_
  refine AD.take 3 rfl (by kernel_rfl) (by first | exact RV.loadO rfl rfl (by first | simp | assumption) | exact RV.loadS rfl (by assumption) (by omega) (by first | simp | assumption)) (.none rfl) rfl ?_
  refine AD.takeP 6 rfl (by kernel_rfl) (RV.fieldAddr rfl) (.none rfl) rfl ?_
  refine AD.take 7 rfl (by kernel_rfl) (by first | exact RV.loadO rfl rfl (by first | simp | assumption) | exact RV.loadS rfl (by assumption) (by omega) (by first | simp | assumption)) (.none rfl) rfl ?_
  refine AD.takeP 8 rfl (by kernel_rfl) (RV.fieldAddr rfl) (.none rfl) rfl ?_
  refine AD.take 9 rfl (by kernel_rfl) (by first | exact RV.loadO rfl rfl (by first | simp | assumption) | exact RV.loadS rfl (by assumption) (by omega) (by first | simp | assumption)) (.none rfl) rfl ?_
  refine AD.takeP 12 rfl (by kernel_rfl) (RV.fieldAddr rfl) (.none rfl) rfl ?_
  refine AD.take 13 rfl (by kernel_rfl) (by first | exact RV.loadO rfl rfl (by first | simp | assumption) | exact RV.loadS rfl (by assumption) (by omega) (by first | simp | assumption)) (.none rfl) rfl ?_
  refine AD.cut (α := Nat × Option Addr × Nat × Own × Nat × Option Addr × Nat × Own × Nat) 2 #[true, true, true, true, true, true, true, true, true, true, true, true, true, true, true, false, false] (fun (b7, A8, c8, p8, b13, A14, c14, p14, b17) e => (17, .slice (some ⟨b17, 0, none⟩) 1 1) :: (14, .slice A14 (12) c14) :: (13, .slice (some ⟨b13, 0, none⟩) 2 2) :: (8, .slice A8 (8) c8) :: (7, .slice (some ⟨b7, 0, none⟩) 2 2) :: e) (fun (b7, A8, c8, p8, b13, A14, c14, p14, b17) h => (b17, Blk.cells [.int .u8 f.2.2.2.2.1] 5 (0, 0)) :: (p14 ++ ((b13, Blk.cells [.int .u16 f.2.2.1, .int .u16 f.2.2.2.1] 28 (0, 0)) :: (p8 ++ ((b7, Blk.cells [.int .u32 f.1, .int .u32 f.2.1] 27 (0, 0)) :: (h)))))) (fun (b7, A8, c8, p8, b13, A14, c14, p14, b17) => (Row 5 1 (.slice A8 (8) c8) (8) ((beR 4 f.1 ++ beR 4 f.2.1).map (fun x => Value.int .u8 x)) p8) ∧ ((8) ≤ c8) ∧ (Row 5 1 (.slice A14 (12) c14) (12) (((beR 4 f.1 ++ beR 4 f.2.1) ++ (beR 2 f.2.2.1 ++ beR 2 f.2.2.2.1)).map (fun x => Value.int .u8 x)) p14) ∧ ((12) ≤ c14)) ?_ ?_
  · rintro ⟨b7, A8, c8, p8, b13, A14, c14, p14, b17⟩ ⟨hr8, hc8, hr14, hc14⟩
    try dsimp only
    refine AD.one 15 (by kernel_rfl) (AE.eff rfl (show EF _ _ _ _ _ _ (NewS 5 1 ((FB f).length) ((FB f).map (fun x => Value.int .u8 x)) _) from EF.appendS (n' := (FB f).length) (ys := (FB f).map (fun x => Value.int .u8 x)) rfl rfl hr14 (Src.of_new (el := 5) (cs := [.int .u8 f.2.2.2.2.1]) (by simp) 1 1 (Nat.le_refl _)) (by simp [FB_len]) (by simp [FB]) rfl (by decide) rfl (by omega) (by omega)) (.none rfl) rfl ?_)
    rintro _ _ ⟨A18, c18, p18, rfl, hr18, hc18, rfl⟩
    refine ⟨.inl (by kernel_rfl), ?_⟩
    refine AD.takeP 16 rfl (by kernel_rfl) (RV.assign rfl) (.none rfl) rfl ?_
    refine AD.done (by kernel_rfl) ?_
    -- at 
    refine AK.ret (h' := p18 ++ h) Try.func54 (.tmp rfl .nil) ?_ (by exact SubO.sub)
    exact ⟨A18, c18, p18, rfl, hr18, hc18, rfl⟩
  · intro hst0
    try dsimp only at hst0
    refine AD.cut (α := Nat × Option Addr × Nat × Own × Nat × Nat) 3 #[true, true, true, true, true, true, true, true, true, true, true, false, true, true, true, false, false] (fun (b7, A8, c8, p8, b13, b17) e => (17, .slice (some ⟨b17, 0, none⟩) 1 1) :: (13, .slice (some ⟨b13, 0, none⟩) 2 2) :: (8, .slice A8 (8) c8) :: (7, .slice (some ⟨b7, 0, none⟩) 2 2) :: e) (fun (b7, A8, c8, p8, b13, b17) h => (b17, Blk.cells [.int .u8 f.2.2.2.2.1] 5 (0, 0)) :: ((b13, Blk.cells [.int .u16 f.2.2.1, .int .u16 f.2.2.2.1] 28 (0, 0)) :: (p8 ++ ((b7, Blk.cells [.int .u32 f.1, .int .u32 f.2.1] 27 (0, 0)) :: (h))))) (fun (b7, A8, c8, p8, b13, b17) => (Row 5 1 (.slice A8 (8) c8) (8) ((beR 4 f.1 ++ beR 4 f.2.1).map (fun x => Value.int .u8 x)) p8) ∧ ((8) ≤ c8)) ?_ ?_
    · rintro ⟨b7, A8, c8, p8, b13, b17⟩ ⟨hr8, hc8⟩
      try dsimp only
      refine AD.one 11 (by kernel_rfl) (AE.eff rfl (show EF _ _ _ _ _ _ (NewS 5 1 (12) (((beR 4 f.1 ++ beR 4 f.2.1) ++ (beR 2 f.2.2.1 ++ beR 2 f.2.2.2.1)).map (fun x => Value.int .u8 x)) _) from EF.callF rfl ((put16_spec (cap := c8) (A2 := some ⟨b13, 0, none⟩) (cap2 := 2) B _ (beR 4 f.1 ++ beR 4 f.2.1) [f.2.2.1, f.2.2.2.1] ((hr8.src (h := p8) (fun x hx => hx)).mono fun x hx => by simp [hx]) (by simp [beR_len]) (Src.of_new (el := 28) (cs := [.int .u16 f.2.2.1, .int .u16 f.2.2.2.1]) (by simp) 2 1 (Nat.le_refl _)) (by simp)).mono fun v h2 r => r.to (by simp [beR_len]) (by simp))) (.none rfl) rfl ?_)
      rintro _ _ ⟨A14, c14, p14, rfl, hr14, hc14, rfl⟩
      refine ⟨(by first | exact .inr fun x hx hM => hx | exact .inr fun x hx hM => List.mem_cons_of_mem _ hx | exact .inr fun x hx hM => List.mem_append_right _ hx), ?_⟩
      refine AD.to rfl (by rfl) (.cons rfl (.cons rfl (.cons rfl (.cons rfl (.cons rfl (.drop rfl (.drop rfl (.drop rfl (.drop rfl (.drop rfl .refl)))))))))) (by first | exact List.Perm.refl _ | exact perm_count fun x => by simp only [List.count_append, List.count_cons, List.count_nil]; omega) (hst0 ⟨b7, A8, c8, p8, b13, A14, c14, p14, b17⟩ ⟨hr8, hc8, hr14, hc14⟩)
    · intro hst1
      try dsimp only at hst1
      refine AD.cut (α := Nat × Option Addr × Nat × Own × Nat) 4 #[true, true, true, true, true, true, true, true, true, true, true, false, true, true, false, false, false] (fun (b7, A8, c8, p8, b13) e => (13, .slice (some ⟨b13, 0, none⟩) 2 2) :: (8, .slice A8 (8) c8) :: (7, .slice (some ⟨b7, 0, none⟩) 2 2) :: e) (fun (b7, A8, c8, p8, b13) h => (b13, Blk.cells [.int .u16 f.2.2.1, .int .u16 f.2.2.2.1] 28 (0, 0)) :: (p8 ++ ((b7, Blk.cells [.int .u32 f.1, .int .u32 f.2.1] 27 (0, 0)) :: (h)))) (fun (b7, A8, c8, p8, b13) => (Row 5 1 (.slice A8 (8) c8) (8) ((beR 4 f.1 ++ beR 4 f.2.1).map (fun x => Value.int .u8 x)) p8) ∧ ((8) ≤ c8)) ?_ ?_
      · rintro ⟨b7, A8, c8, p8, b13⟩ ⟨hr8, hc8⟩
        try dsimp only
        refine AD.many (i := 11) (l := [14]) (by kernel_rfl) (.cons ?_ (.cons ?_ (.nil)))
        · skip
          refine AE.eff rfl (show EF _ _ _ _ _ _ (NewS 5 1 (12) (((beR 4 f.1 ++ beR 4 f.2.1) ++ (beR 2 f.2.2.1 ++ beR 2 f.2.2.2.1)).map (fun x => Value.int .u8 x)) _) from EF.callF rfl ((put16_spec (cap := c8) (A2 := some ⟨b13, 0, none⟩) (cap2 := 2) B _ (beR 4 f.1 ++ beR 4 f.2.1) [f.2.2.1, f.2.2.2.1] ((hr8.src (h := p8) (fun x hx => hx)).mono fun x hx => by simp [hx]) (by simp [beR_len]) (Src.of_new (el := 28) (cs := [.int .u16 f.2.2.1, .int .u16 f.2.2.2.1]) (by simp) 2 1 (Nat.le_refl _)) (by simp)).mono fun v h2 r => r.to (by simp [beR_len]) (by simp))) (.none rfl) rfl ?_
          rintro _ _ ⟨A14, c14, p14, rfl, hr14, hc14, rfl⟩
          refine ⟨(by first | exact .inr fun x hx hM => hx | exact .inr fun x hx hM => List.mem_cons_of_mem _ hx | exact .inr fun x hx hM => List.mem_append_right _ hx), ?_⟩
          refine AD.one 14 (by kernel_rfl) (AE.eff rfl (EF.buildSeq [.int .u8 f.2.2.2.2.1] rfl rfl rfl rfl) (.none rfl) rfl ?_)
          rintro _ _ ⟨b17, hf17, rfl, rfl⟩
          refine ⟨(by first | exact .inr fun x hx hM => hx | exact .inr fun x hx hM => List.mem_cons_of_mem _ hx | exact .inr fun x hx hM => List.mem_append_right _ hx), ?_⟩
          refine AD.to rfl (by rfl) (.cons rfl (.cons rfl (.cons rfl (.cons rfl (.cons rfl (.drop rfl (.drop rfl (.drop rfl (.drop rfl (.drop rfl .refl)))))))))) (by first | exact List.Perm.refl _ | exact perm_count fun x => by simp only [List.count_append, List.count_cons, List.count_nil]; omega) (hst0 ⟨b7, A8, c8, p8, b13, A14, c14, p14, b17⟩ ⟨hr8, hc8, hr14, hc14⟩)
        · skip
          refine AE.eff rfl (EF.buildSeq [.int .u8 f.2.2.2.2.1] rfl rfl rfl rfl) (.none rfl) rfl ?_
          rintro _ _ ⟨b17, hf17, rfl, rfl⟩
          refine ⟨(by first | exact .inr fun x hx hM => hx | exact .inr fun x hx hM => List.mem_cons_of_mem _ hx | exact .inr fun x hx hM => List.mem_append_right _ hx), ?_⟩
          refine AD.to rfl (by rfl) (.cons rfl (.cons rfl (.cons rfl (.cons rfl (.drop rfl (.drop rfl (.drop rfl (.drop rfl .refl)))))))) (by first | exact List.Perm.refl _ | exact perm_count fun x => by simp only [List.count_append, List.count_cons, List.count_nil]; omega) (hst1 ⟨b7, A8, c8, p8, b13, b17⟩ ⟨hr8, hc8⟩)
      · intro hst2
        try dsimp only at hst2
        refine AD.cut (α := Nat × Option Addr × Nat × Own × Nat) 4 #[true, true, true, true, true, true, true, true, true, true, false, false, true, true, true, false, false] (fun (b7, A8, c8, p8, b17) e => (17, .slice (some ⟨b17, 0, none⟩) 1 1) :: (8, .slice A8 (8) c8) :: (7, .slice (some ⟨b7, 0, none⟩) 2 2) :: e) (fun (b7, A8, c8, p8, b17) h => (b17, Blk.cells [.int .u8 f.2.2.2.2.1] 5 (0, 0)) :: (p8 ++ ((b7, Blk.cells [.int .u32 f.1, .int .u32 f.2.1] 27 (0, 0)) :: (h)))) (fun (b7, A8, c8, p8, b17) => (Row 5 1 (.slice A8 (8) c8) (8) ((beR 4 f.1 ++ beR 4 f.2.1).map (fun x => Value.int .u8 x)) p8) ∧ ((8) ≤ c8)) ?_ ?_
        · rintro ⟨b7, A8, c8, p8, b17⟩ ⟨hr8, hc8⟩
          try dsimp only
          refine AD.one 10 (by kernel_rfl) (AE.eff rfl (EF.buildSeq [.int .u16 f.2.2.1, .int .u16 f.2.2.2.1] rfl rfl rfl rfl) (.none rfl) rfl ?_)
          rintro _ _ ⟨b13, hf13, rfl, rfl⟩
          refine ⟨(by first | exact .inr fun x hx hM => hx | exact .inr fun x hx hM => List.mem_cons_of_mem _ hx | exact .inr fun x hx hM => List.mem_append_right _ hx), ?_⟩
          refine AD.to rfl (by rfl) (.cons rfl (.cons rfl (.cons rfl (.cons rfl (.drop rfl (.drop rfl (.drop rfl (.drop rfl .refl)))))))) (by first | exact List.Perm.refl _ | exact perm_count fun x => by simp only [List.count_append, List.count_cons, List.count_nil]; omega) (hst1 ⟨b7, A8, c8, p8, b13, b17⟩ ⟨hr8, hc8⟩)
        · intro hst3
          try dsimp only at hst3
          refine AD.cut (α := Nat × Nat × Nat) 4 #[true, true, true, true, true, false, true, true, true, true, true, false, true, true, true, false, false] (fun (b7, b13, b17) e => (17, .slice (some ⟨b17, 0, none⟩) 1 1) :: (13, .slice (some ⟨b13, 0, none⟩) 2 2) :: (7, .slice (some ⟨b7, 0, none⟩) 2 2) :: e) (fun (b7, b13, b17) h => (b17, Blk.cells [.int .u8 f.2.2.2.2.1] 5 (0, 0)) :: ((b13, Blk.cells [.int .u16 f.2.2.1, .int .u16 f.2.2.2.1] 28 (0, 0)) :: ((b7, Blk.cells [.int .u32 f.1, .int .u32 f.2.1] 27 (0, 0)) :: (h)))) (fun (b7, b13, b17) => True) ?_ ?_
          · rintro ⟨b7, b13, b17⟩ _
            try dsimp only
            refine AD.one 5 (by kernel_rfl) (AE.eff rfl (show EF _ _ _ _ _ _ (NewS 5 1 (8) ((beR 4 f.1 ++ beR 4 f.2.1).map (fun x => Value.int .u8 x)) _) from EF.callF rfl ((put32_spec (A2 := some ⟨b7, 0, none⟩) (cap2 := 2) B _ (A := none) (cap := 0) [] [f.1, f.2.1] ⟨rfl, by simp⟩ (by decide) (Src.of_new (el := 27) (cs := [.int .u32 f.1, .int .u32 f.2.1]) (by simp) 2 1 (Nat.le_refl _)) (by simp)).mono fun v h2 r => r.to rfl (by simp))) (.none rfl) rfl ?_)
            rintro _ _ ⟨A8, c8, p8, rfl, hr8, hc8, rfl⟩
            refine ⟨(by first | exact .inr fun x hx hM => hx | exact .inr fun x hx hM => List.mem_cons_of_mem _ hx | exact .inr fun x hx hM => List.mem_append_right _ hx), ?_⟩
            refine AD.to rfl (by rfl) (.cons rfl (.cons rfl (.cons rfl (.cons rfl (.drop rfl (.drop rfl (.drop rfl (.drop rfl .refl)))))))) (by first | exact List.Perm.refl _ | exact perm_count fun x => by simp only [List.count_append, List.count_cons, List.count_nil]; omega) (hst1 ⟨b7, A8, c8, p8, b13, b17⟩ ⟨hr8, hc8⟩)
          · intro hst4
            try dsimp only at hst4
            refine AD.cut (α := Nat × Nat) 5 #[true, true, true, true, true, false, true, true, true, true, true, false, true, true, false, false, false] (fun (b7, b13) e => (13, .slice (some ⟨b13, 0, none⟩) 2 2) :: (7, .slice (some ⟨b7, 0, none⟩) 2 2) :: e) (fun (b7, b13) h => (b13, Blk.cells [.int .u16 f.2.2.1, .int .u16 f.2.2.2.1] 28 (0, 0)) :: ((b7, Blk.cells [.int .u32 f.1, .int .u32 f.2.1] 27 (0, 0)) :: (h))) (fun (b7, b13) => True) ?_ ?_
            · rintro ⟨b7, b13⟩ _
              try dsimp only
              refine AD.many (i := 5) (l := [14]) (by kernel_rfl) (.cons ?_ (.cons ?_ (.nil)))
              · skip
                refine AE.eff rfl (show EF _ _ _ _ _ _ (NewS 5 1 (8) ((beR 4 f.1 ++ beR 4 f.2.1).map (fun x => Value.int .u8 x)) _) from EF.callF rfl ((put32_spec (A2 := some ⟨b7, 0, none⟩) (cap2 := 2) B _ (A := none) (cap := 0) [] [f.1, f.2.1] ⟨rfl, by simp⟩ (by decide) (Src.of_new (el := 27) (cs := [.int .u32 f.1, .int .u32 f.2.1]) (by simp) 2 1 (Nat.le_refl _)) (by simp)).mono fun v h2 r => r.to rfl (by simp))) (.none rfl) rfl ?_
                rintro _ _ ⟨A8, c8, p8, rfl, hr8, hc8, rfl⟩
                refine ⟨(by first | exact .inr fun x hx hM => hx | exact .inr fun x hx hM => List.mem_cons_of_mem _ hx | exact .inr fun x hx hM => List.mem_append_right _ hx), ?_⟩
                refine AD.to rfl (by rfl) (.cons rfl (.cons rfl (.cons rfl (.drop rfl (.drop rfl (.drop rfl .refl)))))) (by first | exact List.Perm.refl _ | exact perm_count fun x => by simp only [List.count_append, List.count_cons, List.count_nil]; omega) (hst2 ⟨b7, A8, c8, p8, b13⟩ ⟨hr8, hc8⟩)
              · skip
                refine AE.eff rfl (EF.buildSeq [.int .u8 f.2.2.2.2.1] rfl rfl rfl rfl) (.none rfl) rfl ?_
                rintro _ _ ⟨b17, hf17, rfl, rfl⟩
                refine ⟨(by first | exact .inr fun x hx hM => hx | exact .inr fun x hx hM => List.mem_cons_of_mem _ hx | exact .inr fun x hx hM => List.mem_append_right _ hx), ?_⟩
                refine AD.to rfl (by rfl) (.cons rfl (.cons rfl (.cons rfl (.drop rfl (.drop rfl (.drop rfl .refl)))))) (by first | exact List.Perm.refl _ | exact perm_count fun x => by simp only [List.count_append, List.count_cons, List.count_nil]; omega) (hst4 ⟨b7, b13, b17⟩ trivial)
            · intro hst5
              try dsimp only at hst5
              refine AD.cut (α := Nat × Nat) 5 #[true, true, true, true, true, false, true, true, true, true, false, false, true, true, true, false, false] (fun (b7, b17) e => (17, .slice (some ⟨b17, 0, none⟩) 1 1) :: (7, .slice (some ⟨b7, 0, none⟩) 2 2) :: e) (fun (b7, b17) h => (b17, Blk.cells [.int .u8 f.2.2.2.2.1] 5 (0, 0)) :: ((b7, Blk.cells [.int .u32 f.1, .int .u32 f.2.1] 27 (0, 0)) :: (h))) (fun (b7, b17) => True) ?_ ?_
              · rintro ⟨b7, b17⟩ _
                try dsimp only
                refine AD.many (i := 5) (l := [10]) (by kernel_rfl) (.cons ?_ (.cons ?_ (.nil)))
                · skip
                  refine AE.eff rfl (show EF _ _ _ _ _ _ (NewS 5 1 (8) ((beR 4 f.1 ++ beR 4 f.2.1).map (fun x => Value.int .u8 x)) _) from EF.callF rfl ((put32_spec (A2 := some ⟨b7, 0, none⟩) (cap2 := 2) B _ (A := none) (cap := 0) [] [f.1, f.2.1] ⟨rfl, by simp⟩ (by decide) (Src.of_new (el := 27) (cs := [.int .u32 f.1, .int .u32 f.2.1]) (by simp) 2 1 (Nat.le_refl _)) (by simp)).mono fun v h2 r => r.to rfl (by simp))) (.none rfl) rfl ?_
                  rintro _ _ ⟨A8, c8, p8, rfl, hr8, hc8, rfl⟩
                  refine ⟨(by first | exact .inr fun x hx hM => hx | exact .inr fun x hx hM => List.mem_cons_of_mem _ hx | exact .inr fun x hx hM => List.mem_append_right _ hx), ?_⟩
                  refine AD.to rfl (by rfl) (.cons rfl (.cons rfl (.cons rfl (.drop rfl (.drop rfl (.drop rfl .refl)))))) (by first | exact List.Perm.refl _ | exact perm_count fun x => by simp only [List.count_append, List.count_cons, List.count_nil]; omega) (hst3 ⟨b7, A8, c8, p8, b17⟩ ⟨hr8, hc8⟩)
                · skip
                  refine AE.eff rfl (EF.buildSeq [.int .u16 f.2.2.1, .int .u16 f.2.2.2.1] rfl rfl rfl rfl) (.none rfl) rfl ?_
                  rintro _ _ ⟨b13, hf13, rfl, rfl⟩
                  refine ⟨(by first | exact .inr fun x hx hM => hx | exact .inr fun x hx hM => List.mem_cons_of_mem _ hx | exact .inr fun x hx hM => List.mem_append_right _ hx), ?_⟩
                  refine AD.to rfl (by rfl) (.cons rfl (.cons rfl (.cons rfl (.drop rfl (.drop rfl (.drop rfl .refl)))))) (by first | exact List.Perm.refl _ | exact perm_count fun x => by simp only [List.count_append, List.count_cons, List.count_nil]; omega) (hst4 ⟨b7, b13, b17⟩ trivial)
              · intro hst6
                try dsimp only at hst6
                refine AD.cut (α := Nat × Nat) 5 #[true, true, true, true, false, false, true, true, true, true, true, false, true, true, true, false, false] (fun (b13, b17) e => (17, .slice (some ⟨b17, 0, none⟩) 1 1) :: (13, .slice (some ⟨b13, 0, none⟩) 2 2) :: e) (fun (b13, b17) h => (b17, Blk.cells [.int .u8 f.2.2.2.2.1] 5 (0, 0)) :: ((b13, Blk.cells [.int .u16 f.2.2.1, .int .u16 f.2.2.2.1] 28 (0, 0)) :: (h))) (fun (b13, b17) => True) ?_ ?_
                · rintro ⟨b13, b17⟩ _
                  try dsimp only
                  refine AD.one 4 (by kernel_rfl) (AE.eff rfl (EF.buildSeq [.int .u32 f.1, .int .u32 f.2.1] rfl rfl rfl rfl) (.none rfl) rfl ?_)
                  rintro _ _ ⟨b7, hf7, rfl, rfl⟩
                  refine ⟨(by first | exact .inr fun x hx hM => hx | exact .inr fun x hx hM => List.mem_cons_of_mem _ hx | exact .inr fun x hx hM => List.mem_append_right _ hx), ?_⟩
                  refine AD.to rfl (by rfl) (.cons rfl (.cons rfl (.cons rfl (.drop rfl (.drop rfl (.drop rfl .refl)))))) (by first | exact List.Perm.refl _ | exact perm_count fun x => by simp only [List.count_append, List.count_cons, List.count_nil]; omega) (hst4 ⟨b7, b13, b17⟩ trivial)
                · intro hst7
                  try dsimp only at hst7
                  refine AD.many (i := 4) (l := [10, 14]) (by kernel_rfl) (.cons ?_ (.cons ?_ (.cons ?_ (.nil))))
                  · skip
                    refine AE.eff rfl (EF.buildSeq [.int .u32 f.1, .int .u32 f.2.1] rfl rfl rfl rfl) (.none rfl) rfl ?_
                    rintro _ _ ⟨b7, hf7, rfl, rfl⟩
                    refine ⟨(by first | exact .inr fun x hx hM => hx | exact .inr fun x hx hM => List.mem_cons_of_mem _ hx | exact .inr fun x hx hM => List.mem_append_right _ hx), ?_⟩
                    refine AD.many (i := 5) (l := [10, 14]) (by kernel_rfl) (.cons ?_ (.cons ?_ (.cons ?_ (.nil))))
                    · skip
                      refine AE.eff rfl (show EF _ _ _ _ _ _ (NewS 5 1 (8) ((beR 4 f.1 ++ beR 4 f.2.1).map (fun x => Value.int .u8 x)) _) from EF.callF rfl ((put32_spec (A2 := some ⟨b7, 0, none⟩) (cap2 := 2) B _ (A := none) (cap := 0) [] [f.1, f.2.1] ⟨rfl, by simp⟩ (by decide) (Src.of_new (el := 27) (cs := [.int .u32 f.1, .int .u32 f.2.1]) (by simp) 2 1 (Nat.le_refl _)) (by simp)).mono fun v h2 r => r.to rfl (by simp))) (.none rfl) rfl ?_
                      rintro _ _ ⟨A8, c8, p8, rfl, hr8, hc8, rfl⟩
                      refine ⟨(by first | exact .inr fun x hx hM => hx | exact .inr fun x hx hM => List.mem_cons_of_mem _ hx | exact .inr fun x hx hM => List.mem_append_right _ hx), ?_⟩
                      refine AD.many (i := 10) (l := [14]) (by kernel_rfl) (.cons ?_ (.cons ?_ (.nil)))
                      · skip
                        refine AE.eff rfl (EF.buildSeq [.int .u16 f.2.2.1, .int .u16 f.2.2.2.1] rfl rfl rfl rfl) (.none rfl) rfl ?_
                        rintro _ _ ⟨b13, hf13, rfl, rfl⟩
                        refine ⟨(by first | exact .inr fun x hx hM => hx | exact .inr fun x hx hM => List.mem_cons_of_mem _ hx | exact .inr fun x hx hM => List.mem_append_right _ hx), ?_⟩
                        refine AD.to rfl (by rfl) (.cons rfl (.cons rfl (.cons rfl (.drop rfl (.drop rfl (.drop rfl .refl)))))) (by first | exact List.Perm.refl _ | exact perm_count fun x => by simp only [List.count_append, List.count_cons, List.count_nil]; omega) (hst2 ⟨b7, A8, c8, p8, b13⟩ ⟨hr8, hc8⟩)
                      · skip
                        refine AE.eff rfl (EF.buildSeq [.int .u8 f.2.2.2.2.1] rfl rfl rfl rfl) (.none rfl) rfl ?_
                        rintro _ _ ⟨b17, hf17, rfl, rfl⟩
                        refine ⟨(by first | exact .inr fun x hx hM => hx | exact .inr fun x hx hM => List.mem_cons_of_mem _ hx | exact .inr fun x hx hM => List.mem_append_right _ hx), ?_⟩
                        refine AD.to rfl (by rfl) (.cons rfl (.cons rfl (.cons rfl (.drop rfl (.drop rfl (.drop rfl .refl)))))) (by first | exact List.Perm.refl _ | exact perm_count fun x => by simp only [List.count_append, List.count_cons, List.count_nil]; omega) (hst3 ⟨b7, A8, c8, p8, b17⟩ ⟨hr8, hc8⟩)
                    · skip
                      refine AE.eff rfl (EF.buildSeq [.int .u16 f.2.2.1, .int .u16 f.2.2.2.1] rfl rfl rfl rfl) (.none rfl) rfl ?_
                      rintro _ _ ⟨b13, hf13, rfl, rfl⟩
                      refine ⟨(by first | exact .inr fun x hx hM => hx | exact .inr fun x hx hM => List.mem_cons_of_mem _ hx | exact .inr fun x hx hM => List.mem_append_right _ hx), ?_⟩
                      refine AD.to rfl (by rfl) (.cons rfl (.cons rfl (.drop rfl (.drop rfl .refl)))) (by first | exact List.Perm.refl _ | exact perm_count fun x => by simp only [List.count_append, List.count_cons, List.count_nil]; omega) (hst5 ⟨b7, b13⟩ trivial)
                    · skip
                      refine AE.eff rfl (EF.buildSeq [.int .u8 f.2.2.2.2.1] rfl rfl rfl rfl) (.none rfl) rfl ?_
                      rintro _ _ ⟨b17, hf17, rfl, rfl⟩
                      refine ⟨(by first | exact .inr fun x hx hM => hx | exact .inr fun x hx hM => List.mem_cons_of_mem _ hx | exact .inr fun x hx hM => List.mem_append_right _ hx), ?_⟩
                      refine AD.to rfl (by rfl) (.cons rfl (.cons rfl (.drop rfl (.drop rfl .refl)))) (by first | exact List.Perm.refl _ | exact perm_count fun x => by simp only [List.count_append, List.count_cons, List.count_nil]; omega) (hst6 ⟨b7, b17⟩ trivial)
                  · skip
                    refine AE.eff rfl (EF.buildSeq [.int .u16 f.2.2.1, .int .u16 f.2.2.2.1] rfl rfl rfl rfl) (.none rfl) rfl ?_
                    rintro _ _ ⟨b13, hf13, rfl, rfl⟩
                    refine ⟨(by first | exact .inr fun x hx hM => hx | exact .inr fun x hx hM => List.mem_cons_of_mem _ hx | exact .inr fun x hx hM => List.mem_append_right _ hx), ?_⟩
                    refine AD.many (i := 4) (l := [14]) (by kernel_rfl) (.cons ?_ (.cons ?_ (.nil)))
                    · skip
                      refine AE.eff rfl (EF.buildSeq [.int .u32 f.1, .int .u32 f.2.1] rfl rfl rfl rfl) (.none rfl) rfl ?_
                      rintro _ _ ⟨b7, hf7, rfl, rfl⟩
                      refine ⟨(by first | exact .inr fun x hx hM => hx | exact .inr fun x hx hM => List.mem_cons_of_mem _ hx | exact .inr fun x hx hM => List.mem_append_right _ hx), ?_⟩
                      refine AD.to rfl (by rfl) (.cons rfl (.cons rfl (.drop rfl (.drop rfl .refl)))) (by first | exact List.Perm.refl _ | exact perm_count fun x => by simp only [List.count_append, List.count_cons, List.count_nil]; omega) (hst5 ⟨b7, b13⟩ trivial)
                    · skip
                      refine AE.eff rfl (EF.buildSeq [.int .u8 f.2.2.2.2.1] rfl rfl rfl rfl) (.none rfl) rfl ?_
                      rintro _ _ ⟨b17, hf17, rfl, rfl⟩
                      refine ⟨(by first | exact .inr fun x hx hM => hx | exact .inr fun x hx hM => List.mem_cons_of_mem _ hx | exact .inr fun x hx hM => List.mem_append_right _ hx), ?_⟩
                      refine AD.to rfl (by rfl) (.cons rfl (.cons rfl (.drop rfl (.drop rfl .refl)))) (by first | exact List.Perm.refl _ | exact perm_count fun x => by simp only [List.count_append, List.count_cons, List.count_nil]; omega) (hst7 ⟨b13, b17⟩ trivial)
                  · skip
                    refine AE.eff rfl (EF.buildSeq [.int .u8 f.2.2.2.2.1] rfl rfl rfl rfl) (.none rfl) rfl ?_
                    rintro _ _ ⟨b17, hf17, rfl, rfl⟩
                    refine ⟨(by first | exact .inr fun x hx hM => hx | exact .inr fun x hx hM => List.mem_cons_of_mem _ hx | exact .inr fun x hx hM => List.mem_append_right _ hx), ?_⟩
                    refine AD.many (i := 4) (l := [10]) (by kernel_rfl) (.cons ?_ (.cons ?_ (.nil)))
                    · skip
                      refine AE.eff rfl (EF.buildSeq [.int .u32 f.1, .int .u32 f.2.1] rfl rfl rfl rfl) (.none rfl) rfl ?_
                      rintro _ _ ⟨b7, hf7, rfl, rfl⟩
                      refine ⟨(by first | exact .inr fun x hx hM => hx | exact .inr fun x hx hM => List.mem_cons_of_mem _ hx | exact .inr fun x hx hM => List.mem_append_right _ hx), ?_⟩
                      refine AD.to rfl (by rfl) (.cons rfl (.cons rfl (.drop rfl (.drop rfl .refl)))) (by first | exact List.Perm.refl _ | exact perm_count fun x => by simp only [List.count_append, List.count_cons, List.count_nil]; omega) (hst6 ⟨b7, b17⟩ trivial)
                    · skip
                      refine AE.eff rfl (EF.buildSeq [.int .u16 f.2.2.1, .int .u16 f.2.2.2.1] rfl rfl rfl rfl) (.none rfl) rfl ?_
                      rintro _ _ ⟨b13, hf13, rfl, rfl⟩
                      refine ⟨(by first | exact .inr fun x hx hM => hx | exact .inr fun x hx hM => List.mem_cons_of_mem _ hx | exact .inr fun x hx hM => List.mem_append_right _ hx), ?_⟩
                      refine AD.to rfl (by rfl) (.cons rfl (.cons rfl (.drop rfl (.drop rfl .refl)))) (by first | exact List.Perm.refl _ | exact perm_count fun x => by simp only [List.count_append, List.count_cons, List.count_nil]; omega) (hst7 ⟨b13, b17⟩ trivial)

theorem put4_spec (B : World) (h : Own) (x : Int) (hx : 0 ≤ x ∧ x ≤ 4294967295) : Tri Try.prog B 50 [.int .u32 x, .int .i64 4] h fun v h' => NewS 5 1 (beR 4 x).length ((beR 4 x).map (fun x => Value.int .u8 x)) h v h' :=
  (put_spec B h x 4 hx (by decide)).mono fun v h' r => r.to (by simp [beR_len]) rfl
theorem put2_spec (B : World) (h : Own) (x : Int) (hx : 0 ≤ x ∧ x ≤ 4294967295) : Tri Try.prog B 50 [.int .u32 x, .int .i64 2] h fun v h' => NewS 5 1 (beR 2 x).length ((beR 2 x).map (fun x => Value.int .u8 x)) h v h' :=
  (put_spec B h x 2 hx (by decide)).mono fun v h' r => r.to (by simp [beR_len]) rfl

theorem rfbytes_spec (B : World) (h : Own) (f : Flow) (hf : FOk f) : Tri Try.prog B 49 [.agg (encF f).toArray] h fun v h' => NewS 5 1 (FB f).length ((FB f).map (fun x => Value.int .u8 x)) h v h' := by
  have hfa := hf.a
  have hfb := hf.b
  have hfc := hf.c
  have hfd := hf.d
  refine Tri.enter (n := 27) Try.func49 rfl rfl rfl ?_
  simp only [argsE, Nat.reduceAdd]
  try dsimp only [argsE]
  refine AK.seq ?_
  refine AK.region ?_
  refine AO.eff (EF.box rfl rfl) (.none rfl) rfl ?_
  rintro _ _ ⟨b1, hf1, rfl, rfl⟩
  refine AO.val (RV.assign rfl) (.none rfl) rfl ?_
  refine AO.nil ?_
  refine AK.seq ?_
  refine AK.draw [] [5, 6] mixed ?_
  refine AD.takeP 0 rfl (by kernel_rfl) (RV.fieldAddr rfl) (.none rfl) rfl ?_
  refine AD.take 1 rfl (by kernel_rfl) (by first | exact RV.loadO rfl rfl (by first | simp | assumption) | exact RV.loadS rfl (by assumption) (by omega) (by first | simp | assumption)) (.none rfl) rfl ?_
  refine AD.takeP 3 rfl (by kernel_rfl) (RV.fieldAddr rfl) (.none rfl) rfl ?_
  refine AD.take 4 rfl (by kernel_rfl) (by first | exact RV.loadO rfl rfl (by first | simp | assumption) | exact RV.loadS rfl (by assumption) (by omega) (by first | simp | assumption)) (.none rfl) rfl ?_
  refine AD.one 2 (by kernel_rfl) (AE.eff rfl (EF.callF rfl (put4_spec B _ f.1 (by omega))) (.none rfl) rfl ?_)
  rintro _ _ ⟨A6, c6, p6, rfl, hr6, hc6, rfl⟩
  refine ⟨(by first | exact .inr fun x hx hM => hx | exact .inr fun x hx hM => List.mem_cons_of_mem _ hx | exact .inr fun x hx hM => List.mem_append_right _ hx), ?_⟩
  refine AD.one 5 (by kernel_rfl) (AE.eff rfl (EF.callF rfl (put4_spec B _ f.2.1 (by omega))) (.none rfl) rfl ?_)
  rintro _ _ ⟨A9, c9, p9, rfl, hr9, hc9, rfl⟩
  refine ⟨.inl (by kernel_rfl), ?_⟩
  refine AD.one 6 (by kernel_rfl) (AE.eff rfl (EF.callF rfl (add_spec B _ (beR 4 f.1) (beR 4 f.2.1) ((hr6.src (h := p6) (fun x hx => hx)).mono fun x hx => by simp [hx]) ((hr9.src (h := p9) (fun x hx => hx)).mono fun x hx => by simp [hx]) (by simp [beR_len]))) (.none rfl) rfl ?_)
  rintro _ _ ⟨A10, c10, p10, rfl, hr10, hc10, rfl⟩
  refine ⟨.inl (by kernel_rfl), ?_⟩
  refine AD.takeP 7 rfl (by kernel_rfl) (RV.assign rfl) (.none rfl) rfl ?_
  refine AD.done (by kernel_rfl) ?_
  refine AK.seq ?_
  refine AK.draw [] [8, 9, 10] mixed ?_
  refine AD.takeP 0 rfl (by kernel_rfl) (RV.move rfl) (.none rfl) rfl ?_
  refine AD.takeP 1 rfl (by kernel_rfl) (RV.fieldAddr rfl) (.none rfl) rfl ?_
  refine AD.take 2 rfl (by kernel_rfl) (by first | exact RV.loadO rfl rfl (by first | simp | assumption) | exact RV.loadS rfl (by assumption) (by omega) (by first | simp | assumption)) (.none rfl) rfl ?_
  refine AD.takeP 3 rfl (by kernel_rfl) (by first | exact RV.convIn rfl (by simp only [kb]; omega) | exact RV.conv rfl) (.none rfl) rfl ?_
  refine AD.takeP 5 rfl (by kernel_rfl) (RV.fieldAddr rfl) (.none rfl) rfl ?_
  refine AD.take 6 rfl (by kernel_rfl) (by first | exact RV.loadO rfl rfl (by first | simp | assumption) | exact RV.loadS rfl (by assumption) (by omega) (by first | simp | assumption)) (.none rfl) rfl ?_
  refine AD.takeP 7 rfl (by kernel_rfl) (by first | exact RV.convIn rfl (by simp only [kb]; omega) | exact RV.conv rfl) (.none rfl) rfl ?_
  refine AD.one 4 (by kernel_rfl) (AE.eff rfl (EF.callF rfl (put2_spec B _ f.2.2.1 (by omega))) (.none rfl) rfl ?_)
  rintro _ _ ⟨A15, c15, p15, rfl, hr15, hc15, rfl⟩
  refine ⟨(by first | exact .inr fun x hx hM => hx | exact .inr fun x hx hM => List.mem_cons_of_mem _ hx | exact .inr fun x hx hM => List.mem_append_right _ hx), ?_⟩
  refine AD.one 8 (by kernel_rfl) (AE.eff rfl (EF.callF rfl (put2_spec B _ f.2.2.2.1 (by omega))) (.none rfl) rfl ?_)
  rintro _ _ ⟨A19, c19, p19, rfl, hr19, hc19, rfl⟩
  refine ⟨.inl (by kernel_rfl), ?_⟩
  refine AD.one 9 (by kernel_rfl) (AE.eff rfl (EF.callF rfl (add_spec B _ (beR 2 f.2.2.1) (beR 2 f.2.2.2.1) ((hr15.src (h := p15) (fun x hx => hx)).mono fun x hx => by simp [hx]) ((hr19.src (h := p19) (fun x hx => hx)).mono fun x hx => by simp [hx]) (by simp [beR_len]))) (.none rfl) rfl ?_)
  rintro _ _ ⟨A20, c20, p20, rfl, hr20, hc20, rfl⟩
  refine ⟨.inl (by kernel_rfl), ?_⟩
  refine AD.one 10 (by kernel_rfl) (AE.eff rfl (EF.callF rfl (add_spec B _ ((beR 4 f.1) ++ (beR 4 f.2.1)) ((beR 2 f.2.2.1) ++ (beR 2 f.2.2.2.1)) ((hr10.src (h := p10) (fun x hx => hx)).mono fun x hx => by simp [hx]) ((hr20.src (h := p20) (fun x hx => hx)).mono fun x hx => by simp [hx]) (by simp [beR_len]))) (.none rfl) rfl ?_)
  rintro _ _ ⟨A21, c21, p21, rfl, hr21, hc21, rfl⟩
  refine ⟨.inl (by kernel_rfl), ?_⟩
  refine AD.takeP 11 rfl (by kernel_rfl) (RV.assign rfl) (.none rfl) rfl ?_
  refine AD.done (by kernel_rfl) ?_
  refine AK.seq ?_
  refine AK.region ?_
  refine AO.val (RV.move rfl) (.none rfl) rfl ?_
  refine AO.val (RV.fieldAddr rfl) (.none rfl) rfl ?_
  refine AO.val (by first | exact RV.loadO rfl rfl (by first | simp | assumption) | exact RV.loadS rfl (by assumption) (by omega) (by first | simp | assumption)) (.none rfl) rfl ?_
  refine AO.eff (EF.buildSeq [.int .u8 f.2.2.2.2.1] rfl rfl rfl rfl) (.none rfl) rfl ?_
  rintro _ _ ⟨b25, hf25, rfl, rfl⟩
  refine AO.eff (EF.appendS (n' := (FB f).length) (ys := (FB f).map (fun x => Value.int .u8 x)) rfl rfl hr21 (Src.of_new (el := 5) (cs := [.int .u8 f.2.2.2.2.1]) (by simp) 1 1 (Nat.le_refl _)) (by simp [FB_len, beR_len]) (by simp [FB]) rfl (by decide) rfl (by simp [beR_len]) (by simp [beR_len])) (.none rfl) rfl ?_
  rintro _ _ ⟨A26, c26, p26, rfl, hr26, hc26, rfl⟩
  refine AO.val (RV.assign rfl) (.none rfl) rfl ?_
  refine AO.nil ?_
  -- at 
  refine AK.ret (h' := p26 ++ h) Try.func49 (.tmp rfl .nil) ?_ (by first | exact SubO.sub | exact List.Sublist.refl _ | exact .cons _ (List.Sublist.refl _) | exact .cons _ (.cons _ (List.Sublist.refl _)) | exact .cons _ (.cons _ (.cons _ (List.Sublist.refl _))))
  exact ⟨A26, c26, p26, rfl, hr26, hc26, rfl⟩

theorem make_spec (B : World) (h : Own) (lo hi : Int) (f : Flow) (hf : FOk f) (isn epoch i : Int) (hisn : 0 ≤ isn ∧ isn ≤ 4294967295) (hep : epoch ≤ 9223372036854775807) (hi63 : i ≤ 9223372036854775807) : Tri Try.prog B 41 [.agg #[.int .u64 lo, .int .u64 hi], .agg (encF f).toArray, .int .u32 isn, .int .i64 epoch, .int .i64 i] h fun v h' => h = h' ∧ v = .int .u32 (makeC lo hi f isn epoch i) := by
  have hsu := sumS_U lo hi (bytesC f isn (max epoch 0 % 32) (max i 0 % 8))
  simp only [U] at hsu
  have hbl : (bytesC f isn (max epoch 0 % 32) (max i 0 % 8)).length = 19 := by simp [bytesC, FB_len, beR_len]
  have hbb : Bytes (bytesC f isn (max epoch 0 % 32) (max i 0 % 8)) := bytes_app (FB_bytes hf) (bytes_app (beR_bytes _ _) (by intro x hx; simp at hx; omega))
  refine Tri.enter (n := 44) Try.func41 rfl rfl rfl ?_
  simp only [argsE, Nat.reduceAdd]
  try dsimp only [argsE]
  refine AK.seq ?_
  refine AK.region ?_
  refine AO.eff (EF.box rfl rfl) (.none rfl) rfl ?_
  rintro _ _ ⟨b5, hf5, rfl, rfl⟩
  refine AO.eff (EF.box rfl rfl) (.none rfl) rfl ?_
  rintro _ _ ⟨b6, hf6, rfl, rfl⟩
  refine AO.val (RV.assign rfl) (.none rfl) rfl ?_
  refine AO.nil ?_
  refine AK.seq ?_
  refine AK.region ?_
  refine AO.val (RV.move rfl) (.none rfl) rfl ?_
  refine AO.val (RV.max2 rfl rfl) (.none rfl) rfl ?_
  refine AO.val (by first | exact RV.remIn rfl rfl (by omega) | exact RV.rem rfl rfl (by omega)) (.none rfl) rfl ?_
  refine AO.val (by first | exact RV.convIn rfl (by simp only [kb]; omega) | exact RV.conv rfl) (.none rfl) rfl ?_
  refine AO.val (RV.move rfl) (.none rfl) rfl ?_
  refine AO.val (RV.max2 rfl rfl) (.none rfl) rfl ?_
  refine AO.val (by first | exact RV.remIn rfl rfl (by omega) | exact RV.rem rfl rfl (by omega)) (.none rfl) rfl ?_
  refine AO.val (by first | exact RV.convIn rfl (by simp only [kb]; omega) | exact RV.conv rfl) (.none rfl) rfl ?_
  refine AO.val (RV.assign rfl) (.none rfl) rfl ?_
  refine AO.val (RV.assign rfl) (.none rfl) rfl ?_
  refine AO.nil ?_
  refine AK.seq ?_
  refine AK.draw [] [2, 5, 9, 10] mixed ?_
  refine AD.take 1 rfl (by kernel_rfl) (by first | exact RV.loadAggO rfl rfl (by first | simp | assumption) | exact RV.loadAggP rfl rfl rfl (by first | simp | assumption)) (.none rfl) rfl ?_
  refine AD.takeP 3 rfl (by kernel_rfl) (RV.move rfl) (.none rfl) rfl ?_
  refine AD.takeP 6 rfl (by kernel_rfl) (RV.move rfl) (.none rfl) rfl ?_
  refine AD.takeP 7 rfl (by kernel_rfl) (RV.move rfl) (.none rfl) rfl ?_
  refine AD.cut (α := Option Addr × Nat × Own × Nat × Option Addr × Nat × Own × Nat × Option Addr × Nat × Own) 2 #[true, true, true, true, true, true, true, true, true, true, false, false] (fun (A24, c24, p24, b26, A27, c27, p27, b30, A31, c31, p31) e => (31, .slice A31 ((bytesC f isn (max epoch 0 % 32) (max i 0 % 8)).length) c31) :: (30, .slice (some ⟨b30, 0, none⟩) 2 2) :: (27, .slice A27 ((FB f ++ beR 4 isn).length) c27) :: (26, .slice (some ⟨b26, 0, none⟩) 1 1) :: (24, .slice A24 ((FB f).length) c24) :: (22, .agg #[.int .u64 lo, .int .u64 hi]) :: e) (fun (A24, c24, p24, b26, A27, c27, p27, b30, A31, c31, p31) h => p31 ++ ((b30, Blk.cells [.int .u8 (max epoch 0 % 32), .int .u8 (max i 0 % 8)] 5 (0, 0)) :: ((b26, Blk.cells [.int .u32 isn] 27 (0, 0)) :: (p24 ++ (h))))) (fun (A24, c24, p24, b26, A27, c27, p27, b30, A31, c31, p31) => (Row 5 1 (.slice A24 ((FB f).length) c24) ((FB f).length) ((FB f).map (fun x => Value.int .u8 x)) p24) ∧ (((FB f).length) ≤ c24) ∧ (Row 5 1 (.slice A27 ((FB f ++ beR 4 isn).length) c27) ((FB f ++ beR 4 isn).length) ((FB f ++ beR 4 isn).map (fun x => Value.int .u8 x)) p27) ∧ (((FB f ++ beR 4 isn).length) ≤ c27) ∧ (Row 5 1 (.slice A31 ((bytesC f isn (max epoch 0 % 32) (max i 0 % 8)).length) c31) ((bytesC f isn (max epoch 0 % 32) (max i 0 % 8)).length) ((bytesC f isn (max epoch 0 % 32) (max i 0 % 8)).map (fun x => Value.int .u8 x)) p31) ∧ (((bytesC f isn (max epoch 0 % 32) (max i 0 % 8)).length) ≤ c31)) ?_ ?_
  · rintro ⟨A24, c24, p24, b26, A27, c27, p27, b30, A31, c31, p31⟩ ⟨hr24, hc24, hr27, hc27, hr31, hc31⟩
    try dsimp only
    refine AD.one 10 (by kernel_rfl) (AE.eff rfl (EF.callF rfl (sum_spec (cap := c31) B _ lo hi (bytesC f isn (max epoch 0 % 32) (max i 0 % 8)) ((hr31.src (h := p31) (fun x hx => hx)).mono fun x hx => by simp [hx]) hbb hc31 (by omega))) (.none rfl) rfl ?_)
    rintro _ _ ⟨rfl, rfl⟩
    refine ⟨.inl (by kernel_rfl), ?_⟩
    refine AD.takeP 11 rfl (by kernel_rfl) (RV.assign rfl) (.none rfl) rfl ?_
    refine AD.done (by kernel_rfl) ?_
    refine AK.seq ?_
    refine AK.region ?_
    refine AO.val (RV.move rfl) (.none rfl) rfl ?_
    refine AO.val (by first | exact RV.convIn rfl (by simp only [kb]; omega) | exact RV.conv rfl) (.none rfl) rfl ?_
    refine AO.val ((RV.shl rfl rfl (by omega)).to (v' := .int .u32 ((max epoch 0 % 32) * 134217728)) (by rw [show (2 : Int) ^ (min (27 : Int).toNat IntKind.u32.bits) = 134217728 by decide]; rw [wrap_in] <;> simp only [kb] <;> omega)) (.none rfl) rfl ?_
    refine AO.val (RV.move rfl) (.none rfl) rfl ?_
    refine AO.val (by first | exact RV.convIn rfl (by simp only [kb]; omega) | exact RV.conv rfl) (.none rfl) rfl ?_
    refine AO.val ((RV.shl rfl rfl (by omega)).to (v' := .int .u32 ((max i 0 % 8) * 16777216)) (by rw [show (2 : Int) ^ (min (24 : Int).toNat IntKind.u32.bits) = 16777216 by decide]; rw [wrap_in] <;> simp only [kb] <;> omega)) (.none rfl) rfl ?_
    refine AO.val ((RV.or rfl rfl).to (v' := .int .u32 ((max epoch 0 % 32) * 134217728 + (max i 0 % 8) * 16777216)) (by rw [(orC (max epoch 0 % 32) (max i 0 % 8) (sumS lo hi (bytesC f isn (max epoch 0 % 32) (max i 0 % 8)) % 16777216) (by omega) (by omega) (by omega)).1])) (.none rfl) rfl ?_
    refine AO.val (RV.move rfl) (.none rfl) rfl ?_
    refine AO.val (by first | exact RV.remIn rfl rfl (by omega) | exact RV.rem rfl rfl (by omega)) (.none rfl) rfl ?_
    refine AO.val (by first | exact RV.convIn rfl (by simp only [kb]; omega) | exact RV.conv rfl) (.none rfl) rfl ?_
    refine AO.val ((RV.or rfl rfl).to (v' := .int .u32 ((max epoch 0 % 32) * 134217728 + (max i 0 % 8) * 16777216 + sumS lo hi (bytesC f isn (max epoch 0 % 32) (max i 0 % 8)) % 16777216)) (by rw [(orC (max epoch 0 % 32) (max i 0 % 8) (sumS lo hi (bytesC f isn (max epoch 0 % 32) (max i 0 % 8)) % 16777216) (by omega) (by omega) (by omega)).2])) (.none rfl) rfl ?_
    refine AO.val (RV.assign rfl) (.none rfl) rfl ?_
    refine AO.nil ?_
    -- at 
    refine AK.ret (h' := h) Try.func41 (.tmp rfl .nil) ?_ (by first | exact SubO.sub | exact List.Sublist.refl _ | exact .cons _ (List.Sublist.refl _) | exact .cons _ (.cons _ (List.Sublist.refl _)) | exact .cons _ (.cons _ (.cons _ (List.Sublist.refl _))))
    exact ⟨rfl, rfl⟩
  · intro hst0
    try dsimp only at hst0
    refine AD.cut (α := Option Addr × Nat × Own × Nat × Option Addr × Nat × Own × Nat) 3 #[true, true, true, true, true, true, true, true, true, false, false, false] (fun (A24, c24, p24, b26, A27, c27, p27, b30) e => (30, .slice (some ⟨b30, 0, none⟩) 2 2) :: (27, .slice A27 ((FB f ++ beR 4 isn).length) c27) :: (26, .slice (some ⟨b26, 0, none⟩) 1 1) :: (24, .slice A24 ((FB f).length) c24) :: (22, .agg #[.int .u64 lo, .int .u64 hi]) :: e) (fun (A24, c24, p24, b26, A27, c27, p27, b30) h => (b30, Blk.cells [.int .u8 (max epoch 0 % 32), .int .u8 (max i 0 % 8)] 5 (0, 0)) :: (p27 ++ ((b26, Blk.cells [.int .u32 isn] 27 (0, 0)) :: (p24 ++ (h))))) (fun (A24, c24, p24, b26, A27, c27, p27, b30) => (Row 5 1 (.slice A24 ((FB f).length) c24) ((FB f).length) ((FB f).map (fun x => Value.int .u8 x)) p24) ∧ (((FB f).length) ≤ c24) ∧ (Row 5 1 (.slice A27 ((FB f ++ beR 4 isn).length) c27) ((FB f ++ beR 4 isn).length) ((FB f ++ beR 4 isn).map (fun x => Value.int .u8 x)) p27) ∧ (((FB f ++ beR 4 isn).length) ≤ c27)) ?_ ?_
    · rintro ⟨A24, c24, p24, b26, A27, c27, p27, b30⟩ ⟨hr24, hc24, hr27, hc27⟩
      try dsimp only
      refine AD.one 9 (by kernel_rfl) (AE.eff rfl (show EF _ _ _ _ _ _ (NewS 5 1 ((bytesC f isn (max epoch 0 % 32) (max i 0 % 8)).length) ((bytesC f isn (max epoch 0 % 32) (max i 0 % 8)).map (fun x => Value.int .u8 x)) _) from EF.appendS (n' := (bytesC f isn (max epoch 0 % 32) (max i 0 % 8)).length) (ys := (bytesC f isn (max epoch 0 % 32) (max i 0 % 8)).map (fun x => Value.int .u8 x)) rfl rfl hr27 (Src.of_new (el := 5) (cs := [.int .u8 (max epoch 0 % 32), .int .u8 (max i 0 % 8)]) (by simp) 2 1 (Nat.le_refl _)) (by simp [FB_len, beR_len, bytesC]) (by simp [bytesC]) rfl (by decide) rfl (by simp [FB_len, beR_len]) (by simp [FB_len, beR_len])) (.none rfl) rfl ?_)
      rintro _ _ ⟨A31, c31, p31, rfl, hr31, hc31, rfl⟩
      refine ⟨.inl (by kernel_rfl), ?_⟩
      refine AD.to rfl (by rfl) (.cons rfl (.cons rfl (.cons rfl (.cons rfl (.cons rfl (.cons rfl (.drop rfl (.drop rfl (.drop rfl (.drop rfl (.drop rfl (.drop rfl .refl)))))))))))) (by first | exact List.Perm.refl _ | exact perm_count fun x => by simp only [List.count_append, List.count_cons, List.count_nil]; omega) (hst0 ⟨A24, c24, p24, b26, A27, c27, p27, b30, A31, c31, p31⟩ ⟨hr24, hc24, hr27, hc27, hr31, hc31⟩)
    · intro hst1
      try dsimp only at hst1
      refine AD.cut (α := Option Addr × Nat × Own × Nat × Option Addr × Nat × Own) 4 #[true, true, true, true, true, true, true, true, false, false, false, false] (fun (A24, c24, p24, b26, A27, c27, p27) e => (27, .slice A27 ((FB f ++ beR 4 isn).length) c27) :: (26, .slice (some ⟨b26, 0, none⟩) 1 1) :: (24, .slice A24 ((FB f).length) c24) :: (22, .agg #[.int .u64 lo, .int .u64 hi]) :: e) (fun (A24, c24, p24, b26, A27, c27, p27) h => p27 ++ ((b26, Blk.cells [.int .u32 isn] 27 (0, 0)) :: (p24 ++ (h)))) (fun (A24, c24, p24, b26, A27, c27, p27) => (Row 5 1 (.slice A24 ((FB f).length) c24) ((FB f).length) ((FB f).map (fun x => Value.int .u8 x)) p24) ∧ (((FB f).length) ≤ c24) ∧ (Row 5 1 (.slice A27 ((FB f ++ beR 4 isn).length) c27) ((FB f ++ beR 4 isn).length) ((FB f ++ beR 4 isn).map (fun x => Value.int .u8 x)) p27) ∧ (((FB f ++ beR 4 isn).length) ≤ c27)) ?_ ?_
      · rintro ⟨A24, c24, p24, b26, A27, c27, p27⟩ ⟨hr24, hc24, hr27, hc27⟩
        try dsimp only
        refine AD.one 8 (by kernel_rfl) (AE.eff rfl (EF.buildSeq [.int .u8 (max epoch 0 % 32), .int .u8 (max i 0 % 8)] rfl rfl rfl rfl) (.none rfl) rfl ?_)
        rintro _ _ ⟨b30, hf30, rfl, rfl⟩
        refine ⟨.inl (by kernel_rfl), ?_⟩
        refine AD.to rfl (by rfl) (.cons rfl (.cons rfl (.cons rfl (.cons rfl (.cons rfl (.drop rfl (.drop rfl (.drop rfl (.drop rfl (.drop rfl .refl)))))))))) (by first | exact List.Perm.refl _ | exact perm_count fun x => by simp only [List.count_append, List.count_cons, List.count_nil]; omega) (hst1 ⟨A24, c24, p24, b26, A27, c27, p27, b30⟩ ⟨hr24, hc24, hr27, hc27⟩)
      · intro hst2
        try dsimp only at hst2
        refine AD.cut (α := Option Addr × Nat × Own × Nat × Nat) 4 #[true, true, true, true, true, false, true, true, true, false, false, false] (fun (A24, c24, p24, b26, b30) e => (30, .slice (some ⟨b30, 0, none⟩) 2 2) :: (26, .slice (some ⟨b26, 0, none⟩) 1 1) :: (24, .slice A24 ((FB f).length) c24) :: (22, .agg #[.int .u64 lo, .int .u64 hi]) :: e) (fun (A24, c24, p24, b26, b30) h => (b30, Blk.cells [.int .u8 (max epoch 0 % 32), .int .u8 (max i 0 % 8)] 5 (0, 0)) :: ((b26, Blk.cells [.int .u32 isn] 27 (0, 0)) :: (p24 ++ (h)))) (fun (A24, c24, p24, b26, b30) => (Row 5 1 (.slice A24 ((FB f).length) c24) ((FB f).length) ((FB f).map (fun x => Value.int .u8 x)) p24) ∧ (((FB f).length) ≤ c24)) ?_ ?_
        · rintro ⟨A24, c24, p24, b26, b30⟩ ⟨hr24, hc24⟩
          try dsimp only
          refine AD.one 5 (by kernel_rfl) (AE.eff rfl (show EF _ _ _ _ _ _ (NewS 5 1 ((FB f ++ beR 4 isn).length) ((FB f ++ beR 4 isn).map (fun x => Value.int .u8 x)) _) from EF.callF rfl ((put32_spec (cap := c24) (A2 := some ⟨b26, 0, none⟩) (cap2 := 1) B _ (FB f) [isn] ((hr24.src (h := p24) (fun x hx => hx)).mono fun x hx => by simp [hx]) (by simp [FB_len]) (Src.of_new (el := 27) (cs := [.int .u32 isn]) (by simp) 1 1 (Nat.le_refl _)) (by simp)).mono fun v h2 r => r.to (by simp [beR_len]) (by simp))) (.none rfl) rfl ?_)
          rintro _ _ ⟨A27, c27, p27, rfl, hr27, hc27, rfl⟩
          refine ⟨.inl (by kernel_rfl), ?_⟩
          refine AD.to rfl (by rfl) (.cons rfl (.cons rfl (.cons rfl (.cons rfl (.cons rfl (.drop rfl (.drop rfl (.drop rfl (.drop rfl (.drop rfl .refl)))))))))) (by first | exact List.Perm.refl _ | exact perm_count fun x => by simp only [List.count_append, List.count_cons, List.count_nil]; omega) (hst1 ⟨A24, c24, p24, b26, A27, c27, p27, b30⟩ ⟨hr24, hc24, hr27, hc27⟩)
        · intro hst3
          try dsimp only at hst3
          refine AD.cut (α := Option Addr × Nat × Own × Nat × Option Addr × Nat × Own × Nat) 4 #[false, true, true, true, true, true, true, true, true, false, false, false] (fun (A24, c24, p24, b26, A27, c27, p27, b30) e => (30, .slice (some ⟨b30, 0, none⟩) 2 2) :: (27, .slice A27 ((FB f ++ beR 4 isn).length) c27) :: (26, .slice (some ⟨b26, 0, none⟩) 1 1) :: (24, .slice A24 ((FB f).length) c24) :: e) (fun (A24, c24, p24, b26, A27, c27, p27, b30) h => (b30, Blk.cells [.int .u8 (max epoch 0 % 32), .int .u8 (max i 0 % 8)] 5 (0, 0)) :: (p27 ++ ((b26, Blk.cells [.int .u32 isn] 27 (0, 0)) :: (p24 ++ (h))))) (fun (A24, c24, p24, b26, A27, c27, p27, b30) => (Row 5 1 (.slice A24 ((FB f).length) c24) ((FB f).length) ((FB f).map (fun x => Value.int .u8 x)) p24) ∧ (((FB f).length) ≤ c24) ∧ (Row 5 1 (.slice A27 ((FB f ++ beR 4 isn).length) c27) ((FB f ++ beR 4 isn).length) ((FB f ++ beR 4 isn).map (fun x => Value.int .u8 x)) p27) ∧ (((FB f ++ beR 4 isn).length) ≤ c27)) ?_ ?_
          · rintro ⟨A24, c24, p24, b26, A27, c27, p27, b30⟩ ⟨hr24, hc24, hr27, hc27⟩
            try dsimp only
            refine AD.many (i := 0) (l := [9]) (by kernel_rfl) (.cons ?_ (.cons ?_ (.nil)))
            · skip
              refine AE.eff rfl (EF.of_val (by first | exact RV.loadAggO rfl rfl (by first | simp | assumption) | exact RV.loadAggP rfl rfl rfl (by first | simp | assumption))) (.none rfl) rfl ?_
              rintro _ _ ⟨rfl, rfl⟩
              refine ⟨.inl (by kernel_rfl), ?_⟩
              refine AD.to rfl (by rfl) (.cons rfl (.cons rfl (.cons rfl (.cons rfl (.cons rfl (.drop rfl (.drop rfl (.drop rfl (.drop rfl (.drop rfl .refl)))))))))) (by first | exact List.Perm.refl _ | exact perm_count fun x => by simp only [List.count_append, List.count_cons, List.count_nil]; omega) (hst1 ⟨A24, c24, p24, b26, A27, c27, p27, b30⟩ ⟨hr24, hc24, hr27, hc27⟩)
            · skip
              refine AE.eff rfl (show EF _ _ _ _ _ _ (NewS 5 1 ((bytesC f isn (max epoch 0 % 32) (max i 0 % 8)).length) ((bytesC f isn (max epoch 0 % 32) (max i 0 % 8)).map (fun x => Value.int .u8 x)) _) from EF.appendS (n' := (bytesC f isn (max epoch 0 % 32) (max i 0 % 8)).length) (ys := (bytesC f isn (max epoch 0 % 32) (max i 0 % 8)).map (fun x => Value.int .u8 x)) rfl rfl hr27 (Src.of_new (el := 5) (cs := [.int .u8 (max epoch 0 % 32), .int .u8 (max i 0 % 8)]) (by simp) 2 1 (Nat.le_refl _)) (by simp [FB_len, beR_len, bytesC]) (by simp [bytesC]) rfl (by decide) rfl (by simp [FB_len, beR_len]) (by simp [FB_len, beR_len])) (.none rfl) rfl ?_
              rintro _ _ ⟨A31, c31, p31, rfl, hr31, hc31, rfl⟩
              refine ⟨.inl (by kernel_rfl), ?_⟩
              refine AD.one 0 (by kernel_rfl) (AE.eff rfl (EF.of_val (by first | exact RV.loadAggO rfl rfl (by first | simp | assumption) | exact RV.loadAggP rfl rfl rfl (by first | simp | assumption))) (.none rfl) rfl ?_)
              rintro _ _ ⟨rfl, rfl⟩
              refine ⟨.inl (by kernel_rfl), ?_⟩
              refine AD.to rfl (by rfl) (.cons rfl (.cons rfl (.cons rfl (.cons rfl (.cons rfl (.cons rfl (.drop rfl (.drop rfl (.drop rfl (.drop rfl (.drop rfl (.drop rfl .refl)))))))))))) (by first | exact List.Perm.refl _ | exact perm_count fun x => by simp only [List.count_append, List.count_cons, List.count_nil]; omega) (hst0 ⟨A24, c24, p24, b26, A27, c27, p27, b30, A31, c31, p31⟩ ⟨hr24, hc24, hr27, hc27, hr31, hc31⟩)
          · intro hst4
            try dsimp only at hst4
            refine AD.cut (α := Option Addr × Nat × Own × Nat) 5 #[true, true, true, true, true, false, true, true, false, false, false, false] (fun (A24, c24, p24, b26) e => (26, .slice (some ⟨b26, 0, none⟩) 1 1) :: (24, .slice A24 ((FB f).length) c24) :: (22, .agg #[.int .u64 lo, .int .u64 hi]) :: e) (fun (A24, c24, p24, b26) h => (b26, Blk.cells [.int .u32 isn] 27 (0, 0)) :: (p24 ++ (h))) (fun (A24, c24, p24, b26) => (Row 5 1 (.slice A24 ((FB f).length) c24) ((FB f).length) ((FB f).map (fun x => Value.int .u8 x)) p24) ∧ (((FB f).length) ≤ c24)) ?_ ?_
            · rintro ⟨A24, c24, p24, b26⟩ ⟨hr24, hc24⟩
              try dsimp only
              refine AD.many (i := 5) (l := [8]) (by kernel_rfl) (.cons ?_ (.cons ?_ (.nil)))
              · skip
                refine AE.eff rfl (show EF _ _ _ _ _ _ (NewS 5 1 ((FB f ++ beR 4 isn).length) ((FB f ++ beR 4 isn).map (fun x => Value.int .u8 x)) _) from EF.callF rfl ((put32_spec (cap := c24) (A2 := some ⟨b26, 0, none⟩) (cap2 := 1) B _ (FB f) [isn] ((hr24.src (h := p24) (fun x hx => hx)).mono fun x hx => by simp [hx]) (by simp [FB_len]) (Src.of_new (el := 27) (cs := [.int .u32 isn]) (by simp) 1 1 (Nat.le_refl _)) (by simp)).mono fun v h2 r => r.to (by simp [beR_len]) (by simp))) (.none rfl) rfl ?_
                rintro _ _ ⟨A27, c27, p27, rfl, hr27, hc27, rfl⟩
                refine ⟨.inl (by kernel_rfl), ?_⟩
                refine AD.to rfl (by rfl) (.cons rfl (.cons rfl (.cons rfl (.cons rfl (.drop rfl (.drop rfl (.drop rfl (.drop rfl .refl)))))))) (by first | exact List.Perm.refl _ | exact perm_count fun x => by simp only [List.count_append, List.count_cons, List.count_nil]; omega) (hst2 ⟨A24, c24, p24, b26, A27, c27, p27⟩ ⟨hr24, hc24, hr27, hc27⟩)
              · skip
                refine AE.eff rfl (EF.buildSeq [.int .u8 (max epoch 0 % 32), .int .u8 (max i 0 % 8)] rfl rfl rfl rfl) (.none rfl) rfl ?_
                rintro _ _ ⟨b30, hf30, rfl, rfl⟩
                refine ⟨.inl (by kernel_rfl), ?_⟩
                refine AD.to rfl (by rfl) (.cons rfl (.cons rfl (.cons rfl (.cons rfl (.drop rfl (.drop rfl (.drop rfl (.drop rfl .refl)))))))) (by first | exact List.Perm.refl _ | exact perm_count fun x => by simp only [List.count_append, List.count_cons, List.count_nil]; omega) (hst3 ⟨A24, c24, p24, b26, b30⟩ ⟨hr24, hc24⟩)
            · intro hst5
              try dsimp only at hst5
              refine AD.cut (α := Option Addr × Nat × Own × Nat) 5 #[true, true, true, true, false, false, true, true, true, false, false, false] (fun (A24, c24, p24, b30) e => (30, .slice (some ⟨b30, 0, none⟩) 2 2) :: (24, .slice A24 ((FB f).length) c24) :: (22, .agg #[.int .u64 lo, .int .u64 hi]) :: e) (fun (A24, c24, p24, b30) h => (b30, Blk.cells [.int .u8 (max epoch 0 % 32), .int .u8 (max i 0 % 8)] 5 (0, 0)) :: (p24 ++ (h))) (fun (A24, c24, p24, b30) => (Row 5 1 (.slice A24 ((FB f).length) c24) ((FB f).length) ((FB f).map (fun x => Value.int .u8 x)) p24) ∧ (((FB f).length) ≤ c24)) ?_ ?_
              · rintro ⟨A24, c24, p24, b30⟩ ⟨hr24, hc24⟩
                try dsimp only
                refine AD.one 4 (by kernel_rfl) (AE.eff rfl (EF.buildSeq [.int .u32 isn] rfl rfl rfl rfl) (.none rfl) rfl ?_)
                rintro _ _ ⟨b26, hf26, rfl, rfl⟩
                refine ⟨.inl (by kernel_rfl), ?_⟩
                refine AD.to rfl (by rfl) (.cons rfl (.cons rfl (.cons rfl (.cons rfl (.drop rfl (.drop rfl (.drop rfl (.drop rfl .refl)))))))) (by first | exact List.Perm.refl _ | exact perm_count fun x => by simp only [List.count_append, List.count_cons, List.count_nil]; omega) (hst3 ⟨A24, c24, p24, b26, b30⟩ ⟨hr24, hc24⟩)
              · intro hst6
                try dsimp only at hst6
                refine AD.cut (α := Nat × Nat) 5 #[true, true, false, true, true, false, true, true, true, false, false, false] (fun (b26, b30) e => (30, .slice (some ⟨b30, 0, none⟩) 2 2) :: (26, .slice (some ⟨b26, 0, none⟩) 1 1) :: (22, .agg #[.int .u64 lo, .int .u64 hi]) :: e) (fun (b26, b30) h => (b30, Blk.cells [.int .u8 (max epoch 0 % 32), .int .u8 (max i 0 % 8)] 5 (0, 0)) :: ((b26, Blk.cells [.int .u32 isn] 27 (0, 0)) :: (h))) (fun (b26, b30) => True) ?_ ?_
                · rintro ⟨b26, b30⟩ _
                  try dsimp only
                  refine AD.one 2 (by kernel_rfl) (AE.eff rfl (show EF _ _ _ _ _ _ (NewS 5 1 ((FB f).length) ((FB f).map (fun x => Value.int .u8 x)) _) from EF.callF rfl (fbytes_spec B _ f)) (.none rfl) rfl ?_)
                  rintro _ _ ⟨A24, c24, p24, rfl, hr24, hc24, rfl⟩
                  refine ⟨.inl (by kernel_rfl), ?_⟩
                  refine AD.to rfl (by rfl) (.cons rfl (.cons rfl (.cons rfl (.cons rfl (.drop rfl (.drop rfl (.drop rfl (.drop rfl .refl)))))))) (by first | exact List.Perm.refl _ | exact perm_count fun x => by simp only [List.count_append, List.count_cons, List.count_nil]; omega) (hst3 ⟨A24, c24, p24, b26, b30⟩ ⟨hr24, hc24⟩)
                · intro hst7
                  try dsimp only at hst7
                  refine AD.cut (α := Option Addr × Nat × Own × Nat × Nat) 5 #[false, true, true, true, true, false, true, true, true, false, false, false] (fun (A24, c24, p24, b26, b30) e => (30, .slice (some ⟨b30, 0, none⟩) 2 2) :: (26, .slice (some ⟨b26, 0, none⟩) 1 1) :: (24, .slice A24 ((FB f).length) c24) :: e) (fun (A24, c24, p24, b26, b30) h => (b30, Blk.cells [.int .u8 (max epoch 0 % 32), .int .u8 (max i 0 % 8)] 5 (0, 0)) :: ((b26, Blk.cells [.int .u32 isn] 27 (0, 0)) :: (p24 ++ (h)))) (fun (A24, c24, p24, b26, b30) => (Row 5 1 (.slice A24 ((FB f).length) c24) ((FB f).length) ((FB f).map (fun x => Value.int .u8 x)) p24) ∧ (((FB f).length) ≤ c24)) ?_ ?_
                  · rintro ⟨A24, c24, p24, b26, b30⟩ ⟨hr24, hc24⟩
                    try dsimp only
                    refine AD.many (i := 0) (l := [5]) (by kernel_rfl) (.cons ?_ (.cons ?_ (.nil)))
                    · skip
                      refine AE.eff rfl (EF.of_val (by first | exact RV.loadAggO rfl rfl (by first | simp | assumption) | exact RV.loadAggP rfl rfl rfl (by first | simp | assumption))) (.none rfl) rfl ?_
                      rintro _ _ ⟨rfl, rfl⟩
                      refine ⟨.inl (by kernel_rfl), ?_⟩
                      refine AD.to rfl (by rfl) (.cons rfl (.cons rfl (.cons rfl (.cons rfl (.drop rfl (.drop rfl (.drop rfl (.drop rfl .refl)))))))) (by first | exact List.Perm.refl _ | exact perm_count fun x => by simp only [List.count_append, List.count_cons, List.count_nil]; omega) (hst3 ⟨A24, c24, p24, b26, b30⟩ ⟨hr24, hc24⟩)
                    · skip
                      refine AE.eff rfl (show EF _ _ _ _ _ _ (NewS 5 1 ((FB f ++ beR 4 isn).length) ((FB f ++ beR 4 isn).map (fun x => Value.int .u8 x)) _) from EF.callF rfl ((put32_spec (cap := c24) (A2 := some ⟨b26, 0, none⟩) (cap2 := 1) B _ (FB f) [isn] ((hr24.src (h := p24) (fun x hx => hx)).mono fun x hx => by simp [hx]) (by simp [FB_len]) (Src.of_new (el := 27) (cs := [.int .u32 isn]) (by simp) 1 1 (Nat.le_refl _)) (by simp)).mono fun v h2 r => r.to (by simp [beR_len]) (by simp))) (.none rfl) rfl ?_
                      rintro _ _ ⟨A27, c27, p27, rfl, hr27, hc27, rfl⟩
                      refine ⟨.inl (by kernel_rfl), ?_⟩
                      refine AD.to rfl (by rfl) (.cons rfl (.cons rfl (.cons rfl (.cons rfl (.drop rfl (.drop rfl (.drop rfl (.drop rfl .refl)))))))) (by first | exact List.Perm.refl _ | exact perm_count fun x => by simp only [List.count_append, List.count_cons, List.count_nil]; omega) (hst4 ⟨A24, c24, p24, b26, A27, c27, p27, b30⟩ ⟨hr24, hc24, hr27, hc27⟩)
                  · intro hst8
                    try dsimp only at hst8
                    refine AD.cut (α := Option Addr × Nat × Own) 6 #[true, true, true, true, false, false, true, true, false, false, false, false] (fun (A24, c24, p24) e => (24, .slice A24 ((FB f).length) c24) :: (22, .agg #[.int .u64 lo, .int .u64 hi]) :: e) (fun (A24, c24, p24) h => p24 ++ (h)) (fun (A24, c24, p24) => (Row 5 1 (.slice A24 ((FB f).length) c24) ((FB f).length) ((FB f).map (fun x => Value.int .u8 x)) p24) ∧ (((FB f).length) ≤ c24)) ?_ ?_
                    · rintro ⟨A24, c24, p24⟩ ⟨hr24, hc24⟩
                      try dsimp only
                      refine AD.many (i := 4) (l := [8]) (by kernel_rfl) (.cons ?_ (.cons ?_ (.nil)))
                      · skip
                        refine AE.eff rfl (EF.buildSeq [.int .u32 isn] rfl rfl rfl rfl) (.none rfl) rfl ?_
                        rintro _ _ ⟨b26, hf26, rfl, rfl⟩
                        refine ⟨.inl (by kernel_rfl), ?_⟩
                        refine AD.to rfl (by rfl) (.cons rfl (.cons rfl (.cons rfl (.drop rfl (.drop rfl (.drop rfl .refl)))))) (by first | exact List.Perm.refl _ | exact perm_count fun x => by simp only [List.count_append, List.count_cons, List.count_nil]; omega) (hst5 ⟨A24, c24, p24, b26⟩ ⟨hr24, hc24⟩)
                      · skip
                        refine AE.eff rfl (EF.buildSeq [.int .u8 (max epoch 0 % 32), .int .u8 (max i 0 % 8)] rfl rfl rfl rfl) (.none rfl) rfl ?_
                        rintro _ _ ⟨b30, hf30, rfl, rfl⟩
                        refine ⟨.inl (by kernel_rfl), ?_⟩
                        refine AD.to rfl (by rfl) (.cons rfl (.cons rfl (.cons rfl (.drop rfl (.drop rfl (.drop rfl .refl)))))) (by first | exact List.Perm.refl _ | exact perm_count fun x => by simp only [List.count_append, List.count_cons, List.count_nil]; omega) (hst6 ⟨A24, c24, p24, b30⟩ ⟨hr24, hc24⟩)
                    · intro hst9
                      try dsimp only at hst9
                      refine AD.cut (α := Nat) 6 #[true, true, false, true, true, false, true, true, false, false, false, false] (fun b26 e => (26, .slice (some ⟨b26, 0, none⟩) 1 1) :: (22, .agg #[.int .u64 lo, .int .u64 hi]) :: e) (fun b26 h => (b26, Blk.cells [.int .u32 isn] 27 (0, 0)) :: (h)) (fun b26 => True) ?_ ?_
                      · rintro b26 _
                        try dsimp only
                        refine AD.many (i := 2) (l := [8]) (by kernel_rfl) (.cons ?_ (.cons ?_ (.nil)))
                        · skip
                          refine AE.eff rfl (show EF _ _ _ _ _ _ (NewS 5 1 ((FB f).length) ((FB f).map (fun x => Value.int .u8 x)) _) from EF.callF rfl (fbytes_spec B _ f)) (.none rfl) rfl ?_
                          rintro _ _ ⟨A24, c24, p24, rfl, hr24, hc24, rfl⟩
                          refine ⟨.inl (by kernel_rfl), ?_⟩
                          refine AD.to rfl (by rfl) (.cons rfl (.cons rfl (.cons rfl (.drop rfl (.drop rfl (.drop rfl .refl)))))) (by first | exact List.Perm.refl _ | exact perm_count fun x => by simp only [List.count_append, List.count_cons, List.count_nil]; omega) (hst5 ⟨A24, c24, p24, b26⟩ ⟨hr24, hc24⟩)
                        · skip
                          refine AE.eff rfl (EF.buildSeq [.int .u8 (max epoch 0 % 32), .int .u8 (max i 0 % 8)] rfl rfl rfl rfl) (.none rfl) rfl ?_
                          rintro _ _ ⟨b30, hf30, rfl, rfl⟩
                          refine ⟨(by first | exact .inr fun x hx hM => hx | exact .inr fun x hx hM => List.mem_cons_of_mem _ hx | exact .inr fun x hx hM => List.mem_append_right _ hx), ?_⟩
                          refine AD.to rfl (by rfl) (.cons rfl (.cons rfl (.cons rfl (.drop rfl (.drop rfl (.drop rfl .refl)))))) (by first | exact List.Perm.refl _ | exact perm_count fun x => by simp only [List.count_append, List.count_cons, List.count_nil]; omega) (hst7 ⟨b26, b30⟩ trivial)
                      · intro hst10
                        try dsimp only at hst10
                        refine AD.cut (α := Nat) 6 #[true, true, false, true, false, false, true, true, true, false, false, false] (fun b30 e => (30, .slice (some ⟨b30, 0, none⟩) 2 2) :: (22, .agg #[.int .u64 lo, .int .u64 hi]) :: e) (fun b30 h => (b30, Blk.cells [.int .u8 (max epoch 0 % 32), .int .u8 (max i 0 % 8)] 5 (0, 0)) :: (h)) (fun b30 => True) ?_ ?_
                        · rintro b30 _
                          try dsimp only
                          refine AD.many (i := 2) (l := [4]) (by kernel_rfl) (.cons ?_ (.cons ?_ (.nil)))
                          · skip
                            refine AE.eff rfl (show EF _ _ _ _ _ _ (NewS 5 1 ((FB f).length) ((FB f).map (fun x => Value.int .u8 x)) _) from EF.callF rfl (fbytes_spec B _ f)) (.none rfl) rfl ?_
                            rintro _ _ ⟨A24, c24, p24, rfl, hr24, hc24, rfl⟩
                            refine ⟨.inl (by kernel_rfl), ?_⟩
                            refine AD.to rfl (by rfl) (.cons rfl (.cons rfl (.cons rfl (.drop rfl (.drop rfl (.drop rfl .refl)))))) (by first | exact List.Perm.refl _ | exact perm_count fun x => by simp only [List.count_append, List.count_cons, List.count_nil]; omega) (hst6 ⟨A24, c24, p24, b30⟩ ⟨hr24, hc24⟩)
                          · skip
                            refine AE.eff rfl (EF.buildSeq [.int .u32 isn] rfl rfl rfl rfl) (.none rfl) rfl ?_
                            rintro _ _ ⟨b26, hf26, rfl, rfl⟩
                            refine ⟨(by first | exact .inr fun x hx hM => hx | exact .inr fun x hx hM => List.mem_cons_of_mem _ hx | exact .inr fun x hx hM => List.mem_append_right _ hx), ?_⟩
                            refine AD.to rfl (by rfl) (.cons rfl (.cons rfl (.cons rfl (.drop rfl (.drop rfl (.drop rfl .refl)))))) (by first | exact List.Perm.refl _ | exact perm_count fun x => by simp only [List.count_append, List.count_cons, List.count_nil]; omega) (hst7 ⟨b26, b30⟩ trivial)
                        · intro hst11
                          try dsimp only at hst11
                          refine AD.cut (α := Option Addr × Nat × Own × Nat) 6 #[false, true, true, true, true, false, true, true, false, false, false, false] (fun (A24, c24, p24, b26) e => (26, .slice (some ⟨b26, 0, none⟩) 1 1) :: (24, .slice A24 ((FB f).length) c24) :: e) (fun (A24, c24, p24, b26) h => (b26, Blk.cells [.int .u32 isn] 27 (0, 0)) :: (p24 ++ (h))) (fun (A24, c24, p24, b26) => (Row 5 1 (.slice A24 ((FB f).length) c24) ((FB f).length) ((FB f).map (fun x => Value.int .u8 x)) p24) ∧ (((FB f).length) ≤ c24)) ?_ ?_
                          · rintro ⟨A24, c24, p24, b26⟩ ⟨hr24, hc24⟩
                            try dsimp only
                            refine AD.many (i := 0) (l := [5, 8]) (by kernel_rfl) (.cons ?_ (.cons ?_ (.cons ?_ (.nil))))
                            · skip
                              refine AE.eff rfl (EF.of_val (by first | exact RV.loadAggO rfl rfl (by first | simp | assumption) | exact RV.loadAggP rfl rfl rfl (by first | simp | assumption))) (.none rfl) rfl ?_
                              rintro _ _ ⟨rfl, rfl⟩
                              refine ⟨.inl (by kernel_rfl), ?_⟩
                              refine AD.to rfl (by rfl) (.cons rfl (.cons rfl (.cons rfl (.drop rfl (.drop rfl (.drop rfl .refl)))))) (by first | exact List.Perm.refl _ | exact perm_count fun x => by simp only [List.count_append, List.count_cons, List.count_nil]; omega) (hst5 ⟨A24, c24, p24, b26⟩ ⟨hr24, hc24⟩)
                            · skip
                              refine AE.eff rfl (show EF _ _ _ _ _ _ (NewS 5 1 ((FB f ++ beR 4 isn).length) ((FB f ++ beR 4 isn).map (fun x => Value.int .u8 x)) _) from EF.callF rfl ((put32_spec (cap := c24) (A2 := some ⟨b26, 0, none⟩) (cap2 := 1) B _ (FB f) [isn] ((hr24.src (h := p24) (fun x hx => hx)).mono fun x hx => by simp [hx]) (by simp [FB_len]) (Src.of_new (el := 27) (cs := [.int .u32 isn]) (by simp) 1 1 (Nat.le_refl _)) (by simp)).mono fun v h2 r => r.to (by simp [beR_len]) (by simp))) (.none rfl) rfl ?_
                              rintro _ _ ⟨A27, c27, p27, rfl, hr27, hc27, rfl⟩
                              refine ⟨.inl (by kernel_rfl), ?_⟩
                              refine AD.many (i := 0) (l := [8]) (by kernel_rfl) (.cons ?_ (.cons ?_ (.nil)))
                              · skip
                                refine AE.eff rfl (EF.of_val (by first | exact RV.loadAggO rfl rfl (by first | simp | assumption) | exact RV.loadAggP rfl rfl rfl (by first | simp | assumption))) (.none rfl) rfl ?_
                                rintro _ _ ⟨rfl, rfl⟩
                                refine ⟨.inl (by kernel_rfl), ?_⟩
                                refine AD.to rfl (by rfl) (.cons rfl (.cons rfl (.cons rfl (.cons rfl (.drop rfl (.drop rfl (.drop rfl (.drop rfl .refl)))))))) (by first | exact List.Perm.refl _ | exact perm_count fun x => by simp only [List.count_append, List.count_cons, List.count_nil]; omega) (hst2 ⟨A24, c24, p24, b26, A27, c27, p27⟩ ⟨hr24, hc24, hr27, hc27⟩)
                              · skip
                                refine AE.eff rfl (EF.buildSeq [.int .u8 (max epoch 0 % 32), .int .u8 (max i 0 % 8)] rfl rfl rfl rfl) (.none rfl) rfl ?_
                                rintro _ _ ⟨b30, hf30, rfl, rfl⟩
                                refine ⟨.inl (by kernel_rfl), ?_⟩
                                refine AD.to rfl (by rfl) (.cons rfl (.cons rfl (.cons rfl (.cons rfl (.drop rfl (.drop rfl (.drop rfl (.drop rfl .refl)))))))) (by first | exact List.Perm.refl _ | exact perm_count fun x => by simp only [List.count_append, List.count_cons, List.count_nil]; omega) (hst4 ⟨A24, c24, p24, b26, A27, c27, p27, b30⟩ ⟨hr24, hc24, hr27, hc27⟩)
                            · skip
                              refine AE.eff rfl (EF.buildSeq [.int .u8 (max epoch 0 % 32), .int .u8 (max i 0 % 8)] rfl rfl rfl rfl) (.none rfl) rfl ?_
                              rintro _ _ ⟨b30, hf30, rfl, rfl⟩
                              refine ⟨.inl (by kernel_rfl), ?_⟩
                              refine AD.to rfl (by rfl) (.cons rfl (.cons rfl (.cons rfl (.drop rfl (.drop rfl (.drop rfl .refl)))))) (by first | exact List.Perm.refl _ | exact perm_count fun x => by simp only [List.count_append, List.count_cons, List.count_nil]; omega) (hst8 ⟨A24, c24, p24, b26, b30⟩ ⟨hr24, hc24⟩)
                          · intro hst12
                            try dsimp only at hst12
                            refine AD.cut (α := Option Addr × Nat × Own × Nat) 6 #[false, true, true, true, false, false, true, true, true, false, false, false] (fun (A24, c24, p24, b30) e => (30, .slice (some ⟨b30, 0, none⟩) 2 2) :: (24, .slice A24 ((FB f).length) c24) :: e) (fun (A24, c24, p24, b30) h => (b30, Blk.cells [.int .u8 (max epoch 0 % 32), .int .u8 (max i 0 % 8)] 5 (0, 0)) :: (p24 ++ (h))) (fun (A24, c24, p24, b30) => (Row 5 1 (.slice A24 ((FB f).length) c24) ((FB f).length) ((FB f).map (fun x => Value.int .u8 x)) p24) ∧ (((FB f).length) ≤ c24)) ?_ ?_
                            · rintro ⟨A24, c24, p24, b30⟩ ⟨hr24, hc24⟩
                              try dsimp only
                              refine AD.many (i := 0) (l := [4]) (by kernel_rfl) (.cons ?_ (.cons ?_ (.nil)))
                              · skip
                                refine AE.eff rfl (EF.of_val (by first | exact RV.loadAggO rfl rfl (by first | simp | assumption) | exact RV.loadAggP rfl rfl rfl (by first | simp | assumption))) (.none rfl) rfl ?_
                                rintro _ _ ⟨rfl, rfl⟩
                                refine ⟨.inl (by kernel_rfl), ?_⟩
                                refine AD.to rfl (by rfl) (.cons rfl (.cons rfl (.cons rfl (.drop rfl (.drop rfl (.drop rfl .refl)))))) (by first | exact List.Perm.refl _ | exact perm_count fun x => by simp only [List.count_append, List.count_cons, List.count_nil]; omega) (hst6 ⟨A24, c24, p24, b30⟩ ⟨hr24, hc24⟩)
                              · skip
                                refine AE.eff rfl (EF.buildSeq [.int .u32 isn] rfl rfl rfl rfl) (.none rfl) rfl ?_
                                rintro _ _ ⟨b26, hf26, rfl, rfl⟩
                                refine ⟨.inl (by kernel_rfl), ?_⟩
                                refine AD.to rfl (by rfl) (.cons rfl (.cons rfl (.cons rfl (.drop rfl (.drop rfl (.drop rfl .refl)))))) (by first | exact List.Perm.refl _ | exact perm_count fun x => by simp only [List.count_append, List.count_cons, List.count_nil]; omega) (hst8 ⟨A24, c24, p24, b26, b30⟩ ⟨hr24, hc24⟩)
                            · intro hst13
                              try dsimp only at hst13
                              refine AD.cut (α := Nat × Nat) 6 #[false, true, false, true, true, false, true, true, true, false, false, false] (fun (b26, b30) e => (30, .slice (some ⟨b30, 0, none⟩) 2 2) :: (26, .slice (some ⟨b26, 0, none⟩) 1 1) :: e) (fun (b26, b30) h => (b30, Blk.cells [.int .u8 (max epoch 0 % 32), .int .u8 (max i 0 % 8)] 5 (0, 0)) :: ((b26, Blk.cells [.int .u32 isn] 27 (0, 0)) :: (h))) (fun (b26, b30) => True) ?_ ?_
                              · rintro ⟨b26, b30⟩ _
                                try dsimp only
                                refine AD.many (i := 0) (l := [2]) (by kernel_rfl) (.cons ?_ (.cons ?_ (.nil)))
                                · skip
                                  refine AE.eff rfl (EF.of_val (by first | exact RV.loadAggO rfl rfl (by first | simp | assumption) | exact RV.loadAggP rfl rfl rfl (by first | simp | assumption))) (.none rfl) rfl ?_
                                  rintro _ _ ⟨rfl, rfl⟩
                                  refine ⟨(by first | exact .inr fun x hx hM => hx | exact .inr fun x hx hM => List.mem_cons_of_mem _ hx | exact .inr fun x hx hM => List.mem_append_right _ hx), ?_⟩
                                  refine AD.to rfl (by rfl) (.cons rfl (.cons rfl (.cons rfl (.drop rfl (.drop rfl (.drop rfl .refl)))))) (by first | exact List.Perm.refl _ | exact perm_count fun x => by simp only [List.count_append, List.count_cons, List.count_nil]; omega) (hst7 ⟨b26, b30⟩ trivial)
                                · skip
                                  refine AE.eff rfl (show EF _ _ _ _ _ _ (NewS 5 1 ((FB f).length) ((FB f).map (fun x => Value.int .u8 x)) _) from EF.callF rfl (fbytes_spec B _ f)) (.none rfl) rfl ?_
                                  rintro _ _ ⟨A24, c24, p24, rfl, hr24, hc24, rfl⟩
                                  refine ⟨.inl (by kernel_rfl), ?_⟩
                                  refine AD.to rfl (by rfl) (.cons rfl (.cons rfl (.cons rfl (.drop rfl (.drop rfl (.drop rfl .refl)))))) (by first | exact List.Perm.refl _ | exact perm_count fun x => by simp only [List.count_append, List.count_cons, List.count_nil]; omega) (hst8 ⟨A24, c24, p24, b26, b30⟩ ⟨hr24, hc24⟩)
                              · intro hst14
                                try dsimp only at hst14
                                refine AD.many (i := 0) (l := [2, 4, 8]) (by kernel_rfl) (.cons ?_ (.cons ?_ (.cons ?_ (.cons ?_ (.nil)))))
                                · skip
                                  refine AE.eff rfl (EF.of_val (by first | exact RV.loadAggO rfl rfl (by first | simp | assumption) | exact RV.loadAggP rfl rfl rfl (by first | simp | assumption))) (.none rfl) rfl ?_
                                  rintro _ _ ⟨rfl, rfl⟩
                                  refine ⟨(by first | exact .inr fun x hx hM => hx | exact .inr fun x hx hM => List.mem_cons_of_mem _ hx | exact .inr fun x hx hM => List.mem_append_right _ hx), ?_⟩
                                  refine AD.many (i := 2) (l := [4, 8]) (by kernel_rfl) (.cons ?_ (.cons ?_ (.cons ?_ (.nil))))
                                  · skip
                                    refine AE.eff rfl (show EF _ _ _ _ _ _ (NewS 5 1 ((FB f).length) ((FB f).map (fun x => Value.int .u8 x)) _) from EF.callF rfl (fbytes_spec B _ f)) (.none rfl) rfl ?_
                                    rintro _ _ ⟨A24, c24, p24, rfl, hr24, hc24, rfl⟩
                                    refine ⟨.inl (by kernel_rfl), ?_⟩
                                    refine AD.to rfl (by rfl) (.cons rfl (.cons rfl (.drop rfl (.drop rfl .refl)))) (by first | exact List.Perm.refl _ | exact perm_count fun x => by simp only [List.count_append, List.count_cons, List.count_nil]; omega) (hst9 ⟨A24, c24, p24⟩ ⟨hr24, hc24⟩)
                                  · skip
                                    refine AE.eff rfl (EF.buildSeq [.int .u32 isn] rfl rfl rfl rfl) (.none rfl) rfl ?_
                                    rintro _ _ ⟨b26, hf26, rfl, rfl⟩
                                    refine ⟨(by first | exact .inr fun x hx hM => hx | exact .inr fun x hx hM => List.mem_cons_of_mem _ hx | exact .inr fun x hx hM => List.mem_append_right _ hx), ?_⟩
                                    refine AD.to rfl (by rfl) (.cons rfl (.cons rfl (.drop rfl (.drop rfl .refl)))) (by first | exact List.Perm.refl _ | exact perm_count fun x => by simp only [List.count_append, List.count_cons, List.count_nil]; omega) (hst10 b26 trivial)
                                  · skip
                                    refine AE.eff rfl (EF.buildSeq [.int .u8 (max epoch 0 % 32), .int .u8 (max i 0 % 8)] rfl rfl rfl rfl) (.none rfl) rfl ?_
                                    rintro _ _ ⟨b30, hf30, rfl, rfl⟩
                                    refine ⟨(by first | exact .inr fun x hx hM => hx | exact .inr fun x hx hM => List.mem_cons_of_mem _ hx | exact .inr fun x hx hM => List.mem_append_right _ hx), ?_⟩
                                    refine AD.to rfl (by rfl) (.cons rfl (.cons rfl (.drop rfl (.drop rfl .refl)))) (by first | exact List.Perm.refl _ | exact perm_count fun x => by simp only [List.count_append, List.count_cons, List.count_nil]; omega) (hst11 b30 trivial)
                                · skip
                                  refine AE.eff rfl (show EF _ _ _ _ _ _ (NewS 5 1 ((FB f).length) ((FB f).map (fun x => Value.int .u8 x)) _) from EF.callF rfl (fbytes_spec B _ f)) (.none rfl) rfl ?_
                                  rintro _ _ ⟨A24, c24, p24, rfl, hr24, hc24, rfl⟩
                                  refine ⟨.inl (by kernel_rfl), ?_⟩
                                  refine AD.many (i := 0) (l := [4, 8]) (by kernel_rfl) (.cons ?_ (.cons ?_ (.cons ?_ (.nil))))
                                  · skip
                                    refine AE.eff rfl (EF.of_val (by first | exact RV.loadAggO rfl rfl (by first | simp | assumption) | exact RV.loadAggP rfl rfl rfl (by first | simp | assumption))) (.none rfl) rfl ?_
                                    rintro _ _ ⟨rfl, rfl⟩
                                    refine ⟨.inl (by kernel_rfl), ?_⟩
                                    refine AD.to rfl (by rfl) (.cons rfl (.cons rfl (.drop rfl (.drop rfl .refl)))) (by first | exact List.Perm.refl _ | exact perm_count fun x => by simp only [List.count_append, List.count_cons, List.count_nil]; omega) (hst9 ⟨A24, c24, p24⟩ ⟨hr24, hc24⟩)
                                  · skip
                                    refine AE.eff rfl (EF.buildSeq [.int .u32 isn] rfl rfl rfl rfl) (.none rfl) rfl ?_
                                    rintro _ _ ⟨b26, hf26, rfl, rfl⟩
                                    refine ⟨.inl (by kernel_rfl), ?_⟩
                                    refine AD.to rfl (by rfl) (.cons rfl (.cons rfl (.drop rfl (.drop rfl .refl)))) (by first | exact List.Perm.refl _ | exact perm_count fun x => by simp only [List.count_append, List.count_cons, List.count_nil]; omega) (hst12 ⟨A24, c24, p24, b26⟩ ⟨hr24, hc24⟩)
                                  · skip
                                    refine AE.eff rfl (EF.buildSeq [.int .u8 (max epoch 0 % 32), .int .u8 (max i 0 % 8)] rfl rfl rfl rfl) (.none rfl) rfl ?_
                                    rintro _ _ ⟨b30, hf30, rfl, rfl⟩
                                    refine ⟨.inl (by kernel_rfl), ?_⟩
                                    refine AD.to rfl (by rfl) (.cons rfl (.cons rfl (.drop rfl (.drop rfl .refl)))) (by first | exact List.Perm.refl _ | exact perm_count fun x => by simp only [List.count_append, List.count_cons, List.count_nil]; omega) (hst13 ⟨A24, c24, p24, b30⟩ ⟨hr24, hc24⟩)
                                · skip
                                  refine AE.eff rfl (EF.buildSeq [.int .u32 isn] rfl rfl rfl rfl) (.none rfl) rfl ?_
                                  rintro _ _ ⟨b26, hf26, rfl, rfl⟩
                                  refine ⟨(by first | exact .inr fun x hx hM => hx | exact .inr fun x hx hM => List.mem_cons_of_mem _ hx | exact .inr fun x hx hM => List.mem_append_right _ hx), ?_⟩
                                  refine AD.many (i := 0) (l := [2, 8]) (by kernel_rfl) (.cons ?_ (.cons ?_ (.cons ?_ (.nil))))
                                  · skip
                                    refine AE.eff rfl (EF.of_val (by first | exact RV.loadAggO rfl rfl (by first | simp | assumption) | exact RV.loadAggP rfl rfl rfl (by first | simp | assumption))) (.none rfl) rfl ?_
                                    rintro _ _ ⟨rfl, rfl⟩
                                    refine ⟨(by first | exact .inr fun x hx hM => hx | exact .inr fun x hx hM => List.mem_cons_of_mem _ hx | exact .inr fun x hx hM => List.mem_append_right _ hx), ?_⟩
                                    refine AD.to rfl (by rfl) (.cons rfl (.cons rfl (.drop rfl (.drop rfl .refl)))) (by first | exact List.Perm.refl _ | exact perm_count fun x => by simp only [List.count_append, List.count_cons, List.count_nil]; omega) (hst10 b26 trivial)
                                  · skip
                                    refine AE.eff rfl (show EF _ _ _ _ _ _ (NewS 5 1 ((FB f).length) ((FB f).map (fun x => Value.int .u8 x)) _) from EF.callF rfl (fbytes_spec B _ f)) (.none rfl) rfl ?_
                                    rintro _ _ ⟨A24, c24, p24, rfl, hr24, hc24, rfl⟩
                                    refine ⟨.inl (by kernel_rfl), ?_⟩
                                    refine AD.to rfl (by rfl) (.cons rfl (.cons rfl (.drop rfl (.drop rfl .refl)))) (by first | exact List.Perm.refl _ | exact perm_count fun x => by simp only [List.count_append, List.count_cons, List.count_nil]; omega) (hst12 ⟨A24, c24, p24, b26⟩ ⟨hr24, hc24⟩)
                                  · skip
                                    refine AE.eff rfl (EF.buildSeq [.int .u8 (max epoch 0 % 32), .int .u8 (max i 0 % 8)] rfl rfl rfl rfl) (.none rfl) rfl ?_
                                    rintro _ _ ⟨b30, hf30, rfl, rfl⟩
                                    refine ⟨(by first | exact .inr fun x hx hM => hx | exact .inr fun x hx hM => List.mem_cons_of_mem _ hx | exact .inr fun x hx hM => List.mem_append_right _ hx), ?_⟩
                                    refine AD.to rfl (by rfl) (.cons rfl (.cons rfl (.drop rfl (.drop rfl .refl)))) (by first | exact List.Perm.refl _ | exact perm_count fun x => by simp only [List.count_append, List.count_cons, List.count_nil]; omega) (hst14 ⟨b26, b30⟩ trivial)
                                · skip
                                  refine AE.eff rfl (EF.buildSeq [.int .u8 (max epoch 0 % 32), .int .u8 (max i 0 % 8)] rfl rfl rfl rfl) (.none rfl) rfl ?_
                                  rintro _ _ ⟨b30, hf30, rfl, rfl⟩
                                  refine ⟨(by first | exact .inr fun x hx hM => hx | exact .inr fun x hx hM => List.mem_cons_of_mem _ hx | exact .inr fun x hx hM => List.mem_append_right _ hx), ?_⟩
                                  refine AD.many (i := 0) (l := [2, 4]) (by kernel_rfl) (.cons ?_ (.cons ?_ (.cons ?_ (.nil))))
                                  · skip
                                    refine AE.eff rfl (EF.of_val (by first | exact RV.loadAggO rfl rfl (by first | simp | assumption) | exact RV.loadAggP rfl rfl rfl (by first | simp | assumption))) (.none rfl) rfl ?_
                                    rintro _ _ ⟨rfl, rfl⟩
                                    refine ⟨(by first | exact .inr fun x hx hM => hx | exact .inr fun x hx hM => List.mem_cons_of_mem _ hx | exact .inr fun x hx hM => List.mem_append_right _ hx), ?_⟩
                                    refine AD.to rfl (by rfl) (.cons rfl (.cons rfl (.drop rfl (.drop rfl .refl)))) (by first | exact List.Perm.refl _ | exact perm_count fun x => by simp only [List.count_append, List.count_cons, List.count_nil]; omega) (hst11 b30 trivial)
                                  · skip
                                    refine AE.eff rfl (show EF _ _ _ _ _ _ (NewS 5 1 ((FB f).length) ((FB f).map (fun x => Value.int .u8 x)) _) from EF.callF rfl (fbytes_spec B _ f)) (.none rfl) rfl ?_
                                    rintro _ _ ⟨A24, c24, p24, rfl, hr24, hc24, rfl⟩
                                    refine ⟨.inl (by kernel_rfl), ?_⟩
                                    refine AD.to rfl (by rfl) (.cons rfl (.cons rfl (.drop rfl (.drop rfl .refl)))) (by first | exact List.Perm.refl _ | exact perm_count fun x => by simp only [List.count_append, List.count_cons, List.count_nil]; omega) (hst13 ⟨A24, c24, p24, b30⟩ ⟨hr24, hc24⟩)
                                  · skip
                                    refine AE.eff rfl (EF.buildSeq [.int .u32 isn] rfl rfl rfl rfl) (.none rfl) rfl ?_
                                    rintro _ _ ⟨b26, hf26, rfl, rfl⟩
                                    refine ⟨(by first | exact .inr fun x hx hM => hx | exact .inr fun x hx hM => List.mem_cons_of_mem _ hx | exact .inr fun x hx hM => List.mem_append_right _ hx), ?_⟩
                                    refine AD.to rfl (by rfl) (.cons rfl (.cons rfl (.drop rfl (.drop rfl .refl)))) (by first | exact List.Perm.refl _ | exact perm_count fun x => by simp only [List.count_append, List.count_cons, List.count_nil]; omega) (hst14 ⟨b26, b30⟩ trivial)

theorem rmake_spec (B : World) (h : Own) (lo hi : Int) (f : Flow) (hf : FOk f) (isn epoch i : Int) (hisn : 0 ≤ isn ∧ isn ≤ 4294967295) (hep : epoch ≤ 9223372036854775807) (hi63 : i ≤ 9223372036854775807) : Tri Try.prog B 38 [.agg #[.int .u64 lo, .int .u64 hi], .agg (encF f).toArray, .int .u32 isn, .int .i64 epoch, .int .i64 i] h fun v h' => h = h' ∧ v = .int .u32 (makeC lo hi f isn epoch i) := by
  have hsu := sumS_U lo hi (bytesC f isn (max epoch 0 % 32) (max i 0 % 8))
  simp only [U] at hsu
  have hbl : (bytesC f isn (max epoch 0 % 32) (max i 0 % 8)).length = 19 := by simp [bytesC, FB_len, beR_len]
  have hbb : Bytes (bytesC f isn (max epoch 0 % 32) (max i 0 % 8)) := bytes_app (FB_bytes hf) (bytes_app (beR_bytes _ _) (by intro x hx; simp at hx; omega))
  refine Tri.enter (n := 44) Try.func38 rfl rfl rfl ?_
  simp only [argsE, Nat.reduceAdd]
  try dsimp only [argsE]
  refine AK.seq ?_
  refine AK.region ?_
  refine AO.eff (EF.box rfl rfl) (.none rfl) rfl ?_
  rintro _ _ ⟨b5, hf5, rfl, rfl⟩
  refine AO.eff (EF.box rfl rfl) (.none rfl) rfl ?_
  rintro _ _ ⟨b6, hf6, rfl, rfl⟩
  refine AO.val (RV.assign rfl) (.none rfl) rfl ?_
  refine AO.nil ?_
  refine AK.seq ?_
  refine AK.seq ?_
  refine AK.region ?_
  refine AO.val (RV.move rfl) (.none rfl) rfl ?_
  refine AO.val (RV.lss rfl rfl) (.none rfl) rfl ?_
  refine AO.nil ?_
  refine AK.cut (α := Unit) (E := fun _ => [(2, .int .u32 isn), (3, .int .i64 (max epoch 0)), (4, .int .i64 i), (5, .pointer (some ⟨b5, 0, none⟩)), (6, .pointer (some ⟨b6, 0, none⟩))]) (H := fun _ => (b6, Blk.cells (encF f) 30 (0, 0)) :: (b5, Blk.cells [.int .u64 lo, .int .u64 hi] 24 (0, 0)) :: h) (Inv := fun _ => True) ?_ ?_
  · rintro _ _
    try dsimp only
    refine AK.seq ?_
    refine AK.seq ?_
    refine AK.region ?_
    refine AO.val (RV.move rfl) (.none rfl) rfl ?_
    refine AO.val (RV.lss rfl rfl) (.none rfl) rfl ?_
    refine AO.nil ?_
    refine AK.cut (α := Unit) (E := fun _ => [(2, .int .u32 isn), (3, .int .i64 (max epoch 0)), (4, .int .i64 (max i 0)), (5, .pointer (some ⟨b5, 0, none⟩)), (6, .pointer (some ⟨b6, 0, none⟩))]) (H := fun _ => (b6, Blk.cells (encF f) 30 (0, 0)) :: (b5, Blk.cells [.int .u64 lo, .int .u64 hi] 24 (0, 0)) :: h) (Inv := fun _ => True) ?_ ?_
    · rintro _ _
      try dsimp only
      refine AK.seq ?_
      refine AK.region ?_
      refine AO.val (by first | exact RV.loadAggO rfl rfl (by first | simp | assumption) | exact RV.loadAggP rfl rfl rfl (by first | simp | assumption)) (.none rfl) rfl ?_
      refine AO.eff (EF.callF rfl (rfbytes_spec B _ f hf)) (.none rfl) rfl ?_
      rintro _ _ ⟨A17, c17, p17, rfl, hr17, hc17, rfl⟩
      refine AO.val (RV.move rfl) (.none rfl) rfl ?_
      refine AO.eff (EF.callF rfl (put4_spec B _ isn hisn)) (.none rfl) rfl ?_
      rintro _ _ ⟨A19, c19, p19, rfl, hr19, hc19, rfl⟩
      refine AO.val (RV.move rfl) (.none rfl) rfl ?_
      refine AO.val (by first | exact RV.remIn rfl rfl (by omega) | exact RV.rem rfl rfl (by omega)) (.none rfl) rfl ?_
      refine AO.val (by first | exact RV.convIn rfl (by simp only [kb]; omega) | exact RV.conv rfl) (.none rfl) rfl ?_
      refine AO.val (RV.move rfl) (.none rfl) rfl ?_
      refine AO.val (by first | exact RV.remIn rfl rfl (by omega) | exact RV.rem rfl rfl (by omega)) (.none rfl) rfl ?_
      refine AO.val (by first | exact RV.convIn rfl (by simp only [kb]; omega) | exact RV.conv rfl) (.none rfl) rfl ?_
      refine AO.eff (EF.buildSeq [.int .u8 (max epoch 0 % 32), .int .u8 (max i 0 % 8)] rfl rfl rfl rfl) (.none rfl) rfl ?_
      rintro _ _ ⟨b26, hf26, rfl, rfl⟩
      refine AO.eff (EF.callF rfl (add_spec (A2 := some ⟨b26, 0, none⟩) (cap2 := 2) B _ (beR 4 isn) [(max epoch 0 % 32), (max i 0 % 8)] ((hr19.src (h := p19) (fun x hx => hx)).mono fun x hx => by simp [hx]) (Src.of_new (el := 5) (cs := [.int .u8 (max epoch 0 % 32), .int .u8 (max i 0 % 8)]) (by simp) 2 1 (Nat.le_refl _)) (by simp [beR_len]))) (.none rfl) rfl ?_
      rintro _ _ ⟨A27, c27, p27, rfl, hr27, hc27, rfl⟩
      refine AO.eff (EF.callF rfl (add_spec B _ (FB f) (beR 4 isn ++ [(max epoch 0 % 32), (max i 0 % 8)]) ((hr17.src (h := p17) (fun x hx => hx)).mono fun x hx => by simp [hx]) ((hr27.src (h := p27) (fun x hx => hx)).mono fun x hx => by simp [hx]) (by simp [beR_len, FB_len]))) (.none rfl) rfl ?_
      rintro _ _ ⟨A28, c28, p28, rfl, hr28, hc28, rfl⟩
      refine AO.val (RV.assign rfl) (.none rfl) rfl ?_
      refine AO.nil ?_
      refine AK.seq ?_
      refine AK.region ?_
      refine AO.val (RV.move rfl) (.none rfl) rfl ?_
      refine AO.val (by first | exact RV.remIn rfl rfl (by omega) | exact RV.rem rfl rfl (by omega)) (.none rfl) rfl ?_
      refine AO.val (by first | exact RV.convIn rfl (by simp only [kb]; omega) | exact RV.conv rfl) (.none rfl) rfl ?_
      refine AO.val (by first | exact RV.mulK rfl rfl (by simp only [kb]; omega) | exact RV.mul rfl rfl) (.none rfl) rfl ?_
      refine AO.val (RV.move rfl) (.none rfl) rfl ?_
      refine AO.val (by first | exact RV.remIn rfl rfl (by omega) | exact RV.rem rfl rfl (by omega)) (.none rfl) rfl ?_
      refine AO.val (by first | exact RV.convIn rfl (by simp only [kb]; omega) | exact RV.conv rfl) (.none rfl) rfl ?_
      refine AO.val (by first | exact RV.mulK rfl rfl (by simp only [kb]; omega) | exact RV.mul rfl rfl) (.none rfl) rfl ?_
      refine AO.val (by first | exact RV.addK rfl rfl (by simp only [kb]; omega) | exact RV.add rfl rfl) (.none rfl) rfl ?_
      refine AO.val (by first | exact RV.loadAggO rfl rfl (by first | simp | assumption) | exact RV.loadAggP rfl rfl rfl (by first | simp | assumption)) (.none rfl) rfl ?_
      refine AO.val (RV.move rfl) (.none rfl) rfl ?_
      refine AO.eff (EF.callF rfl (rsum_spec (cap := c28) B _ lo hi (bytesC f isn (max epoch 0 % 32) (max i 0 % 8)) ((hr28.src (h := p28) (fun x hx => hx)).mono fun x hx => by simp [hx]) hbb hc28 (by omega))) (.none rfl) rfl ?_
      rintro _ _ ⟨rfl, rfl⟩
      refine AO.val (by first | exact RV.remIn rfl rfl (by omega) | exact RV.rem rfl rfl (by omega)) (.none rfl) rfl ?_
      refine AO.val (by first | exact RV.convIn rfl (by simp only [kb]; omega) | exact RV.conv rfl) (.none rfl) rfl ?_
      refine AO.val (by first | exact RV.addK rfl rfl (by simp only [kb]; omega) | exact RV.add rfl rfl) (.none rfl) rfl ?_
      refine AO.val (RV.assign rfl) (.none rfl) rfl ?_
      refine AO.nil ?_
      -- at Jc0Jc1
      refine AK.ret (h' := h) Try.func38 (.tmp rfl .nil) ?_ (by first | exact SubO.sub | exact List.Sublist.refl _ | exact .cons _ (List.Sublist.refl _) | exact .cons _ (.cons _ (List.Sublist.refl _)) | exact .cons _ (.cons _ (.cons _ (List.Sublist.refl _))))
      exact ⟨rfl, rfl⟩
    · intro hjc1
      try dsimp only at hjc1
      refine AK.cond rfl ?_ ?_
      · intro hc1
        try simp only [decide_eq_true_eq, decide_eq_false_iff_not, Bool.not_eq_true', Bool.not_eq_false', beq_iff_eq] at hc1
        refine AK.region ?_
        refine AO.val (RV.assign rfl) (.none rfl) rfl ?_
        refine AO.nil ?_
        -- ways meet at Jc0T
        refine AK.weak (.cons (by exact rfl) (.cons (by exact rfl) (.cons (by rw [show max i 0 = 0 by omega]; exact rfl) (.cons (by exact rfl) (.cons (by exact rfl) .nil))))) (by first | exact SubO.sub | exact List.Sublist.refl _ | exact .cons _ (List.Sublist.refl _) | exact .cons _ (.cons _ (List.Sublist.refl _)) | exact .cons _ (.cons _ (.cons _ (List.Sublist.refl _)))) (hjc1 () ?_)
        · try dsimp only
          all_goals trivial
      · intro hc1
        try simp only [decide_eq_true_eq, decide_eq_false_iff_not, Bool.not_eq_true', Bool.not_eq_false', beq_iff_eq] at hc1
        refine AK.skip ?_
        -- ways meet at Jc0F
        refine AK.weak (.cons (by exact rfl) (.cons (by exact rfl) (.cons (by rw [show max i 0 = i by omega]; exact rfl) (.cons (by exact rfl) (.cons (by exact rfl) .nil))))) (by first | exact SubO.sub | exact List.Sublist.refl _ | exact .cons _ (List.Sublist.refl _) | exact .cons _ (.cons _ (List.Sublist.refl _)) | exact .cons _ (.cons _ (.cons _ (List.Sublist.refl _)))) (hjc1 () ?_)
        · try dsimp only
          all_goals trivial
  · intro hjc0
    try dsimp only at hjc0
    refine AK.cond rfl ?_ ?_
    · intro hc2
      try simp only [decide_eq_true_eq, decide_eq_false_iff_not, Bool.not_eq_true', Bool.not_eq_false', beq_iff_eq] at hc2
      refine AK.region ?_
      refine AO.val (RV.assign rfl) (.none rfl) rfl ?_
      refine AO.nil ?_
      -- ways meet at T
      refine AK.weak (.cons (by exact rfl) (.cons (by rw [show max epoch 0 = 0 by omega]; exact rfl) (.cons (by exact rfl) (.cons (by exact rfl) (.cons (by exact rfl) .nil))))) (by first | exact SubO.sub | exact List.Sublist.refl _ | exact .cons _ (List.Sublist.refl _) | exact .cons _ (.cons _ (List.Sublist.refl _)) | exact .cons _ (.cons _ (.cons _ (List.Sublist.refl _)))) (hjc0 () ?_)
      · try dsimp only
        all_goals trivial
    · intro hc2
      try simp only [decide_eq_true_eq, decide_eq_false_iff_not, Bool.not_eq_true', Bool.not_eq_false', beq_iff_eq] at hc2
      refine AK.skip ?_
      -- ways meet at F
      refine AK.weak (.cons (by exact rfl) (.cons (by rw [show max epoch 0 = epoch by omega]; exact rfl) (.cons (by exact rfl) (.cons (by exact rfl) (.cons (by exact rfl) .nil))))) (by first | exact SubO.sub | exact List.Sublist.refl _ | exact .cons _ (List.Sublist.refl _) | exact .cons _ (.cons _ (List.Sublist.refl _)) | exact .cons _ (.cons _ (.cons _ (List.Sublist.refl _)))) (hjc0 () ?_)
      · try dsimp only
        all_goals trivial

theorem epoch_spec (B : World) (h : Own) (x : Int) (hx : 0 ≤ x ∧ x ≤ 4294967295) : Tri Try.prog B 40 [.int .u32 x] h fun v h' => h = h' ∧ v = .int .i64 (x / 134217728) := by
  refine Tri.enter (n := 6) Try.func40 rfl rfl rfl ?_
  simp only [argsE, Nat.reduceAdd]
  try dsimp only [argsE]
  refine AK.seq ?_
  refine AK.region ?_
  refine AO.val (RV.assign rfl) (.none rfl) rfl ?_
  refine AO.nil ?_
  refine AK.seq ?_
  refine AK.region ?_
  refine AO.val (RV.move rfl) (.none rfl) rfl ?_
  refine AO.val ((RV.shr rfl rfl (by omega)).to (v' := .int .u32 (x / 134217728)) (by rw [show x.fdiv (2 ^ (min (27 : Int).toNat IntKind.u32.bits)) = x / 134217728 from Int.fdiv_eq_ediv_of_nonneg _ (by decide)])) (.none rfl) rfl ?_
  refine AO.val (by first | exact RV.convIn rfl (by simp only [kb]; omega) | exact RV.conv rfl) (.none rfl) rfl ?_
  refine AO.val (RV.assign rfl) (.none rfl) rfl ?_
  refine AO.nil ?_
  -- at 
  refine AK.ret (h' := h) Try.func40 (.tmp rfl .nil) ?_ (by first | exact SubO.sub | exact List.Sublist.refl _ | exact .cons _ (List.Sublist.refl _) | exact .cons _ (.cons _ (List.Sublist.refl _)) | exact .cons _ (.cons _ (.cons _ (List.Sublist.refl _))))
  exact ⟨rfl, rfl⟩

theorem place_spec (B : World) (h : Own) (x : Int) (hx : 0 ≤ x ∧ x ≤ 4294967295) : Tri Try.prog B 26 [.int .u32 x] h fun v h' => h = h' ∧ v = .int .i64 (x / 16777216 % 8) := by
  refine Tri.enter (n := 7) Try.func26 rfl rfl rfl ?_
  simp only [argsE, Nat.reduceAdd]
  try dsimp only [argsE]
  refine AK.seq ?_
  refine AK.region ?_
  refine AO.val (RV.assign rfl) (.none rfl) rfl ?_
  refine AO.nil ?_
  refine AK.seq ?_
  refine AK.region ?_
  refine AO.val (RV.move rfl) (.none rfl) rfl ?_
  refine AO.val ((RV.shr rfl rfl (by omega)).to (v' := .int .u32 (x / 16777216)) (by rw [show x.fdiv (2 ^ (min (24 : Int).toNat IntKind.u32.bits)) = x / 16777216 from Int.fdiv_eq_ediv_of_nonneg _ (by decide)])) (.none rfl) rfl ?_
  refine AO.val (by first | exact RV.remIn rfl rfl (by omega) | exact RV.rem rfl rfl (by omega)) (.none rfl) rfl ?_
  refine AO.val (by first | exact RV.convIn rfl (by simp only [kb]; omega) | exact RV.conv rfl) (.none rfl) rfl ?_
  refine AO.val (RV.assign rfl) (.none rfl) rfl ?_
  refine AO.nil ?_
  -- at 
  refine AK.ret (h' := h) Try.func26 (.tmp rfl .nil) ?_ (by first | exact SubO.sub | exact List.Sublist.refl _ | exact .cons _ (List.Sublist.refl _) | exact .cons _ (.cons _ (List.Sublist.refl _)) | exact .cons _ (.cons _ (.cons _ (List.Sublist.refl _))))
  exact ⟨rfl, rfl⟩

theorem sizes_spec (B : World) (h : Own)  : Tri Try.prog B 44 [] h fun v h' => h = h' ∧ v = .agg (SZ.map (Value.int .u16)).toArray := by
  refine Tri.enter (n := 2) Try.func44 rfl rfl rfl ?_
  try dsimp only [argsE]
  refine AK.seq ?_
  refine AK.region ?_
  refine AO.eff (EF.alloc) (.none rfl) rfl ?_
  rintro _ _ ⟨b0, hf0, rfl, rfl⟩
  refine AO.nil ?_
  refine AK.seq ?_
  refine AK.region ?_
  refine AO.val (RV.buildArr rfl (.cons rfl rfl rfl rfl (.cons rfl rfl rfl rfl (.cons rfl rfl rfl rfl (.cons rfl rfl rfl rfl (.cons rfl rfl rfl rfl (.cons rfl rfl rfl rfl (.cons rfl rfl rfl rfl (.cons rfl rfl rfl rfl .nil))))))))) (.none rfl) rfl ?_
  refine AO.effN (EF.storeO rfl rfl rfl rfl rfl rfl) (.none rfl) ?_
  rintro _ _ rfl
  refine AO.nil ?_
  -- at 
  refine AK.ret (h' := h) Try.func44 (.aggO rfl rfl .nil) ?_ (by first | exact SubO.sub | exact List.Sublist.refl _ | exact .cons _ (List.Sublist.refl _) | exact .cons _ (.cons _ (List.Sublist.refl _)) | exact .cons _ (.cons _ (.cons _ (List.Sublist.refl _))))
  exact ⟨rfl, rfl⟩

theorem index_spec (B : World) (h : Own) (n : Int) : Tri Try.prog B 31 [.int .u16 n] h fun v h' => h = h' ∧ v = .int .i64 (idxTo n 8) := by
  have hszl : SZ.length = 8 := rfl
  refine Tri.enter (n := 17) Try.func31 rfl rfl rfl ?_
  simp only [argsE, Nat.reduceAdd]
  try dsimp only [argsE]
  refine AK.seq ?_
  refine AK.region ?_
  refine AO.val (RV.assign rfl) (.none rfl) rfl ?_
  refine AO.nil ?_
  refine AK.seq ?_
  refine AK.region ?_
  refine AO.val (RV.assign rfl) (.none rfl) rfl ?_
  refine AO.nil ?_
  refine AK.seq ?_
  refine AK.seq ?_
  refine AK.region ?_
  refine AO.eff (EF.callF rfl (sizes_spec B _)) (.none rfl) rfl ?_
  rintro _ _ ⟨rfl, rfl⟩
  refine AO.val (RV.move rfl) (.none rfl) rfl ?_
  refine AO.nil ?_
  refine AK.block ?_
  refine AK.loop (α := Nat) (E := fun k => [(0, .int .u16 n), (3, .int .i64 (idxTo n k)), (6, .agg (SZ.map (Value.int .u16)).toArray), (7, .int .i64 k)]) (H := fun k => h) (Inv := fun k => k ≤ 8) (μ := fun k => 8 - k) 0 ?_ (.cons (by exact rfl) (.cons (by exact rfl) (.cons (by exact rfl) (.cons (by exact rfl) .nil)))) ?_ ?_
  · exact by omega
  · exact (by first | exact SubO.sub | exact List.Sublist.refl _ | exact .cons _ (List.Sublist.refl _) | exact .cons _ (.cons _ (List.Sublist.refl _)) | exact .cons _ (.cons _ (.cons _ (List.Sublist.refl _))))
  rintro k hk hih0
  try dsimp only at hih0 ⊢
  refine AK.seq ?_
  refine AK.region ?_
  refine AO.val (RV.lss rfl rfl) (.none rfl) rfl ?_
  refine AO.nil ?_
  refine AK.seq ?_
  refine AK.cond rfl ?_ ?_
  · intro hc1
    try simp only [decide_eq_true_eq, decide_eq_false_iff_not, Bool.not_eq_true', Bool.not_eq_false', beq_iff_eq] at hc1
    refine AK.skip ?_
    refine AK.seq ?_
    refine AK.block ?_
    refine AK.seq ?_
    refine AK.region ?_
    refine AO.val (RV.move rfl) (.none rfl) rfl ?_
    refine AO.val (RV.indexArrL (l := SZ) (enc := Value.int .u16) rfl rfl rfl (by omega) rfl) (.none rfl) rfl ?_
    refine AO.val (RV.assign rfl) (.none rfl) rfl ?_
    refine AO.val (RV.assign rfl) (.none rfl) rfl ?_
    refine AO.nil ?_
    refine AK.seq ?_
    refine AK.region ?_
    refine AO.val (RV.move rfl) (.none rfl) rfl ?_
    refine AO.val (RV.move rfl) (.none rfl) rfl ?_
    refine AO.val (RV.leq rfl rfl) (.none rfl) rfl ?_
    refine AO.nil ?_
    refine AK.cond rfl ?_ ?_
    · intro hc2
      try simp only [decide_eq_true_eq, decide_eq_false_iff_not, Bool.not_eq_true', Bool.not_eq_false', beq_iff_eq] at hc2
      refine AK.region ?_
      refine AO.val (RV.move rfl) (.none rfl) rfl ?_
      refine AO.val (RV.assign rfl) (.none rfl) rfl ?_
      refine AO.nil ?_
      refine AK.inBlock ?_
      refine AK.region ?_
      refine AO.val (by first | exact RV.addIn rfl rfl (by omega) | exact RV.add rfl rfl) (.none rfl) rfl ?_
      refine AO.val (RV.move rfl) (.none rfl) rfl ?_
      refine AO.nil ?_
      -- round ends at L0TT
      refine AK.weak (.cons (by exact rfl) (.cons (by rw [idxTo, if_pos (by assumption)]; exact rfl) (.cons (by exact rfl) (.cons (by exact rfl) .nil)))) (by first | exact SubO.sub | exact List.Sublist.refl _ | exact .cons _ (List.Sublist.refl _) | exact .cons _ (.cons _ (List.Sublist.refl _)) | exact .cons _ (.cons _ (.cons _ (List.Sublist.refl _)))) (hih0 (k + 1) ?_ ?_)
      · try dsimp only
        exact by omega
      · try dsimp only
        omega
    · intro hc2
      try simp only [decide_eq_true_eq, decide_eq_false_iff_not, Bool.not_eq_true', Bool.not_eq_false', beq_iff_eq] at hc2
      refine AK.skip ?_
      refine AK.inBlock ?_
      refine AK.region ?_
      refine AO.val (by first | exact RV.addIn rfl rfl (by omega) | exact RV.add rfl rfl) (.none rfl) rfl ?_
      refine AO.val (RV.move rfl) (.none rfl) rfl ?_
      refine AO.nil ?_
      -- round ends at L0TF
      refine AK.weak (.cons (by exact rfl) (.cons (by rw [idxTo, if_neg (by assumption)]; exact rfl) (.cons (by exact rfl) (.cons (by exact rfl) .nil)))) (by first | exact SubO.sub | exact List.Sublist.refl _ | exact .cons _ (List.Sublist.refl _) | exact .cons _ (.cons _ (List.Sublist.refl _)) | exact .cons _ (.cons _ (.cons _ (List.Sublist.refl _)))) (hih0 (k + 1) ?_ ?_)
      · try dsimp only
        exact by omega
      · try dsimp only
        omega
  · intro hc1
    try simp only [decide_eq_true_eq, decide_eq_false_iff_not, Bool.not_eq_true', Bool.not_eq_false', beq_iff_eq] at hc1
    refine AK.exit rfl ?_
    refine AK.seq ?_
    refine AK.region ?_
    refine AO.val (RV.move rfl) (.none rfl) rfl ?_
    refine AO.val (RV.assign rfl) (.none rfl) rfl ?_
    refine AO.nil ?_
    -- at L0F
    clear hih0
    refine AK.ret (h' := h) Try.func31 (.tmp rfl .nil) ?_ (by first | exact SubO.sub | exact List.Sublist.refl _ | exact .cons _ (List.Sublist.refl _) | exact .cons _ (.cons _ (List.Sublist.refl _)) | exact .cons _ (.cons _ (.cons _ (List.Sublist.refl _))))
    exact ⟨rfl, by rw [show k = 8 by omega]; rfl⟩

theorem size_spec (B : World) (h : Own) (i : Int) : Tri Try.prog B 35 [.int .i64 i] h fun v h' => h = h' ∧ v = .int .u16 (sizeS i) := by
  have hszl : SZ.length = 8 := rfl
  refine Tri.enter (n := 12) Try.func35 rfl rfl rfl ?_
  simp only [argsE, Nat.reduceAdd]
  try dsimp only [argsE]
  refine AK.seq ?_
  refine AK.region ?_
  refine AO.val (RV.assign rfl) (.none rfl) rfl ?_
  refine AO.nil ?_
  refine AK.seq ?_
  refine AK.seq ?_
  refine AK.region ?_
  refine AO.val (RV.move rfl) (.none rfl) rfl ?_
  refine AO.val (RV.lss rfl rfl) (.none rfl) rfl ?_
  refine AO.val (RV.move rfl) (.none rfl) rfl ?_
  refine AO.caseG rfl rfl rfl ?_ ?_
  · intro hg1
    try simp only [decide_eq_true_eq, decide_eq_false_iff_not, Bool.not_eq_true', Bool.not_eq_false', beq_iff_eq] at hg1
    refine AO.pass (.some rfl rfl rfl rfl) rfl ?_
    refine AO.pass (.some rfl rfl rfl rfl) rfl ?_
    refine AO.val (RV.pickT rfl rfl) (.none rfl) rfl ?_
    refine AO.nil ?_
    refine AK.condT rfl ?_
    refine AK.seq ?_
    refine AK.region ?_
    refine AO.val (RV.assign rfl) (.none rfl) rfl ?_
    refine AO.nil ?_
    -- at t
    refine AK.ret (h' := h) Try.func35 (.tmp rfl .nil) ?_ (by first | exact SubO.sub | exact List.Sublist.refl _ | exact .cons _ (List.Sublist.refl _) | exact .cons _ (.cons _ (List.Sublist.refl _)) | exact .cons _ (.cons _ (.cons _ (List.Sublist.refl _))))
    refine ⟨rfl, ?_⟩
    simp only [sizeS, oneOr]
    rw [if_pos (by simp_all <;> omega)]
  · intro hg1
    try simp only [decide_eq_true_eq, decide_eq_false_iff_not, Bool.not_eq_true', Bool.not_eq_false', beq_iff_eq] at hg1
    refine AO.val (RV.move rfl) (.some rfl rfl rfl rfl) rfl ?_
    refine AO.val (RV.geq rfl rfl) (.some rfl rfl rfl rfl) rfl ?_
    refine AO.val (RV.pickF rfl rfl) (.none rfl) rfl ?_
    refine AO.nil ?_
    refine AK.cond rfl ?_ ?_
    · intro hc2
      try simp only [decide_eq_true_eq, decide_eq_false_iff_not, Bool.not_eq_true', Bool.not_eq_false', beq_iff_eq] at hc2
      refine AK.seq ?_
      refine AK.region ?_
      refine AO.val (RV.assign rfl) (.none rfl) rfl ?_
      refine AO.nil ?_
      -- at fT
      refine AK.ret (h' := h) Try.func35 (.tmp rfl .nil) ?_ (by first | exact SubO.sub | exact List.Sublist.refl _ | exact .cons _ (List.Sublist.refl _) | exact .cons _ (.cons _ (List.Sublist.refl _)) | exact .cons _ (.cons _ (.cons _ (List.Sublist.refl _))))
      refine ⟨rfl, ?_⟩
      simp only [sizeS, oneOr]
      rw [if_pos (by simp_all <;> omega)]
    · intro hc2
      try simp only [decide_eq_true_eq, decide_eq_false_iff_not, Bool.not_eq_true', Bool.not_eq_false', beq_iff_eq] at hc2
      refine AK.skip ?_
      refine AK.seq ?_
      refine AK.region ?_
      refine AO.eff (EF.callF rfl (sizes_spec B _)) (.none rfl) rfl ?_
      rintro _ _ ⟨rfl, rfl⟩
      refine AO.val (RV.move rfl) (.none rfl) rfl ?_
      refine AO.val (RV.indexArrL (l := SZ) (enc := Value.int .u16) rfl rfl rfl (by omega) rfl) (.none rfl) rfl ?_
      refine AO.val (RV.assign rfl) (.none rfl) rfl ?_
      refine AO.nil ?_
      -- at fF
      refine AK.ret (h' := h) Try.func35 (.tmp rfl .nil) ?_ (by first | exact SubO.sub | exact List.Sublist.refl _ | exact .cons _ (List.Sublist.refl _) | exact .cons _ (.cons _ (List.Sublist.refl _)) | exact .cons _ (.cons _ (.cons _ (List.Sublist.refl _))))
      refine ⟨rfl, ?_⟩
      simp only [sizeS, oneOr]
      rw [if_neg (by simp_all <;> omega)]

theorem rsize_spec (B : World) (h : Own) (i : Int) : Tri Try.prog B 14 [.int .i64 i] h fun v h' => h = h' ∧ v = .int .u16 (sizeS i) := by
  refine Tri.enter (n := 13) Try.func14 rfl rfl rfl ?_
  simp only [argsE, Nat.reduceAdd]
  try dsimp only [argsE]
  refine AK.seq ?_
  refine AK.region ?_
  refine AO.val (RV.assign rfl) (.none rfl) rfl ?_
  refine AO.nil ?_
  refine AK.seq ?_
  refine AK.seq ?_
  refine AK.region ?_
  refine AO.val (RV.move rfl) (.none rfl) rfl ?_
  refine AO.val (RV.lss rfl rfl) (.none rfl) rfl ?_
  refine AO.val (RV.move rfl) (.none rfl) rfl ?_
  refine AO.caseG rfl rfl rfl ?_ ?_
  · intro hg1
    try simp only [decide_eq_true_eq, decide_eq_false_iff_not, Bool.not_eq_true', Bool.not_eq_false', beq_iff_eq] at hg1
    refine AO.pass (.some rfl rfl rfl rfl) rfl ?_
    refine AO.pass (.some rfl rfl rfl rfl) rfl ?_
    refine AO.val (RV.pickT rfl rfl) (.none rfl) rfl ?_
    refine AO.nil ?_
    refine AK.condT rfl ?_
    refine AK.seq ?_
    refine AK.region ?_
    refine AO.val (RV.assign rfl) (.none rfl) rfl ?_
    refine AO.nil ?_
    -- at t
    refine AK.ret (h' := h) Try.func14 (.tmp rfl .nil) ?_ (by first | exact SubO.sub | exact List.Sublist.refl _ | exact .cons _ (List.Sublist.refl _) | exact .cons _ (.cons _ (List.Sublist.refl _)) | exact .cons _ (.cons _ (.cons _ (List.Sublist.refl _))))
    refine ⟨rfl, ?_⟩
    simp only [sizeS, oneOr]
    rw [if_pos (by simp_all <;> omega)]
  · intro hg1
    try simp only [decide_eq_true_eq, decide_eq_false_iff_not, Bool.not_eq_true', Bool.not_eq_false', beq_iff_eq] at hg1
    refine AO.val (RV.move rfl) (.some rfl rfl rfl rfl) rfl ?_
    refine AO.val (RV.gtr rfl rfl) (.some rfl rfl rfl rfl) rfl ?_
    refine AO.val (RV.pickF rfl rfl) (.none rfl) rfl ?_
    refine AO.nil ?_
    refine AK.cond rfl ?_ ?_
    · intro hc2
      try simp only [decide_eq_true_eq, decide_eq_false_iff_not, Bool.not_eq_true', Bool.not_eq_false', beq_iff_eq] at hc2
      refine AK.seq ?_
      refine AK.region ?_
      refine AO.val (RV.assign rfl) (.none rfl) rfl ?_
      refine AO.nil ?_
      -- at fT
      refine AK.ret (h' := h) Try.func14 (.tmp rfl .nil) ?_ (by first | exact SubO.sub | exact List.Sublist.refl _ | exact .cons _ (List.Sublist.refl _) | exact .cons _ (.cons _ (List.Sublist.refl _)) | exact .cons _ (.cons _ (.cons _ (List.Sublist.refl _))))
      refine ⟨rfl, ?_⟩
      simp only [sizeS, oneOr]
      rw [if_pos (by simp_all <;> omega)]
    · intro hc2
      try simp only [decide_eq_true_eq, decide_eq_false_iff_not, Bool.not_eq_true', Bool.not_eq_false', beq_iff_eq] at hc2
      refine AK.skip ?_
      refine AK.seq ?_
      refine AK.region ?_
      refine AO.eff (EF.buildSeq [.int .u16 216, .int .u16 536, .int .u16 996, .int .u16 1220, .int .u16 1300, .int .u16 1400, .int .u16 1440, .int .u16 1460] rfl rfl rfl rfl) (.none rfl) rfl ?_
      rintro _ _ ⟨b9, hf9, rfl, rfl⟩
      have hsz : Src B ((b9, Blk.cells [.int .u16 216, .int .u16 536, .int .u16 996, .int .u16 1220, .int .u16 1300, .int .u16 1400, .int .u16 1440, .int .u16 1460] 28 (0, 0)) :: h) (some ⟨b9, 0, none⟩) 8 1 (SZ.map (Value.int .u16)) := Src.of_new List.mem_cons_self 8 1 (by decide)
      have hszl : SZ.length = 8 := rfl
      refine AO.val (RV.move rfl) (.none rfl) rfl ?_
      refine AO.val (RV.indexS rfl rfl hsz (by omega) rfl) (.none rfl) rfl ?_
      refine AO.val (RV.loadS rfl hsz (by omega) (by simp)) (.none rfl) rfl ?_
      refine AO.val (RV.assign rfl) (.none rfl) rfl ?_
      refine AO.nil ?_
      -- at fF
      refine AK.ret (h' := h) Try.func14 (.tmp rfl .nil) ?_ (by first | exact SubO.sub | exact List.Sublist.refl _ | exact .cons _ (List.Sublist.refl _) | exact .cons _ (.cons _ (List.Sublist.refl _)) | exact .cons _ (.cons _ (.cons _ (List.Sublist.refl _))))
      refine ⟨rfl, ?_⟩
      simp only [sizeS, oneOr]
      rw [if_neg (by simp_all <;> omega)]

theorem rindex_spec (B : World) (h : Own) (n : Int) : Tri Try.prog B 37 [.int .u16 n] h fun v h' => h = h' ∧ v = .int .i64 (idxTo n 8) := by
  refine Tri.enter (n := 13) Try.func37 rfl rfl rfl ?_
  simp only [argsE, Nat.reduceAdd]
  try dsimp only [argsE]
  refine AK.seq ?_
  refine AK.region ?_
  refine AO.val (RV.assign rfl) (.none rfl) rfl ?_
  refine AO.nil ?_
  refine AK.seq ?_
  refine AK.seq ?_
  refine AK.region ?_
  refine AO.val (RV.assign rfl) (.none rfl) rfl ?_
  refine AO.nil ?_
  refine AK.block ?_
  refine AK.loop (α := Nat) (E := fun k => [(0, .int .u16 n), (3, .int .i64 k)]) (H := fun k => h) (Inv := fun k => k ≤ 7 ∧ idxTo n 8 = idxTo n (k + 1)) (μ := fun k => k) 7 ?_ (.cons (by exact rfl) (.cons (by exact rfl) .nil)) ?_ ?_
  · exact ⟨by omega, rfl⟩
  · exact (by first | exact SubO.sub | exact List.Sublist.refl _ | exact .cons _ (List.Sublist.refl _) | exact .cons _ (.cons _ (List.Sublist.refl _)) | exact .cons _ (.cons _ (.cons _ (List.Sublist.refl _))))
  rintro k ⟨hk, he⟩ hih0
  try dsimp only at hih0 ⊢
  refine AK.seq ?_
  refine AK.seq ?_
  refine AK.region ?_
  refine AO.val (RV.move rfl) (.none rfl) rfl ?_
  refine AO.val (RV.gtr rfl rfl) (.none rfl) rfl ?_
  refine AO.nil ?_
  refine AK.cond rfl ?_ ?_
  · intro hc1
    try simp only [decide_eq_true_eq, decide_eq_false_iff_not, Bool.not_eq_true', Bool.not_eq_false', beq_iff_eq] at hc1
    refine AK.skip ?_
    refine AK.seq ?_
    refine AK.block ?_
    refine AK.seq ?_
    refine AK.region ?_
    refine AO.val (RV.move rfl) (.none rfl) rfl ?_
    refine AO.eff (EF.callF rfl (rsize_spec B _ _)) (.none rfl) rfl ?_
    rintro _ _ ⟨rfl, rfl⟩
    refine AO.val (RV.move rfl) (.none rfl) rfl ?_
    refine AO.val (RV.leq rfl rfl) (.none rfl) rfl ?_
    refine AO.nil ?_
    refine AK.cond rfl ?_ ?_
    · intro hc2
      try simp only [decide_eq_true_eq, decide_eq_false_iff_not, Bool.not_eq_true', Bool.not_eq_false', beq_iff_eq] at hc2
      refine AK.seq ?_
      refine AK.region ?_
      refine AO.val (RV.move rfl) (.none rfl) rfl ?_
      refine AO.val (RV.assign rfl) (.none rfl) rfl ?_
      refine AO.nil ?_
      -- at L0TT
      clear hih0
      refine AK.ret (h' := h) Try.func37 (.tmp rfl .nil) ?_ (by first | exact SubO.sub | exact List.Sublist.refl _ | exact .cons _ (List.Sublist.refl _) | exact .cons _ (.cons _ (List.Sublist.refl _)) | exact .cons _ (.cons _ (.cons _ (List.Sublist.refl _))))
      refine ⟨rfl, ?_⟩
      have hs : sizeS (k : Int) = lget SZ (k : Int) := by unfold sizeS; rw [if_neg (by omega)]
      rw [hs] at hc2
      rw [he, idxTo, if_pos hc2]; rfl
    · intro hc2
      try simp only [decide_eq_true_eq, decide_eq_false_iff_not, Bool.not_eq_true', Bool.not_eq_false', beq_iff_eq] at hc2
      refine AK.skip ?_
      refine AK.inBlock ?_
      refine AK.region ?_
      refine AO.val (RV.move rfl) (.none rfl) rfl ?_
      refine AO.val (by first | exact RV.subIn rfl rfl (by omega) | exact RV.sub rfl rfl) (.none rfl) rfl ?_
      refine AO.val (RV.assign rfl) (.none rfl) rfl ?_
      refine AO.nil ?_
      -- round ends at L0TF
      obtain ⟨m, rfl⟩ : ∃ m, k = m + 1 := ⟨k - 1, by omega⟩
      have hs : sizeS ((m + 1 : Nat) : Int) = lget SZ ((m + 1 : Nat) : Int) := by unfold sizeS; rw [if_neg (by omega)]
      rw [hs] at hc2
      refine AK.weak (.cons (by exact rfl) (.cons (by rw [show (m : Int) = ((m + 1 : Nat) : Int) - 1 by omega]; exact rfl) .nil)) (by first | exact SubO.sub | exact List.Sublist.refl _ | exact .cons _ (List.Sublist.refl _) | exact .cons _ (.cons _ (List.Sublist.refl _)) | exact .cons _ (.cons _ (.cons _ (List.Sublist.refl _)))) (hih0 m ?_ ?_)
      · try dsimp only
        exact ⟨by omega, by rw [he, idxTo, if_neg hc2]⟩
      · try dsimp only
        omega
  · intro hc1
    try simp only [decide_eq_true_eq, decide_eq_false_iff_not, Bool.not_eq_true', Bool.not_eq_false', beq_iff_eq] at hc1
    refine AK.exit rfl ?_
    refine AK.seq ?_
    refine AK.region ?_
    refine AO.val (RV.assign rfl) (.none rfl) rfl ?_
    refine AO.nil ?_
    -- at L0F
    clear hih0
    refine AK.ret (h' := h) Try.func37 (.tmp rfl .nil) ?_ (by first | exact SubO.sub | exact List.Sublist.refl _ | exact .cons _ (List.Sublist.refl _) | exact .cons _ (.cons _ (List.Sublist.refl _)) | exact .cons _ (.cons _ (.cons _ (List.Sublist.refl _))))
    refine ⟨rfl, ?_⟩
    rw [he, show k = 0 by omega]; simp [idxTo, oneOr]

end Go.Proofs.Ytagfegkpgdaimaa
