/- Walks through the code: what each function that is named here gives back, from any memory that holds its arguments. Written by a program of the claim's author, out of the program's form in Lean. -/
import Derived.Test.YtbdlohjmifgcaaaS01R2
import Derived.Test.YtbdlohjmifgcaaaS13W2
import Derived.Test.YtbdlohjmifgcaaaPlain27
set_option linter.unusedSimpArgs false
set_option linter.unusedVariables false
namespace Go.Proofs.Ytbdlohjmifgcaaa
open Go.Sep Go.Sep.Sip Go.Sep.Cookie

theorem fbytes_spec (B : World) (h : Own) (f : Flow) : Tri Try.prog B 30 [.agg (encF f).toArray] h fun v h' => NewS 5 1 (FB f).length ((FB f).map (fun x => Value.int .u8 x)) h v h' := by
  refine Tri.enter (n := 19) Try.func30 rfl rfl rfl ?_
  simp only [argsE, Nat.reduceAdd]
  try dsimp only [argsE]
  refine AK.seq ?_
  refine AK.region ?_
  refine AO.eff (EF.box rfl rfl) (.none rfl) rfl ?_
  rintro _ _ ⟨b1, hf1, rfl, rfl⟩
  refine AO.val (RV.assign rfl) (.none rfl) rfl ?_
  refine AO.nil ?_
  refine AK.seq ?_
  refine AK.draw [] [15] mixed ?_
  refine AD.takeP 0 rfl (by kernel_rfl) (RV.fieldAddr rfl) (.none rfl) rfl ?_
  refine AD.take 1 rfl (by kernel_rfl) (by first | exact RV.loadO rfl rfl (by first | simp | assumption) | exact RV.loadS rfl (by assumption) (by omega) (by first | simp | assumption)) (.none rfl) rfl ?_
  refine AD.takeP 2 rfl (by kernel_rfl) (RV.fieldAddr rfl) (.none rfl) rfl ?_
  refine AD.take 3 rfl (by kernel_rfl) (by first | exact RV.loadO rfl rfl (by first | simp | assumption) | exact RV.loadS rfl (by assumption) (by omega) (by first | simp | assumption)) (.none rfl) rfl ?_
  refine AD.takeP 6 rfl (by kernel_rfl) (RV.fieldAddr rfl) (.none rfl) rfl ?_
  refine AD.take 7 rfl (by kernel_rfl) (by first | exact RV.loadO rfl rfl (by first | simp | assumption) | exact RV.loadS rfl (by assumption) (by omega) (by first | simp | assumption)) (.none rfl) rfl ?_
  refine AD.takeP 8 rfl (by kernel_rfl) (RV.fieldAddr rfl) (.none rfl) rfl ?_
  refine AD.take 9 rfl (by kernel_rfl) (by first | exact RV.loadO rfl rfl (by first | simp | assumption) | exact RV.loadS rfl (by assumption) (by omega) (by first | simp | assumption)) (.none rfl) rfl ?_
  refine AD.takeP 12 rfl (by kernel_rfl) (RV.fieldAddr rfl) (.none rfl) rfl ?_
  refine AD.take 13 rfl (by kernel_rfl) (by first | exact RV.loadO rfl rfl (by first | simp | assumption) | exact RV.loadS rfl (by assumption) (by omega) (by first | simp | assumption)) (.none rfl) rfl ?_
  refine AD.cut (α := Nat × Option Addr × Nat × Own × Nat × Option Addr × Nat × Own × Nat) 2 #[true, true, true, true, true, true, true, true, true, true, true, true, true, true, true, false, false] (fun (b7, A8, c8, p8, b13, A14, c14, p14, b17) e => (17, .slice (some ⟨b17, 0, none⟩) 1 1) :: (14, .slice A14 (12) c14) :: (13, .slice (some ⟨b13, 0, none⟩) 2 2) :: (8, .slice A8 (8) c8) :: (7, .slice (some ⟨b7, 0, none⟩) 2 2) :: e) (fun (b7, A8, c8, p8, b13, A14, c14, p14, b17) h => (b17, Blk.cells [.int .u8 f.2.2.2.2.1] 5 (0, 0)) :: (p14 ++ ((b13, Blk.cells [.int .u16 f.2.2.1, .int .u16 f.2.2.2.1] 27 (0, 0)) :: (p8 ++ ((b7, Blk.cells [.int .u32 f.1, .int .u32 f.2.1] 26 (0, 0)) :: (h)))))) (fun (b7, A8, c8, p8, b13, A14, c14, p14, b17) => (Row 5 1 (.slice A8 (8) c8) (8) ((beR 4 f.1 ++ beR 4 f.2.1).map (fun x => Value.int .u8 x)) p8) ∧ ((8) ≤ c8) ∧ (Row 5 1 (.slice A14 (12) c14) (12) (((beR 4 f.1 ++ beR 4 f.2.1) ++ (beR 2 f.2.2.1 ++ beR 2 f.2.2.2.1)).map (fun x => Value.int .u8 x)) p14) ∧ ((12) ≤ c14)) ?_ ?_
  · rintro ⟨b7, A8, c8, p8, b13, A14, c14, p14, b17⟩ ⟨hr8, hc8, hr14, hc14⟩
    try dsimp only
    refine AD.one 15 (by kernel_rfl) (AE.eff rfl (show EF _ _ _ _ _ _ (NewS 5 1 ((FB f).length) ((FB f).map (fun x => Value.int .u8 x)) _) from EF.appendS (n' := (FB f).length) (ys := (FB f).map (fun x => Value.int .u8 x)) rfl rfl hr14 (Src.of_new (el := 5) (cs := [.int .u8 f.2.2.2.2.1]) (by simp) 1 1 (Nat.le_refl _)) (by simp [FB_len]) (by simp [FB]) rfl (by decide) rfl (by omega) (by omega)) (.none rfl) rfl ?_)
    rintro _ _ ⟨A18, c18, p18, rfl, hr18, hc18, rfl⟩
    refine ⟨.inl (by kernel_rfl), ?_⟩
    refine AD.takeP 16 rfl (by kernel_rfl) (RV.assign rfl) (.none rfl) rfl ?_
    refine AD.done (by kernel_rfl) ?_
    -- at 
    refine AK.ret (h' := p18 ++ h) Try.func30 (.tmp rfl .nil) ?_ (by exact SubO.sub)
    exact ⟨A18, c18, p18, rfl, hr18, hc18, rfl⟩
  · intro hst0
    try dsimp only at hst0
    refine AD.cut (α := Nat × Option Addr × Nat × Own × Nat × Nat) 3 #[true, true, true, true, true, true, true, true, true, true, true, false, true, true, true, false, false] (fun (b7, A8, c8, p8, b13, b17) e => (17, .slice (some ⟨b17, 0, none⟩) 1 1) :: (13, .slice (some ⟨b13, 0, none⟩) 2 2) :: (8, .slice A8 (8) c8) :: (7, .slice (some ⟨b7, 0, none⟩) 2 2) :: e) (fun (b7, A8, c8, p8, b13, b17) h => (b17, Blk.cells [.int .u8 f.2.2.2.2.1] 5 (0, 0)) :: ((b13, Blk.cells [.int .u16 f.2.2.1, .int .u16 f.2.2.2.1] 27 (0, 0)) :: (p8 ++ ((b7, Blk.cells [.int .u32 f.1, .int .u32 f.2.1] 26 (0, 0)) :: (h))))) (fun (b7, A8, c8, p8, b13, b17) => (Row 5 1 (.slice A8 (8) c8) (8) ((beR 4 f.1 ++ beR 4 f.2.1).map (fun x => Value.int .u8 x)) p8) ∧ ((8) ≤ c8)) ?_ ?_
    · rintro ⟨b7, A8, c8, p8, b13, b17⟩ ⟨hr8, hc8⟩
      try dsimp only
      refine AD.one 11 (by kernel_rfl) (AE.eff rfl (show EF _ _ _ _ _ _ (NewS 5 1 (12) (((beR 4 f.1 ++ beR 4 f.2.1) ++ (beR 2 f.2.2.1 ++ beR 2 f.2.2.2.1)).map (fun x => Value.int .u8 x)) _) from EF.callF rfl ((put16_spec (cap := c8) (A2 := some ⟨b13, 0, none⟩) (cap2 := 2) B _ (beR 4 f.1 ++ beR 4 f.2.1) [f.2.2.1, f.2.2.2.1] ((hr8.src (h := p8) (fun x hx => hx)).mono fun x hx => by simp [hx]) (by simp [beR_len]) (Src.of_new (el := 27) (cs := [.int .u16 f.2.2.1, .int .u16 f.2.2.2.1]) (by simp) 2 1 (Nat.le_refl _)) (by simp)).mono fun v h2 r => r.to (by simp [beR_len]) (by simp))) (.none rfl) rfl ?_)
      rintro _ _ ⟨A14, c14, p14, rfl, hr14, hc14, rfl⟩
      refine ⟨(by first | exact .inr fun x hx hM => hx | exact .inr fun x hx hM => List.mem_cons_of_mem _ hx | exact .inr fun x hx hM => List.mem_append_right _ hx), ?_⟩
      refine AD.to rfl (by rfl) (.cons rfl (.cons rfl (.cons rfl (.cons rfl (.cons rfl (.drop rfl (.drop rfl (.drop rfl (.drop rfl (.drop rfl .refl)))))))))) (by first | exact List.Perm.refl _ | exact perm_count fun x => by simp only [List.count_append, List.count_cons, List.count_nil]; omega) (hst0 ⟨b7, A8, c8, p8, b13, A14, c14, p14, b17⟩ ⟨hr8, hc8, hr14, hc14⟩)
    · intro hst1
      try dsimp only at hst1
      refine AD.cut (α := Nat × Option Addr × Nat × Own × Nat) 4 #[true, true, true, true, true, true, true, true, true, true, true, false, true, true, false, false, false] (fun (b7, A8, c8, p8, b13) e => (13, .slice (some ⟨b13, 0, none⟩) 2 2) :: (8, .slice A8 (8) c8) :: (7, .slice (some ⟨b7, 0, none⟩) 2 2) :: e) (fun (b7, A8, c8, p8, b13) h => (b13, Blk.cells [.int .u16 f.2.2.1, .int .u16 f.2.2.2.1] 27 (0, 0)) :: (p8 ++ ((b7, Blk.cells [.int .u32 f.1, .int .u32 f.2.1] 26 (0, 0)) :: (h)))) (fun (b7, A8, c8, p8, b13) => (Row 5 1 (.slice A8 (8) c8) (8) ((beR 4 f.1 ++ beR 4 f.2.1).map (fun x => Value.int .u8 x)) p8) ∧ ((8) ≤ c8)) ?_ ?_
      · rintro ⟨b7, A8, c8, p8, b13⟩ ⟨hr8, hc8⟩
        try dsimp only
        refine AD.many (i := 11) (l := [14]) (by kernel_rfl) (.cons ?_ (.cons ?_ (.nil)))
        · skip
          refine AE.eff rfl (show EF _ _ _ _ _ _ (NewS 5 1 (12) (((beR 4 f.1 ++ beR 4 f.2.1) ++ (beR 2 f.2.2.1 ++ beR 2 f.2.2.2.1)).map (fun x => Value.int .u8 x)) _) from EF.callF rfl ((put16_spec (cap := c8) (A2 := some ⟨b13, 0, none⟩) (cap2 := 2) B _ (beR 4 f.1 ++ beR 4 f.2.1) [f.2.2.1, f.2.2.2.1] ((hr8.src (h := p8) (fun x hx => hx)).mono fun x hx => by simp [hx]) (by simp [beR_len]) (Src.of_new (el := 27) (cs := [.int .u16 f.2.2.1, .int .u16 f.2.2.2.1]) (by simp) 2 1 (Nat.le_refl _)) (by simp)).mono fun v h2 r => r.to (by simp [beR_len]) (by simp))) (.none rfl) rfl ?_
          rintro _ _ ⟨A14, c14, p14, rfl, hr14, hc14, rfl⟩
          refine ⟨(by first | exact .inr fun x hx hM => hx | exact .inr fun x hx hM => List.mem_cons_of_mem _ hx | exact .inr fun x hx hM => List.mem_append_right _ hx), ?_⟩
          refine AD.one 14 (by kernel_rfl) (AE.eff rfl (EF.buildSeq [.int .u8 f.2.2.2.2.1] rfl rfl rfl rfl) (.none rfl) rfl ?_)
          rintro _ _ ⟨b17, hf17, rfl, rfl⟩
          refine ⟨(by first | exact .inr fun x hx hM => hx | exact .inr fun x hx hM => List.mem_cons_of_mem _ hx | exact .inr fun x hx hM => List.mem_append_right _ hx), ?_⟩
          refine AD.to rfl (by rfl) (.cons rfl (.cons rfl (.cons rfl (.cons rfl (.cons rfl (.drop rfl (.drop rfl (.drop rfl (.drop rfl (.drop rfl .refl)))))))))) (by first | exact List.Perm.refl _ | exact perm_count fun x => by simp only [List.count_append, List.count_cons, List.count_nil]; omega) (hst0 ⟨b7, A8, c8, p8, b13, A14, c14, p14, b17⟩ ⟨hr8, hc8, hr14, hc14⟩)
        · skip
          refine AE.eff rfl (EF.buildSeq [.int .u8 f.2.2.2.2.1] rfl rfl rfl rfl) (.none rfl) rfl ?_
          rintro _ _ ⟨b17, hf17, rfl, rfl⟩
          refine ⟨(by first | exact .inr fun x hx hM => hx | exact .inr fun x hx hM => List.mem_cons_of_mem _ hx | exact .inr fun x hx hM => List.mem_append_right _ hx), ?_⟩
          refine AD.to rfl (by rfl) (.cons rfl (.cons rfl (.cons rfl (.cons rfl (.drop rfl (.drop rfl (.drop rfl (.drop rfl .refl)))))))) (by first | exact List.Perm.refl _ | exact perm_count fun x => by simp only [List.count_append, List.count_cons, List.count_nil]; omega) (hst1 ⟨b7, A8, c8, p8, b13, b17⟩ ⟨hr8, hc8⟩)
      · intro hst2
        try dsimp only at hst2
        refine AD.cut (α := Nat × Option Addr × Nat × Own × Nat) 4 #[true, true, true, true, true, true, true, true, true, true, false, false, true, true, true, false, false] (fun (b7, A8, c8, p8, b17) e => (17, .slice (some ⟨b17, 0, none⟩) 1 1) :: (8, .slice A8 (8) c8) :: (7, .slice (some ⟨b7, 0, none⟩) 2 2) :: e) (fun (b7, A8, c8, p8, b17) h => (b17, Blk.cells [.int .u8 f.2.2.2.2.1] 5 (0, 0)) :: (p8 ++ ((b7, Blk.cells [.int .u32 f.1, .int .u32 f.2.1] 26 (0, 0)) :: (h)))) (fun (b7, A8, c8, p8, b17) => (Row 5 1 (.slice A8 (8) c8) (8) ((beR 4 f.1 ++ beR 4 f.2.1).map (fun x => Value.int .u8 x)) p8) ∧ ((8) ≤ c8)) ?_ ?_
        · rintro ⟨b7, A8, c8, p8, b17⟩ ⟨hr8, hc8⟩
          try dsimp only
          refine AD.one 10 (by kernel_rfl) (AE.eff rfl (EF.buildSeq [.int .u16 f.2.2.1, .int .u16 f.2.2.2.1] rfl rfl rfl rfl) (.none rfl) rfl ?_)
          rintro _ _ ⟨b13, hf13, rfl, rfl⟩
          refine ⟨(by first | exact .inr fun x hx hM => hx | exact .inr fun x hx hM => List.mem_cons_of_mem _ hx | exact .inr fun x hx hM => List.mem_append_right _ hx), ?_⟩
          refine AD.to rfl (by rfl) (.cons rfl (.cons rfl (.cons rfl (.cons rfl (.drop rfl (.drop rfl (.drop rfl (.drop rfl .refl)))))))) (by first | exact List.Perm.refl _ | exact perm_count fun x => by simp only [List.count_append, List.count_cons, List.count_nil]; omega) (hst1 ⟨b7, A8, c8, p8, b13, b17⟩ ⟨hr8, hc8⟩)
        · intro hst3
          try dsimp only at hst3
          refine AD.cut (α := Nat × Nat × Nat) 4 #[true, true, true, true, true, false, true, true, true, true, true, false, true, true, true, false, false] (fun (b7, b13, b17) e => (17, .slice (some ⟨b17, 0, none⟩) 1 1) :: (13, .slice (some ⟨b13, 0, none⟩) 2 2) :: (7, .slice (some ⟨b7, 0, none⟩) 2 2) :: e) (fun (b7, b13, b17) h => (b17, Blk.cells [.int .u8 f.2.2.2.2.1] 5 (0, 0)) :: ((b13, Blk.cells [.int .u16 f.2.2.1, .int .u16 f.2.2.2.1] 27 (0, 0)) :: ((b7, Blk.cells [.int .u32 f.1, .int .u32 f.2.1] 26 (0, 0)) :: (h)))) (fun (b7, b13, b17) => True) ?_ ?_
          · rintro ⟨b7, b13, b17⟩ _
            try dsimp only
            refine AD.one 5 (by kernel_rfl) (AE.eff rfl (show EF _ _ _ _ _ _ (NewS 5 1 (8) ((beR 4 f.1 ++ beR 4 f.2.1).map (fun x => Value.int .u8 x)) _) from EF.callF rfl ((put32_spec (A2 := some ⟨b7, 0, none⟩) (cap2 := 2) B _ (A := none) (cap := 0) [] [f.1, f.2.1] ⟨rfl, by simp⟩ (by decide) (Src.of_new (el := 26) (cs := [.int .u32 f.1, .int .u32 f.2.1]) (by simp) 2 1 (Nat.le_refl _)) (by simp)).mono fun v h2 r => r.to rfl (by simp))) (.none rfl) rfl ?_)
            rintro _ _ ⟨A8, c8, p8, rfl, hr8, hc8, rfl⟩
            refine ⟨(by first | exact .inr fun x hx hM => hx | exact .inr fun x hx hM => List.mem_cons_of_mem _ hx | exact .inr fun x hx hM => List.mem_append_right _ hx), ?_⟩
            refine AD.to rfl (by rfl) (.cons rfl (.cons rfl (.cons rfl (.cons rfl (.drop rfl (.drop rfl (.drop rfl (.drop rfl .refl)))))))) (by first | exact List.Perm.refl _ | exact perm_count fun x => by simp only [List.count_append, List.count_cons, List.count_nil]; omega) (hst1 ⟨b7, A8, c8, p8, b13, b17⟩ ⟨hr8, hc8⟩)
          · intro hst4
            try dsimp only at hst4
            refine AD.cut (α := Nat × Nat) 5 #[true, true, true, true, true, false, true, true, true, true, true, false, true, true, false, false, false] (fun (b7, b13) e => (13, .slice (some ⟨b13, 0, none⟩) 2 2) :: (7, .slice (some ⟨b7, 0, none⟩) 2 2) :: e) (fun (b7, b13) h => (b13, Blk.cells [.int .u16 f.2.2.1, .int .u16 f.2.2.2.1] 27 (0, 0)) :: ((b7, Blk.cells [.int .u32 f.1, .int .u32 f.2.1] 26 (0, 0)) :: (h))) (fun (b7, b13) => True) ?_ ?_
            · rintro ⟨b7, b13⟩ _
              try dsimp only
              refine AD.many (i := 5) (l := [14]) (by kernel_rfl) (.cons ?_ (.cons ?_ (.nil)))
              · skip
                refine AE.eff rfl (show EF _ _ _ _ _ _ (NewS 5 1 (8) ((beR 4 f.1 ++ beR 4 f.2.1).map (fun x => Value.int .u8 x)) _) from EF.callF rfl ((put32_spec (A2 := some ⟨b7, 0, none⟩) (cap2 := 2) B _ (A := none) (cap := 0) [] [f.1, f.2.1] ⟨rfl, by simp⟩ (by decide) (Src.of_new (el := 26) (cs := [.int .u32 f.1, .int .u32 f.2.1]) (by simp) 2 1 (Nat.le_refl _)) (by simp)).mono fun v h2 r => r.to rfl (by simp))) (.none rfl) rfl ?_
                rintro _ _ ⟨A8, c8, p8, rfl, hr8, hc8, rfl⟩
                refine ⟨(by first | exact .inr fun x hx hM => hx | exact .inr fun x hx hM => List.mem_cons_of_mem _ hx | exact .inr fun x hx hM => List.mem_append_right _ hx), ?_⟩
                refine AD.to rfl (by rfl) (.cons rfl (.cons rfl (.cons rfl (.drop rfl (.drop rfl (.drop rfl .refl)))))) (by first | exact List.Perm.refl _ | exact perm_count fun x => by simp only [List.count_append, List.count_cons, List.count_nil]; omega) (hst2 ⟨b7, A8, c8, p8, b13⟩ ⟨hr8, hc8⟩)
              · skip
                refine AE.eff rfl (EF.buildSeq [.int .u8 f.2.2.2.2.1] rfl rfl rfl rfl) (.none rfl) rfl ?_
                rintro _ _ ⟨b17, hf17, rfl, rfl⟩
                refine ⟨(by first | exact .inr fun x hx hM => hx | exact .inr fun x hx hM => List.mem_cons_of_mem _ hx | exact .inr fun x hx hM => List.mem_append_right _ hx), ?_⟩
                refine AD.to rfl (by rfl) (.cons rfl (.cons rfl (.cons rfl (.drop rfl (.drop rfl (.drop rfl .refl)))))) (by first | exact List.Perm.refl _ | exact perm_count fun x => by simp only [List.count_append, List.count_cons, List.count_nil]; omega) (hst4 ⟨b7, b13, b17⟩ trivial)
            · intro hst5
              try dsimp only at hst5
              refine AD.cut (α := Nat × Nat) 5 #[true, true, true, true, true, false, true, true, true, true, false, false, true, true, true, false, false] (fun (b7, b17) e => (17, .slice (some ⟨b17, 0, none⟩) 1 1) :: (7, .slice (some ⟨b7, 0, none⟩) 2 2) :: e) (fun (b7, b17) h => (b17, Blk.cells [.int .u8 f.2.2.2.2.1] 5 (0, 0)) :: ((b7, Blk.cells [.int .u32 f.1, .int .u32 f.2.1] 26 (0, 0)) :: (h))) (fun (b7, b17) => True) ?_ ?_
              · rintro ⟨b7, b17⟩ _
                try dsimp only
                refine AD.many (i := 5) (l := [10]) (by kernel_rfl) (.cons ?_ (.cons ?_ (.nil)))
                · skip
                  refine AE.eff rfl (show EF _ _ _ _ _ _ (NewS 5 1 (8) ((beR 4 f.1 ++ beR 4 f.2.1).map (fun x => Value.int .u8 x)) _) from EF.callF rfl ((put32_spec (A2 := some ⟨b7, 0, none⟩) (cap2 := 2) B _ (A := none) (cap := 0) [] [f.1, f.2.1] ⟨rfl, by simp⟩ (by decide) (Src.of_new (el := 26) (cs := [.int .u32 f.1, .int .u32 f.2.1]) (by simp) 2 1 (Nat.le_refl _)) (by simp)).mono fun v h2 r => r.to rfl (by simp))) (.none rfl) rfl ?_
                  rintro _ _ ⟨A8, c8, p8, rfl, hr8, hc8, rfl⟩
                  refine ⟨(by first | exact .inr fun x hx hM => hx | exact .inr fun x hx hM => List.mem_cons_of_mem _ hx | exact .inr fun x hx hM => List.mem_append_right _ hx), ?_⟩
                  refine AD.to rfl (by rfl) (.cons rfl (.cons rfl (.cons rfl (.drop rfl (.drop rfl (.drop rfl .refl)))))) (by first | exact List.Perm.refl _ | exact perm_count fun x => by simp only [List.count_append, List.count_cons, List.count_nil]; omega) (hst3 ⟨b7, A8, c8, p8, b17⟩ ⟨hr8, hc8⟩)
                · skip
                  refine AE.eff rfl (EF.buildSeq [.int .u16 f.2.2.1, .int .u16 f.2.2.2.1] rfl rfl rfl rfl) (.none rfl) rfl ?_
                  rintro _ _ ⟨b13, hf13, rfl, rfl⟩
                  refine ⟨(by first | exact .inr fun x hx hM => hx | exact .inr fun x hx hM => List.mem_cons_of_mem _ hx | exact .inr fun x hx hM => List.mem_append_right _ hx), ?_⟩
                  refine AD.to rfl (by rfl) (.cons rfl (.cons rfl (.cons rfl (.drop rfl (.drop rfl (.drop rfl .refl)))))) (by first | exact List.Perm.refl _ | exact perm_count fun x => by simp only [List.count_append, List.count_cons, List.count_nil]; omega) (hst4 ⟨b7, b13, b17⟩ trivial)
              · intro hst6
                try dsimp only at hst6
                refine AD.cut (α := Nat × Nat) 5 #[true, true, true, true, false, false, true, true, true, true, true, false, true, true, true, false, false] (fun (b13, b17) e => (17, .slice (some ⟨b17, 0, none⟩) 1 1) :: (13, .slice (some ⟨b13, 0, none⟩) 2 2) :: e) (fun (b13, b17) h => (b17, Blk.cells [.int .u8 f.2.2.2.2.1] 5 (0, 0)) :: ((b13, Blk.cells [.int .u16 f.2.2.1, .int .u16 f.2.2.2.1] 27 (0, 0)) :: (h))) (fun (b13, b17) => True) ?_ ?_
                · rintro ⟨b13, b17⟩ _
                  try dsimp only
                  refine AD.one 4 (by kernel_rfl) (AE.eff rfl (EF.buildSeq [.int .u32 f.1, .int .u32 f.2.1] rfl rfl rfl rfl) (.none rfl) rfl ?_)
                  rintro _ _ ⟨b7, hf7, rfl, rfl⟩
                  refine ⟨(by first | exact .inr fun x hx hM => hx | exact .inr fun x hx hM => List.mem_cons_of_mem _ hx | exact .inr fun x hx hM => List.mem_append_right _ hx), ?_⟩
                  refine AD.to rfl (by rfl) (.cons rfl (.cons rfl (.cons rfl (.drop rfl (.drop rfl (.drop rfl .refl)))))) (by first | exact List.Perm.refl _ | exact perm_count fun x => by simp only [List.count_append, List.count_cons, List.count_nil]; omega) (hst4 ⟨b7, b13, b17⟩ trivial)
                · intro hst7
                  try dsimp only at hst7
                  refine AD.many (i := 4) (l := [10, 14]) (by kernel_rfl) (.cons ?_ (.cons ?_ (.cons ?_ (.nil))))
                  · skip
                    refine AE.eff rfl (EF.buildSeq [.int .u32 f.1, .int .u32 f.2.1] rfl rfl rfl rfl) (.none rfl) rfl ?_
                    rintro _ _ ⟨b7, hf7, rfl, rfl⟩
                    refine ⟨(by first | exact .inr fun x hx hM => hx | exact .inr fun x hx hM => List.mem_cons_of_mem _ hx | exact .inr fun x hx hM => List.mem_append_right _ hx), ?_⟩
                    refine AD.many (i := 5) (l := [10, 14]) (by kernel_rfl) (.cons ?_ (.cons ?_ (.cons ?_ (.nil))))
                    · skip
                      refine AE.eff rfl (show EF _ _ _ _ _ _ (NewS 5 1 (8) ((beR 4 f.1 ++ beR 4 f.2.1).map (fun x => Value.int .u8 x)) _) from EF.callF rfl ((put32_spec (A2 := some ⟨b7, 0, none⟩) (cap2 := 2) B _ (A := none) (cap := 0) [] [f.1, f.2.1] ⟨rfl, by simp⟩ (by decide) (Src.of_new (el := 26) (cs := [.int .u32 f.1, .int .u32 f.2.1]) (by simp) 2 1 (Nat.le_refl _)) (by simp)).mono fun v h2 r => r.to rfl (by simp))) (.none rfl) rfl ?_
                      rintro _ _ ⟨A8, c8, p8, rfl, hr8, hc8, rfl⟩
                      refine ⟨(by first | exact .inr fun x hx hM => hx | exact .inr fun x hx hM => List.mem_cons_of_mem _ hx | exact .inr fun x hx hM => List.mem_append_right _ hx), ?_⟩
                      refine AD.many (i := 10) (l := [14]) (by kernel_rfl) (.cons ?_ (.cons ?_ (.nil)))
                      · skip
                        refine AE.eff rfl (EF.buildSeq [.int .u16 f.2.2.1, .int .u16 f.2.2.2.1] rfl rfl rfl rfl) (.none rfl) rfl ?_
                        rintro _ _ ⟨b13, hf13, rfl, rfl⟩
                        refine ⟨(by first | exact .inr fun x hx hM => hx | exact .inr fun x hx hM => List.mem_cons_of_mem _ hx | exact .inr fun x hx hM => List.mem_append_right _ hx), ?_⟩
                        refine AD.to rfl (by rfl) (.cons rfl (.cons rfl (.cons rfl (.drop rfl (.drop rfl (.drop rfl .refl)))))) (by first | exact List.Perm.refl _ | exact perm_count fun x => by simp only [List.count_append, List.count_cons, List.count_nil]; omega) (hst2 ⟨b7, A8, c8, p8, b13⟩ ⟨hr8, hc8⟩)
                      · skip
                        refine AE.eff rfl (EF.buildSeq [.int .u8 f.2.2.2.2.1] rfl rfl rfl rfl) (.none rfl) rfl ?_
                        rintro _ _ ⟨b17, hf17, rfl, rfl⟩
                        refine ⟨(by first | exact .inr fun x hx hM => hx | exact .inr fun x hx hM => List.mem_cons_of_mem _ hx | exact .inr fun x hx hM => List.mem_append_right _ hx), ?_⟩
                        refine AD.to rfl (by rfl) (.cons rfl (.cons rfl (.cons rfl (.drop rfl (.drop rfl (.drop rfl .refl)))))) (by first | exact List.Perm.refl _ | exact perm_count fun x => by simp only [List.count_append, List.count_cons, List.count_nil]; omega) (hst3 ⟨b7, A8, c8, p8, b17⟩ ⟨hr8, hc8⟩)
                    · skip
                      refine AE.eff rfl (EF.buildSeq [.int .u16 f.2.2.1, .int .u16 f.2.2.2.1] rfl rfl rfl rfl) (.none rfl) rfl ?_
                      rintro _ _ ⟨b13, hf13, rfl, rfl⟩
                      refine ⟨(by first | exact .inr fun x hx hM => hx | exact .inr fun x hx hM => List.mem_cons_of_mem _ hx | exact .inr fun x hx hM => List.mem_append_right _ hx), ?_⟩
                      refine AD.to rfl (by rfl) (.cons rfl (.cons rfl (.drop rfl (.drop rfl .refl)))) (by first | exact List.Perm.refl _ | exact perm_count fun x => by simp only [List.count_append, List.count_cons, List.count_nil]; omega) (hst5 ⟨b7, b13⟩ trivial)
                    · skip
                      refine AE.eff rfl (EF.buildSeq [.int .u8 f.2.2.2.2.1] rfl rfl rfl rfl) (.none rfl) rfl ?_
                      rintro _ _ ⟨b17, hf17, rfl, rfl⟩
                      refine ⟨(by first | exact .inr fun x hx hM => hx | exact .inr fun x hx hM => List.mem_cons_of_mem _ hx | exact .inr fun x hx hM => List.mem_append_right _ hx), ?_⟩
                      refine AD.to rfl (by rfl) (.cons rfl (.cons rfl (.drop rfl (.drop rfl .refl)))) (by first | exact List.Perm.refl _ | exact perm_count fun x => by simp only [List.count_append, List.count_cons, List.count_nil]; omega) (hst6 ⟨b7, b17⟩ trivial)
                  · skip
                    refine AE.eff rfl (EF.buildSeq [.int .u16 f.2.2.1, .int .u16 f.2.2.2.1] rfl rfl rfl rfl) (.none rfl) rfl ?_
                    rintro _ _ ⟨b13, hf13, rfl, rfl⟩
                    refine ⟨(by first | exact .inr fun x hx hM => hx | exact .inr fun x hx hM => List.mem_cons_of_mem _ hx | exact .inr fun x hx hM => List.mem_append_right _ hx), ?_⟩
                    refine AD.many (i := 4) (l := [14]) (by kernel_rfl) (.cons ?_ (.cons ?_ (.nil)))
                    · skip
                      refine AE.eff rfl (EF.buildSeq [.int .u32 f.1, .int .u32 f.2.1] rfl rfl rfl rfl) (.none rfl) rfl ?_
                      rintro _ _ ⟨b7, hf7, rfl, rfl⟩
                      refine ⟨(by first | exact .inr fun x hx hM => hx | exact .inr fun x hx hM => List.mem_cons_of_mem _ hx | exact .inr fun x hx hM => List.mem_append_right _ hx), ?_⟩
                      refine AD.to rfl (by rfl) (.cons rfl (.cons rfl (.drop rfl (.drop rfl .refl)))) (by first | exact List.Perm.refl _ | exact perm_count fun x => by simp only [List.count_append, List.count_cons, List.count_nil]; omega) (hst5 ⟨b7, b13⟩ trivial)
                    · skip
                      refine AE.eff rfl (EF.buildSeq [.int .u8 f.2.2.2.2.1] rfl rfl rfl rfl) (.none rfl) rfl ?_
                      rintro _ _ ⟨b17, hf17, rfl, rfl⟩
                      refine ⟨(by first | exact .inr fun x hx hM => hx | exact .inr fun x hx hM => List.mem_cons_of_mem _ hx | exact .inr fun x hx hM => List.mem_append_right _ hx), ?_⟩
                      refine AD.to rfl (by rfl) (.cons rfl (.cons rfl (.drop rfl (.drop rfl .refl)))) (by first | exact List.Perm.refl _ | exact perm_count fun x => by simp only [List.count_append, List.count_cons, List.count_nil]; omega) (hst7 ⟨b13, b17⟩ trivial)
                  · skip
                    refine AE.eff rfl (EF.buildSeq [.int .u8 f.2.2.2.2.1] rfl rfl rfl rfl) (.none rfl) rfl ?_
                    rintro _ _ ⟨b17, hf17, rfl, rfl⟩
                    refine ⟨(by first | exact .inr fun x hx hM => hx | exact .inr fun x hx hM => List.mem_cons_of_mem _ hx | exact .inr fun x hx hM => List.mem_append_right _ hx), ?_⟩
                    refine AD.many (i := 4) (l := [10]) (by kernel_rfl) (.cons ?_ (.cons ?_ (.nil)))
                    · skip
                      refine AE.eff rfl (EF.buildSeq [.int .u32 f.1, .int .u32 f.2.1] rfl rfl rfl rfl) (.none rfl) rfl ?_
                      rintro _ _ ⟨b7, hf7, rfl, rfl⟩
                      refine ⟨(by first | exact .inr fun x hx hM => hx | exact .inr fun x hx hM => List.mem_cons_of_mem _ hx | exact .inr fun x hx hM => List.mem_append_right _ hx), ?_⟩
                      refine AD.to rfl (by rfl) (.cons rfl (.cons rfl (.drop rfl (.drop rfl .refl)))) (by first | exact List.Perm.refl _ | exact perm_count fun x => by simp only [List.count_append, List.count_cons, List.count_nil]; omega) (hst6 ⟨b7, b17⟩ trivial)
                    · skip
                      refine AE.eff rfl (EF.buildSeq [.int .u16 f.2.2.1, .int .u16 f.2.2.2.1] rfl rfl rfl rfl) (.none rfl) rfl ?_
                      rintro _ _ ⟨b13, hf13, rfl, rfl⟩
                      refine ⟨(by first | exact .inr fun x hx hM => hx | exact .inr fun x hx hM => List.mem_cons_of_mem _ hx | exact .inr fun x hx hM => List.mem_append_right _ hx), ?_⟩
                      refine AD.to rfl (by rfl) (.cons rfl (.cons rfl (.drop rfl (.drop rfl .refl)))) (by first | exact List.Perm.refl _ | exact perm_count fun x => by simp only [List.count_append, List.count_cons, List.count_nil]; omega) (hst7 ⟨b13, b17⟩ trivial)

theorem put4_spec (B : World) (h : Own) (x : Int) (hx : 0 ≤ x ∧ x ≤ 4294967295) : Tri Try.prog B 54 [.int .u32 x, .int .i64 4] h fun v h' => NewS 5 1 (beR 4 x).length ((beR 4 x).map (fun x => Value.int .u8 x)) h v h' :=
  (put_spec B h x 4 hx (by decide)).mono fun v h' r => r.to (by simp [beR_len]) rfl
theorem put2_spec (B : World) (h : Own) (x : Int) (hx : 0 ≤ x ∧ x ≤ 4294967295) : Tri Try.prog B 54 [.int .u32 x, .int .i64 2] h fun v h' => NewS 5 1 (beR 2 x).length ((beR 2 x).map (fun x => Value.int .u8 x)) h v h' :=
  (put_spec B h x 2 hx (by decide)).mono fun v h' r => r.to (by simp [beR_len]) rfl

theorem rfbytes_spec (B : World) (h : Own) (f : Flow) (hf : FOk f) : Tri Try.prog B 32 [.agg (encF f).toArray] h fun v h' => NewS 5 1 (FB f).length ((FB f).map (fun x => Value.int .u8 x)) h v h' := by
  have hfa := hf.a
  have hfb := hf.b
  have hfc := hf.c
  have hfd := hf.d
  refine Tri.enter (n := 27) Try.func32 rfl rfl rfl ?_
  simp only [argsE, Nat.reduceAdd]
  try dsimp only [argsE]
  refine AK.seq ?_
  refine AK.region ?_
  refine AO.eff (EF.box rfl rfl) (.none rfl) rfl ?_
  rintro _ _ ⟨b1, hf1, rfl, rfl⟩
  refine AO.val (RV.assign rfl) (.none rfl) rfl ?_
  refine AO.nil ?_
  refine AK.seq ?_
  refine AK.draw [] [5, 6] mixed ?_
  refine AD.takeP 0 rfl (by kernel_rfl) (RV.fieldAddr rfl) (.none rfl) rfl ?_
  refine AD.take 1 rfl (by kernel_rfl) (by first | exact RV.loadO rfl rfl (by first | simp | assumption) | exact RV.loadS rfl (by assumption) (by omega) (by first | simp | assumption)) (.none rfl) rfl ?_
  refine AD.takeP 3 rfl (by kernel_rfl) (RV.fieldAddr rfl) (.none rfl) rfl ?_
  refine AD.take 4 rfl (by kernel_rfl) (by first | exact RV.loadO rfl rfl (by first | simp | assumption) | exact RV.loadS rfl (by assumption) (by omega) (by first | simp | assumption)) (.none rfl) rfl ?_
  refine AD.one 2 (by kernel_rfl) (AE.eff rfl (EF.callF rfl (put4_spec B _ f.1 (by omega))) (.none rfl) rfl ?_)
  rintro _ _ ⟨A6, c6, p6, rfl, hr6, hc6, rfl⟩
  refine ⟨(by first | exact .inr fun x hx hM => hx | exact .inr fun x hx hM => List.mem_cons_of_mem _ hx | exact .inr fun x hx hM => List.mem_append_right _ hx), ?_⟩
  refine AD.one 5 (by kernel_rfl) (AE.eff rfl (EF.callF rfl (put4_spec B _ f.2.1 (by omega))) (.none rfl) rfl ?_)
  rintro _ _ ⟨A9, c9, p9, rfl, hr9, hc9, rfl⟩
  refine ⟨.inl (by kernel_rfl), ?_⟩
  refine AD.one 6 (by kernel_rfl) (AE.eff rfl (EF.callF rfl (add_spec B _ (beR 4 f.1) (beR 4 f.2.1) ((hr6.src (h := p6) (fun x hx => hx)).mono fun x hx => by simp [hx]) ((hr9.src (h := p9) (fun x hx => hx)).mono fun x hx => by simp [hx]) (by simp [beR_len]))) (.none rfl) rfl ?_)
  rintro _ _ ⟨A10, c10, p10, rfl, hr10, hc10, rfl⟩
  refine ⟨.inl (by kernel_rfl), ?_⟩
  refine AD.takeP 7 rfl (by kernel_rfl) (RV.assign rfl) (.none rfl) rfl ?_
  refine AD.done (by kernel_rfl) ?_
  refine AK.seq ?_
  refine AK.draw [] [8, 9, 10] mixed ?_
  refine AD.takeP 0 rfl (by kernel_rfl) (RV.move rfl) (.none rfl) rfl ?_
  refine AD.takeP 1 rfl (by kernel_rfl) (RV.fieldAddr rfl) (.none rfl) rfl ?_
  refine AD.take 2 rfl (by kernel_rfl) (by first | exact RV.loadO rfl rfl (by first | simp | assumption) | exact RV.loadS rfl (by assumption) (by omega) (by first | simp | assumption)) (.none rfl) rfl ?_
  refine AD.takeP 3 rfl (by kernel_rfl) (by first | exact RV.convIn rfl (by simp only [kb]; omega) | exact RV.conv rfl) (.none rfl) rfl ?_
  refine AD.takeP 5 rfl (by kernel_rfl) (RV.fieldAddr rfl) (.none rfl) rfl ?_
  refine AD.take 6 rfl (by kernel_rfl) (by first | exact RV.loadO rfl rfl (by first | simp | assumption) | exact RV.loadS rfl (by assumption) (by omega) (by first | simp | assumption)) (.none rfl) rfl ?_
  refine AD.takeP 7 rfl (by kernel_rfl) (by first | exact RV.convIn rfl (by simp only [kb]; omega) | exact RV.conv rfl) (.none rfl) rfl ?_
  refine AD.one 4 (by kernel_rfl) (AE.eff rfl (EF.callF rfl (put2_spec B _ f.2.2.1 (by omega))) (.none rfl) rfl ?_)
  rintro _ _ ⟨A15, c15, p15, rfl, hr15, hc15, rfl⟩
  refine ⟨(by first | exact .inr fun x hx hM => hx | exact .inr fun x hx hM => List.mem_cons_of_mem _ hx | exact .inr fun x hx hM => List.mem_append_right _ hx), ?_⟩
  refine AD.one 8 (by kernel_rfl) (AE.eff rfl (EF.callF rfl (put2_spec B _ f.2.2.2.1 (by omega))) (.none rfl) rfl ?_)
  rintro _ _ ⟨A19, c19, p19, rfl, hr19, hc19, rfl⟩
  refine ⟨.inl (by kernel_rfl), ?_⟩
  refine AD.one 9 (by kernel_rfl) (AE.eff rfl (EF.callF rfl (add_spec B _ (beR 2 f.2.2.1) (beR 2 f.2.2.2.1) ((hr15.src (h := p15) (fun x hx => hx)).mono fun x hx => by simp [hx]) ((hr19.src (h := p19) (fun x hx => hx)).mono fun x hx => by simp [hx]) (by simp [beR_len]))) (.none rfl) rfl ?_)
  rintro _ _ ⟨A20, c20, p20, rfl, hr20, hc20, rfl⟩
  refine ⟨.inl (by kernel_rfl), ?_⟩
  refine AD.one 10 (by kernel_rfl) (AE.eff rfl (EF.callF rfl (add_spec B _ ((beR 4 f.1) ++ (beR 4 f.2.1)) ((beR 2 f.2.2.1) ++ (beR 2 f.2.2.2.1)) ((hr10.src (h := p10) (fun x hx => hx)).mono fun x hx => by simp [hx]) ((hr20.src (h := p20) (fun x hx => hx)).mono fun x hx => by simp [hx]) (by simp [beR_len]))) (.none rfl) rfl ?_)
  rintro _ _ ⟨A21, c21, p21, rfl, hr21, hc21, rfl⟩
  refine ⟨.inl (by kernel_rfl), ?_⟩
  refine AD.takeP 11 rfl (by kernel_rfl) (RV.assign rfl) (.none rfl) rfl ?_
  refine AD.done (by kernel_rfl) ?_
  refine AK.seq ?_
  refine AK.region ?_
  refine AO.val (RV.move rfl) (.none rfl) rfl ?_
  refine AO.val (RV.fieldAddr rfl) (.none rfl) rfl ?_
  refine AO.val (by first | exact RV.loadO rfl rfl (by first | simp | assumption) | exact RV.loadS rfl (by assumption) (by omega) (by first | simp | assumption)) (.none rfl) rfl ?_
  refine AO.eff (EF.buildSeq [.int .u8 f.2.2.2.2.1] rfl rfl rfl rfl) (.none rfl) rfl ?_
  rintro _ _ ⟨b25, hf25, rfl, rfl⟩
  refine AO.eff (EF.appendS (n' := (FB f).length) (ys := (FB f).map (fun x => Value.int .u8 x)) rfl rfl hr21 (Src.of_new (el := 5) (cs := [.int .u8 f.2.2.2.2.1]) (by simp) 1 1 (Nat.le_refl _)) (by simp [FB_len, beR_len]) (by simp [FB]) rfl (by decide) rfl (by simp [beR_len]) (by simp [beR_len])) (.none rfl) rfl ?_
  rintro _ _ ⟨A26, c26, p26, rfl, hr26, hc26, rfl⟩
  refine AO.val (RV.assign rfl) (.none rfl) rfl ?_
  refine AO.nil ?_
  -- at 
  refine AK.ret (h' := p26 ++ h) Try.func32 (.tmp rfl .nil) ?_ (by first | exact SubO.sub | exact List.Sublist.refl _ | exact .cons _ (List.Sublist.refl _) | exact .cons _ (.cons _ (List.Sublist.refl _)) | exact .cons _ (.cons _ (.cons _ (List.Sublist.refl _))))
  exact ⟨A26, c26, p26, rfl, hr26, hc26, rfl⟩

end Go.Proofs.Ytbdlohjmifgcaaa
