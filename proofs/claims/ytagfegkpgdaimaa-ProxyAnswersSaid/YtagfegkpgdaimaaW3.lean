/- Walks through the code: what each function that is named here gives back, from any memory that holds its arguments. Written by a program of the claim's author, out of the program's form in Lean. -/
import Derived.Test.YtagfegkpgdaimaaW2
set_option linter.unusedSimpArgs false
set_option linter.unusedVariables false
namespace Go.Proofs.Ytagfegkpgdaimaa
open Go.Sep Go.Sep.Sip Go.Sep.Cookie Go.Sep.Topt Go.Sep.Proxy Go.RowKit Go.WideShapes Go.ChangeShapes
theorem own_ : ownKnob Try.prog.godebug = none := by kernel_rfl
theorem laidOut_ : laidOutB Try.prog = true := by kernel_rfl

theorem F1_ok38 : FOk ((1, 2, 3, 80, 6, ()) : Flow) := by constructor <;> decide
theorem S1_ok (B : World) (h : Own) : SegIn B h ((3, 80, 9, 0, 0, 2, 0, 0, ⟨none, 0, []⟩, ⟨none, 0, []⟩, ()) : Seg) := ⟨by constructor <;> decide, by constructor <;> decide, by constructor <;> decide, ⟨rfl, by simp⟩, by intro x hx; simp at hx, Nat.le_refl _, by simp, ⟨rfl, by simp⟩⟩
theorem ans_ok (B : World) (h : Own) (a b x y : Int) : SegIn B h ((a, b, w32 x, w32 y, 0, 16, 0, 0, ⟨none, 0, []⟩, ⟨none, 0, []⟩, ()) : Seg) := ⟨w32_in _, w32_in _, ⟨by show (0 : Int) ≤ 16; decide, by show (16 : Int) ≤ 255; decide⟩, ⟨rfl, by simp⟩, by intro x hx; simp at hx, Nat.le_refl _, by simp, ⟨rfl, by simp⟩⟩
theorem offI_nil : offI [] = 1 := by
  have h : mssS [] = (0, false) := by unfold mssS; rw [ofS_end (by simp)]; rfl
  unfold offI mssN
  rw [h]
  decide
theorem lives_acc : acceptS 0 0 0 0 0 ((1, 2, 3, 80, 6, ()) : Flow) 16 10 (w32 (makeC 0 0 ((1, 2, 3, 80, 6, ()) : Flow) 9 0 (offI []) + 1)) = (1, true) := by
  have := accept_offer 0 0 0 0 0 ((1, 2, 3, 80, 6, ()) : Flow) (seq := 9) (by decide) []
  rw [show w32 (9 + 1) = 10 from rfl, offI_nil] at this
  rw [offI_nil]; exact this

theorem lives38_spec (B : World) (h : Own)  : Tri Try.prog B 12 [] h fun v h' => h = h' ∧ v = .bool true := by
  refine Tri.enter (n := 41) Try.func12 rfl rfl rfl ?_
  try dsimp only [argsE]
  refine AK.seq ?_
  refine AK.region ?_
  refine AO.val (RV.assign rfl) (.none rfl) rfl ?_
  refine AO.nil ?_
  refine AK.seq ?_
  refine AK.region ?_
  refine AO.val (RV.build rfl (.cons rfl rfl rfl rfl (.cons rfl rfl rfl rfl (.cons rfl rfl rfl rfl (.cons rfl rfl rfl rfl (.cons rfl rfl rfl rfl .nil)))))) (.none rfl) rfl ?_
  refine AO.eff (EF.alloc) (.none rfl) rfl ?_
  rintro _ _ ⟨b1, hf1, rfl, rfl⟩
  refine AO.effN (EF.storeO rfl rfl rfl rfl rfl rfl) (.none rfl) ?_
  rintro _ _ rfl
  refine AO.nil ?_
  refine AK.seq ?_
  refine AK.region ?_
  refine AO.val (RV.build rfl .nil) (.none rfl) rfl ?_
  refine AO.val (by first | exact RV.loadAggO rfl rfl (by first | simp | assumption) | exact RV.loadAggP rfl rfl rfl (by first | simp | assumption)) (.none rfl) rfl ?_
  refine AO.val (RV.build rfl (.cons rfl rfl rfl rfl (.cons rfl rfl rfl rfl (.cons rfl rfl rfl rfl (.cons rfl rfl rfl rfl .nil))))) (.none rfl) rfl ?_
  refine AO.eff (EF.callF rfl (offer_spec B _ 0 0 0 0 0 ((1, 2, 3, 80, 6, ()) : Flow) F1_ok38 ((3, 80, 9, 0, 0, 2, 0, 0, ⟨none, 0, []⟩, ⟨none, 0, []⟩, ()) : Seg) (S1_ok _ _) (by decide))) (.none rfl) rfl ?_
  rintro _ _ ⟨A9, c9, p9, rfl, hr9, hc9, rfl⟩
  refine AO.eff (EF.alloc) (.none rfl) rfl ?_
  rintro _ _ ⟨b2, hf2, rfl, rfl⟩
  refine AO.effN (EF.storeO rfl rfl rfl rfl rfl rfl) (.none rfl) ?_
  rintro _ _ rfl
  refine AO.nil ?_
  refine AK.seq ?_
  refine AK.region ?_
  refine AO.val (RV.build rfl .nil) (.none rfl) rfl ?_
  refine AO.val (by first | exact RV.loadAggO rfl rfl (by first | simp | assumption) | exact RV.loadAggP rfl rfl rfl (by first | simp | assumption)) (.none rfl) rfl ?_
  refine AO.val (RV.fieldAddr rfl) (.none rfl) rfl ?_
  refine AO.val (by first | exact RV.loadO rfl rfl (by first | simp | assumption) | exact RV.loadS rfl (by assumption) (by omega) (by first | simp | assumption)) (.none rfl) rfl ?_
  refine AO.val (by first | exact RV.addK rfl rfl (by simp only [kb]; omega) | exact RV.add rfl rfl) (.none rfl) rfl ?_
  refine AO.val (RV.build rfl (.cons rfl rfl rfl rfl (.cons rfl rfl rfl rfl (.cons rfl rfl rfl rfl (.cons rfl rfl rfl rfl (.cons rfl rfl rfl rfl .nil)))))) (.none rfl) rfl ?_
  refine AO.eff (EF.callF rfl (accept_spec B _ 0 0 0 0 0 ((1, 2, 3, 80, 6, ()) : Flow) F1_ok38 ((3, 80, 10, w32 (makeC 0 0 ((1, 2, 3, 80, 6, ()) : Flow) 9 0 (offI []) + 1), 0, 16, 0, 0, ⟨none, 0, []⟩, ⟨none, 0, []⟩, ()) : Seg) (ans_ok _ _ 3 80 (9 + 1) _) (by decide))) (.none rfl) rfl ?_
  rintro _ _ ⟨rfl, rfl⟩
  rw [show acceptS 0 0 0 0 0 ((1, 2, 3, 80, 6, ()) : Flow) (fl ((3, 80, 10, w32 (makeC 0 0 ((1, 2, 3, 80, 6, ()) : Flow) 9 0 (offI []) + 1), 0, 16, 0, 0, ⟨none, 0, []⟩, ⟨none, 0, []⟩, ()) : Seg)) (sq ((3, 80, 10, w32 (makeC 0 0 ((1, 2, 3, 80, 6, ()) : Flow) 9 0 (offI []) + 1), 0, 16, 0, 0, ⟨none, 0, []⟩, ⟨none, 0, []⟩, ()) : Seg)) (ak ((3, 80, 10, w32 (makeC 0 0 ((1, 2, 3, 80, 6, ()) : Flow) 9 0 (offI []) + 1), 0, 16, 0, 0, ⟨none, 0, []⟩, ⟨none, 0, []⟩, ()) : Seg)) = (1, true) from lives_acc]
  refine AO.val (RV.move rfl) (.none rfl) rfl ?_
  refine AO.val (RV.extract rfl rfl) (.none rfl) rfl ?_
  refine AO.val (RV.extract rfl rfl) (.none rfl) rfl ?_
  refine AO.val (RV.assign rfl) (.none rfl) rfl ?_
  refine AO.val (RV.assign rfl) (.none rfl) rfl ?_
  refine AO.nil ?_
  refine AK.seq ?_
  refine AK.region ?_
  refine AO.val (RV.move rfl) (.none rfl) rfl ?_
  refine AO.val (RV.move rfl) (.none rfl) rfl ?_
  refine AO.val (RV.move rfl) (.some rfl rfl rfl rfl) rfl ?_
  refine AO.val ((RV.eql rfl rfl).to (v' := .bool true) (by simp)) (.some rfl rfl rfl rfl) rfl ?_
  refine AO.val (RV.pickT rfl rfl) (.none rfl) rfl ?_
  refine AO.val (RV.move rfl) (.none rfl) rfl ?_
  refine AO.val (RV.fieldAddr rfl) (.some rfl rfl rfl rfl) rfl ?_
  refine AO.val (by first | exact RV.loadO rfl rfl (by first | simp | assumption) | exact RV.loadS rfl (by assumption) (by omega) (by first | simp | assumption)) (.some rfl rfl rfl rfl) rfl ?_
  refine AO.val ((RV.eql rfl rfl).to (v' := .bool true) (by rfl)) (.some rfl rfl rfl rfl) rfl ?_
  refine AO.val (RV.pickT rfl rfl) (.none rfl) rfl ?_
  refine AO.val (RV.move rfl) (.none rfl) rfl ?_
  refine AO.val (RV.fieldAddr rfl) (.some rfl rfl rfl rfl) rfl ?_
  refine AO.val (by first | exact RV.loadO rfl rfl (by first | simp | assumption) | exact RV.loadS rfl (by assumption) (by omega) (by first | simp | assumption)) (.some rfl rfl rfl rfl) rfl ?_
  refine AO.val ((RV.eql rfl rfl).to (v' := .bool true) (by simp)) (.some rfl rfl rfl rfl) rfl ?_
  refine AO.val (RV.pickT rfl rfl) (.none rfl) rfl ?_
  refine AO.val (RV.move rfl) (.none rfl) rfl ?_
  refine AO.val (RV.fieldAddr rfl) (.some rfl rfl rfl rfl) rfl ?_
  refine AO.val (by first | exact RV.loadO rfl rfl (by first | simp | assumption) | exact RV.loadS rfl (by assumption) (by omega) (by first | simp | assumption)) (.some rfl rfl rfl rfl) rfl ?_
  refine AO.val (RV.lenS rfl) (.some rfl rfl rfl rfl) rfl ?_
  refine AO.val ((RV.eql rfl rfl).to (v' := .bool true) (by simp)) (.some rfl rfl rfl rfl) rfl ?_
  refine AO.val (RV.pickT rfl rfl) (.none rfl) rfl ?_
  refine AO.val (RV.assign rfl) (.none rfl) rfl ?_
  refine AO.nil ?_
  -- at 
  refine AK.ret (h' := h) Try.func12 (.tmp rfl .nil) ?_ (by exact SubO.sub)
  exact ⟨rfl, rfl⟩

theorem offers_law (B : World) (h : Own) (lo hi lo2 hi2 ep : Int) (f : Flow) (hf : FOk f) (s : Seg) (hs : SegAny B h s) (hep : -9223372036854775808 ≤ ep ∧ ep ≤ 9223372036854775807) : Tri Try.prog B 3 [.agg #[.int .u64 lo, .int .u64 hi, .int .u64 lo2, .int .u64 hi2, .int .i64 ep], .agg (encF f).toArray, .agg (encG s).toArray] h fun v h' => v = .bool true := by
  have hg := hs.few
  refine Tri.enter (n := 57) Try.func3 rfl rfl rfl ?_
  simp only [argsE, Nat.reduceAdd]
  try dsimp only [argsE]
  refine AK.seq ?_
  refine AK.region ?_
  refine AO.eff (EF.box rfl rfl) (.none rfl) rfl ?_
  rintro _ _ ⟨b3, hf3, rfl, rfl⟩
  refine AO.eff (EF.box rfl rfl) (.none rfl) rfl ?_
  rintro _ _ ⟨b4, hf4, rfl, rfl⟩
  refine AO.eff (EF.box rfl rfl) (.none rfl) rfl ?_
  rintro _ _ ⟨b5, hf5, rfl, rfl⟩
  refine AO.val (RV.assign rfl) (.none rfl) rfl ?_
  refine AO.nil ?_
  refine AK.seq ?_
  refine AK.region ?_
  refine AO.val (by first | exact RV.loadAggO rfl rfl (by first | simp | assumption) | exact RV.loadAggP rfl rfl rfl (by first | simp | assumption)) (.none rfl) rfl ?_
  refine AO.eff (EF.callF rfl (segfew_spec B _ s hs.sub)) (.none rfl) rfl ?_
  rintro _ _ ⟨rfl, rfl⟩
  refine AO.effN (EF.storeO rfl rfl rfl rfl rfl rfl) (.none rfl) ?_
  rintro _ _ rfl
  refine AO.nil ?_
  refine AK.seq ?_
  refine AK.region ?_
  refine AO.val (RV.fieldAddr rfl) (.none rfl) rfl ?_
  refine AO.val (by first | exact RV.loadAggO rfl rfl (by first | simp | assumption) | exact RV.loadAggP rfl rfl rfl (by first | simp | assumption)) (.none rfl) rfl ?_
  refine AO.val (RV.fieldAddr rfl) (.none rfl) rfl ?_
  refine AO.val (by first | exact RV.loadAggO rfl rfl (by first | simp | assumption) | exact RV.loadAggP rfl rfl rfl (by first | simp | assumption)) (.none rfl) rfl ?_
  refine AO.val (RV.fieldAddr rfl) (.none rfl) rfl ?_
  refine AO.val (by first | exact RV.loadO rfl rfl (by first | simp | assumption) | exact RV.loadS rfl (by assumption) (by omega) (by first | simp | assumption)) (.none rfl) rfl ?_
  refine AO.val (RV.build rfl (.cons rfl rfl rfl rfl (.cons rfl rfl rfl rfl (.cons rfl rfl rfl rfl .nil)))) (.none rfl) rfl ?_
  refine AO.eff (EF.alloc) (.none rfl) rfl ?_
  rintro _ _ ⟨b7, hf7, rfl, rfl⟩
  refine AO.effN (EF.storeO rfl rfl rfl rfl rfl rfl) (.none rfl) ?_
  rintro _ _ rfl
  refine AO.nil ?_
  refine AK.seq ?_
  refine AK.region ?_
  refine AO.val (by first | exact RV.loadAggO rfl rfl (by first | simp | assumption) | exact RV.loadAggP rfl rfl rfl (by first | simp | assumption)) (.none rfl) rfl ?_
  refine AO.val (by first | exact RV.loadAggO rfl rfl (by first | simp | assumption) | exact RV.loadAggP rfl rfl rfl (by first | simp | assumption)) (.none rfl) rfl ?_
  refine AO.val (by first | exact RV.loadAggO rfl rfl (by first | simp | assumption) | exact RV.loadAggP rfl rfl rfl (by first | simp | assumption)) (.none rfl) rfl ?_
  refine AO.eff (EF.callF rfl (accept_spec B _ lo hi lo2 hi2 ep f hf (fewG s) hg.sub hep)) (.none rfl) rfl ?_
  rintro _ _ ⟨rfl, rfl⟩
  refine AO.val (RV.move rfl) (.none rfl) rfl ?_
  refine AO.val (RV.extract rfl rfl) (.none rfl) rfl ?_
  refine AO.val (RV.extract rfl rfl) (.none rfl) rfl ?_
  refine AO.val (RV.assign rfl) (.none rfl) rfl ?_
  refine AO.val (RV.assign rfl) (.none rfl) rfl ?_
  refine AO.nil ?_
  refine AK.seq ?_
  refine AK.region ?_
  refine AO.val (by first | exact RV.loadAggO rfl rfl (by first | simp | assumption) | exact RV.loadAggP rfl rfl rfl (by first | simp | assumption)) (.none rfl) rfl ?_
  refine AO.val (by first | exact RV.loadAggO rfl rfl (by first | simp | assumption) | exact RV.loadAggP rfl rfl rfl (by first | simp | assumption)) (.none rfl) rfl ?_
  refine AO.val (by first | exact RV.loadAggO rfl rfl (by first | simp | assumption) | exact RV.loadAggP rfl rfl rfl (by first | simp | assumption)) (.none rfl) rfl ?_
  refine AO.eff (EF.callF rfl (raccept_spec B _ lo hi lo2 hi2 ep f hf (fewG s) hg.sub hep)) (.none rfl) rfl ?_
  rintro _ _ ⟨rfl, rfl⟩
  refine AO.val (RV.move rfl) (.none rfl) rfl ?_
  refine AO.val (RV.extract rfl rfl) (.none rfl) rfl ?_
  refine AO.val (RV.extract rfl rfl) (.none rfl) rfl ?_
  refine AO.val (RV.assign rfl) (.none rfl) rfl ?_
  refine AO.val (RV.assign rfl) (.none rfl) rfl ?_
  refine AO.nil ?_
  refine AK.seq ?_
  refine AK.draw [] [] mixed ?_
  refine AD.take 0 rfl (by kernel_rfl) (by first | exact RV.loadAggO rfl rfl (by first | simp | assumption) | exact RV.loadAggP rfl rfl rfl (by first | simp | assumption)) (.none rfl) rfl ?_
  refine AD.take 1 rfl (by kernel_rfl) (by first | exact RV.loadAggO rfl rfl (by first | simp | assumption) | exact RV.loadAggP rfl rfl rfl (by first | simp | assumption)) (.none rfl) rfl ?_
  refine AD.take 2 rfl (by kernel_rfl) (by first | exact RV.loadAggO rfl rfl (by first | simp | assumption) | exact RV.loadAggP rfl rfl rfl (by first | simp | assumption)) (.none rfl) rfl ?_
  refine AD.take 4 rfl (by kernel_rfl) (by first | exact RV.loadAggO rfl rfl (by first | simp | assumption) | exact RV.loadAggP rfl rfl rfl (by first | simp | assumption)) (.none rfl) rfl ?_
  refine AD.take 5 rfl (by kernel_rfl) (by first | exact RV.loadAggO rfl rfl (by first | simp | assumption) | exact RV.loadAggP rfl rfl rfl (by first | simp | assumption)) (.none rfl) rfl ?_
  refine AD.take 6 rfl (by kernel_rfl) (by first | exact RV.loadAggO rfl rfl (by first | simp | assumption) | exact RV.loadAggP rfl rfl rfl (by first | simp | assumption)) (.none rfl) rfl ?_
  refine AD.one 3 (by kernel_rfl) (AE.eff rfl (EF.callF rfl (offer_spec B _ lo hi lo2 hi2 ep f hf (fewG s) hg.sub hep)) (.none rfl) rfl ?_)
  rintro _ _ ⟨A38, c38, p38, rfl, hr38, hc38, rfl⟩
  refine ⟨(by first | exact .inr fun x hx hM => hx | exact .inr fun x hx hM => List.mem_cons_of_mem _ hx | exact .inr fun x hx hM => List.mem_append_right _ hx), ?_⟩
  refine AD.one 7 (by kernel_rfl) (AE.eff rfl (EF.callF rfl (roffer_spec B _ lo hi lo2 hi2 ep f hf (fewG s) hg.sub hep)) (.none rfl) rfl ?_)
  rintro _ _ ⟨A42, c42, p42, rfl, hr42, hc42, rfl⟩
  refine ⟨(by first | exact .inr fun x hx hM => hx | exact .inr fun x hx hM => List.mem_cons_of_mem _ hx | exact .inr fun x hx hM => List.mem_append_right _ hx), ?_⟩
  refine AD.one 8 (by kernel_rfl) (AE.eff rfl (EF.callF rfl (segsame_spec (k := c38) (k2 := c42) (q := 0) (q2 := 0) B _ _ _ _ _ _ _ _ _ (pmB (sizeS (offI (op (fewG s)).l))) [] (hr38.src (h := p38) (fun x hx => hx)).sub (hr42.src (h := p42) (fun x hx => hx)).sub ⟨rfl, by simp⟩ ⟨rfl, by simp⟩ (by simp [pmB]) (by simp))) (.none rfl) rfl ?_)
  rintro _ _ ⟨rfl, rfl⟩
  refine ⟨(by first | exact .inr fun x hx hM => hx | exact .inr fun x hx hM => List.mem_cons_of_mem _ hx | exact .inr fun x hx hM => List.mem_append_right _ hx), ?_⟩
  refine AD.takeP 9 rfl (by kernel_rfl) (RV.move rfl) (.none rfl) rfl ?_
  refine AD.takeP 10 rfl (by kernel_rfl) (RV.move rfl) (.some rfl rfl rfl rfl) rfl ?_
  refine AD.takeP 11 rfl (by kernel_rfl) (RV.move rfl) (.some rfl rfl rfl rfl) rfl ?_
  refine AD.takeP 12 rfl (by kernel_rfl) ((RV.eql rfl rfl).to (v' := .bool true) (by simp)) (.some rfl rfl rfl rfl) rfl ?_
  refine AD.takeP 13 rfl (by kernel_rfl) (RV.pickT rfl rfl) (.none rfl) rfl ?_
  refine AD.takeP 14 rfl (by kernel_rfl) (RV.move rfl) (.none rfl) rfl ?_
  refine AD.takeP 15 rfl (by kernel_rfl) (RV.move rfl) (.some rfl rfl rfl rfl) rfl ?_
  refine AD.takeP 16 rfl (by kernel_rfl) (RV.move rfl) (.some rfl rfl rfl rfl) rfl ?_
  refine AD.takeP 17 rfl (by kernel_rfl) ((RV.eqlB rfl rfl).to (v' := .bool true) (by simp)) (.some rfl rfl rfl rfl) rfl ?_
  refine AD.takeP 18 rfl (by kernel_rfl) (RV.pickT rfl rfl) (.none rfl) rfl ?_
  refine AD.takeP 19 rfl (by kernel_rfl) (RV.move rfl) (.none rfl) rfl ?_
  refine AD.one 20 (by kernel_rfl) (AE.eff rfl (EF.callF rfl (lives38_spec B _)) (.some rfl rfl rfl rfl) rfl ?_)
  rintro _ _ ⟨rfl, rfl⟩
  refine ⟨(by first | exact .inr fun x hx hM => hx | exact .inr fun x hx hM => List.mem_cons_of_mem _ hx | exact .inr fun x hx hM => List.mem_append_right _ hx), ?_⟩
  refine AD.takeP 21 rfl (by kernel_rfl) (RV.pickT rfl rfl) (.none rfl) rfl ?_
  refine AD.takeP 22 rfl (by kernel_rfl) (RV.assign rfl) (.none rfl) rfl ?_
  refine AD.done (by kernel_rfl) ?_
  -- at 
  refine AK.ret (h' := []) Try.func3 (.tmp rfl .nil) ?_ (List.nil_sublist _)
  rfl

set_option maxHeartbeats 2000000 in
theorem joins_law (B : World) (h : Own) (f : Flow) (b po to : Int) (s : Seg) (hs : SegAny B h s) (e : Ent) (i : Int) : Tri Try.prog B 5 [.agg (encF f).toArray, .int .i64 b, .int .u16 po, .int .u16 to, .agg (encG s).toArray, .agg (encE e).toArray, .int .i64 i] h fun v h' => v = .bool true := by
  have hg := hs.few
  refine Tri.enter (n := 116) Try.func5 rfl rfl rfl ?_
  simp only [argsE, Nat.reduceAdd]
  try dsimp only [argsE]
  refine AK.seq ?_
  refine AK.region ?_
  refine AO.eff (EF.box rfl rfl) (.none rfl) rfl ?_
  rintro _ _ ⟨b7, hf7, rfl, rfl⟩
  refine AO.eff (EF.box rfl rfl) (.none rfl) rfl ?_
  rintro _ _ ⟨b11, hf11, rfl, rfl⟩
  refine AO.eff (EF.box rfl rfl) (.none rfl) rfl ?_
  rintro _ _ ⟨b12, hf12, rfl, rfl⟩
  refine AO.val (RV.assign rfl) (.none rfl) rfl ?_
  refine AO.nil ?_
  refine AK.seq ?_
  refine AK.region ?_
  refine AO.val (by first | exact RV.loadAggO rfl rfl (by first | simp | assumption) | exact RV.loadAggP rfl rfl rfl (by first | simp | assumption)) (.none rfl) rfl ?_
  refine AO.eff (EF.callF rfl (segfew_spec B _ s hs.sub)) (.none rfl) rfl ?_
  rintro _ _ ⟨rfl, rfl⟩
  refine AO.effN (EF.storeO rfl rfl rfl rfl rfl rfl) (.none rfl) ?_
  rintro _ _ rfl
  refine AO.nil ?_
  refine AK.seq ?_
  refine AK.region ?_
  refine AO.val (by first | exact RV.loadAggO rfl rfl (by first | simp | assumption) | exact RV.loadAggP rfl rfl rfl (by first | simp | assumption)) (.none rfl) rfl ?_
  refine AO.val (RV.move rfl) (.none rfl) rfl ?_
  refine AO.val (RV.move rfl) (.none rfl) rfl ?_
  refine AO.val (RV.fieldAddr rfl) (.none rfl) rfl ?_
  refine AO.val (by first | exact RV.loadO rfl rfl (by first | simp | assumption) | exact RV.loadS rfl (by assumption) (by omega) (by first | simp | assumption)) (.none rfl) rfl ?_
  refine AO.val (by first | exact RV.subK rfl rfl (by simp only [kb]; omega) | exact RV.sub rfl rfl) (.none rfl) rfl ?_
  refine AO.val (RV.fieldAddr rfl) (.none rfl) rfl ?_
  refine AO.val (by first | exact RV.loadO rfl rfl (by first | simp | assumption) | exact RV.loadS rfl (by assumption) (by omega) (by first | simp | assumption)) (.none rfl) rfl ?_
  refine AO.val (by first | exact RV.subK rfl rfl (by simp only [kb]; omega) | exact RV.sub rfl rfl) (.none rfl) rfl ?_
  refine AO.val (RV.build rfl (.cons rfl rfl rfl rfl (.cons rfl rfl rfl rfl (.cons rfl rfl rfl rfl (.cons rfl rfl rfl rfl (.cons rfl rfl rfl rfl (.cons rfl rfl rfl rfl (.cons rfl rfl rfl rfl .nil)))))))) (.none rfl) rfl ?_
  refine AO.eff (EF.alloc) (.none rfl) rfl ?_
  rintro _ _ ⟨b15, hf15, rfl, rfl⟩
  refine AO.effN (EF.storeO rfl rfl rfl rfl rfl rfl) (.none rfl) ?_
  rintro _ _ rfl
  refine AO.nil ?_
  refine AK.seq ?_
  refine AK.seq ?_
  refine AK.draw [] [] mixed ?_
  refine AD.take 0 rfl (by kernel_rfl) (by first | exact RV.loadAggO rfl rfl (by first | simp | assumption) | exact RV.loadAggP rfl rfl rfl (by first | simp | assumption)) (.none rfl) rfl ?_
  refine AD.takeP 1 rfl (by kernel_rfl) (RV.move rfl) (.none rfl) rfl ?_
  refine AD.takeP 2 rfl (by kernel_rfl) (RV.move rfl) (.none rfl) rfl ?_
  refine AD.take 3 rfl (by kernel_rfl) (by first | exact RV.loadAggO rfl rfl (by first | simp | assumption) | exact RV.loadAggP rfl rfl rfl (by first | simp | assumption)) (.none rfl) rfl ?_
  refine AD.take 5 rfl (by kernel_rfl) (by first | exact RV.loadAggO rfl rfl (by first | simp | assumption) | exact RV.loadAggP rfl rfl rfl (by first | simp | assumption)) (.none rfl) rfl ?_
  refine AD.one 4 (by kernel_rfl) (AE.eff rfl (EF.callF rfl (open_spec B _ f b po (fewG s) hg.sub)) (.none rfl) rfl ?_)
  rintro _ _ ⟨rfl, rfl⟩
  refine ⟨(by first | exact .inr fun x hx hM => hx | exact .inr fun x hx hM => List.mem_cons_of_mem _ hx | exact .inr fun x hx hM => List.mem_append_right _ hx), ?_⟩
  refine AD.takeP 6 rfl (by kernel_rfl) (RV.neqAgg (xs := encE (f, b, 1, 0, true, false, po, w32 (ak (fewG s) - 1), w32 (sq (fewG s) - 1), ())) (ys := encE (f, b, 1, 0, true, false, po, w32 (ak (fewG s) - 1), w32 (sq (fewG s) - 1), ())) (b := true) rfl rfl (by kernel_rfl) (by kernel_rfl) (by kernel_rfl) (entry_eq (f, b, 1, 0, true, false, po, w32 (ak (fewG s) - 1), w32 (sq (fewG s) - 1), ()))) (.none rfl) rfl ?_
  refine AD.takeP 7 rfl (by kernel_rfl) (RV.move rfl) (.none rfl) rfl ?_
  refine AD.take 8 rfl (by kernel_rfl) (by first | exact RV.loadAggO rfl rfl (by first | simp | assumption) | exact RV.loadAggP rfl rfl rfl (by first | simp | assumption)) (.some rfl rfl rfl rfl) rfl ?_
  refine AD.takeP 9 rfl (by kernel_rfl) (RV.move rfl) (.some rfl rfl rfl rfl) rfl ?_
  refine AD.takeP 10 rfl (by kernel_rfl) (RV.move rfl) (.some rfl rfl rfl rfl) rfl ?_
  refine AD.take 12 rfl (by kernel_rfl) (by first | exact RV.loadAggO rfl rfl (by first | simp | assumption) | exact RV.loadAggP rfl rfl rfl (by first | simp | assumption)) (.some rfl rfl rfl rfl) rfl ?_
  refine AD.takeP 13 rfl (by kernel_rfl) (RV.move rfl) (.some rfl rfl rfl rfl) rfl ?_
  refine AD.takeP 14 rfl (by kernel_rfl) (RV.move rfl) (.some rfl rfl rfl rfl) rfl ?_
  refine AD.one 11 (by kernel_rfl) (AE.eff rfl (EF.callF rfl (call_spec B _ e to i)) (.some rfl rfl rfl rfl) rfl ?_)
  rintro _ _ ⟨A42, c42, p42, rfl, hr42, hc42, rfl⟩
  refine ⟨(by first | exact .inr fun x hx hM => hx | exact .inr fun x hx hM => List.mem_cons_of_mem _ hx | exact .inr fun x hx hM => List.mem_append_right _ hx), ?_⟩
  refine AD.one 15 (by kernel_rfl) (AE.eff rfl (EF.callF rfl (rcall_spec B _ e to i)) (.some rfl rfl rfl rfl) rfl ?_)
  rintro _ _ ⟨A46, c46, p46, rfl, hr46, hc46, rfl⟩
  refine ⟨(by first | exact .inr fun x hx hM => hx | exact .inr fun x hx hM => List.mem_cons_of_mem _ hx | exact .inr fun x hx hM => List.mem_append_right _ hx), ?_⟩
  refine AD.one 16 (by kernel_rfl) (AE.eff rfl (EF.callF rfl (segsame_spec (k := c42) (k2 := c46) (q := 0) (q2 := 0) B _ _ _ _ _ _ _ _ _ (pmB (sizeS i)) [] (hr42.src (h := p42) (fun x hx => hx)).sub (hr46.src (h := p46) (fun x hx => hx)).sub ⟨rfl, by simp⟩ ⟨rfl, by simp⟩ (by simp [pmB]) (by simp))) (.some rfl rfl rfl rfl) rfl ?_)
  rintro _ _ ⟨rfl, rfl⟩
  refine ⟨(by first | exact .inr fun x hx hM => hx | exact .inr fun x hx hM => List.mem_cons_of_mem _ hx | exact .inr fun x hx hM => List.mem_append_right _ hx), ?_⟩
  refine AD.takeP 17 rfl (by kernel_rfl) (RV.not rfl) (.some rfl rfl rfl rfl) rfl ?_
  refine AD.takeP 18 rfl (by kernel_rfl) (RV.pickF rfl rfl) (.none rfl) rfl ?_
  refine AD.done (by kernel_rfl) ?_
  refine AK.condF rfl ?_
  refine AK.skip ?_
  refine AK.seq ?_
  refine AK.seq ?_
  refine AK.draw [] [] mixed ?_
  refine AD.take 0 rfl (by kernel_rfl) (by first | exact RV.loadAggO rfl rfl (by first | simp | assumption) | exact RV.loadAggP rfl rfl rfl (by first | simp | assumption)) (.none rfl) rfl ?_
  refine AD.takeP 1 rfl (by kernel_rfl) (RV.move rfl) (.none rfl) rfl ?_
  refine AD.take 2 rfl (by kernel_rfl) (by first | exact RV.loadAggO rfl rfl (by first | simp | assumption) | exact RV.loadAggP rfl rfl rfl (by first | simp | assumption)) (.none rfl) rfl ?_
  refine AD.takeP 4 rfl (by kernel_rfl) (RV.fieldAddr rfl) (.none rfl) rfl ?_
  refine AD.take 5 rfl (by kernel_rfl) (by first | exact RV.loadO rfl rfl (by first | simp | assumption) | exact RV.loadS rfl (by assumption) (by omega) (by first | simp | assumption)) (.none rfl) rfl ?_
  refine AD.takeP 6 rfl (by kernel_rfl) (RV.move rfl) (.none rfl) rfl ?_
  refine AD.takeP 7 rfl (by kernel_rfl) (RV.fieldAddr rfl) (.none rfl) rfl ?_
  refine AD.take 8 rfl (by kernel_rfl) (by first | exact RV.loadO rfl rfl (by first | simp | assumption) | exact RV.loadS rfl (by assumption) (by omega) (by first | simp | assumption)) (.none rfl) rfl ?_
  refine AD.takeP 9 rfl (by kernel_rfl) (by first | exact RV.addK rfl rfl (by simp only [kb]; omega) | exact RV.add rfl rfl) (.none rfl) rfl ?_
  refine AD.takeP 10 rfl (by kernel_rfl) (RV.fieldAddr rfl) (.none rfl) rfl ?_
  refine AD.take 11 rfl (by kernel_rfl) (by first | exact RV.loadO rfl rfl (by first | simp | assumption) | exact RV.loadS rfl (by assumption) (by omega) (by first | simp | assumption)) (.none rfl) rfl ?_
  refine AD.takeP 12 rfl (by kernel_rfl) (by first | exact RV.addK rfl rfl (by simp only [kb]; omega) | exact RV.add rfl rfl) (.none rfl) rfl ?_
  refine AD.one 3 (by kernel_rfl) (AE.eff rfl (EF.callF rfl (greet_spec B _ e to (fewG s))) (.none rfl) rfl ?_)
  rintro _ _ ⟨rfl, rfl⟩
  refine ⟨(by first | exact .inr fun x hx hM => hx | exact .inr fun x hx hM => List.mem_cons_of_mem _ hx | exact .inr fun x hx hM => List.mem_append_right _ hx), ?_⟩
  refine AD.one 13 (by kernel_rfl) (AE.eff rfl (EF.callF rfl (rplain_spec B _ _ _ _ _ _)) (.none rfl) rfl ?_)
  rintro _ _ ⟨rfl, rfl⟩
  refine ⟨(by first | exact .inr fun x hx hM => hx | exact .inr fun x hx hM => List.mem_cons_of_mem _ hx | exact .inr fun x hx hM => List.mem_append_right _ hx), ?_⟩
  refine AD.one 14 (by kernel_rfl) (AE.eff rfl (EF.callF rfl (segsame_spec (A := none) (A2 := none) (D := none) (D2 := none) (k := 0) (k2 := 0) (q := 0) (q2 := 0) B _ _ _ _ _ _ _ _ _ [] [] ⟨rfl, by simp⟩ ⟨rfl, by simp⟩ ⟨rfl, by simp⟩ ⟨rfl, by simp⟩ (by simp) (by simp))) (.none rfl) rfl ?_)
  rintro _ _ ⟨rfl, rfl⟩
  refine ⟨(by first | exact .inr fun x hx hM => hx | exact .inr fun x hx hM => List.mem_cons_of_mem _ hx | exact .inr fun x hx hM => List.mem_append_right _ hx), ?_⟩
  refine AD.takeP 15 rfl (by kernel_rfl) (RV.not rfl) (.none rfl) rfl ?_
  refine AD.takeP 16 rfl (by kernel_rfl) (RV.move rfl) (.none rfl) rfl ?_
  refine AD.take 17 rfl (by kernel_rfl) (by first | exact RV.loadAggO rfl rfl (by first | simp | assumption) | exact RV.loadAggP rfl rfl rfl (by first | simp | assumption)) (.some rfl rfl rfl rfl) rfl ?_
  refine AD.takeP 19 rfl (by kernel_rfl) (RV.fieldAddr rfl) (.some rfl rfl rfl rfl) rfl ?_
  refine AD.takeP 20 rfl (by kernel_rfl) (RV.fieldAddr rfl) (.some rfl rfl rfl rfl) rfl ?_
  refine AD.take 21 rfl (by kernel_rfl) (by first | exact RV.loadO rfl rfl (by first | simp | assumption) | exact RV.loadS rfl (by assumption) (by omega) (by first | simp | assumption)) (.some rfl rfl rfl rfl) rfl ?_
  refine AD.takeP 22 rfl (by kernel_rfl) (RV.fieldAddr rfl) (.some rfl rfl rfl rfl) rfl ?_
  refine AD.takeP 23 rfl (by kernel_rfl) (RV.fieldAddr rfl) (.some rfl rfl rfl rfl) rfl ?_
  refine AD.take 24 rfl (by kernel_rfl) (by first | exact RV.loadO rfl rfl (by first | simp | assumption) | exact RV.loadS rfl (by assumption) (by omega) (by first | simp | assumption)) (.some rfl rfl rfl rfl) rfl ?_
  refine AD.takeP 25 rfl (by kernel_rfl) (RV.fieldAddr rfl) (.some rfl rfl rfl rfl) rfl ?_
  refine AD.take 26 rfl (by kernel_rfl) (by first | exact RV.loadO rfl rfl (by first | simp | assumption) | exact RV.loadS rfl (by assumption) (by omega) (by first | simp | assumption)) (.some rfl rfl rfl rfl) rfl ?_
  refine AD.takeP 27 rfl (by kernel_rfl) (by first | exact RV.addK rfl rfl (by simp only [kb]; omega) | exact RV.add rfl rfl) (.some rfl rfl rfl rfl) rfl ?_
  refine AD.takeP 28 rfl (by kernel_rfl) (RV.fieldAddr rfl) (.some rfl rfl rfl rfl) rfl ?_
  refine AD.take 29 rfl (by kernel_rfl) (by first | exact RV.loadO rfl rfl (by first | simp | assumption) | exact RV.loadS rfl (by assumption) (by omega) (by first | simp | assumption)) (.some rfl rfl rfl rfl) rfl ?_
  refine AD.takeP 30 rfl (by kernel_rfl) (by first | exact RV.addK rfl rfl (by simp only [kb]; omega) | exact RV.add rfl rfl) (.some rfl rfl rfl rfl) rfl ?_
  refine AD.one 18 (by kernel_rfl) (AE.eff rfl (EF.callF rfl (refuse_spec B _ e)) (.some rfl rfl rfl rfl) rfl ?_)
  rintro _ _ ⟨rfl, rfl⟩
  refine ⟨(by first | exact .inr fun x hx hM => hx | exact .inr fun x hx hM => List.mem_cons_of_mem _ hx | exact .inr fun x hx hM => List.mem_append_right _ hx), ?_⟩
  refine AD.one 31 (by kernel_rfl) (AE.eff rfl (EF.callF rfl (rplain_spec B _ _ _ _ _ _)) (.some rfl rfl rfl rfl) rfl ?_)
  rintro _ _ ⟨rfl, rfl⟩
  refine ⟨(by first | exact .inr fun x hx hM => hx | exact .inr fun x hx hM => List.mem_cons_of_mem _ hx | exact .inr fun x hx hM => List.mem_append_right _ hx), ?_⟩
  refine AD.one 32 (by kernel_rfl) (AE.eff rfl (EF.callF rfl (segsame_spec (A := none) (A2 := none) (D := none) (D2 := none) (k := 0) (k2 := 0) (q := 0) (q2 := 0) B _ _ _ _ _ _ _ _ _ [] [] ⟨rfl, by simp⟩ ⟨rfl, by simp⟩ ⟨rfl, by simp⟩ ⟨rfl, by simp⟩ (by simp) (by simp))) (.some rfl rfl rfl rfl) rfl ?_)
  rintro _ _ ⟨rfl, rfl⟩
  refine ⟨(by first | exact .inr fun x hx hM => hx | exact .inr fun x hx hM => List.mem_cons_of_mem _ hx | exact .inr fun x hx hM => List.mem_append_right _ hx), ?_⟩
  refine AD.takeP 33 rfl (by kernel_rfl) (RV.not rfl) (.some rfl rfl rfl rfl) rfl ?_
  refine AD.takeP 34 rfl (by kernel_rfl) (RV.pickF rfl rfl) (.none rfl) rfl ?_
  refine AD.done (by kernel_rfl) ?_
  refine AK.condF rfl ?_
  refine AK.skip ?_
  refine AK.seq ?_
  refine AK.region ?_
  refine AO.val (by first | exact RV.loadAggO rfl rfl (by first | simp | assumption) | exact RV.loadAggP rfl rfl rfl (by first | simp | assumption)) (.none rfl) rfl ?_
  refine AO.val (by first | exact RV.loadAggO rfl rfl (by first | simp | assumption) | exact RV.loadAggP rfl rfl rfl (by first | simp | assumption)) (.none rfl) rfl ?_
  refine AO.eff (EF.callF rfl (ejoin_spec B _ e (fewG s) hg.sub)) (.none rfl) rfl ?_
  rintro _ _ ⟨rfl, rfl⟩
  refine AO.val (RV.move rfl) (.none rfl) rfl ?_
  refine AO.val (RV.extract rfl rfl) (.none rfl) rfl ?_
  refine AO.val (RV.extract rfl rfl) (.none rfl) rfl ?_
  refine AO.eff (EF.alloc) (.none rfl) rfl ?_
  rintro _ _ ⟨b16, hf16, rfl, rfl⟩
  refine AO.effN (EF.storeO rfl rfl rfl rfl rfl rfl) (.none rfl) ?_
  rintro _ _ rfl
  refine AO.val (RV.assign rfl) (.none rfl) rfl ?_
  refine AO.nil ?_
  refine AK.seq ?_
  refine AK.region ?_
  refine AO.val (by first | exact RV.loadAggO rfl rfl (by first | simp | assumption) | exact RV.loadAggP rfl rfl rfl (by first | simp | assumption)) (.none rfl) rfl ?_
  refine AO.eff (EF.alloc) (.none rfl) rfl ?_
  rintro _ _ ⟨b18, hf18, rfl, rfl⟩
  refine AO.effN (EF.storeO rfl rfl rfl rfl rfl rfl) (.none rfl) ?_
  rintro _ _ rfl
  refine AO.nil ?_
  refine AK.seq ?_
  refine AK.seq ?_
  refine AK.region ?_
  refine AO.val (by first | exact RV.loadAggO rfl rfl (by first | simp | assumption) | exact RV.loadAggP rfl rfl rfl (by first | simp | assumption)) (.none rfl) rfl ?_
  refine AO.val (by first | exact RV.loadAggO rfl rfl (by first | simp | assumption) | exact RV.loadAggP rfl rfl rfl (by first | simp | assumption)) (.none rfl) rfl ?_
  refine AO.eff (EF.callF rfl (joins_spec B _ e (fewG s) hg.sub)) (.none rfl) rfl ?_
  rintro _ _ ⟨rfl, rfl⟩
  refine AO.nil ?_
  refine AK.cond rfl ?_ ?_
  · intro hc1
    try simp only [decide_eq_true_eq, decide_eq_false_iff_not, Bool.not_eq_true', Bool.not_eq_false', beq_iff_eq] at hc1
    have hje : joinE e (fewG s) = (e.1, e.2.1, 2, e.2.2.2.1, e.2.2.2.2.1, true, e.2.2.2.2.2.2.1, w32 (sq (fewG s) - e.2.2.2.2.2.2.2.1), e.2.2.2.2.2.2.2.2.1, ()) := by rw [joinE, if_pos hc1]
    rw [hje]
    have hn11 : b11 ∉ [b18] := fresh_ne2 hf18 AtO.mem
    have hn12 : b12 ∉ [b18] := fresh_ne2 hf18 AtO.mem
    refine AK.draw [b18] [] mixed ?_
    refine AD.takeP 0 rfl (by kernel_rfl) (RV.fieldAddr rfl) (.none rfl) rfl ?_
    refine AD.take 1 rfl (by kernel_rfl) (RV.loadO rfl rfl hn11) (.none rfl) rfl ?_
    refine AD.takeP 2 rfl (by kernel_rfl) (RV.fieldAddr rfl) (.none rfl) rfl ?_
    refine AD.take 3 rfl (by kernel_rfl) (RV.loadO rfl rfl hn12) (.none rfl) rfl ?_
    refine AD.takeP 4 rfl (by kernel_rfl) (by first | exact RV.subK rfl rfl (by simp only [kb]; omega) | exact RV.sub rfl rfl) (.none rfl) rfl ?_
    refine AD.takeP 5 rfl (by kernel_rfl) (RV.fieldAddr rfl) (.none rfl) rfl ?_
    refine AD.one 6 (by kernel_rfl) (AE.effN rfl (EF.storeO rfl rfl rfl rfl rfl rfl) (.none rfl) ?_)
    rintro _ _ rfl
    refine ⟨(.inr fun x hx hM => UpO.upd.keep hx hM), ?_⟩
    refine AD.takeP 7 rfl (by kernel_rfl) (RV.fieldAddr rfl) (.none rfl) rfl ?_
    refine AD.one 8 (by kernel_rfl) (AE.effN rfl (EF.storeO rfl rfl rfl rfl rfl rfl) (.none rfl) ?_)
    rintro _ _ rfl
    refine ⟨(.inr fun x hx hM => UpO.upd.keep hx hM), ?_⟩
    refine AD.takeP 9 rfl (by kernel_rfl) (RV.fieldAddr rfl) (.none rfl) rfl ?_
    refine AD.one 10 (by kernel_rfl) (AE.effN rfl (EF.storeO rfl rfl rfl rfl rfl rfl) (.none rfl) ?_)
    rintro _ _ rfl
    refine ⟨(.inr fun x hx hM => UpO.upd.keep hx hM), ?_⟩
    refine AD.done (by kernel_rfl) ?_
    refine AK.seq ?_
    refine AK.region ?_
    refine AO.val (by first | exact RV.loadAggO rfl rfl (by first | simp | assumption) | exact RV.loadAggP rfl rfl rfl (by first | simp | assumption)) (.none rfl) rfl ?_
    refine AO.val (by first | exact RV.loadAggO rfl rfl (by first | simp | assumption) | exact RV.loadAggP rfl rfl rfl (by first | simp | assumption)) (.none rfl) rfl ?_
    refine AO.val (RV.eqlAgg (xs := encE (e.1, e.2.1, 2, e.2.2.2.1, e.2.2.2.2.1, true, e.2.2.2.2.2.2.1, w32 (sq (fewG s) - e.2.2.2.2.2.2.2.1), e.2.2.2.2.2.2.2.2.1, ())) (ys := encE (e.1, e.2.1, 2, e.2.2.2.1, e.2.2.2.2.1, true, e.2.2.2.2.2.2.1, w32 (sq (fewG s) - e.2.2.2.2.2.2.2.1), e.2.2.2.2.2.2.2.2.1, ())) (b := true) rfl rfl (by kernel_rfl) (by kernel_rfl) (by kernel_rfl) (entry_eq (e.1, e.2.1, 2, e.2.2.2.1, e.2.2.2.2.1, true, e.2.2.2.2.2.2.1, w32 (sq (fewG s) - e.2.2.2.2.2.2.2.1), e.2.2.2.2.2.2.2.2.1, ()))) (.none rfl) rfl ?_
    refine AO.val (RV.move rfl) (.none rfl) rfl ?_
    refine AO.val (RV.move rfl) (.some rfl rfl rfl rfl) rfl ?_
    refine AO.val (by first | exact RV.loadAggO rfl rfl (by first | simp | assumption) | exact RV.loadAggP rfl rfl rfl (by first | simp | assumption)) (.some rfl rfl rfl rfl) rfl ?_
    refine AO.val (by first | exact RV.loadAggO rfl rfl (by first | simp | assumption) | exact RV.loadAggP rfl rfl rfl (by first | simp | assumption)) (.some rfl rfl rfl rfl) rfl ?_
    refine AO.eff (EF.callF rfl (joins_spec B _ e (fewG s) hg.sub)) (.some rfl rfl rfl rfl) rfl ?_
    rintro _ _ ⟨rfl, rfl⟩
    refine AO.val ((RV.eqlB rfl rfl).to (v' := .bool true) (by simp)) (.some rfl rfl rfl rfl) rfl ?_
    refine AO.val (RV.pickT rfl rfl) (.none rfl) rfl ?_
    refine AO.val (RV.move rfl) (.none rfl) rfl ?_
    refine AO.eff (EF.callF rfl (lives38_spec B _)) (.some rfl rfl rfl rfl) rfl ?_
    rintro _ _ ⟨rfl, rfl⟩
    refine AO.val (RV.pickT rfl rfl) (.none rfl) rfl ?_
    refine AO.val (RV.assign rfl) (.none rfl) rfl ?_
    refine AO.nil ?_
    -- at T
    refine AK.ret (h' := []) Try.func5 (.tmp rfl .nil) ?_ (List.nil_sublist _)
    rfl
  · intro hc1
    try simp only [decide_eq_true_eq, decide_eq_false_iff_not, Bool.not_eq_true', Bool.not_eq_false', beq_iff_eq] at hc1
    have hje : joinE e (fewG s) = e := by rw [joinE, if_neg (by rw [hc1]; decide)]
    rw [hje]
    refine AK.skip ?_
    refine AK.seq ?_
    refine AK.region ?_
    refine AO.val (by first | exact RV.loadAggO rfl rfl (by first | simp | assumption) | exact RV.loadAggP rfl rfl rfl (by first | simp | assumption)) (.none rfl) rfl ?_
    refine AO.val (by first | exact RV.loadAggO rfl rfl (by first | simp | assumption) | exact RV.loadAggP rfl rfl rfl (by first | simp | assumption)) (.none rfl) rfl ?_
    refine AO.val (RV.eqlAgg (xs := encE e) (ys := encE e) (b := true) rfl rfl (by kernel_rfl) (by kernel_rfl) (by kernel_rfl) (entry_eq e)) (.none rfl) rfl ?_
    refine AO.val (RV.move rfl) (.none rfl) rfl ?_
    refine AO.val (RV.move rfl) (.some rfl rfl rfl rfl) rfl ?_
    refine AO.val (by first | exact RV.loadAggO rfl rfl (by first | simp | assumption) | exact RV.loadAggP rfl rfl rfl (by first | simp | assumption)) (.some rfl rfl rfl rfl) rfl ?_
    refine AO.val (by first | exact RV.loadAggO rfl rfl (by first | simp | assumption) | exact RV.loadAggP rfl rfl rfl (by first | simp | assumption)) (.some rfl rfl rfl rfl) rfl ?_
    refine AO.eff (EF.callF rfl (joins_spec B _ e (fewG s) hg.sub)) (.some rfl rfl rfl rfl) rfl ?_
    rintro _ _ ⟨rfl, rfl⟩
    refine AO.val ((RV.eqlB rfl rfl).to (v' := .bool true) (by simp)) (.some rfl rfl rfl rfl) rfl ?_
    refine AO.val (RV.pickT rfl rfl) (.none rfl) rfl ?_
    refine AO.val (RV.move rfl) (.none rfl) rfl ?_
    refine AO.eff (EF.callF rfl (lives38_spec B _)) (.some rfl rfl rfl rfl) rfl ?_
    rintro _ _ ⟨rfl, rfl⟩
    refine AO.val (RV.pickT rfl rfl) (.none rfl) rfl ?_
    refine AO.val (RV.assign rfl) (.none rfl) rfl ?_
    refine AO.nil ?_
    -- at F
    refine AK.ret (h' := []) Try.func5 (.tmp rfl .nil) ?_ (List.nil_sublist _)
    rfl

set_option maxHeartbeats 1000000 in
theorem answers_law (B : World) (h : Own) (lo hi lo2 hi2 ep : Int) (f : Flow) (hf : FOk f) (s : Seg) (hs : SegAny B h s) (hep : -9223372036854775808 ≤ ep ∧ ep ≤ 9223372036854775807) (klo khi : Int) : Tri Try.prog B 4 [.agg #[.int .u64 lo, .int .u64 hi, .int .u64 lo2, .int .u64 hi2, .int .i64 ep], .agg (encF f).toArray, .agg (encG s).toArray, .agg #[.int .u64 klo, .int .u64 khi]] h fun v h' => v = .bool true := by
  have hg := hs.few
  refine Tri.enter (n := 116) Try.func4 rfl rfl rfl ?_
  simp only [argsE, Nat.reduceAdd]
  try dsimp only [argsE]
  refine AK.seq ?_
  refine AK.region ?_
  refine AO.eff (EF.box rfl rfl) (.none rfl) rfl ?_
  rintro _ _ ⟨b4, hf4, rfl, rfl⟩
  refine AO.eff (EF.box rfl rfl) (.none rfl) rfl ?_
  rintro _ _ ⟨b5, hf5, rfl, rfl⟩
  refine AO.eff (EF.box rfl rfl) (.none rfl) rfl ?_
  rintro _ _ ⟨b6, hf6, rfl, rfl⟩
  refine AO.eff (EF.box rfl rfl) (.none rfl) rfl ?_
  rintro _ _ ⟨b7, hf7, rfl, rfl⟩
  refine AO.val (RV.assign rfl) (.none rfl) rfl ?_
  refine AO.nil ?_
  refine AK.seq ?_
  refine AK.seq ?_
  refine AK.region ?_
  refine AO.val (RV.fieldAddr rfl) (.none rfl) rfl ?_
  refine AO.val (by first | exact RV.loadO rfl rfl (by first | simp | assumption) | exact RV.loadS rfl (by assumption) (by omega) (by first | simp | assumption)) (.none rfl) rfl ?_
  refine AO.val (RV.lss rfl rfl) (.none rfl) rfl ?_
  refine AO.val (RV.move rfl) (.none rfl) rfl ?_
  refine AO.caseG rfl rfl rfl ?_ ?_
  · intro hg1
    try simp only [decide_eq_true_eq, decide_eq_false_iff_not, Bool.not_eq_true', Bool.not_eq_false', beq_iff_eq] at hg1
    refine AO.pass (.some rfl rfl rfl rfl) rfl ?_
    refine AO.pass (.some rfl rfl rfl rfl) rfl ?_
    refine AO.pass (.some rfl rfl rfl rfl) rfl ?_
    refine AO.val (RV.pickT rfl rfl) (.none rfl) rfl ?_
    refine AO.nil ?_
    refine AK.condT rfl ?_
    refine AK.seq ?_
    refine AK.region ?_
    refine AO.eff (EF.callF rfl (lives38_spec B _)) (.none rfl) rfl ?_
    rintro _ _ ⟨rfl, rfl⟩
    refine AO.val (RV.assign rfl) (.none rfl) rfl ?_
    refine AO.nil ?_
    -- at t
    refine AK.ret (h' := []) Try.func4 (.tmp rfl .nil) ?_ (List.nil_sublist _)
    rfl
  · intro hg1
    try simp only [decide_eq_true_eq, decide_eq_false_iff_not, Bool.not_eq_true', Bool.not_eq_false', beq_iff_eq] at hg1
    refine AO.val (RV.fieldAddr rfl) (.some rfl rfl rfl rfl) rfl ?_
    refine AO.val (by first | exact RV.loadO rfl rfl (by first | simp | assumption) | exact RV.loadS rfl (by assumption) (by omega) (by first | simp | assumption)) (.some rfl rfl rfl rfl) rfl ?_
    refine AO.val (RV.gtr rfl rfl) (.some rfl rfl rfl rfl) rfl ?_
    refine AO.val (RV.pickF rfl rfl) (.none rfl) rfl ?_
    refine AO.nil ?_
    refine AK.cond rfl ?_ ?_
    · intro hc2
      try simp only [decide_eq_true_eq, decide_eq_false_iff_not, Bool.not_eq_true', Bool.not_eq_false', beq_iff_eq] at hc2
      refine AK.seq ?_
      refine AK.region ?_
      refine AO.eff (EF.callF rfl (lives38_spec B _)) (.none rfl) rfl ?_
      rintro _ _ ⟨rfl, rfl⟩
      refine AO.val (RV.assign rfl) (.none rfl) rfl ?_
      refine AO.nil ?_
      -- at fT
      refine AK.ret (h' := []) Try.func4 (.tmp rfl .nil) ?_ (List.nil_sublist _)
      rfl
    · intro hc2
      try simp only [decide_eq_true_eq, decide_eq_false_iff_not, Bool.not_eq_true', Bool.not_eq_false', beq_iff_eq] at hc2
      have hsg : 0 ≤ sq (fewG s) ∧ sq (fewG s) ≤ 4294967295 := hg.seq
      have hac1 := accept_offer lo hi lo2 hi2 ep f hsg (op (fewG s)).l
      have hac2 := accept_fresh lo hi klo khi ep (by omega) f hsg (op (fewG s)).l
      have hmi := makeC_in lo hi f (sq (fewG s)) ep (offI (op (fewG s)).l)
      have hns := sizeS_in (offI (op (fewG s)).l)
      have hpl : (pmB (sizeS (offI (op (fewG s)).l))).length = 4 := rfl
      refine AK.skip ?_
      refine AK.seq ?_
      refine AK.region ?_
      refine AO.val (by first | exact RV.loadAggO rfl rfl (by first | simp | assumption) | exact RV.loadAggP rfl rfl rfl (by first | simp | assumption)) (.none rfl) rfl ?_
      refine AO.eff (EF.callF rfl (segfew_spec B _ s hs.sub)) (.none rfl) rfl ?_
      rintro _ _ ⟨rfl, rfl⟩
      refine AO.effN (EF.storeO rfl rfl rfl rfl rfl rfl) (.none rfl) ?_
      rintro _ _ rfl
      refine AO.nil ?_
      refine AK.seq ?_
      refine AK.region ?_
      refine AO.val (by first | exact RV.loadAggO rfl rfl (by first | simp | assumption) | exact RV.loadAggP rfl rfl rfl (by first | simp | assumption)) (.none rfl) rfl ?_
      refine AO.val (by first | exact RV.loadAggO rfl rfl (by first | simp | assumption) | exact RV.loadAggP rfl rfl rfl (by first | simp | assumption)) (.none rfl) rfl ?_
      refine AO.val (by first | exact RV.loadAggO rfl rfl (by first | simp | assumption) | exact RV.loadAggP rfl rfl rfl (by first | simp | assumption)) (.none rfl) rfl ?_
      refine AO.eff (EF.callF rfl (offer_spec B _ lo hi lo2 hi2 ep f hf (fewG s) hg.sub hep)) (.none rfl) rfl ?_
      rintro _ _ ⟨A31, c31, p31, rfl, hr31, hc31, rfl⟩
      have hpm := hr31.src (B := B) (h := p31) (fun x hx => hx)
      refine AO.eff (EF.alloc) (.none rfl) rfl ?_
      rintro _ _ ⟨b9, hf9, rfl, rfl⟩
      refine AO.effN (EF.storeO rfl rfl rfl rfl rfl rfl) (.none rfl) ?_
      rintro _ _ rfl
      refine AO.nil ?_
      refine AK.seq ?_
      refine AK.region ?_
      refine AO.val (RV.fieldAddr rfl) (.none rfl) rfl ?_
      refine AO.val (by first | exact RV.loadO rfl rfl (by first | simp | assumption) | exact RV.loadS rfl (by assumption) (by omega) (by first | simp | assumption)) (.none rfl) rfl ?_
      refine AO.val (RV.fieldAddr rfl) (.none rfl) rfl ?_
      refine AO.val (by first | exact RV.loadO rfl rfl (by first | simp | assumption) | exact RV.loadS rfl (by assumption) (by omega) (by first | simp | assumption)) (.none rfl) rfl ?_
      refine AO.val (RV.fieldAddr rfl) (.none rfl) rfl ?_
      refine AO.val (by first | exact RV.loadO rfl rfl (by first | simp | assumption) | exact RV.loadS rfl (by assumption) (by omega) (by first | simp | assumption)) (.none rfl) rfl ?_
      refine AO.val (by first | exact RV.addK rfl rfl (by simp only [kb]; omega) | exact RV.add rfl rfl) (.none rfl) rfl ?_
      refine AO.val (RV.fieldAddr rfl) (.none rfl) rfl ?_
      refine AO.val (by first | exact RV.loadO rfl rfl (by first | simp | assumption) | exact RV.loadS rfl (by assumption) (by omega) (by first | simp | assumption)) (.none rfl) rfl ?_
      refine AO.val (by first | exact RV.addK rfl rfl (by simp only [kb]; omega) | exact RV.add rfl rfl) (.none rfl) rfl ?_
      refine AO.val (RV.build rfl (.cons rfl rfl rfl rfl (.cons rfl rfl rfl rfl (.cons rfl rfl rfl rfl (.cons rfl rfl rfl rfl (.cons rfl rfl rfl rfl .nil)))))) (.none rfl) rfl ?_
      refine AO.eff (EF.alloc) (.none rfl) rfl ?_
      rintro _ _ ⟨b10, hf10, rfl, rfl⟩
      refine AO.effN (EF.storeO rfl rfl rfl rfl rfl rfl) (.none rfl) ?_
      rintro _ _ rfl
      refine AO.nil ?_
      refine AK.seq ?_
      refine AK.region ?_
      refine AO.val (by first | exact RV.loadAggO rfl rfl (by first | simp | assumption) | exact RV.loadAggP rfl rfl rfl (by first | simp | assumption)) (.none rfl) rfl ?_
      refine AO.val (by first | exact RV.loadAggO rfl rfl (by first | simp | assumption) | exact RV.loadAggP rfl rfl rfl (by first | simp | assumption)) (.none rfl) rfl ?_
      refine AO.val (by first | exact RV.loadAggO rfl rfl (by first | simp | assumption) | exact RV.loadAggP rfl rfl rfl (by first | simp | assumption)) (.none rfl) rfl ?_
      refine AO.eff (EF.callF rfl (accept_spec B _ lo hi lo2 hi2 ep f hf ((f.2.2.1, f.2.2.2.1, w32 (sq (fewG s) + 1), w32 ((makeC lo hi f (sq (fewG s)) ep (offI (op (fewG s)).l)) + 1), 0, 16, 0, 0, ⟨none, 0, []⟩, ⟨none, 0, []⟩, ()) : Seg) (ans_ok _ _ _ _ _ _) hep)) (.none rfl) rfl ?_
      rintro _ _ ⟨rfl, rfl⟩
      rw [show (acceptS lo hi lo2 hi2 ep f (fl ((f.2.2.1, f.2.2.2.1, w32 (sq (fewG s) + 1), w32 ((makeC lo hi f (sq (fewG s)) ep (offI (op (fewG s)).l)) + 1), 0, 16, 0, 0, ⟨none, 0, []⟩, ⟨none, 0, []⟩, ()) : Seg)) (sq ((f.2.2.1, f.2.2.2.1, w32 (sq (fewG s) + 1), w32 ((makeC lo hi f (sq (fewG s)) ep (offI (op (fewG s)).l)) + 1), 0, 16, 0, 0, ⟨none, 0, []⟩, ⟨none, 0, []⟩, ()) : Seg)) (ak ((f.2.2.1, f.2.2.2.1, w32 (sq (fewG s) + 1), w32 ((makeC lo hi f (sq (fewG s)) ep (offI (op (fewG s)).l)) + 1), 0, 16, 0, 0, ⟨none, 0, []⟩, ⟨none, 0, []⟩, ()) : Seg))).1 = offI (op (fewG s)).l from congrArg Prod.fst hac1, show (acceptS lo hi lo2 hi2 ep f (fl ((f.2.2.1, f.2.2.2.1, w32 (sq (fewG s) + 1), w32 ((makeC lo hi f (sq (fewG s)) ep (offI (op (fewG s)).l)) + 1), 0, 16, 0, 0, ⟨none, 0, []⟩, ⟨none, 0, []⟩, ()) : Seg)) (sq ((f.2.2.1, f.2.2.2.1, w32 (sq (fewG s) + 1), w32 ((makeC lo hi f (sq (fewG s)) ep (offI (op (fewG s)).l)) + 1), 0, 16, 0, 0, ⟨none, 0, []⟩, ⟨none, 0, []⟩, ()) : Seg)) (ak ((f.2.2.1, f.2.2.2.1, w32 (sq (fewG s) + 1), w32 ((makeC lo hi f (sq (fewG s)) ep (offI (op (fewG s)).l)) + 1), 0, 16, 0, 0, ⟨none, 0, []⟩, ⟨none, 0, []⟩, ()) : Seg))).2 = true from congrArg Prod.snd hac1]
      refine AO.val (RV.move rfl) (.none rfl) rfl ?_
      refine AO.val (RV.extract rfl rfl) (.none rfl) rfl ?_
      refine AO.val (RV.extract rfl rfl) (.none rfl) rfl ?_
      refine AO.val (RV.assign rfl) (.none rfl) rfl ?_
      refine AO.val (RV.assign rfl) (.none rfl) rfl ?_
      refine AO.nil ?_
      refine AK.seq ?_
      refine AK.draw [] [] mixed ?_
      refine AD.take 0 rfl (by kernel_rfl) (by first | exact RV.loadAggO rfl rfl (by first | simp | assumption) | exact RV.loadAggP rfl rfl rfl (by first | simp | assumption)) (.none rfl) rfl ?_
      refine AD.take 1 rfl (by kernel_rfl) (by first | exact RV.loadAggO rfl rfl (by first | simp | assumption) | exact RV.loadAggP rfl rfl rfl (by first | simp | assumption)) (.none rfl) rfl ?_
      refine AD.take 3 rfl (by kernel_rfl) (by first | exact RV.loadAggO rfl rfl (by first | simp | assumption) | exact RV.loadAggP rfl rfl rfl (by first | simp | assumption)) (.none rfl) rfl ?_
      refine AD.take 4 rfl (by kernel_rfl) (by first | exact RV.loadAggO rfl rfl (by first | simp | assumption) | exact RV.loadAggP rfl rfl rfl (by first | simp | assumption)) (.none rfl) rfl ?_
      refine AD.one 2 (by kernel_rfl) (AE.eff rfl (EF.callF rfl (fresh_spec B _ lo hi lo2 hi2 ep klo khi)) (.none rfl) rfl ?_)
      rintro _ _ ⟨rfl, rfl⟩
      rw [show min (max ep 0) 1073741824 + 1 = ep + 1 by omega]
      refine ⟨(by first | exact .inr fun x hx hM => hx | exact .inr fun x hx hM => List.mem_cons_of_mem _ hx | exact .inr fun x hx hM => List.mem_append_right _ hx), ?_⟩
      refine AD.one 5 (by kernel_rfl) (AE.eff rfl (EF.callF rfl (accept_spec B _ klo khi lo hi (ep + 1) f hf ((f.2.2.1, f.2.2.2.1, w32 (sq (fewG s) + 1), w32 ((makeC lo hi f (sq (fewG s)) ep (offI (op (fewG s)).l)) + 1), 0, 16, 0, 0, ⟨none, 0, []⟩, ⟨none, 0, []⟩, ()) : Seg) (ans_ok _ _ _ _ _ _) (by omega))) (.none rfl) rfl ?_)
      rintro _ _ ⟨rfl, rfl⟩
      rw [show (acceptS klo khi lo hi (ep + 1) f (fl ((f.2.2.1, f.2.2.2.1, w32 (sq (fewG s) + 1), w32 ((makeC lo hi f (sq (fewG s)) ep (offI (op (fewG s)).l)) + 1), 0, 16, 0, 0, ⟨none, 0, []⟩, ⟨none, 0, []⟩, ()) : Seg)) (sq ((f.2.2.1, f.2.2.2.1, w32 (sq (fewG s) + 1), w32 ((makeC lo hi f (sq (fewG s)) ep (offI (op (fewG s)).l)) + 1), 0, 16, 0, 0, ⟨none, 0, []⟩, ⟨none, 0, []⟩, ()) : Seg)) (ak ((f.2.2.1, f.2.2.2.1, w32 (sq (fewG s) + 1), w32 ((makeC lo hi f (sq (fewG s)) ep (offI (op (fewG s)).l)) + 1), 0, 16, 0, 0, ⟨none, 0, []⟩, ⟨none, 0, []⟩, ()) : Seg))).1 = offI (op (fewG s)).l from congrArg Prod.fst hac2, show (acceptS klo khi lo hi (ep + 1) f (fl ((f.2.2.1, f.2.2.2.1, w32 (sq (fewG s) + 1), w32 ((makeC lo hi f (sq (fewG s)) ep (offI (op (fewG s)).l)) + 1), 0, 16, 0, 0, ⟨none, 0, []⟩, ⟨none, 0, []⟩, ()) : Seg)) (sq ((f.2.2.1, f.2.2.2.1, w32 (sq (fewG s) + 1), w32 ((makeC lo hi f (sq (fewG s)) ep (offI (op (fewG s)).l)) + 1), 0, 16, 0, 0, ⟨none, 0, []⟩, ⟨none, 0, []⟩, ()) : Seg)) (ak ((f.2.2.1, f.2.2.2.1, w32 (sq (fewG s) + 1), w32 ((makeC lo hi f (sq (fewG s)) ep (offI (op (fewG s)).l)) + 1), 0, 16, 0, 0, ⟨none, 0, []⟩, ⟨none, 0, []⟩, ()) : Seg))).2 = true from congrArg Prod.snd hac2]
      refine ⟨(by first | exact .inr fun x hx hM => hx | exact .inr fun x hx hM => List.mem_cons_of_mem _ hx | exact .inr fun x hx hM => List.mem_append_right _ hx), ?_⟩
      refine AD.takeP 6 rfl (by kernel_rfl) (RV.move rfl) (.none rfl) rfl ?_
      refine AD.takeP 7 rfl (by kernel_rfl) (RV.extract rfl rfl) (.none rfl) rfl ?_
      refine AD.takeP 8 rfl (by kernel_rfl) (RV.extract rfl rfl) (.none rfl) rfl ?_
      refine AD.takeP 9 rfl (by kernel_rfl) (RV.assign rfl) (.none rfl) rfl ?_
      refine AD.takeP 10 rfl (by kernel_rfl) (RV.assign rfl) (.none rfl) rfl ?_
      refine AD.done (by kernel_rfl) ?_
      refine AK.seq ?_
      refine AK.seq ?_
      refine AK.region ?_
      refine AO.val (RV.move rfl) (.none rfl) rfl ?_
      refine AO.val (RV.not rfl) (.none rfl) rfl ?_
      refine AO.val (RV.move rfl) (.none rfl) rfl ?_
      refine AO.val (RV.move rfl) (.some rfl rfl rfl rfl) rfl ?_
      refine AO.val (RV.not rfl) (.some rfl rfl rfl rfl) rfl ?_
      refine AO.val (RV.pickF rfl rfl) (.none rfl) rfl ?_
      refine AO.val (RV.move rfl) (.none rfl) rfl ?_
      refine AO.val (RV.move rfl) (.some rfl rfl rfl rfl) rfl ?_
      refine AO.val (RV.move rfl) (.some rfl rfl rfl rfl) rfl ?_
      refine AO.val ((RV.neq rfl rfl).to (v' := .bool false) (by simp)) (.some rfl rfl rfl rfl) rfl ?_
      refine AO.val (RV.pickF rfl rfl) (.none rfl) rfl ?_
      refine AO.val (RV.move rfl) (.none rfl) rfl ?_
      refine AO.val (RV.fieldAddr rfl) (.some rfl rfl rfl rfl) rfl ?_
      refine AO.val (by first | exact RV.loadO rfl rfl (by first | simp | assumption) | exact RV.loadS rfl (by assumption) (by omega) (by first | simp | assumption)) (.some rfl rfl rfl rfl) rfl ?_
      refine AO.val (RV.lenS rfl) (.some rfl rfl rfl rfl) rfl ?_
      refine AO.val ((RV.neq rfl rfl).to (v' := .bool false) (by simp)) (.some rfl rfl rfl rfl) rfl ?_
      refine AO.val (RV.pickF rfl rfl) (.none rfl) rfl ?_
      refine AO.nil ?_
      refine AK.condF rfl ?_
      refine AK.skip ?_
      refine AK.seq ?_
      refine AK.region ?_
      refine AO.val (RV.move rfl) (.none rfl) rfl ?_
      refine AO.eff (EF.callF rfl (rsize_spec B _ _)) (.none rfl) rfl ?_
      rintro _ _ ⟨rfl, rfl⟩
      refine AO.val (RV.assign rfl) (.none rfl) rfl ?_
      refine AO.nil ?_
      refine AK.seq ?_
      refine AK.region ?_
      refine AO.val (by first | exact RV.loadAggO rfl rfl (by first | simp | assumption) | exact RV.loadAggP rfl rfl rfl (by first | simp | assumption)) (.none rfl) rfl ?_
      refine AO.val (by first | exact RV.loadAggO rfl rfl (by first | simp | assumption) | exact RV.loadAggP rfl rfl rfl (by first | simp | assumption)) (.none rfl) rfl ?_
      refine AO.eff (EF.callF rfl (open_spec B _ f 1 2 ((f.2.2.1, f.2.2.2.1, w32 (sq (fewG s) + 1), w32 ((makeC lo hi f (sq (fewG s)) ep (offI (op (fewG s)).l)) + 1), 0, 16, 0, 0, ⟨none, 0, []⟩, ⟨none, 0, []⟩, ()) : Seg) (ans_ok _ _ _ _ _ _))) (.none rfl) rfl ?_
      rintro _ _ ⟨rfl, rfl⟩
      refine AO.eff (EF.alloc) (.none rfl) rfl ?_
      rintro _ _ ⟨b16, hf16, rfl, rfl⟩
      refine AO.effN (EF.storeO rfl rfl rfl rfl rfl rfl) (.none rfl) ?_
      rintro _ _ rfl
      refine AO.nil ?_
      refine AK.seq ?_
      refine AK.region ?_
      refine AO.val (RV.fieldAddr rfl) (.none rfl) rfl ?_
      refine AO.val (by first | exact RV.loadO rfl rfl (by first | simp | assumption) | exact RV.loadS rfl (by assumption) (by omega) (by first | simp | assumption)) (.none rfl) rfl ?_
      refine AO.val ((RV.indexS rfl rfl hpm (by omega) rfl)) (.none rfl) rfl ?_
      refine AO.val ((RV.loadS (enc := Value.int .u8) (l := pmB (sizeS (offI (op (fewG s)).l))) (i := 2) rfl hpm (by rw [hpl]; decide) (by simp)).to (v' := .int .u8 ((sizeS (offI (op (fewG s)).l)) / 256 % 256)) rfl) (.none rfl) rfl ?_
      refine AO.val (RV.move rfl) (.none rfl) rfl ?_
      refine AO.val (RV.quoIn rfl rfl (by simp only [kb]; omega)) (.none rfl) rfl ?_
      refine AO.val (RV.convIn rfl (by simp only [kb]; omega)) (.none rfl) rfl ?_
      refine AO.val ((RV.eql rfl rfl).to (v' := .bool true) (by simp; omega)) (.none rfl) rfl ?_
      refine AO.val (RV.move rfl) (.none rfl) rfl ?_
      refine AO.val (RV.fieldAddr rfl) (.some rfl rfl rfl rfl) rfl ?_
      refine AO.val (by first | exact RV.loadO rfl rfl (by first | simp | assumption) | exact RV.loadS rfl (by assumption) (by omega) (by first | simp | assumption)) (.some rfl rfl rfl rfl) rfl ?_
      refine AO.val ((RV.indexS rfl rfl hpm (by omega) rfl)) (.some rfl rfl rfl rfl) rfl ?_
      refine AO.val ((RV.loadS (enc := Value.int .u8) (l := pmB (sizeS (offI (op (fewG s)).l))) (i := 3) rfl hpm (by rw [hpl]; decide) (by simp)).to (v' := .int .u8 ((sizeS (offI (op (fewG s)).l)) % 256)) rfl) (.some rfl rfl rfl rfl) rfl ?_
      refine AO.val (RV.move rfl) (.some rfl rfl rfl rfl) rfl ?_
      refine AO.val (RV.remIn rfl rfl (by omega)) (.some rfl rfl rfl rfl) rfl ?_
      refine AO.val (RV.convIn rfl (by simp only [kb]; omega)) (.some rfl rfl rfl rfl) rfl ?_
      refine AO.val ((RV.eql rfl rfl).to (v' := .bool true) (by simp)) (.some rfl rfl rfl rfl) rfl ?_
      refine AO.val (RV.pickT rfl rfl) (.none rfl) rfl ?_
      refine AO.val (RV.move rfl) (.none rfl) rfl ?_
      refine AO.val (RV.fieldAddr rfl) (.some rfl rfl rfl rfl) rfl ?_
      refine AO.val (by first | exact RV.loadO rfl rfl (by first | simp | assumption) | exact RV.loadS rfl (by assumption) (by omega) (by first | simp | assumption)) (.some rfl rfl rfl rfl) rfl ?_
      refine AO.val (RV.fieldAddr rfl) (.some rfl rfl rfl rfl) rfl ?_
      refine AO.val (by first | exact RV.loadO rfl rfl (by first | simp | assumption) | exact RV.loadS rfl (by assumption) (by omega) (by first | simp | assumption)) (.some rfl rfl rfl rfl) rfl ?_
      refine AO.val ((RV.eql rfl rfl).to (v' := .bool true) (by rw [w_back hsg]; simp)) (.some rfl rfl rfl rfl) rfl ?_
      refine AO.val (RV.pickT rfl rfl) (.none rfl) rfl ?_
      refine AO.val (RV.move rfl) (.none rfl) rfl ?_
      refine AO.val (RV.fieldAddr rfl) (.some rfl rfl rfl rfl) rfl ?_
      refine AO.val (by first | exact RV.loadO rfl rfl (by first | simp | assumption) | exact RV.loadS rfl (by assumption) (by omega) (by first | simp | assumption)) (.some rfl rfl rfl rfl) rfl ?_
      refine AO.val (RV.fieldAddr rfl) (.some rfl rfl rfl rfl) rfl ?_
      refine AO.val (by first | exact RV.loadO rfl rfl (by first | simp | assumption) | exact RV.loadS rfl (by assumption) (by omega) (by first | simp | assumption)) (.some rfl rfl rfl rfl) rfl ?_
      refine AO.val ((RV.eql rfl rfl).to (v' := .bool true) (by rw [w_back ⟨hmi.1, hmi.2.1⟩]; simp)) (.some rfl rfl rfl rfl) rfl ?_
      refine AO.val (RV.pickT rfl rfl) (.none rfl) rfl ?_
      refine AO.val (RV.move rfl) (.none rfl) rfl ?_
      refine AO.eff (EF.callF rfl (lives38_spec B _)) (.some rfl rfl rfl rfl) rfl ?_
      rintro _ _ ⟨rfl, rfl⟩
      refine AO.val (RV.pickT rfl rfl) (.none rfl) rfl ?_
      refine AO.val (RV.assign rfl) (.none rfl) rfl ?_
      refine AO.nil ?_
      -- at fF
      refine AK.ret (h' := []) Try.func4 (.tmp rfl .nil) ?_ (List.nil_sublist _)
      rfl

set_option maxRecDepth 100000 in
theorem proxyOffers_lifted (os : Os) (started : os.Started) (H : Type) (enc : TypeId × Value → H) :
    ReturnsInHanded {} Try.checked os 3 .any (Rows.proxyOffersSpec.pre6 enc Try.prog Try.f3 Rows.proxyOffersRow.domain false) (Rows.proxyOffersSpec.post enc Try.prog Try.f3 false true false false) := by
  refine returnsInHanded_of_change (C := Try.checked) own_ started (by kernel_rfl) Try.func3
    (ChangeSpec.witness6 (enc := enc) (C := Try.checked) false ⟨#[], #[(Value.agg #[(Value.int IntKind.u64 0), (Value.int IntKind.u64 0), (Value.int IntKind.u64 0), (Value.int IntKind.u64 0), (Value.int IntKind.i64 0)]), (Value.agg #[(Value.int IntKind.u32 0), (Value.int IntKind.u32 0), (Value.int IntKind.u16 0), (Value.int IntKind.u16 0), (Value.int IntKind.u8 0)]), (Value.agg #[(Value.int IntKind.u16 0), (Value.int IntKind.u16 0), (Value.int IntKind.u32 0), (Value.int IntKind.u32 0), (Value.int IntKind.u8 0), (Value.int IntKind.u8 0), (Value.int IntKind.u16 0), (Value.int IntKind.u16 0), (Value.slice none 0 0), (Value.slice none 0 0)])], []⟩ 8 (by kernel_rfl) (by kernel_rfl) (by kernel_rfl) (by kernel_rfl)) ?_
  intro W base args ds gs before hval0 hW hcnd _
  have hval : ∀ (j : Nat) t v, Try.f3.params[j]? = some t → args[j]? = some v → Value.okWide Try.prog W .any base t v := hval0
  have hW' := hW
  obtain ⟨p, q, hA0, hV, rfl, hfz, hnd⟩ := hW
  have hA : DataW.TrodAll enc Try.prog W 0 (fun _ => true) true Try.f3.params.toList args.toList ds p := hA0
  rw [Try.params3] at hA hval
  obtain ⟨args⟩ := args
  simp only at hA
  obtain ⟨v0, vs0, d0, ds0, p0, q0, e0a, e0b, e0c, t0, r0⟩ := trodAll_cons hA
  obtain ⟨v1, vs1, d1, ds1, p1, q1, e1a, e1b, e1c, t1, r1⟩ := trodAll_cons r0
  obtain ⟨v2, vs2, d2, ds2, p2, q2, e2a, e2b, e2c, t2, r2⟩ := trodAll_cons r1
  subst e0a e0b e0c
  subst e1a e1b e1c
  subst e2a e2b e2c
  obtain ⟨rfl, rfl, rfl⟩ := trodAll_nil r2
  obtain ⟨rfl, rfl⟩ := trodVars_none hV
  have hlt := hW'.lt
  have k0 : Value.okWide Try.prog W .any base 26 v0 := hval 0 _ v0 rfl rfl
  obtain ⟨k, w0, hk⟩ := Dec.argA k0 t0 ((.cons (off := 0) (sz := 2) (by rfl) (by kernel_rfl) (Dec.struct (t := 24) (.cons (off := 0) (sz := 1) (by rfl) (by kernel_rfl) (Dec.int (t := 22) (k := .u64)) (.cons (off := 1) (sz := 1) (by rfl) (by kernel_rfl) (Dec.int (t := 22) (k := .u64)) .nil)) (by kernel_rfl)) (.cons (off := 2) (sz := 2) (by rfl) (by kernel_rfl) (Dec.struct (t := 24) (.cons (off := 0) (sz := 1) (by rfl) (by kernel_rfl) (Dec.int (t := 22) (k := .u64)) (.cons (off := 1) (sz := 1) (by rfl) (by kernel_rfl) (Dec.int (t := 22) (k := .u64)) .nil)) (by kernel_rfl)) (.cons (off := 4) (sz := 1) (by rfl) (by kernel_rfl) (Dec.int (t := 3) (k := .i64)) .nil)))) (by kernel_rfl)
  have k1 : Value.okWide Try.prog W .any base 30 v1 := hval 1 _ v1 rfl rfl
  obtain ⟨f, w1, hf⟩ := Dec.argA k1 t1 ((.cons (off := 0) (sz := 1) (by rfl) (by kernel_rfl) (Dec.int (t := 27) (k := .u32)) (.cons (off := 1) (sz := 1) (by rfl) (by kernel_rfl) (Dec.int (t := 27) (k := .u32)) (.cons (off := 2) (sz := 1) (by rfl) (by kernel_rfl) (Dec.int (t := 28) (k := .u16)) (.cons (off := 3) (sz := 1) (by rfl) (by kernel_rfl) (Dec.int (t := 28) (k := .u16)) (.cons (off := 4) (sz := 1) (by rfl) (by kernel_rfl) (Dec.int (t := 5) (k := .u8)) .nil)))))) (by kernel_rfl)
  have k2 : Value.okWide Try.prog W .any base 33 v2 := hval 2 _ v2 rfl rfl
  obtain ⟨s, w2, hs⟩ := Dec.argA k2 t2 ((.cons (off := 0) (sz := 1) (by rfl) (by kernel_rfl) (Dec.int (t := 28) (k := .u16)) (.cons (off := 1) (sz := 1) (by rfl) (by kernel_rfl) (Dec.int (t := 28) (k := .u16)) (.cons (off := 2) (sz := 1) (by rfl) (by kernel_rfl) (Dec.int (t := 27) (k := .u32)) (.cons (off := 3) (sz := 1) (by rfl) (by kernel_rfl) (Dec.int (t := 27) (k := .u32)) (.cons (off := 4) (sz := 1) (by rfl) (by kernel_rfl) (Dec.int (t := 5) (k := .u8)) (.cons (off := 5) (sz := 1) (by rfl) (by kernel_rfl) (Dec.int (t := 5) (k := .u8)) (.cons (off := 6) (sz := 1) (by rfl) (by kernel_rfl) (Dec.int (t := 28) (k := .u16)) (.cons (off := 7) (sz := 1) (by rfl) (by kernel_rfl) (Dec.int (t := 28) (k := .u16)) (.cons (off := 8) (sz := 1) (by rfl) (by kernel_rfl) (Dec.slice (t := 31) (e := 5) (sz := 1) (Dec.int (t := 5) (k := .u8)) (by decide)) (.cons (off := 9) (sz := 1) (by rfl) (by kernel_rfl) (Dec.slice (t := 31) (e := 5) (sz := 1) (Dec.int (t := 5) (k := .u8)) (by decide)) .nil))))))))))) (by kernel_rfl)
  have htri : Tri Try.prog W 3 [v0, v1, v2] [] (fun v _ => v = .bool true) := by
    subst w0 w1 w2
    exact offers_law W [] k.1.1 k.1.2.1 k.2.1.1 k.2.1.2.1 k.2.2.1 f ⟨hf.1, hf.2.1, hf.2.2.1, hf.2.2.2.1, hf.2.2.2.2.1⟩ s ⟨hs.2.2.1, hs.2.2.2.1, hs.2.2.2.2.2.1, hs.2.2.2.2.2.2.2.2.1.src1, hs.2.2.2.2.2.2.2.2.1.2.2.2.1, hs.2.2.2.2.2.2.2.2.1.2.1, hs.2.2.2.2.2.2.2.2.2.1.src1, hs.2.2.2.2.2.2.2.2.2.1.2.1⟩ hk.2.2.1
  clear w0 w1 w2
  refine (htri.run W (Models.start W)).mono fun e W' ⟨v, h2, he, m2, hv⟩ => ?_
  subst he; subst hv
  have hb := m2.below
  refine ⟨_, rfl, post_of_below (pa := (p0 ++ (p1 ++ (p2 ++ ([]))))) (pv := []) hW' (fun _ _ _ => trodAll_mk1 (shut_bool (Try.underlying4) true)) (fun sp hsp => ?_) (fun _ _ => rfl) rfl hb (ok_one (t := 4) (by kernel_rfl) rfl ?_)⟩
  · refine TAcons (WideElems.Trod_stays laidOut_ (by kernel_rfl) (of_decide_eq_true (by kernel_rfl)) t0 (fun x hx => hb.same (hlt x (by simp [hx]))) (fun x hx => hsp x (by simp [hx]))) ?_
    refine TAcons (WideElems.Trod_stays laidOut_ (by kernel_rfl) (of_decide_eq_true (by kernel_rfl)) t1 (fun x hx => hb.same (hlt x (by simp [hx]))) (fun x hx => hsp x (by simp [hx]))) ?_
    refine TAcons (WideElems.Trod_stays laidOut_ (by kernel_rfl) (of_decide_eq_true (by kernel_rfl)) t2 (fun x hx => hb.same (hlt x (by simp [hx]))) (fun x hx => hsp x (by simp [hx]))) ?_
    rfl
  · exact okBool Try.underlying4

theorem proxyOffers_holds : Rows.ProxyOffersSaid :=
  OpenClaim.holds_of_wide 3 Try.f3 rfl rfl rfl rfl rfl rfl rfl ⟨rfl, rfl, rfl, rfl, rfl⟩ rfl rfl rfl rfl rfl (by kernel_rfl) Try.func3 (by kernel_rfl)
    (of_decide_eq_true (by kernel_rfl)) (by unfold Func.isWrapper; first | (rw [if_pos (by decide +kernel)]; kernel_rfl) | (rw [if_neg (by decide +kernel)]; exact ⟨rfl, rfl⟩))
    (fun os started H enc _ => proxyOffers_lifted os started H enc)

set_option maxRecDepth 100000 in
theorem proxyJoins_lifted (os : Os) (started : os.Started) (H : Type) (enc : TypeId × Value → H) :
    ReturnsInHanded {} Try.checked os 5 .any (Rows.proxyJoinsSpec.pre6 enc Try.prog Try.f5 Rows.proxyJoinsRow.domain false) (Rows.proxyJoinsSpec.post enc Try.prog Try.f5 false true false false) := by
  refine returnsInHanded_of_change (C := Try.checked) own_ started (by kernel_rfl) Try.func5
    (ChangeSpec.witness6 (enc := enc) (C := Try.checked) false ⟨#[], #[(Value.agg #[(Value.int IntKind.u32 0), (Value.int IntKind.u32 0), (Value.int IntKind.u16 0), (Value.int IntKind.u16 0), (Value.int IntKind.u8 0)]), (Value.int IntKind.i64 0), (Value.int IntKind.u16 0), (Value.int IntKind.u16 0), (Value.agg #[(Value.int IntKind.u16 0), (Value.int IntKind.u16 0), (Value.int IntKind.u32 0), (Value.int IntKind.u32 0), (Value.int IntKind.u8 0), (Value.int IntKind.u8 0), (Value.int IntKind.u16 0), (Value.int IntKind.u16 0), (Value.slice none 0 0), (Value.slice none 0 0)]), (Value.agg #[(Value.int IntKind.u32 0), (Value.int IntKind.u32 0), (Value.int IntKind.u16 0), (Value.int IntKind.u16 0), (Value.int IntKind.u8 0), (Value.int IntKind.i64 0), (Value.int IntKind.i64 0), (Value.int IntKind.i64 0), (Value.bool false), (Value.bool false), (Value.int IntKind.u16 0), (Value.int IntKind.u32 0), (Value.int IntKind.u32 0)]), (Value.int IntKind.i64 0)], []⟩ 8 (by kernel_rfl) (by kernel_rfl) (by kernel_rfl) (by kernel_rfl)) ?_
  intro W base args ds gs before hval0 hW hcnd _
  have hval : ∀ (j : Nat) t v, Try.f5.params[j]? = some t → args[j]? = some v → Value.okWide Try.prog W .any base t v := hval0
  have hW' := hW
  obtain ⟨p, q, hA0, hV, rfl, hfz, hnd⟩ := hW
  have hA : DataW.TrodAll enc Try.prog W 0 (fun _ => true) true Try.f5.params.toList args.toList ds p := hA0
  rw [Try.params5] at hA hval
  obtain ⟨args⟩ := args
  simp only at hA
  obtain ⟨v0, vs0, d0, ds0, p0, q0, e0a, e0b, e0c, t0, r0⟩ := trodAll_cons hA
  obtain ⟨v1, vs1, d1, ds1, p1, q1, e1a, e1b, e1c, t1, r1⟩ := trodAll_cons r0
  obtain ⟨v2, vs2, d2, ds2, p2, q2, e2a, e2b, e2c, t2, r2⟩ := trodAll_cons r1
  obtain ⟨v3, vs3, d3, ds3, p3, q3, e3a, e3b, e3c, t3, r3⟩ := trodAll_cons r2
  obtain ⟨v4, vs4, d4, ds4, p4, q4, e4a, e4b, e4c, t4, r4⟩ := trodAll_cons r3
  obtain ⟨v5, vs5, d5, ds5, p5, q5, e5a, e5b, e5c, t5, r5⟩ := trodAll_cons r4
  obtain ⟨v6, vs6, d6, ds6, p6, q6, e6a, e6b, e6c, t6, r6⟩ := trodAll_cons r5
  subst e0a e0b e0c
  subst e1a e1b e1c
  subst e2a e2b e2c
  subst e3a e3b e3c
  subst e4a e4b e4c
  subst e5a e5b e5c
  subst e6a e6b e6c
  obtain ⟨rfl, rfl, rfl⟩ := trodAll_nil r6
  obtain ⟨rfl, rfl⟩ := trodVars_none hV
  have hlt := hW'.lt
  have k0 : Value.okWide Try.prog W .any base 30 v0 := hval 0 _ v0 rfl rfl
  obtain ⟨f, w0, hf⟩ := Dec.argA k0 t0 ((.cons (off := 0) (sz := 1) (by rfl) (by kernel_rfl) (Dec.int (t := 27) (k := .u32)) (.cons (off := 1) (sz := 1) (by rfl) (by kernel_rfl) (Dec.int (t := 27) (k := .u32)) (.cons (off := 2) (sz := 1) (by rfl) (by kernel_rfl) (Dec.int (t := 28) (k := .u16)) (.cons (off := 3) (sz := 1) (by rfl) (by kernel_rfl) (Dec.int (t := 28) (k := .u16)) (.cons (off := 4) (sz := 1) (by rfl) (by kernel_rfl) (Dec.int (t := 5) (k := .u8)) .nil)))))) (by kernel_rfl)
  have k1 : Value.okWide Try.prog W .any base 3 v1 := hval 1 _ v1 rfl rfl
  obtain ⟨b, w1, b_lo, b_hi⟩ := Dec.argI k1 t1
  have k2 : Value.okWide Try.prog W .any base 28 v2 := hval 2 _ v2 rfl rfl
  obtain ⟨po, w2, po_lo, po_hi⟩ := Dec.argI k2 t2
  have k3 : Value.okWide Try.prog W .any base 28 v3 := hval 3 _ v3 rfl rfl
  obtain ⟨to, w3, to_lo, to_hi⟩ := Dec.argI k3 t3
  have k4 : Value.okWide Try.prog W .any base 33 v4 := hval 4 _ v4 rfl rfl
  obtain ⟨s, w4, hs⟩ := Dec.argA k4 t4 ((.cons (off := 0) (sz := 1) (by rfl) (by kernel_rfl) (Dec.int (t := 28) (k := .u16)) (.cons (off := 1) (sz := 1) (by rfl) (by kernel_rfl) (Dec.int (t := 28) (k := .u16)) (.cons (off := 2) (sz := 1) (by rfl) (by kernel_rfl) (Dec.int (t := 27) (k := .u32)) (.cons (off := 3) (sz := 1) (by rfl) (by kernel_rfl) (Dec.int (t := 27) (k := .u32)) (.cons (off := 4) (sz := 1) (by rfl) (by kernel_rfl) (Dec.int (t := 5) (k := .u8)) (.cons (off := 5) (sz := 1) (by rfl) (by kernel_rfl) (Dec.int (t := 5) (k := .u8)) (.cons (off := 6) (sz := 1) (by rfl) (by kernel_rfl) (Dec.int (t := 28) (k := .u16)) (.cons (off := 7) (sz := 1) (by rfl) (by kernel_rfl) (Dec.int (t := 28) (k := .u16)) (.cons (off := 8) (sz := 1) (by rfl) (by kernel_rfl) (Dec.slice (t := 31) (e := 5) (sz := 1) (Dec.int (t := 5) (k := .u8)) (by decide)) (.cons (off := 9) (sz := 1) (by rfl) (by kernel_rfl) (Dec.slice (t := 31) (e := 5) (sz := 1) (Dec.int (t := 5) (k := .u8)) (by decide)) .nil))))))))))) (by kernel_rfl)
  have k5 : Value.okWide Try.prog W .any base 47 v5 := hval 5 _ v5 rfl rfl
  obtain ⟨e, w5, he⟩ := Dec.argA k5 t5 ((.cons (off := 0) (sz := 5) (by rfl) (by kernel_rfl) (Dec.struct (t := 30) (.cons (off := 0) (sz := 1) (by rfl) (by kernel_rfl) (Dec.int (t := 27) (k := .u32)) (.cons (off := 1) (sz := 1) (by rfl) (by kernel_rfl) (Dec.int (t := 27) (k := .u32)) (.cons (off := 2) (sz := 1) (by rfl) (by kernel_rfl) (Dec.int (t := 28) (k := .u16)) (.cons (off := 3) (sz := 1) (by rfl) (by kernel_rfl) (Dec.int (t := 28) (k := .u16)) (.cons (off := 4) (sz := 1) (by rfl) (by kernel_rfl) (Dec.int (t := 5) (k := .u8)) .nil))))) (by kernel_rfl)) (.cons (off := 5) (sz := 1) (by rfl) (by kernel_rfl) (Dec.int (t := 3) (k := .i64)) (.cons (off := 6) (sz := 1) (by rfl) (by kernel_rfl) (Dec.int (t := 3) (k := .i64)) (.cons (off := 7) (sz := 1) (by rfl) (by kernel_rfl) (Dec.int (t := 3) (k := .i64)) (.cons (off := 8) (sz := 1) (by rfl) (by kernel_rfl) (Dec.bool (t := 4)) (.cons (off := 9) (sz := 1) (by rfl) (by kernel_rfl) (Dec.bool (t := 4)) (.cons (off := 10) (sz := 1) (by rfl) (by kernel_rfl) (Dec.int (t := 28) (k := .u16)) (.cons (off := 11) (sz := 1) (by rfl) (by kernel_rfl) (Dec.int (t := 27) (k := .u32)) (.cons (off := 12) (sz := 1) (by rfl) (by kernel_rfl) (Dec.int (t := 27) (k := .u32)) .nil)))))))))) (by kernel_rfl)
  have k6 : Value.okWide Try.prog W .any base 3 v6 := hval 6 _ v6 rfl rfl
  obtain ⟨i, w6, i_lo, i_hi⟩ := Dec.argI k6 t6
  have htri : Tri Try.prog W 5 [v0, v1, v2, v3, v4, v5, v6] [] (fun v _ => v = .bool true) := by
    subst w0 w1 w2 w3 w4 w5 w6
    exact joins_law W [] f b po to s ⟨hs.2.2.1, hs.2.2.2.1, hs.2.2.2.2.2.1, hs.2.2.2.2.2.2.2.2.1.src1, hs.2.2.2.2.2.2.2.2.1.2.2.2.1, hs.2.2.2.2.2.2.2.2.1.2.1, hs.2.2.2.2.2.2.2.2.2.1.src1, hs.2.2.2.2.2.2.2.2.2.1.2.1⟩ e i
  clear w0 w1 w2 w3 w4 w5 w6
  refine (htri.run W (Models.start W)).mono fun e W' ⟨v, h2, he, m2, hv⟩ => ?_
  subst he; subst hv
  have hb := m2.below
  refine ⟨_, rfl, post_of_below (pa := (p0 ++ (p1 ++ (p2 ++ (p3 ++ (p4 ++ (p5 ++ (p6 ++ ([]))))))))) (pv := []) hW' (fun _ _ _ => trodAll_mk1 (shut_bool (Try.underlying4) true)) (fun sp hsp => ?_) (fun _ _ => rfl) rfl hb (ok_one (t := 4) (by kernel_rfl) rfl ?_)⟩
  · refine TAcons (WideElems.Trod_stays laidOut_ (by kernel_rfl) (of_decide_eq_true (by kernel_rfl)) t0 (fun x hx => hb.same (hlt x (by simp [hx]))) (fun x hx => hsp x (by simp [hx]))) ?_
    refine TAcons (WideElems.Trod_stays laidOut_ (by kernel_rfl) (of_decide_eq_true (by kernel_rfl)) t1 (fun x hx => hb.same (hlt x (by simp [hx]))) (fun x hx => hsp x (by simp [hx]))) ?_
    refine TAcons (WideElems.Trod_stays laidOut_ (by kernel_rfl) (of_decide_eq_true (by kernel_rfl)) t2 (fun x hx => hb.same (hlt x (by simp [hx]))) (fun x hx => hsp x (by simp [hx]))) ?_
    refine TAcons (WideElems.Trod_stays laidOut_ (by kernel_rfl) (of_decide_eq_true (by kernel_rfl)) t3 (fun x hx => hb.same (hlt x (by simp [hx]))) (fun x hx => hsp x (by simp [hx]))) ?_
    refine TAcons (WideElems.Trod_stays laidOut_ (by kernel_rfl) (of_decide_eq_true (by kernel_rfl)) t4 (fun x hx => hb.same (hlt x (by simp [hx]))) (fun x hx => hsp x (by simp [hx]))) ?_
    refine TAcons (WideElems.Trod_stays laidOut_ (by kernel_rfl) (of_decide_eq_true (by kernel_rfl)) t5 (fun x hx => hb.same (hlt x (by simp [hx]))) (fun x hx => hsp x (by simp [hx]))) ?_
    refine TAcons (WideElems.Trod_stays laidOut_ (by kernel_rfl) (of_decide_eq_true (by kernel_rfl)) t6 (fun x hx => hb.same (hlt x (by simp [hx]))) (fun x hx => hsp x (by simp [hx]))) ?_
    rfl
  · exact okBool Try.underlying4

theorem proxyJoins_holds : Rows.ProxyJoinsSaid :=
  OpenClaim.holds_of_wide 5 Try.f5 rfl rfl rfl rfl rfl rfl rfl ⟨rfl, rfl, rfl, rfl, rfl⟩ rfl rfl rfl rfl rfl (by kernel_rfl) Try.func5 (by kernel_rfl)
    (of_decide_eq_true (by kernel_rfl)) (by unfold Func.isWrapper; first | (rw [if_pos (by decide +kernel)]; kernel_rfl) | (rw [if_neg (by decide +kernel)]; exact ⟨rfl, rfl⟩))
    (fun os started H enc _ => proxyJoins_lifted os started H enc)

set_option maxRecDepth 100000 in
theorem proxyAnswers_lifted (os : Os) (started : os.Started) (H : Type) (enc : TypeId × Value → H) :
    ReturnsInHanded {} Try.checked os 4 .any (Rows.proxyAnswersSpec.pre6 enc Try.prog Try.f4 Rows.proxyAnswersRow.domain false) (Rows.proxyAnswersSpec.post enc Try.prog Try.f4 false true false false) := by
  refine returnsInHanded_of_change (C := Try.checked) own_ started (by kernel_rfl) Try.func4
    (ChangeSpec.witness6 (enc := enc) (C := Try.checked) false ⟨#[], #[(Value.agg #[(Value.int IntKind.u64 0), (Value.int IntKind.u64 0), (Value.int IntKind.u64 0), (Value.int IntKind.u64 0), (Value.int IntKind.i64 0)]), (Value.agg #[(Value.int IntKind.u32 0), (Value.int IntKind.u32 0), (Value.int IntKind.u16 0), (Value.int IntKind.u16 0), (Value.int IntKind.u8 0)]), (Value.agg #[(Value.int IntKind.u16 0), (Value.int IntKind.u16 0), (Value.int IntKind.u32 0), (Value.int IntKind.u32 0), (Value.int IntKind.u8 0), (Value.int IntKind.u8 0), (Value.int IntKind.u16 0), (Value.int IntKind.u16 0), (Value.slice none 0 0), (Value.slice none 0 0)]), (Value.agg #[(Value.int IntKind.u64 0), (Value.int IntKind.u64 0)])], []⟩ 8 (by kernel_rfl) (by kernel_rfl) (by kernel_rfl) (by kernel_rfl)) ?_
  intro W base args ds gs before hval0 hW hcnd _
  have hval : ∀ (j : Nat) t v, Try.f4.params[j]? = some t → args[j]? = some v → Value.okWide Try.prog W .any base t v := hval0
  have hW' := hW
  obtain ⟨p, q, hA0, hV, rfl, hfz, hnd⟩ := hW
  have hA : DataW.TrodAll enc Try.prog W 0 (fun _ => true) true Try.f4.params.toList args.toList ds p := hA0
  rw [Try.params4] at hA hval
  obtain ⟨args⟩ := args
  simp only at hA
  obtain ⟨v0, vs0, d0, ds0, p0, q0, e0a, e0b, e0c, t0, r0⟩ := trodAll_cons hA
  obtain ⟨v1, vs1, d1, ds1, p1, q1, e1a, e1b, e1c, t1, r1⟩ := trodAll_cons r0
  obtain ⟨v2, vs2, d2, ds2, p2, q2, e2a, e2b, e2c, t2, r2⟩ := trodAll_cons r1
  obtain ⟨v3, vs3, d3, ds3, p3, q3, e3a, e3b, e3c, t3, r3⟩ := trodAll_cons r2
  subst e0a e0b e0c
  subst e1a e1b e1c
  subst e2a e2b e2c
  subst e3a e3b e3c
  obtain ⟨rfl, rfl, rfl⟩ := trodAll_nil r3
  obtain ⟨rfl, rfl⟩ := trodVars_none hV
  have hlt := hW'.lt
  have k0 : Value.okWide Try.prog W .any base 26 v0 := hval 0 _ v0 rfl rfl
  obtain ⟨k, w0, hk⟩ := Dec.argA k0 t0 ((.cons (off := 0) (sz := 2) (by rfl) (by kernel_rfl) (Dec.struct (t := 24) (.cons (off := 0) (sz := 1) (by rfl) (by kernel_rfl) (Dec.int (t := 22) (k := .u64)) (.cons (off := 1) (sz := 1) (by rfl) (by kernel_rfl) (Dec.int (t := 22) (k := .u64)) .nil)) (by kernel_rfl)) (.cons (off := 2) (sz := 2) (by rfl) (by kernel_rfl) (Dec.struct (t := 24) (.cons (off := 0) (sz := 1) (by rfl) (by kernel_rfl) (Dec.int (t := 22) (k := .u64)) (.cons (off := 1) (sz := 1) (by rfl) (by kernel_rfl) (Dec.int (t := 22) (k := .u64)) .nil)) (by kernel_rfl)) (.cons (off := 4) (sz := 1) (by rfl) (by kernel_rfl) (Dec.int (t := 3) (k := .i64)) .nil)))) (by kernel_rfl)
  have k1 : Value.okWide Try.prog W .any base 30 v1 := hval 1 _ v1 rfl rfl
  obtain ⟨f, w1, hf⟩ := Dec.argA k1 t1 ((.cons (off := 0) (sz := 1) (by rfl) (by kernel_rfl) (Dec.int (t := 27) (k := .u32)) (.cons (off := 1) (sz := 1) (by rfl) (by kernel_rfl) (Dec.int (t := 27) (k := .u32)) (.cons (off := 2) (sz := 1) (by rfl) (by kernel_rfl) (Dec.int (t := 28) (k := .u16)) (.cons (off := 3) (sz := 1) (by rfl) (by kernel_rfl) (Dec.int (t := 28) (k := .u16)) (.cons (off := 4) (sz := 1) (by rfl) (by kernel_rfl) (Dec.int (t := 5) (k := .u8)) .nil)))))) (by kernel_rfl)
  have k2 : Value.okWide Try.prog W .any base 33 v2 := hval 2 _ v2 rfl rfl
  obtain ⟨s, w2, hs⟩ := Dec.argA k2 t2 ((.cons (off := 0) (sz := 1) (by rfl) (by kernel_rfl) (Dec.int (t := 28) (k := .u16)) (.cons (off := 1) (sz := 1) (by rfl) (by kernel_rfl) (Dec.int (t := 28) (k := .u16)) (.cons (off := 2) (sz := 1) (by rfl) (by kernel_rfl) (Dec.int (t := 27) (k := .u32)) (.cons (off := 3) (sz := 1) (by rfl) (by kernel_rfl) (Dec.int (t := 27) (k := .u32)) (.cons (off := 4) (sz := 1) (by rfl) (by kernel_rfl) (Dec.int (t := 5) (k := .u8)) (.cons (off := 5) (sz := 1) (by rfl) (by kernel_rfl) (Dec.int (t := 5) (k := .u8)) (.cons (off := 6) (sz := 1) (by rfl) (by kernel_rfl) (Dec.int (t := 28) (k := .u16)) (.cons (off := 7) (sz := 1) (by rfl) (by kernel_rfl) (Dec.int (t := 28) (k := .u16)) (.cons (off := 8) (sz := 1) (by rfl) (by kernel_rfl) (Dec.slice (t := 31) (e := 5) (sz := 1) (Dec.int (t := 5) (k := .u8)) (by decide)) (.cons (off := 9) (sz := 1) (by rfl) (by kernel_rfl) (Dec.slice (t := 31) (e := 5) (sz := 1) (Dec.int (t := 5) (k := .u8)) (by decide)) .nil))))))))))) (by kernel_rfl)
  have k3 : Value.okWide Try.prog W .any base 24 v3 := hval 3 _ v3 rfl rfl
  obtain ⟨q, w3, hq⟩ := Dec.argA k3 t3 ((.cons (off := 0) (sz := 1) (by rfl) (by kernel_rfl) (Dec.int (t := 22) (k := .u64)) (.cons (off := 1) (sz := 1) (by rfl) (by kernel_rfl) (Dec.int (t := 22) (k := .u64)) .nil))) (by kernel_rfl)
  have htri : Tri Try.prog W 4 [v0, v1, v2, v3] [] (fun v _ => v = .bool true) := by
    subst w0 w1 w2 w3
    exact answers_law W [] k.1.1 k.1.2.1 k.2.1.1 k.2.1.2.1 k.2.2.1 f ⟨hf.1, hf.2.1, hf.2.2.1, hf.2.2.2.1, hf.2.2.2.2.1⟩ s ⟨hs.2.2.1, hs.2.2.2.1, hs.2.2.2.2.2.1, hs.2.2.2.2.2.2.2.2.1.src1, hs.2.2.2.2.2.2.2.2.1.2.2.2.1, hs.2.2.2.2.2.2.2.2.1.2.1, hs.2.2.2.2.2.2.2.2.2.1.src1, hs.2.2.2.2.2.2.2.2.2.1.2.1⟩ hk.2.2.1 q.1 q.2.1
  clear w0 w1 w2 w3
  refine (htri.run W (Models.start W)).mono fun e W' ⟨v, h2, he, m2, hv⟩ => ?_
  subst he; subst hv
  have hb := m2.below
  refine ⟨_, rfl, post_of_below (pa := (p0 ++ (p1 ++ (p2 ++ (p3 ++ ([])))))) (pv := []) hW' (fun _ _ _ => trodAll_mk1 (shut_bool (Try.underlying4) true)) (fun sp hsp => ?_) (fun _ _ => rfl) rfl hb (ok_one (t := 4) (by kernel_rfl) rfl ?_)⟩
  · refine TAcons (WideElems.Trod_stays laidOut_ (by kernel_rfl) (of_decide_eq_true (by kernel_rfl)) t0 (fun x hx => hb.same (hlt x (by simp [hx]))) (fun x hx => hsp x (by simp [hx]))) ?_
    refine TAcons (WideElems.Trod_stays laidOut_ (by kernel_rfl) (of_decide_eq_true (by kernel_rfl)) t1 (fun x hx => hb.same (hlt x (by simp [hx]))) (fun x hx => hsp x (by simp [hx]))) ?_
    refine TAcons (WideElems.Trod_stays laidOut_ (by kernel_rfl) (of_decide_eq_true (by kernel_rfl)) t2 (fun x hx => hb.same (hlt x (by simp [hx]))) (fun x hx => hsp x (by simp [hx]))) ?_
    refine TAcons (WideElems.Trod_stays laidOut_ (by kernel_rfl) (of_decide_eq_true (by kernel_rfl)) t3 (fun x hx => hb.same (hlt x (by simp [hx]))) (fun x hx => hsp x (by simp [hx]))) ?_
    rfl
  · exact okBool Try.underlying4

theorem proxyAnswers_holds : Rows.ProxyAnswersSaid :=
  OpenClaim.holds_of_wide 4 Try.f4 rfl rfl rfl rfl rfl rfl rfl ⟨rfl, rfl, rfl, rfl, rfl⟩ rfl rfl rfl rfl rfl (by kernel_rfl) Try.func4 (by kernel_rfl)
    (of_decide_eq_true (by kernel_rfl)) (by unfold Func.isWrapper; first | (rw [if_pos (by decide +kernel)]; kernel_rfl) | (rw [if_neg (by decide +kernel)]; exact ⟨rfl, rfl⟩))
    (fun os started H enc _ => proxyAnswers_lifted os started H enc)

end Go.Proofs.Ytagfegkpgdaimaa
