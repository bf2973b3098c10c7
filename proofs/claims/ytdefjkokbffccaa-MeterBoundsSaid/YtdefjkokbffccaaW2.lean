/- Walks through the code: what each function that is named here gives back, from any memory that holds its arguments. Written by a program of the claim's author, out of the program's form in Lean. -/
import Derived.Test.YtdefjkokbffccaaW1
set_option linter.unusedSimpArgs false
set_option linter.unusedVariables false
namespace Go.Proofs.Ytdefjkokbffccaa
open Go.Sep Go.Sep.Meter Go.RowKit Go.WideShapes Go.ChangeShapes
theorem own_ : ownKnob Try.prog.godebug = none := by kernel_rfl
theorem laidOut_ : laidOutB Try.prog = true := by kernel_rfl

theorem new_spec (B : World) (h : Own) (a b c : Int) : Tri Try.prog B 7 [.int .i64 a, .int .i64 b, .int .i64 c] h fun v h' => ∃ p bm, h' = (p, Blk.cells [.int .i64 ((newM a b c)).size, .int .i64 ((newM a b c)).rate, .int .i64 ((newM a b c)).burst, .int .i64 ((newM a b c)).now, .map (some bm)] 48 (0, 0)) :: (bm, mapB .u32 evB ((newM a b c)).l ((newM a b c)).c) :: h ∧ v = .pointer (some ⟨p, 0, none⟩) := by
  refine Tri.enter (n := 19) Try.func7 rfl rfl rfl ?_
  simp only [argsE, Nat.reduceAdd]
  try dsimp only [argsE]
  refine AK.seq ?_
  refine AK.region ?_
  refine AO.val (RV.assign rfl) (.none rfl) rfl ?_
  refine AO.nil ?_
  refine AK.seq ?_
  refine AK.region ?_
  refine AO.val (RV.move rfl) (.none rfl) rfl ?_
  refine AO.val (RV.max2 rfl rfl) (.none rfl) rfl ?_
  refine AO.val (RV.min2 rfl rfl) (.none rfl) rfl ?_
  refine AO.val (RV.move rfl) (.none rfl) rfl ?_
  refine AO.val (RV.max2 rfl rfl) (.none rfl) rfl ?_
  refine AO.val (RV.min2 rfl rfl) (.none rfl) rfl ?_
  refine AO.val (RV.move rfl) (.none rfl) rfl ?_
  refine AO.val (RV.max2 rfl rfl) (.none rfl) rfl ?_
  refine AO.val (RV.min2 rfl rfl) (.none rfl) rfl ?_
  refine AO.eff (EF.makeMap (α := Bk) .u32 (evB)) (.none rfl) rfl ?_
  rintro _ _ ⟨b16, hf16, rfl, rfl⟩
  refine AO.val (RV.build rfl (.cons rfl rfl rfl rfl (.cons rfl rfl rfl rfl (.cons rfl rfl rfl rfl (.cons rfl rfl rfl rfl .nil))))) (.none rfl) rfl ?_
  refine AO.eff (EF.box rfl rfl) (.none rfl) rfl ?_
  rintro _ _ ⟨b18, hf18, rfl, rfl⟩
  refine AO.val (RV.assign rfl) (.none rfl) rfl ?_
  refine AO.nil ?_
  -- at 
  refine AK.ret (h' := (b18, Blk.cells [.int .i64 ((newM a b c)).size, .int .i64 ((newM a b c)).rate, .int .i64 ((newM a b c)).burst, .int .i64 ((newM a b c)).now, .map (some b16)] 48 (0, 0)) :: (b16, mapB .u32 evB ((newM a b c)).l ((newM a b c)).c) :: h) Try.func7 (.tmp rfl .nil) ?_ (List.Sublist.refl _)
  exact ⟨b18, b16, rfl, rfl⟩

set_option maxHeartbeats 1000000 in
theorem lives_spec (B : World) (h : Own)  : Tri Try.prog B 11 [] h fun v h' => v = .bool true := by
  have i0 : MI (newM 2 1 2) := new_mi 2 1 2
  have i1 : MI (nextM (newM 2 1 2) 5 0 (newM 2 1 2).l (newM 2 1 2).c) := next_mi i0 5 0 _ _ (fun _ _ h => h)
  have i2 : MI (nextM (nextM (newM 2 1 2) 5 0 (newM 2 1 2).l (newM 2 1 2).c) 5 0 (nextM (newM 2 1 2) 5 0 (newM 2 1 2).l (newM 2 1 2).c).l (nextM (newM 2 1 2) 5 0 (newM 2 1 2).l (newM 2 1 2).c).c) := next_mi i1 5 0 _ _ (fun _ _ h => h)
  have i3 : MI (nextM (nextM (nextM (newM 2 1 2) 5 0 (newM 2 1 2).l (newM 2 1 2).c) 5 0 (nextM (newM 2 1 2) 5 0 (newM 2 1 2).l (newM 2 1 2).c).l (nextM (newM 2 1 2) 5 0 (newM 2 1 2).l (newM 2 1 2).c).c) 5 0 (nextM (nextM (newM 2 1 2) 5 0 (newM 2 1 2).l (newM 2 1 2).c) 5 0 (nextM (newM 2 1 2) 5 0 (newM 2 1 2).l (newM 2 1 2).c).l (nextM (newM 2 1 2) 5 0 (newM 2 1 2).l (newM 2 1 2).c).c).l (nextM (nextM (newM 2 1 2) 5 0 (newM 2 1 2).l (newM 2 1 2).c) 5 0 (nextM (newM 2 1 2) 5 0 (newM 2 1 2).l (newM 2 1 2).c).l (nextM (newM 2 1 2) 5 0 (newM 2 1 2).l (newM 2 1 2).c).c).c) := next_mi i2 5 0 _ _ (fun _ _ h => h)
  have i4 : MI (nextM (nextM (nextM (nextM (newM 2 1 2) 5 0 (newM 2 1 2).l (newM 2 1 2).c) 5 0 (nextM (newM 2 1 2) 5 0 (newM 2 1 2).l (newM 2 1 2).c).l (nextM (newM 2 1 2) 5 0 (newM 2 1 2).l (newM 2 1 2).c).c) 5 0 (nextM (nextM (newM 2 1 2) 5 0 (newM 2 1 2).l (newM 2 1 2).c) 5 0 (nextM (newM 2 1 2) 5 0 (newM 2 1 2).l (newM 2 1 2).c).l (nextM (newM 2 1 2) 5 0 (newM 2 1 2).l (newM 2 1 2).c).c).l (nextM (nextM (newM 2 1 2) 5 0 (newM 2 1 2).l (newM 2 1 2).c) 5 0 (nextM (newM 2 1 2) 5 0 (newM 2 1 2).l (newM 2 1 2).c).l (nextM (newM 2 1 2) 5 0 (newM 2 1 2).l (newM 2 1 2).c).c).c) 5 1 (nextM (nextM (nextM (newM 2 1 2) 5 0 (newM 2 1 2).l (newM 2 1 2).c) 5 0 (nextM (newM 2 1 2) 5 0 (newM 2 1 2).l (newM 2 1 2).c).l (nextM (newM 2 1 2) 5 0 (newM 2 1 2).l (newM 2 1 2).c).c) 5 0 (nextM (nextM (newM 2 1 2) 5 0 (newM 2 1 2).l (newM 2 1 2).c) 5 0 (nextM (newM 2 1 2) 5 0 (newM 2 1 2).l (newM 2 1 2).c).l (nextM (newM 2 1 2) 5 0 (newM 2 1 2).l (newM 2 1 2).c).c).l (nextM (nextM (newM 2 1 2) 5 0 (newM 2 1 2).l (newM 2 1 2).c) 5 0 (nextM (newM 2 1 2) 5 0 (newM 2 1 2).l (newM 2 1 2).c).l (nextM (newM 2 1 2) 5 0 (newM 2 1 2).l (newM 2 1 2).c).c).c).l (nextM (nextM (nextM (newM 2 1 2) 5 0 (newM 2 1 2).l (newM 2 1 2).c) 5 0 (nextM (newM 2 1 2) 5 0 (newM 2 1 2).l (newM 2 1 2).c).l (nextM (newM 2 1 2) 5 0 (newM 2 1 2).l (newM 2 1 2).c).c) 5 0 (nextM (nextM (newM 2 1 2) 5 0 (newM 2 1 2).l (newM 2 1 2).c) 5 0 (nextM (newM 2 1 2) 5 0 (newM 2 1 2).l (newM 2 1 2).c).l (nextM (newM 2 1 2) 5 0 (newM 2 1 2).l (newM 2 1 2).c).c).l (nextM (nextM (newM 2 1 2) 5 0 (newM 2 1 2).l (newM 2 1 2).c) 5 0 (nextM (newM 2 1 2) 5 0 (newM 2 1 2).l (newM 2 1 2).c).l (nextM (newM 2 1 2) 5 0 (newM 2 1 2).l (newM 2 1 2).c).c).c).c) := next_mi i3 5 1 _ _ (fun _ _ h => h)
  have e0 : decide (0 < leftM (newM 2 1 2) 5 0) = true := by decide +kernel
  have e1 : decide (0 < leftM (nextM (newM 2 1 2) 5 0 (newM 2 1 2).l (newM 2 1 2).c) 5 0) = true := by decide +kernel
  have e2 : decide (0 < leftM (nextM (nextM (newM 2 1 2) 5 0 (newM 2 1 2).l (newM 2 1 2).c) 5 0 (nextM (newM 2 1 2) 5 0 (newM 2 1 2).l (newM 2 1 2).c).l (nextM (newM 2 1 2) 5 0 (newM 2 1 2).l (newM 2 1 2).c).c) 5 0) = false := by decide +kernel
  have e3 : decide (0 < leftM (nextM (nextM (nextM (newM 2 1 2) 5 0 (newM 2 1 2).l (newM 2 1 2).c) 5 0 (nextM (newM 2 1 2) 5 0 (newM 2 1 2).l (newM 2 1 2).c).l (nextM (newM 2 1 2) 5 0 (newM 2 1 2).l (newM 2 1 2).c).c) 5 0 (nextM (nextM (newM 2 1 2) 5 0 (newM 2 1 2).l (newM 2 1 2).c) 5 0 (nextM (newM 2 1 2) 5 0 (newM 2 1 2).l (newM 2 1 2).c).l (nextM (newM 2 1 2) 5 0 (newM 2 1 2).l (newM 2 1 2).c).c).l (nextM (nextM (newM 2 1 2) 5 0 (newM 2 1 2).l (newM 2 1 2).c) 5 0 (nextM (newM 2 1 2) 5 0 (newM 2 1 2).l (newM 2 1 2).c).l (nextM (newM 2 1 2) 5 0 (newM 2 1 2).l (newM 2 1 2).c).c).c) 5 1) = true := by decide +kernel
  have e4 : (nextM (nextM (nextM (nextM (newM 2 1 2) 5 0 (newM 2 1 2).l (newM 2 1 2).c) 5 0 (nextM (newM 2 1 2) 5 0 (newM 2 1 2).l (newM 2 1 2).c).l (nextM (newM 2 1 2) 5 0 (newM 2 1 2).l (newM 2 1 2).c).c) 5 0 (nextM (nextM (newM 2 1 2) 5 0 (newM 2 1 2).l (newM 2 1 2).c) 5 0 (nextM (newM 2 1 2) 5 0 (newM 2 1 2).l (newM 2 1 2).c).l (nextM (newM 2 1 2) 5 0 (newM 2 1 2).l (newM 2 1 2).c).c).l (nextM (nextM (newM 2 1 2) 5 0 (newM 2 1 2).l (newM 2 1 2).c) 5 0 (nextM (newM 2 1 2) 5 0 (newM 2 1 2).l (newM 2 1 2).c).l (nextM (newM 2 1 2) 5 0 (newM 2 1 2).l (newM 2 1 2).c).c).c) 5 1 (nextM (nextM (nextM (newM 2 1 2) 5 0 (newM 2 1 2).l (newM 2 1 2).c) 5 0 (nextM (newM 2 1 2) 5 0 (newM 2 1 2).l (newM 2 1 2).c).l (nextM (newM 2 1 2) 5 0 (newM 2 1 2).l (newM 2 1 2).c).c) 5 0 (nextM (nextM (newM 2 1 2) 5 0 (newM 2 1 2).l (newM 2 1 2).c) 5 0 (nextM (newM 2 1 2) 5 0 (newM 2 1 2).l (newM 2 1 2).c).l (nextM (newM 2 1 2) 5 0 (newM 2 1 2).l (newM 2 1 2).c).c).l (nextM (nextM (newM 2 1 2) 5 0 (newM 2 1 2).l (newM 2 1 2).c) 5 0 (nextM (newM 2 1 2) 5 0 (newM 2 1 2).l (newM 2 1 2).c).l (nextM (newM 2 1 2) 5 0 (newM 2 1 2).l (newM 2 1 2).c).c).c).l (nextM (nextM (nextM (newM 2 1 2) 5 0 (newM 2 1 2).l (newM 2 1 2).c) 5 0 (nextM (newM 2 1 2) 5 0 (newM 2 1 2).l (newM 2 1 2).c).l (nextM (newM 2 1 2) 5 0 (newM 2 1 2).l (newM 2 1 2).c).c) 5 0 (nextM (nextM (newM 2 1 2) 5 0 (newM 2 1 2).l (newM 2 1 2).c) 5 0 (nextM (newM 2 1 2) 5 0 (newM 2 1 2).l (newM 2 1 2).c).l (nextM (newM 2 1 2) 5 0 (newM 2 1 2).l (newM 2 1 2).c).c).l (nextM (nextM (newM 2 1 2) 5 0 (newM 2 1 2).l (newM 2 1 2).c) 5 0 (nextM (newM 2 1 2) 5 0 (newM 2 1 2).l (newM 2 1 2).c).l (nextM (newM 2 1 2) 5 0 (newM 2 1 2).l (newM 2 1 2).c).c).c).c).l.length = 1 := by decide +kernel
  have r0 : (findT (newM 2 1 2).l 5).isSome = true ∨ ((newM 2 1 2).l.length : Int) < (newM 2 1 2).size := by decide +kernel
  have r1 : (findT (nextM (newM 2 1 2) 5 0 (newM 2 1 2).l (newM 2 1 2).c).l 5).isSome = true ∨ ((nextM (newM 2 1 2) 5 0 (newM 2 1 2).l (newM 2 1 2).c).l.length : Int) < (nextM (newM 2 1 2) 5 0 (newM 2 1 2).l (newM 2 1 2).c).size := by decide +kernel
  have r2 : (findT (nextM (nextM (newM 2 1 2) 5 0 (newM 2 1 2).l (newM 2 1 2).c) 5 0 (nextM (newM 2 1 2) 5 0 (newM 2 1 2).l (newM 2 1 2).c).l (nextM (newM 2 1 2) 5 0 (newM 2 1 2).l (newM 2 1 2).c).c).l 5).isSome = true ∨ ((nextM (nextM (newM 2 1 2) 5 0 (newM 2 1 2).l (newM 2 1 2).c) 5 0 (nextM (newM 2 1 2) 5 0 (newM 2 1 2).l (newM 2 1 2).c).l (nextM (newM 2 1 2) 5 0 (newM 2 1 2).l (newM 2 1 2).c).c).l.length : Int) < (nextM (nextM (newM 2 1 2) 5 0 (newM 2 1 2).l (newM 2 1 2).c) 5 0 (nextM (newM 2 1 2) 5 0 (newM 2 1 2).l (newM 2 1 2).c).l (nextM (newM 2 1 2) 5 0 (newM 2 1 2).l (newM 2 1 2).c).c).size := by decide +kernel
  have r3 : (findT (nextM (nextM (nextM (newM 2 1 2) 5 0 (newM 2 1 2).l (newM 2 1 2).c) 5 0 (nextM (newM 2 1 2) 5 0 (newM 2 1 2).l (newM 2 1 2).c).l (nextM (newM 2 1 2) 5 0 (newM 2 1 2).l (newM 2 1 2).c).c) 5 0 (nextM (nextM (newM 2 1 2) 5 0 (newM 2 1 2).l (newM 2 1 2).c) 5 0 (nextM (newM 2 1 2) 5 0 (newM 2 1 2).l (newM 2 1 2).c).l (nextM (newM 2 1 2) 5 0 (newM 2 1 2).l (newM 2 1 2).c).c).l (nextM (nextM (newM 2 1 2) 5 0 (newM 2 1 2).l (newM 2 1 2).c) 5 0 (nextM (newM 2 1 2) 5 0 (newM 2 1 2).l (newM 2 1 2).c).l (nextM (newM 2 1 2) 5 0 (newM 2 1 2).l (newM 2 1 2).c).c).c).l 5).isSome = true ∨ ((nextM (nextM (nextM (newM 2 1 2) 5 0 (newM 2 1 2).l (newM 2 1 2).c) 5 0 (nextM (newM 2 1 2) 5 0 (newM 2 1 2).l (newM 2 1 2).c).l (nextM (newM 2 1 2) 5 0 (newM 2 1 2).l (newM 2 1 2).c).c) 5 0 (nextM (nextM (newM 2 1 2) 5 0 (newM 2 1 2).l (newM 2 1 2).c) 5 0 (nextM (newM 2 1 2) 5 0 (newM 2 1 2).l (newM 2 1 2).c).l (nextM (newM 2 1 2) 5 0 (newM 2 1 2).l (newM 2 1 2).c).c).l (nextM (nextM (newM 2 1 2) 5 0 (newM 2 1 2).l (newM 2 1 2).c) 5 0 (nextM (newM 2 1 2) 5 0 (newM 2 1 2).l (newM 2 1 2).c).l (nextM (newM 2 1 2) 5 0 (newM 2 1 2).l (newM 2 1 2).c).c).c).l.length : Int) < (nextM (nextM (nextM (newM 2 1 2) 5 0 (newM 2 1 2).l (newM 2 1 2).c) 5 0 (nextM (newM 2 1 2) 5 0 (newM 2 1 2).l (newM 2 1 2).c).l (nextM (newM 2 1 2) 5 0 (newM 2 1 2).l (newM 2 1 2).c).c) 5 0 (nextM (nextM (newM 2 1 2) 5 0 (newM 2 1 2).l (newM 2 1 2).c) 5 0 (nextM (newM 2 1 2) 5 0 (newM 2 1 2).l (newM 2 1 2).c).l (nextM (newM 2 1 2) 5 0 (newM 2 1 2).l (newM 2 1 2).c).c).l (nextM (nextM (newM 2 1 2) 5 0 (newM 2 1 2).l (newM 2 1 2).c) 5 0 (nextM (newM 2 1 2) 5 0 (newM 2 1 2).l (newM 2 1 2).c).l (nextM (newM 2 1 2) 5 0 (newM 2 1 2).l (newM 2 1 2).c).c).c).size := by decide +kernel
  refine Tri.enter (n := 23) Try.func11 rfl rfl rfl ?_
  try dsimp only [argsE]
  refine AK.seq ?_
  refine AK.region ?_
  refine AO.val (RV.assign rfl) (.none rfl) rfl ?_
  refine AO.nil ?_
  refine AK.seq ?_
  refine AK.region ?_
  refine AO.eff (EF.callF rfl (new_spec B _ 2 1 2)) (.none rfl) rfl ?_
  rintro _ _ ⟨p, bm, rfl, rfl⟩
  refine AO.val (RV.assign rfl) (.none rfl) rfl ?_
  refine AO.nil ?_
  refine AK.seq ?_
  refine AK.region ?_
  refine AO.val (RV.move rfl) (.none rfl) rfl ?_
  refine AO.eff (EF.callF rfl (allow_spec B [] _ p bm (newM 2 1 2) i0 5 0 r0)) (.none rfl) rfl ?_
  rintro _ _ ⟨rfl, rfl⟩
  simp only [List.nil_append]
  rw [e0]
  refine AO.val (RV.move rfl) (.none rfl) rfl ?_
  refine AO.val (RV.move rfl) (.some rfl rfl rfl rfl) rfl ?_
  refine AO.eff (EF.callF rfl (allow_spec B [] _ p bm (nextM (newM 2 1 2) 5 0 (newM 2 1 2).l (newM 2 1 2).c) i1 5 0 r1)) (.some rfl rfl rfl rfl) rfl ?_
  rintro _ _ ⟨rfl, rfl⟩
  simp only [List.nil_append]
  rw [e1]
  refine AO.val (RV.pickT rfl rfl) (.none rfl) rfl ?_
  refine AO.val (RV.move rfl) (.none rfl) rfl ?_
  refine AO.val (RV.move rfl) (.some rfl rfl rfl rfl) rfl ?_
  refine AO.eff (EF.callF rfl (allow_spec B [] _ p bm (nextM (nextM (newM 2 1 2) 5 0 (newM 2 1 2).l (newM 2 1 2).c) 5 0 (nextM (newM 2 1 2) 5 0 (newM 2 1 2).l (newM 2 1 2).c).l (nextM (newM 2 1 2) 5 0 (newM 2 1 2).l (newM 2 1 2).c).c) i2 5 0 r2)) (.some rfl rfl rfl rfl) rfl ?_
  rintro _ _ ⟨rfl, rfl⟩
  simp only [List.nil_append]
  rw [e2]
  refine AO.val (RV.not rfl) (.some rfl rfl rfl rfl) rfl ?_
  refine AO.val (RV.pickT rfl rfl) (.none rfl) rfl ?_
  refine AO.val (RV.move rfl) (.none rfl) rfl ?_
  refine AO.val (RV.move rfl) (.some rfl rfl rfl rfl) rfl ?_
  refine AO.eff (EF.callF rfl (allow_spec B [] _ p bm (nextM (nextM (nextM (newM 2 1 2) 5 0 (newM 2 1 2).l (newM 2 1 2).c) 5 0 (nextM (newM 2 1 2) 5 0 (newM 2 1 2).l (newM 2 1 2).c).l (nextM (newM 2 1 2) 5 0 (newM 2 1 2).l (newM 2 1 2).c).c) 5 0 (nextM (nextM (newM 2 1 2) 5 0 (newM 2 1 2).l (newM 2 1 2).c) 5 0 (nextM (newM 2 1 2) 5 0 (newM 2 1 2).l (newM 2 1 2).c).l (nextM (newM 2 1 2) 5 0 (newM 2 1 2).l (newM 2 1 2).c).c).l (nextM (nextM (newM 2 1 2) 5 0 (newM 2 1 2).l (newM 2 1 2).c) 5 0 (nextM (newM 2 1 2) 5 0 (newM 2 1 2).l (newM 2 1 2).c).l (nextM (newM 2 1 2) 5 0 (newM 2 1 2).l (newM 2 1 2).c).c).c) i3 5 1 r3)) (.some rfl rfl rfl rfl) rfl ?_
  rintro _ _ ⟨rfl, rfl⟩
  simp only [List.nil_append]
  rw [e3]
  refine AO.val (RV.pickT rfl rfl) (.none rfl) rfl ?_
  refine AO.val (RV.move rfl) (.none rfl) rfl ?_
  refine AO.val (RV.move rfl) (.some rfl rfl rfl rfl) rfl ?_
  refine AO.eff (EF.callF rfl (len_spec B [] _ p bm (nextM (nextM (nextM (nextM (newM 2 1 2) 5 0 (newM 2 1 2).l (newM 2 1 2).c) 5 0 (nextM (newM 2 1 2) 5 0 (newM 2 1 2).l (newM 2 1 2).c).l (nextM (newM 2 1 2) 5 0 (newM 2 1 2).l (newM 2 1 2).c).c) 5 0 (nextM (nextM (newM 2 1 2) 5 0 (newM 2 1 2).l (newM 2 1 2).c) 5 0 (nextM (newM 2 1 2) 5 0 (newM 2 1 2).l (newM 2 1 2).c).l (nextM (newM 2 1 2) 5 0 (newM 2 1 2).l (newM 2 1 2).c).c).l (nextM (nextM (newM 2 1 2) 5 0 (newM 2 1 2).l (newM 2 1 2).c) 5 0 (nextM (newM 2 1 2) 5 0 (newM 2 1 2).l (newM 2 1 2).c).l (nextM (newM 2 1 2) 5 0 (newM 2 1 2).l (newM 2 1 2).c).c).c) 5 1 (nextM (nextM (nextM (newM 2 1 2) 5 0 (newM 2 1 2).l (newM 2 1 2).c) 5 0 (nextM (newM 2 1 2) 5 0 (newM 2 1 2).l (newM 2 1 2).c).l (nextM (newM 2 1 2) 5 0 (newM 2 1 2).l (newM 2 1 2).c).c) 5 0 (nextM (nextM (newM 2 1 2) 5 0 (newM 2 1 2).l (newM 2 1 2).c) 5 0 (nextM (newM 2 1 2) 5 0 (newM 2 1 2).l (newM 2 1 2).c).l (nextM (newM 2 1 2) 5 0 (newM 2 1 2).l (newM 2 1 2).c).c).l (nextM (nextM (newM 2 1 2) 5 0 (newM 2 1 2).l (newM 2 1 2).c) 5 0 (nextM (newM 2 1 2) 5 0 (newM 2 1 2).l (newM 2 1 2).c).l (nextM (newM 2 1 2) 5 0 (newM 2 1 2).l (newM 2 1 2).c).c).c).l (nextM (nextM (nextM (newM 2 1 2) 5 0 (newM 2 1 2).l (newM 2 1 2).c) 5 0 (nextM (newM 2 1 2) 5 0 (newM 2 1 2).l (newM 2 1 2).c).l (nextM (newM 2 1 2) 5 0 (newM 2 1 2).l (newM 2 1 2).c).c) 5 0 (nextM (nextM (newM 2 1 2) 5 0 (newM 2 1 2).l (newM 2 1 2).c) 5 0 (nextM (newM 2 1 2) 5 0 (newM 2 1 2).l (newM 2 1 2).c).l (nextM (newM 2 1 2) 5 0 (newM 2 1 2).l (newM 2 1 2).c).c).l (nextM (nextM (newM 2 1 2) 5 0 (newM 2 1 2).l (newM 2 1 2).c) 5 0 (nextM (newM 2 1 2) 5 0 (newM 2 1 2).l (newM 2 1 2).c).l (nextM (newM 2 1 2) 5 0 (newM 2 1 2).l (newM 2 1 2).c).c).c).c) i4)) (.some rfl rfl rfl rfl) rfl ?_
  rintro _ _ ⟨rfl, rfl⟩
  rw [e4]
  refine AO.val ((RV.eql rfl rfl).to (v' := .bool true) (by rfl)) (.some rfl rfl rfl rfl) rfl ?_
  refine AO.val (RV.pickT rfl rfl) (.none rfl) rfl ?_
  refine AO.val (RV.assign rfl) (.none rfl) rfl ?_
  refine AO.nil ?_
  -- at 
  refine AK.ret (h' := []) Try.func11 (.tmp rfl .nil) ?_ (List.nil_sublist _)
  rfl

theorem len_none (B : World) (h : Own)  : Tri Try.prog B 10 [.pointer none] h fun v h' => h = h' ∧ v = .int .i64 0 := by
  refine Tri.enter (n := 10) Try.func10 rfl rfl rfl ?_
  simp only [argsE, Nat.reduceAdd]
  try dsimp only [argsE]
  refine AK.seq ?_
  refine AK.region ?_
  refine AO.val (RV.assign rfl) (.none rfl) rfl ?_
  refine AO.nil ?_
  refine AK.seq ?_
  refine AK.seq ?_
  refine AK.region ?_
  refine AO.val (RV.move rfl) (.none rfl) rfl ?_
  refine AO.val (RV.eqlP rfl rfl) (.none rfl) rfl ?_
  refine AO.nil ?_
  refine AK.condT rfl ?_
  refine AK.seq ?_
  refine AK.region ?_
  refine AO.val (RV.assign rfl) (.none rfl) rfl ?_
  refine AO.nil ?_
  -- at 
  refine AK.ret (h' := h) Try.func10 (.tmp rfl .nil) ?_ (by first | exact SubO.sub | exact List.Sublist.refl _ | exact .cons _ (List.Sublist.refl _) | exact .cons _ (.cons _ (List.Sublist.refl _)) | exact .cons _ (.cons _ (.cons _ (List.Sublist.refl _))))
  exact ⟨rfl, rfl⟩

theorem now_none (B : World) (h : Own)  : Tri Try.prog B 9 [.pointer none] h fun v h' => h = h' ∧ v = .int .i64 0 := by
  refine Tri.enter (n := 9) Try.func9 rfl rfl rfl ?_
  simp only [argsE, Nat.reduceAdd]
  try dsimp only [argsE]
  refine AK.seq ?_
  refine AK.region ?_
  refine AO.val (RV.assign rfl) (.none rfl) rfl ?_
  refine AO.nil ?_
  refine AK.seq ?_
  refine AK.seq ?_
  refine AK.region ?_
  refine AO.val (RV.move rfl) (.none rfl) rfl ?_
  refine AO.val (RV.eqlP rfl rfl) (.none rfl) rfl ?_
  refine AO.nil ?_
  refine AK.condT rfl ?_
  refine AK.seq ?_
  refine AK.region ?_
  refine AO.val (RV.assign rfl) (.none rfl) rfl ?_
  refine AO.nil ?_
  -- at 
  refine AK.ret (h' := h) Try.func9 (.tmp rfl .nil) ?_ (by first | exact SubO.sub | exact List.Sublist.refl _ | exact .cons _ (List.Sublist.refl _) | exact .cons _ (.cons _ (List.Sublist.refl _)) | exact .cons _ (.cons _ (.cons _ (List.Sublist.refl _))))
  exact ⟨rfl, rfl⟩

theorem left_none (B : World) (h : Own) (k : Int) : Tri Try.prog B 13 [.pointer none, .int .u32 k] h fun v h' => h = h' ∧ v = .tuple #[.int .i64 0, .bool false] := by
  refine Tri.enter (n := 22) Try.func13 rfl rfl rfl ?_
  simp only [argsE, Nat.reduceAdd]
  try dsimp only [argsE]
  refine AK.seq ?_
  refine AK.region ?_
  refine AO.val (RV.assign rfl) (.none rfl) rfl ?_
  refine AO.val (RV.assign rfl) (.none rfl) rfl ?_
  refine AO.nil ?_
  refine AK.seq ?_
  refine AK.seq ?_
  refine AK.region ?_
  refine AO.val (RV.move rfl) (.none rfl) rfl ?_
  refine AO.val (RV.eqlP rfl rfl) (.none rfl) rfl ?_
  refine AO.nil ?_
  refine AK.condT rfl ?_
  refine AK.seq ?_
  refine AK.region ?_
  refine AO.val (RV.assign rfl) (.none rfl) rfl ?_
  refine AO.val (RV.assign rfl) (.none rfl) rfl ?_
  refine AO.nil ?_
  -- at 
  refine AK.ret (h' := h) Try.func13 (.tmp rfl (.tmp rfl .nil)) ?_ (by first | exact SubO.sub | exact List.Sublist.refl _ | exact .cons _ (List.Sublist.refl _) | exact .cons _ (.cons _ (List.Sublist.refl _)) | exact .cons _ (.cons _ (.cons _ (List.Sublist.refl _))))
  exact ⟨rfl, rfl⟩

theorem allow_none (B : World) (h : Own) (k n : Int) : Tri Try.prog B 8 [.pointer none, .int .u32 k, .int .i64 n] h fun v h' => h = h' ∧ v = .bool false := by
  refine Tri.enter (n := 73) Try.func8 rfl rfl rfl ?_
  simp only [argsE, Nat.reduceAdd]
  try dsimp only [argsE]
  refine AK.seq ?_
  refine AK.region ?_
  refine AO.val (RV.assign rfl) (.none rfl) rfl ?_
  refine AO.nil ?_
  refine AK.seq ?_
  refine AK.seq ?_
  refine AK.region ?_
  refine AO.val (RV.move rfl) (.none rfl) rfl ?_
  refine AO.val (RV.eqlP rfl rfl) (.none rfl) rfl ?_
  refine AO.nil ?_
  refine AK.condT rfl ?_
  refine AK.seq ?_
  refine AK.region ?_
  refine AO.val (RV.assign rfl) (.none rfl) rfl ?_
  refine AO.nil ?_
  -- at 
  refine AK.ret (h' := h) Try.func8 (.tmp rfl .nil) ?_ (by first | exact SubO.sub | exact List.Sublist.refl _ | exact .cons _ (List.Sublist.refl _) | exact .cons _ (.cons _ (List.Sublist.refl _)) | exact .cons _ (.cons _ (.cons _ (List.Sublist.refl _))))
  exact ⟨rfl, rfl⟩

theorem none_law (B : World) (h : Own) (k n : Int) : Tri Try.prog B 5 [.int .u32 k, .int .i64 n] h fun v h' => v = .bool true := by
  refine Tri.enter (n := 40) Try.func5 rfl rfl rfl ?_
  simp only [argsE, Nat.reduceAdd]
  try dsimp only [argsE]
  refine AK.seq ?_
  refine AK.region ?_
  refine AO.val (RV.assign rfl) (.none rfl) rfl ?_
  refine AO.nil ?_
  refine AK.seq ?_
  refine AK.region ?_
  refine AO.val (RV.assign rfl) (.none rfl) rfl ?_
  refine AO.nil ?_
  refine AK.seq ?_
  refine AK.region ?_
  refine AO.val (RV.move rfl) (.none rfl) rfl ?_
  refine AO.val (RV.move rfl) (.none rfl) rfl ?_
  refine AO.eff (EF.callF rfl (left_none B _ _)) (.none rfl) rfl ?_
  rintro _ _ ⟨rfl, rfl⟩
  refine AO.val (RV.move rfl) (.none rfl) rfl ?_
  refine AO.val (RV.extract rfl rfl) (.none rfl) rfl ?_
  refine AO.val (RV.extract rfl rfl) (.none rfl) rfl ?_
  refine AO.val (RV.assign rfl) (.none rfl) rfl ?_
  refine AO.val (RV.assign rfl) (.none rfl) rfl ?_
  refine AO.nil ?_
  refine AK.seq ?_
  refine AK.region ?_
  refine AO.val (RV.move rfl) (.none rfl) rfl ?_
  refine AO.val (RV.move rfl) (.none rfl) rfl ?_
  refine AO.val (RV.move rfl) (.none rfl) rfl ?_
  refine AO.eff (EF.callF rfl (allow_none B _ _ _)) (.none rfl) rfl ?_
  rintro _ _ ⟨rfl, rfl⟩
  refine AO.val (RV.not rfl) (.none rfl) rfl ?_
  refine AO.val (RV.move rfl) (.none rfl) rfl ?_
  refine AO.val (RV.move rfl) (.some rfl rfl rfl rfl) rfl ?_
  refine AO.val ((RV.eql rfl rfl).to (v' := .bool true) (by rfl)) (.some rfl rfl rfl rfl) rfl ?_
  refine AO.val (RV.pickT rfl rfl) (.none rfl) rfl ?_
  refine AO.val (RV.move rfl) (.none rfl) rfl ?_
  refine AO.val (RV.move rfl) (.some rfl rfl rfl rfl) rfl ?_
  refine AO.val (RV.not rfl) (.some rfl rfl rfl rfl) rfl ?_
  refine AO.val (RV.pickT rfl rfl) (.none rfl) rfl ?_
  refine AO.val (RV.move rfl) (.none rfl) rfl ?_
  refine AO.val (RV.move rfl) (.some rfl rfl rfl rfl) rfl ?_
  refine AO.eff (EF.callF rfl (len_none B _)) (.some rfl rfl rfl rfl) rfl ?_
  rintro _ _ ⟨rfl, rfl⟩
  refine AO.val ((RV.eql rfl rfl).to (v' := .bool true) (by rfl)) (.some rfl rfl rfl rfl) rfl ?_
  refine AO.val (RV.pickT rfl rfl) (.none rfl) rfl ?_
  refine AO.val (RV.move rfl) (.none rfl) rfl ?_
  refine AO.val (RV.move rfl) (.some rfl rfl rfl rfl) rfl ?_
  refine AO.eff (EF.callF rfl (now_none B _)) (.some rfl rfl rfl rfl) rfl ?_
  rintro _ _ ⟨rfl, rfl⟩
  refine AO.val ((RV.eql rfl rfl).to (v' := .bool true) (by rfl)) (.some rfl rfl rfl rfl) rfl ?_
  refine AO.val (RV.pickT rfl rfl) (.none rfl) rfl ?_
  refine AO.val (RV.move rfl) (.none rfl) rfl ?_
  refine AO.eff (EF.callF rfl (lives_spec B _)) (.some rfl rfl rfl rfl) rfl ?_
  rintro _ _ rfl
  refine AO.val (RV.pickT rfl rfl) (.none rfl) rfl ?_
  refine AO.val (RV.assign rfl) (.none rfl) rfl ?_
  refine AO.nil ?_
  -- at 
  refine AK.ret (h' := []) Try.func5 (.tmp rfl .nil) ?_ (List.nil_sublist _)
  rfl

set_option maxRecDepth 100000 in
theorem meterNone_lifted (os : Os) (started : os.Started) (H : Type) (enc : TypeId × Value → H) :
    ReturnsInHanded {} Try.checked os 5 .any (Rows.meterNoneSpec.pre6 enc Try.prog Try.f5 Rows.meterNoneRow.domain false) (Rows.meterNoneSpec.post enc Try.prog Try.f5 false true false false) := by
  refine returnsInHanded_of_change (C := Try.checked) own_ started (by kernel_rfl) Try.func5
    (ChangeSpec.witness6 (enc := enc) (C := Try.checked) false ⟨#[], #[(Value.int IntKind.u32 0), (Value.int IntKind.i64 0)], []⟩ 8 (by kernel_rfl) (by kernel_rfl) (by kernel_rfl) (by kernel_rfl)) ?_
  intro W base args ds gs before hval0 hW hcnd _
  have hval : ∀ (j : Nat) t v, Try.f5.params[j]? = some t → args[j]? = some v → Value.okWide Try.prog W .any base t v := hval0
  have hW' := hW
  obtain ⟨p, q, hA0, hV, rfl, hfz, hnd⟩ := hW
  have hA : DataW.TrodAll enc Try.prog W 0 (fun _ => true) true Try.f5.params.toList args.toList ds p := hA0
  rw [Try.params5] at hA hval
  obtain ⟨args⟩ := args
  simp only at hA
  obtain ⟨v0, vs0, d0, ds0, p0, q0, e0a, e0b, e0c, t0, r0⟩ := trodAll_cons hA
  obtain ⟨v1, vs1, d1, ds1, p1, q1, e1a, e1b, e1c, t1, r1⟩ := trodAll_cons r0
  subst e0a e0b e0c
  subst e1a e1b e1c
  obtain ⟨rfl, rfl, rfl⟩ := trodAll_nil r1
  obtain ⟨rfl, rfl⟩ := trodVars_none hV
  have hlt := hW'.lt
  have k0 : Value.okWide Try.prog W .any base 23 v0 := hval 0 _ v0 rfl rfl
  obtain ⟨k, w0, k_lo, k_hi⟩ := Dec.argI k0 t0
  have k1 : Value.okWide Try.prog W .any base 3 v1 := hval 1 _ v1 rfl rfl
  obtain ⟨n, w1, n_lo, n_hi⟩ := Dec.argI k1 t1
  have htri : Tri Try.prog W 5 [v0, v1] [] (fun v _ => v = .bool true) := by
    subst w0 w1
    exact none_law W [] k n
  clear w0 w1
  refine (htri.run W (Models.start W)).mono fun e W' ⟨v, h2, he, m2, hv⟩ => ?_
  subst he; subst hv
  have hb := m2.below
  refine ⟨_, rfl, post_of_below (pa := (p0 ++ (p1 ++ ([])))) (pv := []) hW' (fun _ _ _ => trodAll_mk1 (shut_bool (Try.underlying4) true)) (fun sp hsp => ?_) (fun _ _ => rfl) rfl hb (ok_one (t := 4) (by kernel_rfl) rfl ?_)⟩
  · refine TAcons (WideElems.Trod_stays laidOut_ (by kernel_rfl) (of_decide_eq_true (by kernel_rfl)) t0 (fun x hx => hb.same (hlt x (by simp [hx]))) (fun x hx => hsp x (by simp [hx]))) ?_
    refine TAcons (WideElems.Trod_stays laidOut_ (by kernel_rfl) (of_decide_eq_true (by kernel_rfl)) t1 (fun x hx => hb.same (hlt x (by simp [hx]))) (fun x hx => hsp x (by simp [hx]))) ?_
    rfl
  · exact okBool Try.underlying4

theorem meterNone_holds : Rows.MeterNoneSaid :=
  OpenClaim.holds_of_wide 5 Try.f5 rfl rfl rfl rfl rfl rfl rfl ⟨rfl, rfl, rfl, rfl, rfl⟩ rfl rfl rfl rfl rfl (by kernel_rfl) Try.func5 (by kernel_rfl)
    (of_decide_eq_true (by kernel_rfl)) (by unfold Func.isWrapper; first | (rw [if_pos (by decide +kernel)]; kernel_rfl) | (rw [if_neg (by decide +kernel)]; exact ⟨rfl, rfl⟩))
    (fun os started H enc _ => meterNone_lifted os started H enc)

end Go.Proofs.Ytdefjkokbffccaa
