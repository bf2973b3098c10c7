/- Walks through the code: what each function that is named here gives back, from any memory that holds its arguments. Written by a program of the claim's author, out of the program's form in Lean. -/
import Derived.Test.YtefpiiknjnekeaaW1
set_option linter.unusedSimpArgs false
set_option linter.unusedVariables false
namespace Go.Proofs.Ytefpiiknjnekeaa
open Go.Sep Go.Sep.Sip Go.Sep.Tag Go.Sep.Count

theorem check0 (B : World) (pre h : Own) (b : Nat) (sv : Value)  : Tri Try.prog B 27 [.pointer (some ⟨b, 0, none⟩)] (pre ++ ((b, Blk.cells [.pointer none, sv] 51 (0, 0)) :: h)) fun v h' => h' = pre ++ ((b, Blk.cells [.pointer (some ⟨b, 0, none⟩), sv] 51 (0, 0)) :: h) ∧ v = .tuple #[] := by
  refine Tri.enter (n := 20) Try.func27 rfl rfl rfl ?_
  simp only [argsE, Nat.reduceAdd]
  try dsimp only [argsE]
  refine AK.seq ?_
  refine AK.region ?_
  refine AO.val (RV.move rfl) (.none rfl) rfl ?_
  refine AO.val (RV.nilCheck rfl) (.none rfl) rfl ?_
  refine AO.val (RV.fieldAddr rfl) (.none rfl) rfl ?_
  refine AO.val (by first | exact RV.loadO rfl rfl (by first | simp | assumption) | exact RV.loadS rfl (by assumption) (by omega) (by first | simp | assumption)) (.none rfl) rfl ?_
  refine AO.val (RV.eqlP rfl rfl) (.none rfl) rfl ?_
  refine AO.nil ?_
  refine AK.condT rfl ?_
  refine AK.region ?_
  refine AO.val (RV.move rfl) (.none rfl) rfl ?_
  refine AO.val (RV.move rfl) (.none rfl) rfl ?_
  refine AO.val (RV.toUnsafe (t := 51) (j := Try.t51) Try.type51 (by decide) rfl (by exact Nat.succ_pos _) (by simp)) (.none rfl) rfl ?_
  refine AO.eff (EF.callX (ex := Extern.AbiNoEscape.same) (v := .pointer (some ⟨b, 0, none⟩)) Try.func31 (by kernel_rfl) (by kernel_rfl) (by kernel_rfl) (by kernel_rfl) rfl (fun w => Lib.run_noEscape w _)) (.none rfl) rfl ?_
  rintro _ _ ⟨rfl, rfl⟩
  refine AO.val (RV.fromUnsafe (t := 51) (j := Try.t51) Try.type51 rfl (by kernel_rfl) (by simp)) (.none rfl) rfl ?_
  refine AO.val (RV.nilCheck rfl) (.none rfl) rfl ?_
  refine AO.val (RV.fieldAddr rfl) (.none rfl) rfl ?_
  refine AO.effN (EF.storeO rfl rfl rfl rfl rfl rfl) (.none rfl) ?_
  rintro _ _ rfl
  refine AO.nil ?_
  -- at 
  refine AK.fin (h' := pre ++ ((b, Blk.cells [.pointer (some ⟨b, 0, none⟩), sv] 51 (0, 0)) :: h)) Try.func27 .nil ?_ (List.Sublist.refl _)
  exact ⟨rfl, rfl⟩

theorem check1 (B : World) (pre h : Own) (b : Nat) (sv : Value)  : Tri Try.prog B 27 [.pointer (some ⟨b, 0, none⟩)] (pre ++ ((b, Blk.cells [.pointer (some ⟨b, 0, none⟩), sv] 51 (0, 0)) :: h)) fun v h' => h' = pre ++ ((b, Blk.cells [.pointer (some ⟨b, 0, none⟩), sv] 51 (0, 0)) :: h) ∧ v = .tuple #[] := by
  refine Tri.enter (n := 20) Try.func27 rfl rfl rfl ?_
  simp only [argsE, Nat.reduceAdd]
  try dsimp only [argsE]
  refine AK.seq ?_
  refine AK.region ?_
  refine AO.val (RV.move rfl) (.none rfl) rfl ?_
  refine AO.val (RV.nilCheck rfl) (.none rfl) rfl ?_
  refine AO.val (RV.fieldAddr rfl) (.none rfl) rfl ?_
  refine AO.val (by first | exact RV.loadO rfl rfl (by first | simp | assumption) | exact RV.loadS rfl (by assumption) (by omega) (by first | simp | assumption)) (.none rfl) rfl ?_
  refine AO.val (RV.eqlP rfl rfl) (.none rfl) rfl ?_
  refine AO.nil ?_
  refine AK.condF rfl ?_
  refine AK.seq ?_
  refine AK.region ?_
  refine AO.val (RV.move rfl) (.none rfl) rfl ?_
  refine AO.val (RV.nilCheck rfl) (.none rfl) rfl ?_
  refine AO.val (RV.fieldAddr rfl) (.none rfl) rfl ?_
  refine AO.val (by first | exact RV.loadO rfl rfl (by first | simp | assumption) | exact RV.loadS rfl (by assumption) (by omega) (by first | simp | assumption)) (.none rfl) rfl ?_
  refine AO.val (RV.move rfl) (.none rfl) rfl ?_
  refine AO.val (RV.neqPs (te := 51) (j := Try.t51) Try.type51 rfl rfl) (.none rfl) rfl ?_
  refine AO.nil ?_
  refine AK.condF rfl ?_
  refine AK.skip ?_
  -- at 
  refine AK.fin (h' := pre ++ ((b, Blk.cells [.pointer (some ⟨b, 0, none⟩), sv] 51 (0, 0)) :: h)) Try.func27 .nil ?_ (List.Sublist.refl _)
  exact ⟨rfl, rfl⟩

theorem check_spec (B : World) (pre h : Own) (b : Nat) (sv : Value) (ap : Option Addr) (hap : ap = none ∨ ap = (some ⟨b, 0, none⟩)) : Tri Try.prog B 27 [.pointer (some ⟨b, 0, none⟩)] (pre ++ ((b, Blk.cells [.pointer ap, sv] 51 (0, 0)) :: h)) fun v h' => h' = pre ++ ((b, Blk.cells [.pointer (some ⟨b, 0, none⟩), sv] 51 (0, 0)) :: h) ∧ v = .tuple #[] := by
  rcases hap with rfl | rfl
  · exact check0 B pre h b sv
  · exact check1 B pre h b sv

theorem write_spec (B : World) (pb h : Own) (b : Nat) (sv : Value) (ap : Option Addr) (hap : ap = none ∨ ap = (some ⟨b, 0, none⟩)) (xs ys : List Int) (hr : Row0 5 xs sv pb) (hy0 : ys ≠ []) (hyb : Bytes ys) (hl : xs.length + ys.length ≤ 8388608) : Tri Try.prog B 22 [.pointer (some ⟨b, 0, none⟩), .string (strL ys)] (pb ++ ((b, Blk.cells [.pointer ap, sv] 51 (0, 0)) :: h)) fun v h' => ∃ sv' pb', h' = pb' ++ ((b, Blk.cells [.pointer (some ⟨b, 0, none⟩), sv'] 51 (0, 0)) :: h) ∧ Row0 5 (xs ++ ys) sv' pb' := by
  refine Tri.enter (n := 19) Try.func22 rfl rfl rfl ?_
  simp only [argsE, Nat.reduceAdd]
  try dsimp only [argsE]
  refine AK.seq ?_
  refine AK.region ?_
  refine AO.val (RV.assign rfl) (.none rfl) rfl ?_
  refine AO.val (RV.assign rfl) (.none rfl) rfl ?_
  refine AO.nil ?_
  refine AK.seq ?_
  refine AK.region ?_
  refine AO.val (RV.move rfl) (.none rfl) rfl ?_
  refine AO.eff (EF.callF rfl (check_spec B pb h b sv ap hap)) (.none rfl) rfl ?_
  rintro _ _ ⟨rfl, rfl⟩
  refine AO.nil ?_
  refine AK.seq ?_
  refine AK.region ?_
  refine AO.val (RV.move rfl) (.none rfl) rfl ?_
  refine AO.val (RV.move rfl) (.none rfl) rfl ?_
  refine AO.val (RV.nilCheck rfl) (.none rfl) rfl ?_
  refine AO.val (RV.fieldAddr rfl) (.none rfl) rfl ?_
  refine AO.val (by first | exact RV.loadO rfl rfl (by first | simp | assumption) | exact RV.loadS rfl (by assumption) (by omega) (by first | simp | assumption)) (.none rfl) rfl ?_
  refine AO.val (RV.move rfl) (.none rfl) rfl ?_
  refine AO.eff (EF.appendStr (ys := ys) rfl rfl hr hy0 hyb rfl hl) (.none rfl) rfl ?_
  rintro sv2 _ ⟨pb2, hr2, rfl⟩
  obtain ⟨A2, c2, rfl⟩ := row0_val hr2
  refine AO.val (RV.nilCheck rfl) (.none rfl) rfl ?_
  refine AO.val (RV.fieldAddr rfl) (.none rfl) rfl ?_
  refine AO.effN (EF.storeO rfl rfl rfl rfl rfl rfl) (.none rfl) ?_
  rintro _ _ rfl
  refine AO.nil ?_
  refine AK.seq ?_
  refine AK.region ?_
  refine AO.val (RV.move rfl) (.none rfl) rfl ?_
  refine AO.val ((RV.lenStr rfl)) (.none rfl) rfl ?_
  refine AO.val (RV.assign rfl) (.none rfl) rfl ?_
  refine AO.val (RV.assign rfl) (.none rfl) rfl ?_
  refine AO.nil ?_
  -- at 
  refine AK.ret (h' := pb2 ++ ((b, Blk.cells [.pointer (some ⟨b, 0, none⟩), .slice A2 (xs ++ ys).length c2] 51 (0, 0)) :: h)) Try.func22 (.tmp rfl (.tmp rfl .nil)) ?_ (List.Sublist.refl _)
  exact ⟨_, pb2, rfl, hr2⟩

theorem bstring_spec (B : World) (pb h : Own) (b : Nat) (ap : Option Addr) (xs : List Int) {A : Option Addr} {c : Nat} (hr : Row0 5 xs (.slice A xs.length c) pb) (hx : Bytes xs) (hl : xs.length ≤ 8388608) : Tri Try.prog B 24 [.pointer (some ⟨b, 0, none⟩)] (pb ++ ((b, Blk.cells [.pointer ap, .slice A xs.length c] 51 (0, 0)) :: h)) fun v h' => h = h' ∧ v = .string (strL xs) := by
  refine Tri.enter (n := 14) Try.func24 rfl rfl rfl ?_
  simp only [argsE, Nat.reduceAdd]
  try dsimp only [argsE]
  refine AK.seq ?_
  refine AK.region ?_
  refine AO.val (RV.assign rfl) (.none rfl) rfl ?_
  refine AO.nil ?_
  refine AK.seq ?_
  refine AK.draw [] [10] mixed ?_
  refine AD.takeP 0 rfl (by kernel_rfl) (RV.move rfl) (.none rfl) rfl ?_
  refine AD.takeP 1 rfl (by kernel_rfl) (RV.nilCheck rfl) (.none rfl) rfl ?_
  refine AD.takeP 2 rfl (by kernel_rfl) (RV.fieldAddr rfl) (.none rfl) rfl ?_
  refine AD.take 3 rfl (by kernel_rfl) (by first | exact RV.loadO rfl rfl (by first | simp | assumption) | exact RV.loadS rfl (by assumption) (by omega) (by first | simp | assumption)) (.none rfl) rfl ?_
  refine AD.takeP 5 rfl (by kernel_rfl) (RV.move rfl) (.none rfl) rfl ?_
  refine AD.takeP 6 rfl (by kernel_rfl) (RV.nilCheck rfl) (.none rfl) rfl ?_
  refine AD.takeP 7 rfl (by kernel_rfl) (RV.fieldAddr rfl) (.none rfl) rfl ?_
  refine AD.take 8 rfl (by kernel_rfl) (by first | exact RV.loadO rfl rfl (by first | simp | assumption) | exact RV.loadS rfl (by assumption) (by omega) (by first | simp | assumption)) (.none rfl) rfl ?_
  refine AD.takeP 9 rfl (by kernel_rfl) (RV.lenS rfl) (.none rfl) rfl ?_
  refine AD.one 4 (by kernel_rfl) (AE.eff rfl (EF.of_val (RV.sliceData rfl (row0_cap hr))) (.none rfl) rfl ?_)
  rintro _ _ ⟨rfl, rfl⟩
  refine ⟨(by first | exact .inr fun x hx hM => hx | exact .inr fun x hx hM => List.mem_cons_of_mem _ hx | exact .inr fun x hx hM => List.mem_append_right _ hx), ?_⟩
  refine AD.one 10 (by kernel_rfl) (AE.eff rfl (EF.unsafeString rfl rfl hr hx hl) (.none rfl) rfl ?_)
  rintro _ _ ⟨rfl, rfl⟩
  refine ⟨.inl (by kernel_rfl), ?_⟩
  refine AD.takeP 11 rfl (by kernel_rfl) (RV.assign rfl) (.none rfl) rfl ?_
  refine AD.done (by kernel_rfl) ?_
  -- at 
  refine AK.ret (h' := h) Try.func24 (.tmp rfl .nil) ?_ (List.Sublist.cons _ (List.Sublist.refl _))
  exact ⟨rfl, rfl⟩

end Go.Proofs.Ytefpiiknjnekeaa
