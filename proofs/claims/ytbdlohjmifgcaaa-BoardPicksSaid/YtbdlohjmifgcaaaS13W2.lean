/- Walks through the code: what each function that is named here gives back, from any memory that holds its arguments. Written by a program of the claim's author, out of the program's form in Lean. -/
import Derived.Test.YtbdlohjmifgcaaaS13W1
set_option linter.unusedSimpArgs false
set_option linter.unusedVariables false
namespace Go.Proofs.Ytbdlohjmifgcaaa
open Go.Sep Go.Sep.Sip

theorem sum_spec (B : World) (h : Own) (lo hi : Int) {A : Option Addr} {cap : Nat} (l : List Int) (hl : Src B h A l.length 1 (l.map (fun x => Value.int .u8 x))) (hb : Bytes l) (hln : l.length ≤ cap) (hcp : l.length ≤ 9223372036854775807) : Tri Try.prog B 29 [.agg #[.int .u64 lo, .int .u64 hi], .slice A l.length cap] h fun v h' => h = h' ∧ v = .int .u64 (sumS lo hi l) := by
  refine Tri.enter (n := 70) Try.func29 rfl rfl rfl ?_
  simp only [argsE, Nat.reduceAdd]
  try dsimp only [argsE]
  refine AK.seq ?_
  refine AK.region ?_
  refine AO.eff (EF.box rfl rfl) (.none rfl) rfl ?_
  rintro _ _ ⟨b2, hf2, rfl, rfl⟩
  refine AO.val (RV.assign rfl) (.none rfl) rfl ?_
  refine AO.nil ?_
  refine AK.seq ?_
  refine AK.region ?_
  refine AO.val (RV.fieldAddr rfl) (.none rfl) rfl ?_
  refine AO.val (by first | exact RV.loadO rfl rfl (by first | simp | assumption) | exact RV.loadS rfl (by assumption) (by omega) (by first | simp | assumption)) (.none rfl) rfl ?_
  refine AO.val (RV.xor rfl rfl) (.none rfl) rfl ?_
  refine AO.val (RV.fieldAddr rfl) (.none rfl) rfl ?_
  refine AO.val (by first | exact RV.loadO rfl rfl (by first | simp | assumption) | exact RV.loadS rfl (by assumption) (by omega) (by first | simp | assumption)) (.none rfl) rfl ?_
  refine AO.val (RV.xor rfl rfl) (.none rfl) rfl ?_
  refine AO.val (RV.fieldAddr rfl) (.none rfl) rfl ?_
  refine AO.val (by first | exact RV.loadO rfl rfl (by first | simp | assumption) | exact RV.loadS rfl (by assumption) (by omega) (by first | simp | assumption)) (.none rfl) rfl ?_
  refine AO.val (RV.xor rfl rfl) (.none rfl) rfl ?_
  refine AO.val (RV.fieldAddr rfl) (.none rfl) rfl ?_
  refine AO.val (by first | exact RV.loadO rfl rfl (by first | simp | assumption) | exact RV.loadS rfl (by assumption) (by omega) (by first | simp | assumption)) (.none rfl) rfl ?_
  refine AO.val (RV.xor rfl rfl) (.none rfl) rfl ?_
  refine AO.val (RV.build rfl (.cons rfl rfl rfl rfl (.cons rfl rfl rfl rfl (.cons rfl rfl rfl rfl (.cons rfl rfl rfl rfl .nil))))) (.none rfl) rfl ?_
  refine AO.eff (EF.box rfl rfl) (.none rfl) rfl ?_
  rintro _ _ ⟨b20, hf20, rfl, rfl⟩
  refine AO.val (RV.assign rfl) (.none rfl) rfl ?_
  refine AO.nil ?_
  refine AK.seq ?_
  refine AK.region ?_
  refine AO.val (RV.move rfl) (.none rfl) rfl ?_
  refine AO.val (RV.lenS rfl) (.none rfl) rfl ?_
  refine AO.val (by first | exact RV.remIn rfl rfl (by omega) | exact RV.rem rfl rfl (by omega)) (.none rfl) rfl ?_
  refine AO.val (by first | exact RV.convIn rfl (by simp only [kb]; omega) | exact RV.conv rfl) (.none rfl) rfl ?_
  refine AO.val ((RV.shl rfl rfl (by omega)).to (v' := .int .u64 (lastV l)) (by rw [← lastV_W]; rfl)) (.none rfl) rfl ?_
  refine AO.val (RV.assign rfl) (.none rfl) rfl ?_
  refine AO.nil ?_
  refine AK.seq ?_
  refine AK.block ?_
  refine AK.loop (α := Nat × List Int × Option Addr × Nat) (E := fun (i, r, A', c') => [(5, .pointer (some ⟨b20, 0, none⟩)), (6, .int .u64 (lastV l)), (1, .slice A' r.length c')]) (H := fun (i, r, A', c') => (b20, Blk.cells [.int .u64 (behind lo hi l i).1, .int .u64 (behind lo hi l i).2.1, .int .u64 (behind lo hi l i).2.2.1, .int .u64 (behind lo hi l i).2.2.2] 96 (0, 0)) :: h) (Inv := fun (i, r, A', c') => 8 * i ≤ l.length ∧ r = l.drop (8 * i) ∧ r.length ≤ c' ∧ Src B h A' r.length 1 (r.map (fun x => Value.int .u8 x))) (μ := fun (i, r, A', c') => l.length - 8 * i) (0, l, A, cap) ?_ (.cons (by exact rfl) (.cons (by exact rfl) (.cons (by exact rfl) .nil))) ?_ ?_
  · exact ⟨by omega, rfl, hln, hl⟩
  · exact List.Sublist.cons_cons _ (.cons _ (List.Sublist.refl _))
  rintro ⟨i, r, A', c'⟩ ⟨hi1, hr, hrc, hsr⟩ hih0
  try dsimp only at hih0 ⊢
  have hrl : r.length = l.length - 8 * i := by rw [hr, List.length_drop]
  have hbr : Bytes r := fun x hx => hb x (by rw [hr] at hx; exact List.mem_of_mem_drop hx)
  refine AK.seq ?_
  refine AK.seq ?_
  refine AK.region ?_
  refine AO.val (RV.move rfl) (.none rfl) rfl ?_
  refine AO.val (RV.lenS rfl) (.none rfl) rfl ?_
  refine AO.val (RV.geq rfl rfl) (.none rfl) rfl ?_
  refine AO.nil ?_
  refine AK.cond rfl ?_ ?_
  · intro hc1
    try simp only [decide_eq_true_eq, decide_eq_false_iff_not, Bool.not_eq_true', Bool.not_eq_false', beq_iff_eq] at hc1
    have hsr8 : Src B h A' (r.take 8).length 1 ((r.take 8).map (fun x => Value.int .u8 x)) := by
      have := hsr.take 8 (by omega)
      rw [Nat.mul_one, ← List.map_take] at this
      rw [List.length_take, show min 8 r.length = 8 by omega]; exact this
    refine AK.skip ?_
    refine AK.block ?_
    refine AK.seq ?_
    refine AK.region ?_
    refine AO.val (RV.move rfl) (.none rfl) rfl ?_
    refine AO.val (RV.move rfl) (.none rfl) rfl ?_
    refine AO.val ((RV.sliceHi rfl rfl (by omega)).to (v' := .slice A' (r.take 8).length c') (by rw [List.length_take, show min 8 r.length = 8 by omega]; rfl)) (.none rfl) rfl ?_
    refine AO.eff (EF.callF rfl (word_spec (cap := c') B _ (r.take 8) (by rw [List.length_take]; omega) hsr8.sub (fun x hx => hbr x (List.mem_of_mem_take hx)))) (.none rfl) rfl ?_
    rintro _ _ ⟨rfl, rfl⟩
    refine AO.eff (EF.callF rfl (take_spec B _ b20 (behind lo hi l i) (le (r.take 8)) (behind_US _ _ _ _))) (.none rfl) rfl ?_
    rintro _ _ rfl
    refine AO.nil ?_
    refine AK.region ?_
    refine AO.val (RV.move rfl) (.none rfl) rfl ?_
    refine AO.val (RV.sliceL rfl rfl (by omega) (by omega)) (.none rfl) rfl ?_
    refine AO.val (RV.assign rfl) (.none rfl) rfl ?_
    refine AO.nil ?_
    refine AK.inBlock ?_
    -- round ends at L0T
    have hbe : behind lo hi l (i + 1) = takeS (behind lo hi l i) (le (r.take 8)) := by rw [behind, hr]
    have hd : ((r.length : Int) - 8).toNat = (r.drop 8).length := by rw [List.length_drop]; omega
    have hs8 := hsr.drop (cap := c') 8 ⟨by omega, by omega⟩ (by omega)
    rw [hd, show (8 : Int).toNat * 1 = 8 from rfl, ← List.map_drop] at hs8
    refine AK.weak (.cons (by exact rfl) (.cons (by exact rfl) (.cons (by rw [← hd]; exact rfl) .nil))) (by rw [hbe]; exact SubO.sub) (hih0 (i + 1, r.drop 8, if (c' : Int) = 8 then A' else cutA A' ((8 : Int).toNat * 1), ((c' : Int) - 8).toNat) ?_ ?_)
    · try dsimp only
      exact ⟨by omega, by rw [hr, List.drop_drop, Nat.mul_succ], by rw [List.length_drop]; omega, hs8⟩
    · try dsimp only
      (try simp only); omega
  · intro hc1
    try simp only [decide_eq_true_eq, decide_eq_false_iff_not, Bool.not_eq_true', Bool.not_eq_false', beq_iff_eq] at hc1
    have hlast := last_eq l hb i hi1 (by rw [← hr]; omega)
    rw [← hr] at hlast
    refine AK.exit rfl ?_
    refine AK.seq ?_
    refine AK.region ?_
    refine AO.val (RV.move rfl) (.none rfl) rfl ?_
    refine AO.val (RV.move rfl) (.none rfl) rfl ?_
    refine AO.val (RV.move rfl) (.none rfl) rfl ?_
    refine AO.eff (EF.callF rfl (word_spec (cap := c') B _ r (by omega) hsr.sub hbr)) (.none rfl) rfl ?_
    rintro _ _ ⟨rfl, rfl⟩
    refine AO.val ((RV.or rfl rfl).to (v' := .int .u64 (lastW l)) (by rw [hlast.2])) (.none rfl) rfl ?_
    refine AO.eff (EF.callF rfl (take_spec B _ b20 (behind lo hi l i) (lastW l) (behind_US _ _ _ _))) (.none rfl) rfl ?_
    rintro _ _ rfl
    have hti := takeS_US (behind lo hi l i) (lastW l) (behind_US _ _ _ _)
    have hsum : sumS lo hi l = endS (takeS (behind lo hi l i) (lastW l)) := by rw [sumS, hlast.1]
    generalize takeS (behind lo hi l i) (lastW l) = t at *
    refine AO.nil ?_
    refine AK.seq ?_
    refine AK.region ?_
    refine AO.val (RV.move rfl) (.none rfl) rfl ?_
    refine AO.val (RV.nilCheck rfl) (.none rfl) rfl ?_
    refine AO.val (RV.fieldAddr rfl) (.none rfl) rfl ?_
    refine AO.val (by first | exact RV.loadO rfl rfl (by first | simp | assumption) | exact RV.loadS rfl (by assumption) (by omega) (by first | simp | assumption)) (.none rfl) rfl ?_
    refine AO.val (RV.xor rfl rfl) (.none rfl) rfl ?_
    refine AO.val (RV.nilCheck rfl) (.none rfl) rfl ?_
    refine AO.val (RV.fieldAddr rfl) (.none rfl) rfl ?_
    refine AO.effN (EF.storeO rfl rfl rfl rfl rfl rfl) (.none rfl) ?_
    rintro _ _ rfl
    refine AO.nil ?_
    refine AK.seq ?_
    refine AK.region ?_
    refine AO.val (RV.move rfl) (.none rfl) rfl ?_
    refine AO.eff (EF.callF rfl (pround_spec B _ b20 (t.1, t.2.1, X t.2.2.1 255, t.2.2.2) 4 ⟨hti.1, hti.2.1, X_U _ _, hti.2.2.2⟩ (by decide))) (.none rfl) rfl ?_
    rintro _ _ rfl
    refine AO.nil ?_
    refine AK.seq ?_
    refine AK.draw [] [] mixed ?_
    refine AD.takeP 0 rfl (by kernel_rfl) (RV.move rfl) (.none rfl) rfl ?_
    refine AD.takeP 1 rfl (by kernel_rfl) (RV.nilCheck rfl) (.none rfl) rfl ?_
    refine AD.takeP 2 rfl (by kernel_rfl) (RV.fieldAddr rfl) (.none rfl) rfl ?_
    refine AD.take 3 rfl (by kernel_rfl) (by first | exact RV.loadO rfl rfl (by first | simp | assumption) | exact RV.loadS rfl (by assumption) (by omega) (by first | simp | assumption)) (.none rfl) rfl ?_
    refine AD.takeP 4 rfl (by kernel_rfl) (RV.move rfl) (.none rfl) rfl ?_
    refine AD.takeP 5 rfl (by kernel_rfl) (RV.nilCheck rfl) (.none rfl) rfl ?_
    refine AD.takeP 6 rfl (by kernel_rfl) (RV.fieldAddr rfl) (.none rfl) rfl ?_
    refine AD.take 7 rfl (by kernel_rfl) (by first | exact RV.loadO rfl rfl (by first | simp | assumption) | exact RV.loadS rfl (by assumption) (by omega) (by first | simp | assumption)) (.none rfl) rfl ?_
    refine AD.takeP 8 rfl (by kernel_rfl) (RV.xor rfl rfl) (.none rfl) rfl ?_
    refine AD.takeP 9 rfl (by kernel_rfl) (RV.move rfl) (.none rfl) rfl ?_
    refine AD.takeP 10 rfl (by kernel_rfl) (RV.nilCheck rfl) (.none rfl) rfl ?_
    refine AD.takeP 11 rfl (by kernel_rfl) (RV.fieldAddr rfl) (.none rfl) rfl ?_
    refine AD.take 12 rfl (by kernel_rfl) (by first | exact RV.loadO rfl rfl (by first | simp | assumption) | exact RV.loadS rfl (by assumption) (by omega) (by first | simp | assumption)) (.none rfl) rfl ?_
    refine AD.takeP 13 rfl (by kernel_rfl) (RV.xor rfl rfl) (.none rfl) rfl ?_
    refine AD.takeP 14 rfl (by kernel_rfl) (RV.move rfl) (.none rfl) rfl ?_
    refine AD.takeP 15 rfl (by kernel_rfl) (RV.nilCheck rfl) (.none rfl) rfl ?_
    refine AD.takeP 16 rfl (by kernel_rfl) (RV.fieldAddr rfl) (.none rfl) rfl ?_
    refine AD.take 17 rfl (by kernel_rfl) (by first | exact RV.loadO rfl rfl (by first | simp | assumption) | exact RV.loadS rfl (by assumption) (by omega) (by first | simp | assumption)) (.none rfl) rfl ?_
    refine AD.takeP 18 rfl (by kernel_rfl) (RV.xor rfl rfl) (.none rfl) rfl ?_
    refine AD.takeP 19 rfl (by kernel_rfl) (RV.assign rfl) (.none rfl) rfl ?_
    refine AD.done (by kernel_rfl) ?_
    -- at L0F
    clear hih0
    refine AK.ret (h' := h) Try.func29 (.tmp rfl .nil) ?_ (by first | exact SubO.sub | exact List.Sublist.refl _ | exact .cons _ (List.Sublist.refl _) | exact .cons _ (.cons _ (List.Sublist.refl _)) | exact .cons _ (.cons _ (.cons _ (List.Sublist.refl _))))
    exact ⟨rfl, by rw [hsum]; rfl⟩

theorem rsum_spec (B : World) (h : Own) (lo hi : Int) {A : Option Addr} {cap : Nat} (l : List Int) (hl : Src B h A l.length 1 (l.map (fun x => Value.int .u8 x))) (hb : Bytes l) (hln : l.length ≤ cap) (hcp : l.length ≤ 9223372036854775807) : Tri Try.prog B 31 [.agg #[.int .u64 lo, .int .u64 hi], .slice A l.length cap] h fun v h' => h = h' ∧ v = .int .u64 (sumS lo hi l) := by
  refine Tri.enter (n := 101) Try.func31 rfl rfl rfl ?_
  simp only [argsE, Nat.reduceAdd]
  try dsimp only [argsE]
  refine AK.seq ?_
  refine AK.region ?_
  refine AO.eff (EF.box rfl rfl) (.none rfl) rfl ?_
  rintro _ _ ⟨b2, hf2, rfl, rfl⟩
  refine AO.val (RV.assign rfl) (.none rfl) rfl ?_
  refine AO.nil ?_
  refine AK.seq ?_
  refine AK.region ?_
  refine AO.val (RV.fieldAddr rfl) (.none rfl) rfl ?_
  refine AO.val (by first | exact RV.loadO rfl rfl (by first | simp | assumption) | exact RV.loadS rfl (by assumption) (by omega) (by first | simp | assumption)) (.none rfl) rfl ?_
  refine AO.val (RV.xor rfl rfl) (.none rfl) rfl ?_
  refine AO.val (RV.fieldAddr rfl) (.none rfl) rfl ?_
  refine AO.val (by first | exact RV.loadO rfl rfl (by first | simp | assumption) | exact RV.loadS rfl (by assumption) (by omega) (by first | simp | assumption)) (.none rfl) rfl ?_
  refine AO.val (RV.xor rfl rfl) (.none rfl) rfl ?_
  refine AO.val (RV.fieldAddr rfl) (.none rfl) rfl ?_
  refine AO.val (by first | exact RV.loadO rfl rfl (by first | simp | assumption) | exact RV.loadS rfl (by assumption) (by omega) (by first | simp | assumption)) (.none rfl) rfl ?_
  refine AO.val (RV.xor rfl rfl) (.none rfl) rfl ?_
  refine AO.val (RV.fieldAddr rfl) (.none rfl) rfl ?_
  refine AO.val (by first | exact RV.loadO rfl rfl (by first | simp | assumption) | exact RV.loadS rfl (by assumption) (by omega) (by first | simp | assumption)) (.none rfl) rfl ?_
  refine AO.val (RV.xor rfl rfl) (.none rfl) rfl ?_
  refine AO.val (RV.buildArr rfl (.cons rfl rfl rfl rfl (.cons rfl rfl rfl rfl (.cons rfl rfl rfl rfl (.cons rfl rfl rfl rfl .nil))))) (.none rfl) rfl ?_
  refine AO.eff (EF.alloc) (.none rfl) rfl ?_
  rintro _ _ ⟨b5, hf5, rfl, rfl⟩
  refine AO.effN (EF.storeO rfl rfl rfl rfl rfl rfl) (.none rfl) ?_
  rintro _ _ rfl
  refine AO.nil ?_
  refine AK.seq ?_
  refine AK.region ?_
  refine AO.val (RV.move rfl) (.none rfl) rfl ?_
  refine AO.val (RV.lenS rfl) (.none rfl) rfl ?_
  refine AO.val (by first | exact RV.quoIn rfl rfl (by simp only [kb]; omega) | exact RV.quo rfl rfl (by omega)) (.none rfl) rfl ?_
  refine AO.val (by first | exact RV.addIn rfl rfl (by omega) | exact RV.add rfl rfl) (.none rfl) rfl ?_
  refine AO.val (RV.assign rfl) (.none rfl) rfl ?_
  refine AO.nil ?_
  refine AK.seq ?_
  refine AK.seq ?_
  refine AK.region ?_
  refine AO.val (RV.assign rfl) (.none rfl) rfl ?_
  refine AO.nil ?_
  refine AK.block ?_
  refine AK.loop (α := Nat) (E := fun i => [(1, .slice A l.length cap), (5, .pointer (some ⟨b5, 0, none⟩)), (6, .int .i64 ((l.length : Int) / 8 + 1)), (7, .int .i64 i)]) (H := fun i => (b5, Blk.cells [.int .u64 (behindR lo hi l i).1, .int .u64 (behindR lo hi l i).2.1, .int .u64 (behindR lo hi l i).2.2.1, .int .u64 (behindR lo hi l i).2.2.2] 103 (0, 0)) :: h) (Inv := fun i => i ≤ l.length / 8 + 1) (μ := fun i => l.length / 8 + 1 - i) 0 ?_ (.cons (by exact rfl) (.cons (by exact rfl) (.cons (by exact rfl) (.cons (by exact rfl) .nil)))) ?_ ?_
  · exact by omega
  · exact List.Sublist.cons_cons _ (.cons _ (List.Sublist.refl _))
  rintro i hi1 hih0
  try dsimp only at hih0 ⊢
  have hui := behindR_US lo hi l i
  refine AK.seq ?_
  refine AK.seq ?_
  refine AK.region ?_
  refine AO.val (RV.move rfl) (.none rfl) rfl ?_
  refine AO.val (RV.move rfl) (.none rfl) rfl ?_
  refine AO.val (RV.lss rfl rfl) (.none rfl) rfl ?_
  refine AO.nil ?_
  refine AK.cond rfl ?_ ?_
  · intro hc1
    try simp only [decide_eq_true_eq, decide_eq_false_iff_not, Bool.not_eq_true', Bool.not_eq_false', beq_iff_eq] at hc1
    refine AK.skip ?_
    refine AK.seq ?_
    refine AK.block ?_
    refine AK.seq ?_
    refine AK.region ?_
    refine AO.val (RV.assign rfl) (.none rfl) rfl ?_
    refine AO.nil ?_
    refine AK.seq ?_
    refine AK.seq ?_
    refine AK.region ?_
    refine AO.val (RV.assign rfl) (.none rfl) rfl ?_
    refine AO.nil ?_
    refine AK.block ?_
    refine AK.loop (α := Int) (E := fun j => [(1, .slice A l.length cap), (5, .pointer (some ⟨b5, 0, none⟩)), (6, .int .i64 ((l.length : Int) / 8 + 1)), (7, .int .i64 i), (8, .int .u64 (le ((wb l i).drop (j + 1).toNat))), (9, .int .i64 j)]) (H := fun j => (b5, Blk.cells [.int .u64 (behindR lo hi l i).1, .int .u64 (behindR lo hi l i).2.1, .int .u64 (behindR lo hi l i).2.2.1, .int .u64 (behindR lo hi l i).2.2.2] 103 (0, 0)) :: h) (Inv := fun j => -1 ≤ j ∧ j ≤ 7) (μ := fun j => (j + 1).toNat) 7 ?_ (.cons (by exact rfl) (.cons (by exact rfl) (.cons (by exact rfl) (.cons (by exact rfl) (.cons (by rfl) (.cons (by exact rfl) .nil)))))) ?_ ?_
    · exact ⟨by omega, by omega⟩
    · exact (by first | exact SubO.sub | exact List.Sublist.refl _ | exact .cons _ (List.Sublist.refl _) | exact .cons _ (.cons _ (List.Sublist.refl _)) | exact .cons _ (.cons _ (.cons _ (List.Sublist.refl _))))
    rintro j ⟨hj0, hj1⟩ hih1
    try dsimp only at hih1 ⊢
    refine AK.seq ?_
    refine AK.seq ?_
    refine AK.region ?_
    refine AO.val (RV.move rfl) (.none rfl) rfl ?_
    refine AO.val (RV.geq rfl rfl) (.none rfl) rfl ?_
    refine AO.nil ?_
    refine AK.cond rfl ?_ ?_
    · intro hc2
      try simp only [decide_eq_true_eq, decide_eq_false_iff_not, Bool.not_eq_true', Bool.not_eq_false', beq_iff_eq] at hc2
      refine AK.skip ?_
      refine AK.seq ?_
      refine AK.block ?_
      refine AK.seq ?_
      refine AK.region ?_
      refine AO.val (RV.assign rfl) (.none rfl) rfl ?_
      refine AO.nil ?_
      refine AK.seq ?_
      refine AK.seq ?_
      refine AK.region ?_
      refine AO.val (RV.move rfl) (.none rfl) rfl ?_
      refine AO.val (by first | exact RV.mulIn rfl rfl (by omega) | exact RV.mul rfl rfl) (.none rfl) rfl ?_
      refine AO.val (RV.move rfl) (.none rfl) rfl ?_
      refine AO.val (by first | exact RV.addIn rfl rfl (by omega) | exact RV.add rfl rfl) (.none rfl) rfl ?_
      refine AO.val (RV.move rfl) (.none rfl) rfl ?_
      refine AO.val (RV.lenS rfl) (.none rfl) rfl ?_
      refine AO.val (RV.lss rfl rfl) (.none rfl) rfl ?_
      refine AO.nil ?_
      refine AK.cond rfl ?_ ?_
      · intro hc3
        try simp only [decide_eq_true_eq, decide_eq_false_iff_not, Bool.not_eq_true', Bool.not_eq_false', beq_iff_eq] at hc3
        have hx0 := lget_bytes hb (8 * (i : Int) + j) (by omega) (by omega)
        refine AK.region ?_
        refine AO.val (RV.move rfl) (.none rfl) rfl ?_
        refine AO.val (RV.move rfl) (.none rfl) rfl ?_
        refine AO.val (by first | exact RV.mulIn rfl rfl (by omega) | exact RV.mul rfl rfl) (.none rfl) rfl ?_
        refine AO.val (RV.move rfl) (.none rfl) rfl ?_
        refine AO.val (by first | exact RV.addIn rfl rfl (by omega) | exact RV.add rfl rfl) (.none rfl) rfl ?_
        refine AO.val (by first | exact RV.indexS rfl rfl (by assumption) (by omega) rfl | exact RV.indexAddr rfl rfl (by omega)) (.none rfl) rfl ?_
        refine AO.val (by first | exact RV.loadO rfl rfl (by first | simp | assumption) | exact RV.loadS rfl (by assumption) (by omega) (by first | simp | assumption)) (.none rfl) rfl ?_
        refine AO.val (by first | exact RV.convIn rfl (by simp only [kb]; omega) | exact RV.conv rfl) (.none rfl) rfl ?_
        refine AO.val (RV.assign rfl) (.none rfl) rfl ?_
        refine AO.nil ?_
        refine AK.seq ?_
        refine AK.seq ?_
        refine AK.region ?_
        refine AO.val (RV.move rfl) (.none rfl) rfl ?_
        refine AO.val (RV.move rfl) (.none rfl) rfl ?_
        refine AO.val (by first | exact RV.subIn rfl rfl (by omega) | exact RV.sub rfl rfl) (.none rfl) rfl ?_
        refine AO.val (RV.eql rfl rfl) (.none rfl) rfl ?_
        refine AO.val (RV.move rfl) (.none rfl) rfl ?_
        refine AO.caseG rfl rfl rfl ?_ ?_
        · intro hg4
          try simp only [decide_eq_true_eq, decide_eq_false_iff_not, Bool.not_eq_true', Bool.not_eq_false', beq_iff_eq] at hg4
          refine AO.val (RV.move rfl) (.some rfl rfl rfl rfl) rfl ?_
          refine AO.val (RV.eql rfl rfl) (.some rfl rfl rfl rfl) rfl ?_
          refine AO.val (RV.pickT rfl rfl) (.none rfl) rfl ?_
          refine AO.nil ?_
          refine AK.cond rfl ?_ ?_
          · intro hc5
            try simp only [decide_eq_true_eq, decide_eq_false_iff_not, Bool.not_eq_true', Bool.not_eq_false', beq_iff_eq] at hc5
            refine AK.region ?_
            refine AO.val (RV.move rfl) (.none rfl) rfl ?_
            refine AO.val (RV.lenS rfl) (.none rfl) rfl ?_
            refine AO.val (by first | exact RV.remIn rfl rfl (by omega) | exact RV.rem rfl rfl (by omega)) (.none rfl) rfl ?_
            refine AO.val (by first | exact RV.convIn rfl (by simp only [kb]; omega) | exact RV.conv rfl) (.none rfl) rfl ?_
            refine AO.val (RV.assign rfl) (.none rfl) rfl ?_
            refine AO.nil ?_
            refine AK.region ?_
            refine AO.val (RV.move rfl) (.none rfl) rfl ?_
            refine AO.val (RV.mul rfl rfl) (.none rfl) rfl ?_
            refine AO.val (RV.move rfl) (.none rfl) rfl ?_
            refine AO.val (RV.add rfl rfl) (.none rfl) rfl ?_
            refine AO.val (RV.assign rfl) (.none rfl) rfl ?_
            refine AO.nil ?_
            refine AK.inBlock ?_
            refine AK.region ?_
            refine AO.val (RV.move rfl) (.none rfl) rfl ?_
            refine AO.val (by first | exact RV.subIn rfl rfl (by omega) | exact RV.sub rfl rfl) (.none rfl) rfl ?_
            refine AO.val (RV.assign rfl) (.none rfl) rfl ?_
            refine AO.nil ?_
            -- round ends at L0TL1TTtT
            have hst := wb_step l hb i j (by omega) (by omega) _ (byte_last l i j (by omega) (by omega) (by omega) (by omega) (by omega))
            refine AK.weak (.cons (by exact rfl) (.cons (by exact rfl) (.cons (by exact rfl) (.cons (by exact rfl) (.cons (by rw [show (j - 1 + 1).toNat = j.toNat by omega, ← hst]; exact rfl) (.cons (by exact rfl) .nil)))))) (by first | exact SubO.sub | exact List.Sublist.refl _ | exact .cons _ (List.Sublist.refl _) | exact .cons _ (.cons _ (List.Sublist.refl _)) | exact .cons _ (.cons _ (.cons _ (List.Sublist.refl _)))) (hih1 (j - 1) ?_ ?_)
            · try dsimp only
              exact ⟨by omega, by omega⟩
            · try dsimp only
              omega
          · intro hc5
            try simp only [decide_eq_true_eq, decide_eq_false_iff_not, Bool.not_eq_true', Bool.not_eq_false', beq_iff_eq] at hc5
            refine AK.skip ?_
            refine AK.region ?_
            refine AO.val (RV.move rfl) (.none rfl) rfl ?_
            refine AO.val (RV.mul rfl rfl) (.none rfl) rfl ?_
            refine AO.val (RV.move rfl) (.none rfl) rfl ?_
            refine AO.val (RV.add rfl rfl) (.none rfl) rfl ?_
            refine AO.val (RV.assign rfl) (.none rfl) rfl ?_
            refine AO.nil ?_
            refine AK.inBlock ?_
            refine AK.region ?_
            refine AO.val (RV.move rfl) (.none rfl) rfl ?_
            refine AO.val (by first | exact RV.subIn rfl rfl (by omega) | exact RV.sub rfl rfl) (.none rfl) rfl ?_
            refine AO.val (RV.assign rfl) (.none rfl) rfl ?_
            refine AO.nil ?_
            -- round ends at L0TL1TTtF
            have hst := wb_step l hb i j (by omega) (by omega) _ (byte_in l i j (by omega) (by omega) (by omega) (by omega) (by omega))
            refine AK.weak (.cons (by exact rfl) (.cons (by exact rfl) (.cons (by exact rfl) (.cons (by exact rfl) (.cons (by rw [show (j - 1 + 1).toNat = j.toNat by omega, ← hst]; exact rfl) (.cons (by exact rfl) .nil)))))) (by first | exact SubO.sub | exact List.Sublist.refl _ | exact .cons _ (List.Sublist.refl _) | exact .cons _ (.cons _ (List.Sublist.refl _)) | exact .cons _ (.cons _ (.cons _ (List.Sublist.refl _)))) (hih1 (j - 1) ?_ ?_)
            · try dsimp only
              exact ⟨by omega, by omega⟩
            · try dsimp only
              omega
        · intro hg4
          try simp only [decide_eq_true_eq, decide_eq_false_iff_not, Bool.not_eq_true', Bool.not_eq_false', beq_iff_eq] at hg4
          refine AO.pass (.some rfl rfl rfl rfl) rfl ?_
          refine AO.pass (.some rfl rfl rfl rfl) rfl ?_
          refine AO.val (RV.pickF rfl rfl) (.none rfl) rfl ?_
          refine AO.nil ?_
          refine AK.condF rfl ?_
          refine AK.skip ?_
          refine AK.region ?_
          refine AO.val (RV.move rfl) (.none rfl) rfl ?_
          refine AO.val (RV.mul rfl rfl) (.none rfl) rfl ?_
          refine AO.val (RV.move rfl) (.none rfl) rfl ?_
          refine AO.val (RV.add rfl rfl) (.none rfl) rfl ?_
          refine AO.val (RV.assign rfl) (.none rfl) rfl ?_
          refine AO.nil ?_
          refine AK.inBlock ?_
          refine AK.region ?_
          refine AO.val (RV.move rfl) (.none rfl) rfl ?_
          refine AO.val (by first | exact RV.subIn rfl rfl (by omega) | exact RV.sub rfl rfl) (.none rfl) rfl ?_
          refine AO.val (RV.assign rfl) (.none rfl) rfl ?_
          refine AO.nil ?_
          -- round ends at L0TL1TTf
          have hst := wb_step l hb i j (by omega) (by omega) _ (byte_in l i j (by omega) (by omega) (by omega) (by omega) (by omega))
          refine AK.weak (.cons (by exact rfl) (.cons (by exact rfl) (.cons (by exact rfl) (.cons (by exact rfl) (.cons (by rw [show (j - 1 + 1).toNat = j.toNat by omega, ← hst]; exact rfl) (.cons (by exact rfl) .nil)))))) (by first | exact SubO.sub | exact List.Sublist.refl _ | exact .cons _ (List.Sublist.refl _) | exact .cons _ (.cons _ (List.Sublist.refl _)) | exact .cons _ (.cons _ (.cons _ (List.Sublist.refl _)))) (hih1 (j - 1) ?_ ?_)
          · try dsimp only
            exact ⟨by omega, by omega⟩
          · try dsimp only
            omega
      · intro hc3
        try simp only [decide_eq_true_eq, decide_eq_false_iff_not, Bool.not_eq_true', Bool.not_eq_false', beq_iff_eq] at hc3
        refine AK.skip ?_
        refine AK.seq ?_
        refine AK.seq ?_
        refine AK.region ?_
        refine AO.val (RV.move rfl) (.none rfl) rfl ?_
        refine AO.val (RV.move rfl) (.none rfl) rfl ?_
        refine AO.val (by first | exact RV.subIn rfl rfl (by omega) | exact RV.sub rfl rfl) (.none rfl) rfl ?_
        refine AO.val (RV.eql rfl rfl) (.none rfl) rfl ?_
        refine AO.val (RV.move rfl) (.none rfl) rfl ?_
        refine AO.caseG rfl rfl rfl ?_ ?_
        · intro hg6
          try simp only [decide_eq_true_eq, decide_eq_false_iff_not, Bool.not_eq_true', Bool.not_eq_false', beq_iff_eq] at hg6
          refine AO.val (RV.move rfl) (.some rfl rfl rfl rfl) rfl ?_
          refine AO.val (RV.eql rfl rfl) (.some rfl rfl rfl rfl) rfl ?_
          refine AO.val (RV.pickT rfl rfl) (.none rfl) rfl ?_
          refine AO.nil ?_
          refine AK.cond rfl ?_ ?_
          · intro hc7
            try simp only [decide_eq_true_eq, decide_eq_false_iff_not, Bool.not_eq_true', Bool.not_eq_false', beq_iff_eq] at hc7
            refine AK.region ?_
            refine AO.val (RV.move rfl) (.none rfl) rfl ?_
            refine AO.val (RV.lenS rfl) (.none rfl) rfl ?_
            refine AO.val (by first | exact RV.remIn rfl rfl (by omega) | exact RV.rem rfl rfl (by omega)) (.none rfl) rfl ?_
            refine AO.val (by first | exact RV.convIn rfl (by simp only [kb]; omega) | exact RV.conv rfl) (.none rfl) rfl ?_
            refine AO.val (RV.assign rfl) (.none rfl) rfl ?_
            refine AO.nil ?_
            refine AK.region ?_
            refine AO.val (RV.move rfl) (.none rfl) rfl ?_
            refine AO.val (RV.mul rfl rfl) (.none rfl) rfl ?_
            refine AO.val (RV.move rfl) (.none rfl) rfl ?_
            refine AO.val (RV.add rfl rfl) (.none rfl) rfl ?_
            refine AO.val (RV.assign rfl) (.none rfl) rfl ?_
            refine AO.nil ?_
            refine AK.inBlock ?_
            refine AK.region ?_
            refine AO.val (RV.move rfl) (.none rfl) rfl ?_
            refine AO.val (by first | exact RV.subIn rfl rfl (by omega) | exact RV.sub rfl rfl) (.none rfl) rfl ?_
            refine AO.val (RV.assign rfl) (.none rfl) rfl ?_
            refine AO.nil ?_
            -- round ends at L0TL1TFtT
            have hst := wb_step l hb i j (by omega) (by omega) _ (byte_last l i j (by omega) (by omega) (by omega) (by omega) (by omega))
            refine AK.weak (.cons (by exact rfl) (.cons (by exact rfl) (.cons (by exact rfl) (.cons (by exact rfl) (.cons (by rw [show (j - 1 + 1).toNat = j.toNat by omega, ← hst]; exact rfl) (.cons (by exact rfl) .nil)))))) (by first | exact SubO.sub | exact List.Sublist.refl _ | exact .cons _ (List.Sublist.refl _) | exact .cons _ (.cons _ (List.Sublist.refl _)) | exact .cons _ (.cons _ (.cons _ (List.Sublist.refl _)))) (hih1 (j - 1) ?_ ?_)
            · try dsimp only
              exact ⟨by omega, by omega⟩
            · try dsimp only
              omega
          · intro hc7
            try simp only [decide_eq_true_eq, decide_eq_false_iff_not, Bool.not_eq_true', Bool.not_eq_false', beq_iff_eq] at hc7
            refine AK.skip ?_
            refine AK.region ?_
            refine AO.val (RV.move rfl) (.none rfl) rfl ?_
            refine AO.val (RV.mul rfl rfl) (.none rfl) rfl ?_
            refine AO.val (RV.move rfl) (.none rfl) rfl ?_
            refine AO.val (RV.add rfl rfl) (.none rfl) rfl ?_
            refine AO.val (RV.assign rfl) (.none rfl) rfl ?_
            refine AO.nil ?_
            refine AK.inBlock ?_
            refine AK.region ?_
            refine AO.val (RV.move rfl) (.none rfl) rfl ?_
            refine AO.val (by first | exact RV.subIn rfl rfl (by omega) | exact RV.sub rfl rfl) (.none rfl) rfl ?_
            refine AO.val (RV.assign rfl) (.none rfl) rfl ?_
            refine AO.nil ?_
            -- round ends at L0TL1TFtF
            have hst := wb_step l hb i j (by omega) (by omega) _ (byte_out l i j (by omega) (by omega) (by omega) (by omega) (by omega))
            refine AK.weak (.cons (by exact rfl) (.cons (by exact rfl) (.cons (by exact rfl) (.cons (by exact rfl) (.cons (by rw [show (j - 1 + 1).toNat = j.toNat by omega, ← hst]; exact rfl) (.cons (by exact rfl) .nil)))))) (by first | exact SubO.sub | exact List.Sublist.refl _ | exact .cons _ (List.Sublist.refl _) | exact .cons _ (.cons _ (List.Sublist.refl _)) | exact .cons _ (.cons _ (.cons _ (List.Sublist.refl _)))) (hih1 (j - 1) ?_ ?_)
            · try dsimp only
              exact ⟨by omega, by omega⟩
            · try dsimp only
              omega
        · intro hg6
          try simp only [decide_eq_true_eq, decide_eq_false_iff_not, Bool.not_eq_true', Bool.not_eq_false', beq_iff_eq] at hg6
          refine AO.pass (.some rfl rfl rfl rfl) rfl ?_
          refine AO.pass (.some rfl rfl rfl rfl) rfl ?_
          refine AO.val (RV.pickF rfl rfl) (.none rfl) rfl ?_
          refine AO.nil ?_
          refine AK.condF rfl ?_
          refine AK.skip ?_
          refine AK.region ?_
          refine AO.val (RV.move rfl) (.none rfl) rfl ?_
          refine AO.val (RV.mul rfl rfl) (.none rfl) rfl ?_
          refine AO.val (RV.move rfl) (.none rfl) rfl ?_
          refine AO.val (RV.add rfl rfl) (.none rfl) rfl ?_
          refine AO.val (RV.assign rfl) (.none rfl) rfl ?_
          refine AO.nil ?_
          refine AK.inBlock ?_
          refine AK.region ?_
          refine AO.val (RV.move rfl) (.none rfl) rfl ?_
          refine AO.val (by first | exact RV.subIn rfl rfl (by omega) | exact RV.sub rfl rfl) (.none rfl) rfl ?_
          refine AO.val (RV.assign rfl) (.none rfl) rfl ?_
          refine AO.nil ?_
          -- round ends at L0TL1TFf
          have hst := wb_step l hb i j (by omega) (by omega) _ (byte_out l i j (by omega) (by omega) (by omega) (by omega) (by omega))
          refine AK.weak (.cons (by exact rfl) (.cons (by exact rfl) (.cons (by exact rfl) (.cons (by exact rfl) (.cons (by rw [show (j - 1 + 1).toNat = j.toNat by omega, ← hst]; exact rfl) (.cons (by exact rfl) .nil)))))) (by first | exact SubO.sub | exact List.Sublist.refl _ | exact .cons _ (List.Sublist.refl _) | exact .cons _ (.cons _ (List.Sublist.refl _)) | exact .cons _ (.cons _ (.cons _ (List.Sublist.refl _)))) (hih1 (j - 1) ?_ ?_)
          · try dsimp only
            exact ⟨by omega, by omega⟩
          · try dsimp only
            omega
    · intro hc2
      try simp only [decide_eq_true_eq, decide_eq_false_iff_not, Bool.not_eq_true', Bool.not_eq_false', beq_iff_eq] at hc2
      refine AK.exit rfl ?_
      refine AK.seq ?_
      refine AK.region ?_
      refine AO.val (RV.indexAddrL rfl rfl (by omega)) (.none rfl) rfl ?_
      refine AO.val (by first | exact RV.loadO rfl rfl (by first | simp | assumption) | exact RV.loadS rfl (by assumption) (by omega) (by first | simp | assumption)) (.none rfl) rfl ?_
      refine AO.val (RV.move rfl) (.none rfl) rfl ?_
      refine AO.val (RV.xor rfl rfl) (.none rfl) rfl ?_
      refine AO.val (RV.indexAddrL rfl rfl (by omega)) (.none rfl) rfl ?_
      refine AO.effN (EF.storeO rfl rfl rfl rfl rfl rfl) (.none rfl) ?_
      rintro _ _ rfl
      refine AO.nil ?_
      refine AK.seq ?_
      refine AK.region ?_
      refine AO.val (by first | exact RV.loadAggO rfl rfl (by first | simp | assumption) | exact RV.loadAggP rfl rfl rfl (by first | simp | assumption)) (.none rfl) rfl ?_
      refine AO.eff (EF.callF rfl (rround_spec B _ ((behindR lo hi l i).1, (behindR lo hi l i).2.1, (behindR lo hi l i).2.2.1, X (behindR lo hi l i).2.2.2 (le ((wb l i).drop (j + 1).toNat))) ⟨hui.1, hui.2.1, hui.2.2.1, X_U _ _⟩)) (.none rfl) rfl ?_
      rintro _ _ ⟨rfl, rfl⟩
      refine AO.eff (EF.callF rfl (rround_spec B _ (roundS ((behindR lo hi l i).1, (behindR lo hi l i).2.1, (behindR lo hi l i).2.2.1, X (behindR lo hi l i).2.2.2 (le ((wb l i).drop (j + 1).toNat)))) (roundS_US _))) (.none rfl) rfl ?_
      rintro _ _ ⟨rfl, rfl⟩
      refine AO.effN (EF.storeO rfl rfl rfl rfl rfl rfl) (.none rfl) ?_
      rintro _ _ rfl
      refine AO.nil ?_
      refine AK.region ?_
      refine AO.val (RV.indexAddrL rfl rfl (by omega)) (.none rfl) rfl ?_
      refine AO.val (by first | exact RV.loadO rfl rfl (by first | simp | assumption) | exact RV.loadS rfl (by assumption) (by omega) (by first | simp | assumption)) (.none rfl) rfl ?_
      refine AO.val (RV.move rfl) (.none rfl) rfl ?_
      refine AO.val (RV.xor rfl rfl) (.none rfl) rfl ?_
      refine AO.val (RV.indexAddrL rfl rfl (by omega)) (.none rfl) rfl ?_
      refine AO.effN (EF.storeO rfl rfl rfl rfl rfl rfl) (.none rfl) ?_
      rintro _ _ rfl
      refine AO.nil ?_
      refine AK.inBlock ?_
      refine AK.region ?_
      refine AO.val (RV.move rfl) (.none rfl) rfl ?_
      refine AO.val (by first | exact RV.addIn rfl rfl (by omega) | exact RV.add rfl rfl) (.none rfl) rfl ?_
      refine AO.val (RV.assign rfl) (.none rfl) rfl ?_
      refine AO.nil ?_
      -- round ends at L0TL1F
      have hw : le ((wb l i).drop (j + 1).toNat) = wordAt l i := by rw [show (j + 1).toNat = 0 by omega, List.drop_zero, le_wb l i (by omega)]
      have hbe : behindR lo hi l (i + 1) = takeS (behindR lo hi l i) (le ((wb l i).drop (j + 1).toNat)) := by rw [hw]; rfl
      refine AK.weak (.cons (by exact rfl) (.cons (by exact rfl) (.cons (by exact rfl) (.cons (by exact rfl) .nil)))) (by rw [hbe]; exact List.Sublist.refl _) (hih0 (i + 1) ?_ ?_)
      · try dsimp only
        exact by omega
      · try dsimp only
        omega
  · intro hc1
    try simp only [decide_eq_true_eq, decide_eq_false_iff_not, Bool.not_eq_true', Bool.not_eq_false', beq_iff_eq] at hc1
    refine AK.exit rfl ?_
    refine AK.seq ?_
    refine AK.region ?_
    refine AO.val (RV.indexAddrL rfl rfl (by omega)) (.none rfl) rfl ?_
    refine AO.val (by first | exact RV.loadO rfl rfl (by first | simp | assumption) | exact RV.loadS rfl (by assumption) (by omega) (by first | simp | assumption)) (.none rfl) rfl ?_
    refine AO.val (RV.xor rfl rfl) (.none rfl) rfl ?_
    refine AO.val (RV.indexAddrL rfl rfl (by omega)) (.none rfl) rfl ?_
    refine AO.effN (EF.storeO rfl rfl rfl rfl rfl rfl) (.none rfl) ?_
    rintro _ _ rfl
    refine AO.nil ?_
    refine AK.seq ?_
    refine AK.region ?_
    refine AO.val (by first | exact RV.loadAggO rfl rfl (by first | simp | assumption) | exact RV.loadAggP rfl rfl rfl (by first | simp | assumption)) (.none rfl) rfl ?_
    refine AO.eff (EF.callF rfl (rround_spec B _ ((behindR lo hi l i).1, (behindR lo hi l i).2.1, X (behindR lo hi l i).2.2.1 255, (behindR lo hi l i).2.2.2) ⟨hui.1, hui.2.1, X_U _ _, hui.2.2.2⟩)) (.none rfl) rfl ?_
    rintro _ _ ⟨rfl, rfl⟩
    refine AO.eff (EF.callF rfl (rround_spec B _ (roundS (((behindR lo hi l i).1, (behindR lo hi l i).2.1, X (behindR lo hi l i).2.2.1 255, (behindR lo hi l i).2.2.2))) (roundS_US _))) (.none rfl) rfl ?_
    rintro _ _ ⟨rfl, rfl⟩
    refine AO.eff (EF.callF rfl (rround_spec B _ (roundS (roundS (((behindR lo hi l i).1, (behindR lo hi l i).2.1, X (behindR lo hi l i).2.2.1 255, (behindR lo hi l i).2.2.2)))) (roundS_US _))) (.none rfl) rfl ?_
    rintro _ _ ⟨rfl, rfl⟩
    refine AO.eff (EF.callF rfl (rround_spec B _ (roundS (roundS (roundS (((behindR lo hi l i).1, (behindR lo hi l i).2.1, X (behindR lo hi l i).2.2.1 255, (behindR lo hi l i).2.2.2))))) (roundS_US _))) (.none rfl) rfl ?_
    rintro _ _ ⟨rfl, rfl⟩
    refine AO.effN (EF.storeO rfl rfl rfl rfl rfl rfl) (.none rfl) ?_
    rintro _ _ rfl
    refine AO.nil ?_
    refine AK.seq ?_
    refine AK.region ?_
    refine AO.val (RV.indexAddrL rfl rfl (by omega)) (.none rfl) rfl ?_
    refine AO.val (by first | exact RV.loadO rfl rfl (by first | simp | assumption) | exact RV.loadS rfl (by assumption) (by omega) (by first | simp | assumption)) (.none rfl) rfl ?_
    refine AO.val (RV.indexAddrL rfl rfl (by omega)) (.none rfl) rfl ?_
    refine AO.val (by first | exact RV.loadO rfl rfl (by first | simp | assumption) | exact RV.loadS rfl (by assumption) (by omega) (by first | simp | assumption)) (.none rfl) rfl ?_
    refine AO.val (RV.xor rfl rfl) (.none rfl) rfl ?_
    refine AO.val (RV.indexAddrL rfl rfl (by omega)) (.none rfl) rfl ?_
    refine AO.val (by first | exact RV.loadO rfl rfl (by first | simp | assumption) | exact RV.loadS rfl (by assumption) (by omega) (by first | simp | assumption)) (.none rfl) rfl ?_
    refine AO.val (RV.xor rfl rfl) (.none rfl) rfl ?_
    refine AO.val (RV.indexAddrL rfl rfl (by omega)) (.none rfl) rfl ?_
    refine AO.val (by first | exact RV.loadO rfl rfl (by first | simp | assumption) | exact RV.loadS rfl (by assumption) (by omega) (by first | simp | assumption)) (.none rfl) rfl ?_
    refine AO.val (RV.xor rfl rfl) (.none rfl) rfl ?_
    refine AO.val (RV.assign rfl) (.none rfl) rfl ?_
    refine AO.nil ?_
    -- at L0F
    clear hih0
    have ei : i = l.length / 8 + 1 := by omega
    subst ei
    refine AK.ret (h' := h) Try.func31 (.tmp rfl .nil) ?_ (by first | exact SubO.sub | exact List.Sublist.refl _ | exact .cons _ (List.Sublist.refl _) | exact .cons _ (.cons _ (List.Sublist.refl _)) | exact .cons _ (.cons _ (.cons _ (List.Sublist.refl _))))
    exact ⟨rfl, by rw [sumS, ← behindR_end]; rfl⟩

end Go.Proofs.Ytbdlohjmifgcaaa
