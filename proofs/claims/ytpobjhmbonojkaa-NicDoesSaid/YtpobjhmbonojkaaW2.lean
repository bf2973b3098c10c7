/- Walks through the code: what each function that is named here gives back, from any memory that holds its arguments. Written by a program of the claim's author, out of the program's form in Lean. -/
import Derived.Test.YtpobjhmbonojkaaW1
set_option linter.unusedSimpArgs false
set_option linter.unusedVariables false
namespace Go.Proofs.Ytpobjhmbonojkaa
open Go.Sep Go.Sep.Ring Go.Sep.Pool Go.Sep.Sip Go.Sep.Nic

theorem lives_spec (B : World) (h : Own)  : Tri Try.prog B 16 [] h fun v h' => v = .bool true := by
  refine Tri.enter (n := 55) Try.func16 rfl rfl rfl ?_
  try dsimp only [argsE]
  refine AK.seq ?_
  refine AK.region ?_
  refine AO.val (RV.assign rfl) (.none rfl) rfl ?_
  refine AO.nil ?_
  refine AK.seq ?_
  refine AK.region ?_
  refine AO.eff (EF.callF rfl (new_spec B _ 2)) (.none rfl) rfl ?_
  rintro _ _ ⟨p, qt, qb, rfl, rfl⟩
  refine AO.eff (EF.callF rfl (nic_new (Ab := none) (cb := 0) B _ p qb qt [] (newP 2).tk.length (newP 2) (List.replicate (newP 2).tk.length (none, 0, 0)) (List.replicate (newP 2).tk.length []) [] (by intro x hx; cases hx) ⟨pi_new 2, rfl, List.length_replicate, .nil, Nat.le_refl 0, cont_new B _⟩ [] List.nodup_nil (by intro i hi; cases hi) 1)) (.none rfl) rfl ?_
  rintro _ _ ⟨c, a, aq, b, bq, s1, t1, q1, A1, c1, p1, rfl, rfl, w1, hh1, hca1, hf1⟩
  rw [show fillA (newR 1).sl.length ⟨0, [], [], 0⟩ (freeP (newP 2)) = (⟨1, [], [], 0⟩, 1) from rfl] at hca1 hf1
  simp only at hca1 hf1
  refine AO.val (RV.assign rfl) (.none rfl) rfl ?_
  refine AO.nil ?_
  refine AK.seq ?_
  refine AK.seq ?_
  refine AK.region ?_
  refine AO.val (RV.move rfl) (.none rfl) rfl ?_
  refine AO.eff (EF.buildSeq [.int .u8 5] rfl rfl rfl rfl) (.none rfl) rfl ?_
  rintro _ _ ⟨b8, hf8, rfl, rfl⟩
  refine AO.eff (EF.callF rfl (Tri.perm (in_perm ..) (arrive_spec (A := some ⟨b8, 0, none⟩) (cap := 1) B _ c a aq b bq p qb qt p1 (newP 2).tk.length (newR 1).sl.length s1 (List.replicate (newP 2).tk.length (none, 0, 0)) (List.replicate (newP 2).tk.length []) ([]) (by intro x hx; first | (cases hx; done) | (simp only [List.mem_append, List.mem_cons] at hx ⊢; grind)) w1 t1 (newR 1) q1 newQ [] hh1 [5] (Src.of_new (el := 5) (cs := [.int .u8 5]) (by simp) 1 1 (Nat.le_refl _)) (by intro x hx; simp at hx; omega) (by decide)))) (.none rfl) rfl ?_
  rintro _ _ ⟨bs2, ct2, t2, q2, pt2, hv2, rfl, w2, hh2, hca2, _⟩
  rw [show arriveA (ca (List.replicate (newP 2).tk.length []) q1 newQ) [5] = (⟨0, [[5]], [], 0⟩, 0) by rw [hca1]; rfl] at hv2 hca2
  simp only at hv2 hca2
  subst hv2
  refine AO.val ((RV.neq rfl rfl).to (v' := .bool false) (by simp)) (.none rfl) rfl ?_
  refine AO.val (RV.move rfl) (.none rfl) rfl ?_
  refine AO.val (RV.move rfl) (.some rfl rfl rfl rfl) rfl ?_
  refine AO.eff (EF.buildSeq [.int .u8 6] rfl rfl rfl rfl) (.some rfl rfl rfl rfl) rfl ?_
  rintro _ _ ⟨b13, hf13, rfl, rfl⟩
  refine AO.eff (EF.callF rfl (Tri.perm (in_perm ..) (arrive_spec (A := some ⟨b13, 0, none⟩) (cap := 1) B _ c a aq b bq p qb qt p1 (newP 2).tk.length (newR 1).sl.length s1 bs2 ct2 (pt2 ++ []) (by intro x hx; first | (cases hx; done) | (simp only [List.mem_append, List.mem_cons] at hx ⊢; grind)) w2 t2 (newR 1) q2 newQ [] hh2 [6] (Src.of_new (el := 5) (cs := [.int .u8 6]) (by simp) 1 1 (Nat.le_refl _)) (by intro x hx; simp at hx; omega) (by decide)))) (.some rfl rfl rfl rfl) rfl ?_
  rintro _ _ ⟨bs3, ct3, t3, q3, pt3, hv3, rfl, w3, hh3, hca3, _⟩
  rw [show arriveA (ca ct2 q2 newQ) [6] = (⟨0, [[5]], [], 0⟩, 7) by rw [hca2]; rfl] at hv3 hca3
  simp only at hv3 hca3
  subst hv3
  refine AO.val ((RV.neq rfl rfl).to (v' := .bool false) (by simp)) (.some rfl rfl rfl rfl) rfl ?_
  refine AO.val (RV.pickF rfl rfl) (.none rfl) rfl ?_
  refine AO.val (RV.move rfl) (.none rfl) rfl ?_
  refine AO.val (RV.move rfl) (.some rfl rfl rfl rfl) rfl ?_
  refine AO.eff (EF.buildSeq [.int .u8 7] rfl rfl rfl rfl) (.some rfl rfl rfl rfl) rfl ?_
  rintro _ _ ⟨b19, hf19, rfl, rfl⟩
  refine AO.eff (EF.callF rfl (Tri.perm (in_perm ..) (send_spec (A := some ⟨b19, 0, none⟩) (cap := 1) B _ c a aq b bq p qb qt p1 (newP 2).tk.length (newR 1).sl.length s1 bs3 ct3 (pt3 ++ (pt2 ++ [])) (by intro x hx; first | (cases hx; done) | (simp only [List.mem_append, List.mem_cons] at hx ⊢; grind)) w3 t3 (newR 1) q3 newQ [] hh3 [7] (Src.of_new (el := 5) (cs := [.int .u8 7]) (by simp) 1 1 (Nat.le_refl _)) (by intro x hx; simp at hx; omega) (by decide)))) (.some rfl rfl rfl rfl) rfl ?_
  rintro _ _ ⟨s4, bs4, ct4, o4, u4, A4, c4, p4, pt4, hv4, rfl, w4, hh4, hca4, hf4, _⟩
  rw [show sendA (newR 1).sl.length (ca ct3 q3 newQ) (freeP s1) [7] = ((⟨0, [[5]], [[7]], 0⟩, 0), 0) by rw [hca3, hf1]; rfl] at hv4 hca4 hf4
  simp only at hv4 hca4 hf4
  subst hv4
  refine AO.val ((RV.neq rfl rfl).to (v' := .bool false) (by simp)) (.some rfl rfl rfl rfl) rfl ?_
  refine AO.val (RV.pickF rfl rfl) (.none rfl) rfl ?_
  refine AO.nil ?_
  refine AK.condF rfl ?_
  refine AK.skip ?_
  refine AK.seq ?_
  refine AK.region ?_
  refine AO.val (RV.move rfl) (.none rfl) rfl ?_
  refine AO.eff (EF.callF rfl (poll_spec B _ c a aq b bq p qb qt p4 (newP 2).tk.length (newR 1).sl.length s4 bs4 ct4 (pt4 ++ (pt3 ++ (pt2 ++ []))) (by intro x hx; first | (cases hx; done) | (simp only [List.mem_append, List.mem_cons] at hx ⊢; grind)) w4 t3 o4 q3 u4 [] hh4)) (.none rfl) rfl ?_
  rintro _ _ ⟨A5r, c5r, pt5, s5, bs5, ct5, t5, o5, q5, u5, A5, c5, p5, hv5, hc5, hr5, _, _, rfl, w5, hh5, hca5, hf5, _⟩
  rw [show pollA (newR 1).sl.length (ca ct4 q3 u4) (freeP s4) = ((⟨1, [], [[7]], 0⟩, 0), [5], true) by rw [hca4, hf4]; rfl] at hv5 hc5 hr5 hca5 hf5
  simp only [List.length_cons, List.length_nil, List.map_cons, List.map_nil] at hv5 hc5 hr5 hca5 hf5
  subst hv5
  refine AO.val (RV.move rfl) (.none rfl) rfl ?_
  refine AO.val (RV.extract rfl rfl) (.none rfl) rfl ?_
  refine AO.val (RV.extract rfl rfl) (.none rfl) rfl ?_
  refine AO.val (RV.assign rfl) (.none rfl) rfl ?_
  refine AO.val (RV.assign rfl) (.none rfl) rfl ?_
  refine AO.nil ?_
  refine AK.seq ?_
  refine AK.region ?_
  refine AO.val (RV.move rfl) (.none rfl) rfl ?_
  refine AO.eff (EF.callF rfl (finish_spec B _ c a aq b bq p qb qt p5 (newP 2).tk.length (newR 1).sl.length s5 bs5 ct5 (pt4 ++ (pt3 ++ (pt2 ++ []))) (by intro x hx; first | (cases hx; done) | (simp only [List.mem_append, List.mem_cons] at hx ⊢; grind)) w5 t5 o5 q5 u5 [] hh5 9)) (.none rfl) rfl ?_
  rintro _ _ ⟨zs, Ao, co, po, pt6, o6, q6, rfl, hco, hro, hz, hzs, rfl, hh6, _⟩
  rw [show finishA (ca ct5 q5 u5) 9 = (⟨1, [], [], 1⟩, [[7]]) by rw [hca5]; rfl] at hzs
  simp only at hzs
  obtain ⟨z, rfl, hzl⟩ := one_of hzs
  obtain ⟨hzr, _⟩ := hz z (by simp)
  rw [hzl] at hzr
  refine AO.val (RV.assign rfl) (.none rfl) rfl ?_
  refine AO.nil ?_
  refine AK.seq ?_
  refine AK.region ?_
  refine AO.val (RV.move rfl) (.none rfl) rfl ?_
  refine AO.val (RV.move rfl) (.none rfl) rfl ?_
  refine AO.val (RV.move rfl) (.some rfl rfl rfl rfl) rfl ?_
  refine AO.val (RV.lenS rfl) (.some rfl rfl rfl rfl) rfl ?_
  refine AO.val ((RV.eql rfl rfl).to (v' := .bool true) (by simp)) (.some rfl rfl rfl rfl) rfl ?_
  refine AO.val (RV.pickT rfl rfl) (.none rfl) rfl ?_
  refine AO.val (RV.move rfl) (.none rfl) rfl ?_
  refine AO.val (RV.move rfl) (.some rfl rfl rfl rfl) rfl ?_
  refine AO.val (RV.indexS rfl rfl (hr5.src (h := pt5) fun x hx => hx) (by simp) rfl) (.some rfl rfl rfl rfl) rfl ?_
  refine AO.val ((RV.loadS (enc := fun x => Value.int .u8 x) (l := [(5 : Int)]) rfl (hr5.src (h := pt5) fun x hx => hx) (by simp) (by simp)).to (v' := .int .u8 5) rfl) (.some rfl rfl rfl rfl) rfl ?_
  refine AO.val ((RV.eql rfl rfl).to (v' := .bool true) (by simp)) (.some rfl rfl rfl rfl) rfl ?_
  refine AO.val (RV.pickT rfl rfl) (.none rfl) rfl ?_
  refine AO.val (RV.move rfl) (.none rfl) rfl ?_
  refine AO.val (RV.move rfl) (.some rfl rfl rfl rfl) rfl ?_
  refine AO.val (RV.lenS rfl) (.some rfl rfl rfl rfl) rfl ?_
  refine AO.val ((RV.eql rfl rfl).to (v' := .bool true) (by simp)) (.some rfl rfl rfl rfl) rfl ?_
  refine AO.val (RV.pickT rfl rfl) (.none rfl) rfl ?_
  refine AO.val (RV.move rfl) (.none rfl) rfl ?_
  refine AO.val (RV.move rfl) (.some rfl rfl rfl rfl) rfl ?_
  refine AO.val (RV.indexS rfl rfl (hro.src (h := po) fun x hx => hx) (by simp) rfl) (.some rfl rfl rfl rfl) rfl ?_
  refine AO.val ((RV.loadS (enc := fun z : InS Int => Value.slice z.A z.l.length z.cap) (l := [z]) rfl (hro.src (h := po) fun x hx => hx) (by simp) (by simp)).to (v' := .slice z.A 1 z.cap) (by simp [lget, List.getD, hzl])) (.some rfl rfl rfl rfl) rfl ?_
  refine AO.val (RV.indexS rfl rfl (hzr) (by simp) rfl) (.some rfl rfl rfl rfl) rfl ?_
  refine AO.val ((RV.loadS (enc := fun x => Value.int .u8 x) (l := [(7 : Int)]) rfl hzr (by simp) (by simp)).to (v' := .int .u8 7) rfl) (.some rfl rfl rfl rfl) rfl ?_
  refine AO.val ((RV.eql rfl rfl).to (v' := .bool true) (by simp)) (.some rfl rfl rfl rfl) rfl ?_
  refine AO.val (RV.pickT rfl rfl) (.none rfl) rfl ?_
  refine AO.val (RV.assign rfl) (.none rfl) rfl ?_
  refine AO.nil ?_
  -- at 
  refine AK.ret (h' := []) Try.func16 (.tmp rfl .nil) ?_ (List.nil_sublist _)
  rfl

end Go.Proofs.Ytpobjhmbonojkaa
