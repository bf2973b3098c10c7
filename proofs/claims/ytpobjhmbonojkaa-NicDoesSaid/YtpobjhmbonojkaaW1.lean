/- Walks through the code: what each function that is named here gives back, from any memory that holds its arguments. Written by a program of the claim's author, out of the program's form in Lean. -/
import Derived.Test.YtpobjhmbonojkaaS14R4
import Derived.Test.YtpobjhmbonojkaaS15R1
import Derived.Test.YtpobjhmbonojkaaPlain
set_option linter.unusedSimpArgs false
set_option linter.unusedVariables false
namespace Go.Proofs.Ytpobjhmbonojkaa
open Go.Sep Go.Sep.Ring Go.Sep.Pool Go.Sep.Sip Go.Sep.Nic

theorem nic_in (B : World) (h : Own) (c a aq b bq p qb qt : Nat) (pb : Own) {Ab : Option Addr} {cb : Nat} (L M : Nat) (s : PS) (bs : List Sl) (ct : List (List Int)) (D : Own) (hD : ∀ x ∈ D, x ∈ h) (w : PW 3 B L (s) (bs) (ct) (D) Ab cb pb) (si so : RS) (qi qo : QS) (O : List Int) (hh : Hold M s O si so qi qo)  : Tri Try.prog B 23 [.pointer (some ⟨c, 0, none⟩)] ((c, Blk.cells [.pointer (some ⟨a, 0, none⟩), .pointer (some ⟨b, 0, none⟩), .pointer (some ⟨p, 0, none⟩)] 56 (0, 0)) :: (a, Blk.cells [.slice (some ⟨aq, 0, none⟩) M M, .int .i64 (si).post, .int .i64 (si).work, .int .i64 (si).reap] 70 (0, 0)) :: (aq, Blk.cells (flat encS (si).sl) 72 (0, 0)) :: (b, Blk.cells [.slice (some ⟨bq, 0, none⟩) M M, .int .i64 (so).post, .int .i64 (so).work, .int .i64 (so).reap] 70 (0, 0)) :: (bq, Blk.cells (flat encS (so).sl) 72 (0, 0)) :: (pb ++ ((p, Blk.cells [.slice (some ⟨qb, 0, none⟩) L L, .slice (some ⟨qt, 0, none⟩) L L, .slice Ab (s).back.length cb, .int .i64 (s).fresh] 59 (0, 0)) :: (qt, Blk.cells (flat encBo (s).tk) 4 (0, 0)) :: (qb, Blk.cells (flat encSl (bs)) 28 (0, 0)) :: h))) fun v h' => ((c, Blk.cells [.pointer (some ⟨a, 0, none⟩), .pointer (some ⟨b, 0, none⟩), .pointer (some ⟨p, 0, none⟩)] 56 (0, 0)) :: (a, Blk.cells [.slice (some ⟨aq, 0, none⟩) M M, .int .i64 (si).post, .int .i64 (si).work, .int .i64 (si).reap] 70 (0, 0)) :: (aq, Blk.cells (flat encS (si).sl) 72 (0, 0)) :: (b, Blk.cells [.slice (some ⟨bq, 0, none⟩) M M, .int .i64 (so).post, .int .i64 (so).work, .int .i64 (so).reap] 70 (0, 0)) :: (bq, Blk.cells (flat encS (so).sl) 72 (0, 0)) :: (pb ++ ((p, Blk.cells [.slice (some ⟨qb, 0, none⟩) L L, .slice (some ⟨qt, 0, none⟩) L L, .slice Ab (s).back.length cb, .int .i64 (s).fresh] 59 (0, 0)) :: (qt, Blk.cells (flat encBo (s).tk) 4 (0, 0)) :: (qb, Blk.cells (flat encSl (bs)) 28 (0, 0)) :: h))) = h' ∧ v = .int .i64 qi.posted.length := by
  have hrm := hh.roomin
  have hro := hh.roomout
  have hsz := hh.sz
  have hfn := free_nn w.pi
  refine Tri.enter (n := 10) Try.func23 rfl rfl rfl ?_
  simp only [argsE, Nat.reduceAdd]
  try dsimp only [argsE]
  refine AK.seq ?_
  refine AK.region ?_
  refine AO.val (RV.assign rfl) (.none rfl) rfl ?_
  refine AO.nil ?_
  refine AK.seq ?_
  refine AK.seq ?_
  refine AK.region ?_
  refine AO.val (RV.move rfl) (.none rfl) rfl ?_
  refine AO.val (RV.eqlP rfl rfl) (.none rfl) rfl ?_
  refine AO.nil ?_
  refine AK.condF rfl ?_
  refine AK.skip ?_
  refine AK.seq ?_
  refine AK.region ?_
  refine AO.val (RV.move rfl) (.none rfl) rfl ?_
  refine AO.val (RV.nilCheck rfl) (.none rfl) rfl ?_
  refine AO.val (RV.fieldAddr rfl) (.none rfl) rfl ?_
  refine AO.val (by first | exact RV.loadO rfl rfl (by first | simp | assumption) | exact RV.loadF rfl (fun _ => rfl) (by omega) rfl rfl (by first | simp | assumption) | exact RV.loadF0 rfl (fun _ => rfl) (by omega) rfl rfl (by first | simp | assumption) | exact RV.loadS rfl (by assumption) (by omega) (by first | simp | assumption)) (.none rfl) rfl ?_
  refine AO.eff (EF.callF rfl (ring_posted B [_] _ a aq M si hh.ri.ok hh.ni)) (.none rfl) rfl ?_
  rintro _ _ ⟨rfl, rfl⟩
  simp only [List.cons_append, List.nil_append]
  refine AO.val (RV.assign rfl) (.none rfl) rfl ?_
  refine AO.nil ?_
  -- at 
  refine AK.ret (h' := ((c, Blk.cells [.pointer (some ⟨a, 0, none⟩), .pointer (some ⟨b, 0, none⟩), .pointer (some ⟨p, 0, none⟩)] 56 (0, 0)) :: (a, Blk.cells [.slice (some ⟨aq, 0, none⟩) M M, .int .i64 (si).post, .int .i64 (si).work, .int .i64 (si).reap] 70 (0, 0)) :: (aq, Blk.cells (flat encS (si).sl) 72 (0, 0)) :: (b, Blk.cells [.slice (some ⟨bq, 0, none⟩) M M, .int .i64 (so).post, .int .i64 (so).work, .int .i64 (so).reap] 70 (0, 0)) :: (bq, Blk.cells (flat encS (so).sl) 72 (0, 0)) :: (pb ++ ((p, Blk.cells [.slice (some ⟨qb, 0, none⟩) L L, .slice (some ⟨qt, 0, none⟩) L L, .slice Ab (s).back.length cb, .int .i64 (s).fresh] 59 (0, 0)) :: (qt, Blk.cells (flat encBo (s).tk) 4 (0, 0)) :: (qb, Blk.cells (flat encSl (bs)) 28 (0, 0)) :: h)))) Try.func23 (.tmp rfl .nil) ?_ (by first | exact SubO.sub | exact List.Sublist.refl _ | exact .cons _ (List.Sublist.refl _) | exact .cons _ (.cons _ (List.Sublist.refl _)) | exact .cons _ (.cons _ (.cons _ (List.Sublist.refl _))))
  exact ⟨rfl, by rw [hh.ri.cown]; rfl⟩

theorem nic_out (B : World) (h : Own) (c a aq b bq p qb qt : Nat) (pb : Own) {Ab : Option Addr} {cb : Nat} (L M : Nat) (s : PS) (bs : List Sl) (ct : List (List Int)) (D : Own) (hD : ∀ x ∈ D, x ∈ h) (w : PW 3 B L (s) (bs) (ct) (D) Ab cb pb) (si so : RS) (qi qo : QS) (O : List Int) (hh : Hold M s O si so qi qo)  : Tri Try.prog B 15 [.pointer (some ⟨c, 0, none⟩)] ((c, Blk.cells [.pointer (some ⟨a, 0, none⟩), .pointer (some ⟨b, 0, none⟩), .pointer (some ⟨p, 0, none⟩)] 56 (0, 0)) :: (a, Blk.cells [.slice (some ⟨aq, 0, none⟩) M M, .int .i64 (si).post, .int .i64 (si).work, .int .i64 (si).reap] 70 (0, 0)) :: (aq, Blk.cells (flat encS (si).sl) 72 (0, 0)) :: (b, Blk.cells [.slice (some ⟨bq, 0, none⟩) M M, .int .i64 (so).post, .int .i64 (so).work, .int .i64 (so).reap] 70 (0, 0)) :: (bq, Blk.cells (flat encS (so).sl) 72 (0, 0)) :: (pb ++ ((p, Blk.cells [.slice (some ⟨qb, 0, none⟩) L L, .slice (some ⟨qt, 0, none⟩) L L, .slice Ab (s).back.length cb, .int .i64 (s).fresh] 59 (0, 0)) :: (qt, Blk.cells (flat encBo (s).tk) 4 (0, 0)) :: (qb, Blk.cells (flat encSl (bs)) 28 (0, 0)) :: h))) fun v h' => ((c, Blk.cells [.pointer (some ⟨a, 0, none⟩), .pointer (some ⟨b, 0, none⟩), .pointer (some ⟨p, 0, none⟩)] 56 (0, 0)) :: (a, Blk.cells [.slice (some ⟨aq, 0, none⟩) M M, .int .i64 (si).post, .int .i64 (si).work, .int .i64 (si).reap] 70 (0, 0)) :: (aq, Blk.cells (flat encS (si).sl) 72 (0, 0)) :: (b, Blk.cells [.slice (some ⟨bq, 0, none⟩) M M, .int .i64 (so).post, .int .i64 (so).work, .int .i64 (so).reap] 70 (0, 0)) :: (bq, Blk.cells (flat encS (so).sl) 72 (0, 0)) :: (pb ++ ((p, Blk.cells [.slice (some ⟨qb, 0, none⟩) L L, .slice (some ⟨qt, 0, none⟩) L L, .slice Ab (s).back.length cb, .int .i64 (s).fresh] 59 (0, 0)) :: (qt, Blk.cells (flat encBo (s).tk) 4 (0, 0)) :: (qb, Blk.cells (flat encSl (bs)) 28 (0, 0)) :: h))) = h' ∧ v = .int .i64 qo.posted.length := by
  have hrm := hh.roomin
  have hro := hh.roomout
  have hsz := hh.sz
  have hfn := free_nn w.pi
  refine Tri.enter (n := 10) Try.func15 rfl rfl rfl ?_
  simp only [argsE, Nat.reduceAdd]
  try dsimp only [argsE]
  refine AK.seq ?_
  refine AK.region ?_
  refine AO.val (RV.assign rfl) (.none rfl) rfl ?_
  refine AO.nil ?_
  refine AK.seq ?_
  refine AK.seq ?_
  refine AK.region ?_
  refine AO.val (RV.move rfl) (.none rfl) rfl ?_
  refine AO.val (RV.eqlP rfl rfl) (.none rfl) rfl ?_
  refine AO.nil ?_
  refine AK.condF rfl ?_
  refine AK.skip ?_
  refine AK.seq ?_
  refine AK.region ?_
  refine AO.val (RV.move rfl) (.none rfl) rfl ?_
  refine AO.val (RV.nilCheck rfl) (.none rfl) rfl ?_
  refine AO.val (RV.fieldAddr rfl) (.none rfl) rfl ?_
  refine AO.val (by first | exact RV.loadO rfl rfl (by first | simp | assumption) | exact RV.loadF rfl (fun _ => rfl) (by omega) rfl rfl (by first | simp | assumption) | exact RV.loadF0 rfl (fun _ => rfl) (by omega) rfl rfl (by first | simp | assumption) | exact RV.loadS rfl (by assumption) (by omega) (by first | simp | assumption)) (.none rfl) rfl ?_
  refine AO.eff (EF.callF rfl (ring_posted B [_, _, _] _ b bq M so hh.ro.ok hh.no)) (.none rfl) rfl ?_
  rintro _ _ ⟨rfl, rfl⟩
  simp only [List.cons_append, List.nil_append]
  refine AO.val (RV.assign rfl) (.none rfl) rfl ?_
  refine AO.nil ?_
  -- at 
  refine AK.ret (h' := ((c, Blk.cells [.pointer (some ⟨a, 0, none⟩), .pointer (some ⟨b, 0, none⟩), .pointer (some ⟨p, 0, none⟩)] 56 (0, 0)) :: (a, Blk.cells [.slice (some ⟨aq, 0, none⟩) M M, .int .i64 (si).post, .int .i64 (si).work, .int .i64 (si).reap] 70 (0, 0)) :: (aq, Blk.cells (flat encS (si).sl) 72 (0, 0)) :: (b, Blk.cells [.slice (some ⟨bq, 0, none⟩) M M, .int .i64 (so).post, .int .i64 (so).work, .int .i64 (so).reap] 70 (0, 0)) :: (bq, Blk.cells (flat encS (so).sl) 72 (0, 0)) :: (pb ++ ((p, Blk.cells [.slice (some ⟨qb, 0, none⟩) L L, .slice (some ⟨qt, 0, none⟩) L L, .slice Ab (s).back.length cb, .int .i64 (s).fresh] 59 (0, 0)) :: (qt, Blk.cells (flat encBo (s).tk) 4 (0, 0)) :: (qb, Blk.cells (flat encSl (bs)) 28 (0, 0)) :: h)))) Try.func15 (.tmp rfl .nil) ?_ (by first | exact SubO.sub | exact List.Sublist.refl _ | exact .cons _ (List.Sublist.refl _) | exact .cons _ (.cons _ (List.Sublist.refl _)) | exact .cons _ (.cons _ (.cons _ (List.Sublist.refl _))))
  exact ⟨rfl, by rw [hh.ro.cown]; rfl⟩

theorem nic_waits (B : World) (h : Own) (c a aq b bq p qb qt : Nat) (pb : Own) {Ab : Option Addr} {cb : Nat} (L M : Nat) (s : PS) (bs : List Sl) (ct : List (List Int)) (D : Own) (hD : ∀ x ∈ D, x ∈ h) (w : PW 3 B L (s) (bs) (ct) (D) Ab cb pb) (si so : RS) (qi qo : QS) (O : List Int) (hh : Hold M s O si so qi qo)  : Tri Try.prog B 14 [.pointer (some ⟨c, 0, none⟩)] ((c, Blk.cells [.pointer (some ⟨a, 0, none⟩), .pointer (some ⟨b, 0, none⟩), .pointer (some ⟨p, 0, none⟩)] 56 (0, 0)) :: (a, Blk.cells [.slice (some ⟨aq, 0, none⟩) M M, .int .i64 (si).post, .int .i64 (si).work, .int .i64 (si).reap] 70 (0, 0)) :: (aq, Blk.cells (flat encS (si).sl) 72 (0, 0)) :: (b, Blk.cells [.slice (some ⟨bq, 0, none⟩) M M, .int .i64 (so).post, .int .i64 (so).work, .int .i64 (so).reap] 70 (0, 0)) :: (bq, Blk.cells (flat encS (so).sl) 72 (0, 0)) :: (pb ++ ((p, Blk.cells [.slice (some ⟨qb, 0, none⟩) L L, .slice (some ⟨qt, 0, none⟩) L L, .slice Ab (s).back.length cb, .int .i64 (s).fresh] 59 (0, 0)) :: (qt, Blk.cells (flat encBo (s).tk) 4 (0, 0)) :: (qb, Blk.cells (flat encSl (bs)) 28 (0, 0)) :: h))) fun v h' => ((c, Blk.cells [.pointer (some ⟨a, 0, none⟩), .pointer (some ⟨b, 0, none⟩), .pointer (some ⟨p, 0, none⟩)] 56 (0, 0)) :: (a, Blk.cells [.slice (some ⟨aq, 0, none⟩) M M, .int .i64 (si).post, .int .i64 (si).work, .int .i64 (si).reap] 70 (0, 0)) :: (aq, Blk.cells (flat encS (si).sl) 72 (0, 0)) :: (b, Blk.cells [.slice (some ⟨bq, 0, none⟩) M M, .int .i64 (so).post, .int .i64 (so).work, .int .i64 (so).reap] 70 (0, 0)) :: (bq, Blk.cells (flat encS (so).sl) 72 (0, 0)) :: (pb ++ ((p, Blk.cells [.slice (some ⟨qb, 0, none⟩) L L, .slice (some ⟨qt, 0, none⟩) L L, .slice Ab (s).back.length cb, .int .i64 (s).fresh] 59 (0, 0)) :: (qt, Blk.cells (flat encBo (s).tk) 4 (0, 0)) :: (qb, Blk.cells (flat encSl (bs)) 28 (0, 0)) :: h))) = h' ∧ v = .int .i64 qi.ready.length := by
  have hrm := hh.roomin
  have hro := hh.roomout
  have hsz := hh.sz
  have hfn := free_nn w.pi
  refine Tri.enter (n := 10) Try.func14 rfl rfl rfl ?_
  simp only [argsE, Nat.reduceAdd]
  try dsimp only [argsE]
  refine AK.seq ?_
  refine AK.region ?_
  refine AO.val (RV.assign rfl) (.none rfl) rfl ?_
  refine AO.nil ?_
  refine AK.seq ?_
  refine AK.seq ?_
  refine AK.region ?_
  refine AO.val (RV.move rfl) (.none rfl) rfl ?_
  refine AO.val (RV.eqlP rfl rfl) (.none rfl) rfl ?_
  refine AO.nil ?_
  refine AK.condF rfl ?_
  refine AK.skip ?_
  refine AK.seq ?_
  refine AK.region ?_
  refine AO.val (RV.move rfl) (.none rfl) rfl ?_
  refine AO.val (RV.nilCheck rfl) (.none rfl) rfl ?_
  refine AO.val (RV.fieldAddr rfl) (.none rfl) rfl ?_
  refine AO.val (by first | exact RV.loadO rfl rfl (by first | simp | assumption) | exact RV.loadF rfl (fun _ => rfl) (by omega) rfl rfl (by first | simp | assumption) | exact RV.loadF0 rfl (fun _ => rfl) (by omega) rfl rfl (by first | simp | assumption) | exact RV.loadS rfl (by assumption) (by omega) (by first | simp | assumption)) (.none rfl) rfl ?_
  refine AO.eff (EF.callF rfl (ring_ready B [_] _ a aq M si hh.ri.ok hh.ni)) (.none rfl) rfl ?_
  rintro _ _ ⟨rfl, rfl⟩
  simp only [List.cons_append, List.nil_append]
  refine AO.val (RV.assign rfl) (.none rfl) rfl ?_
  refine AO.nil ?_
  -- at 
  refine AK.ret (h' := ((c, Blk.cells [.pointer (some ⟨a, 0, none⟩), .pointer (some ⟨b, 0, none⟩), .pointer (some ⟨p, 0, none⟩)] 56 (0, 0)) :: (a, Blk.cells [.slice (some ⟨aq, 0, none⟩) M M, .int .i64 (si).post, .int .i64 (si).work, .int .i64 (si).reap] 70 (0, 0)) :: (aq, Blk.cells (flat encS (si).sl) 72 (0, 0)) :: (b, Blk.cells [.slice (some ⟨bq, 0, none⟩) M M, .int .i64 (so).post, .int .i64 (so).work, .int .i64 (so).reap] 70 (0, 0)) :: (bq, Blk.cells (flat encS (so).sl) 72 (0, 0)) :: (pb ++ ((p, Blk.cells [.slice (some ⟨qb, 0, none⟩) L L, .slice (some ⟨qt, 0, none⟩) L L, .slice Ab (s).back.length cb, .int .i64 (s).fresh] 59 (0, 0)) :: (qt, Blk.cells (flat encBo (s).tk) 4 (0, 0)) :: (qb, Blk.cells (flat encSl (bs)) 28 (0, 0)) :: h)))) Try.func14 (.tmp rfl .nil) ?_ (by first | exact SubO.sub | exact List.Sublist.refl _ | exact .cons _ (List.Sublist.refl _) | exact .cons _ (.cons _ (List.Sublist.refl _)) | exact .cons _ (.cons _ (.cons _ (List.Sublist.refl _))))
  exact ⟨rfl, by rw [hh.ri.cready]; rfl⟩

theorem fill_spec (B : World) (h : Own) (c a aq b bq p qb qt : Nat) (pb : Own) {Ab : Option Addr} {cb : Nat} (L M : Nat) (s : PS) (bs : List Sl) (ct : List (List Int)) (D : Own) (hD : ∀ x ∈ D, x ∈ h) (w : PW 3 B L (s) (bs) (ct) (D) Ab cb pb) (si so : RS) (qi qo : QS) (O : List Int) (hh : Hold M s O si so qi qo)  : Tri Try.prog B 28 [.pointer (some ⟨c, 0, none⟩)] ((c, Blk.cells [.pointer (some ⟨a, 0, none⟩), .pointer (some ⟨b, 0, none⟩), .pointer (some ⟨p, 0, none⟩)] 56 (0, 0)) :: (a, Blk.cells [.slice (some ⟨aq, 0, none⟩) M M, .int .i64 (si).post, .int .i64 (si).work, .int .i64 (si).reap] 70 (0, 0)) :: (aq, Blk.cells (flat encS (si).sl) 72 (0, 0)) :: (b, Blk.cells [.slice (some ⟨bq, 0, none⟩) M M, .int .i64 (so).post, .int .i64 (so).work, .int .i64 (so).reap] 70 (0, 0)) :: (bq, Blk.cells (flat encS (so).sl) 72 (0, 0)) :: (pb ++ ((p, Blk.cells [.slice (some ⟨qb, 0, none⟩) L L, .slice (some ⟨qt, 0, none⟩) L L, .slice Ab (s).back.length cb, .int .i64 (s).fresh] 59 (0, 0)) :: (qt, Blk.cells (flat encBo (s).tk) 4 (0, 0)) :: (qb, Blk.cells (flat encSl (bs)) 28 (0, 0)) :: h))) fun v h' => ∃ s1 t1 q1 A1 c1 p1, h' = ((c, Blk.cells [.pointer (some ⟨a, 0, none⟩), .pointer (some ⟨b, 0, none⟩), .pointer (some ⟨p, 0, none⟩)] 56 (0, 0)) :: (a, Blk.cells [.slice (some ⟨aq, 0, none⟩) M M, .int .i64 (t1).post, .int .i64 (t1).work, .int .i64 (t1).reap] 70 (0, 0)) :: (aq, Blk.cells (flat encS (t1).sl) 72 (0, 0)) :: (b, Blk.cells [.slice (some ⟨bq, 0, none⟩) M M, .int .i64 (so).post, .int .i64 (so).work, .int .i64 (so).reap] 70 (0, 0)) :: (bq, Blk.cells (flat encS (so).sl) 72 (0, 0)) :: (p1 ++ ((p, Blk.cells [.slice (some ⟨qb, 0, none⟩) L L, .slice (some ⟨qt, 0, none⟩) L L, .slice A1 (s1).back.length c1, .int .i64 (s1).fresh] 59 (0, 0)) :: (qt, Blk.cells (flat encBo (s1).tk) 4 (0, 0)) :: (qb, Blk.cells (flat encSl (bs)) 28 (0, 0)) :: h))) ∧ PW 3 B L (s1) (bs) (ct) (D) A1 c1 p1 ∧ Hold M s1 O t1 so q1 qo ∧ q1.ready = qi.ready ∧ (q1.posted.length : Int) = qi.posted.length + min ((M : Int) - qi.posted.length - qi.ready.length) (freeP s) ∧ freeP s1 = freeP s - min ((M : Int) - qi.posted.length - qi.ready.length) (freeP s) := by
  have hrm := hh.roomin
  have hro := hh.roomout
  have hsz := hh.sz
  have hfn := free_nn w.pi
  refine Tri.enter (n := 26) Try.func28 rfl rfl rfl ?_
  simp only [argsE, Nat.reduceAdd]
  try dsimp only [argsE]
  refine AK.block ?_
  refine AK.loop (α := PS × RS × QS × Option Addr × Nat × Own) (E := fun ⟨s1, t1, q1, A1, c1, p1⟩ => [(0, .pointer (some ⟨c, 0, none⟩))]) (H := fun ⟨s1, t1, q1, A1, c1, p1⟩ => ((c, Blk.cells [.pointer (some ⟨a, 0, none⟩), .pointer (some ⟨b, 0, none⟩), .pointer (some ⟨p, 0, none⟩)] 56 (0, 0)) :: (a, Blk.cells [.slice (some ⟨aq, 0, none⟩) M M, .int .i64 (t1).post, .int .i64 (t1).work, .int .i64 (t1).reap] 70 (0, 0)) :: (aq, Blk.cells (flat encS (t1).sl) 72 (0, 0)) :: (b, Blk.cells [.slice (some ⟨bq, 0, none⟩) M M, .int .i64 (so).post, .int .i64 (so).work, .int .i64 (so).reap] 70 (0, 0)) :: (bq, Blk.cells (flat encS (so).sl) 72 (0, 0)) :: (p1 ++ ((p, Blk.cells [.slice (some ⟨qb, 0, none⟩) L L, .slice (some ⟨qt, 0, none⟩) L L, .slice A1 (s1).back.length c1, .int .i64 (s1).fresh] 59 (0, 0)) :: (qt, Blk.cells (flat encBo (s1).tk) 4 (0, 0)) :: (qb, Blk.cells (flat encSl (bs)) 28 (0, 0)) :: h)))) (Inv := fun ⟨s1, t1, q1, A1, c1, p1⟩ => PW 3 B L (s1) (bs) (ct) (D) A1 c1 p1 ∧ Hold M s1 O t1 so q1 qo ∧ q1.ready = qi.ready ∧ (q1.posted.length : Int) + freeP s1 = qi.posted.length + freeP s ∧ qi.posted.length ≤ q1.posted.length) (μ := fun ⟨s1, t1, q1, A1, c1, p1⟩ => (freeP s1).toNat) (s, si, qi, Ab, cb, pb) ?_ (.cons (by exact rfl) .nil) ?_ ?_
  · exact ⟨w, hh, rfl, rfl, Nat.le_refl _⟩
  · exact (by first | exact SubO.sub | exact List.Sublist.refl _ | exact .cons _ (List.Sublist.refl _) | exact .cons _ (.cons _ (List.Sublist.refl _)) | exact .cons _ (.cons _ (.cons _ (List.Sublist.refl _))))
  rintro ⟨s1, t1, q1, A1, c1, p1⟩ ⟨w1, hh1, hq1, hf1, hp1⟩ hih0
  try dsimp only at hih0 ⊢
  have hrm1 := hh1.roomin
  have hfn1 := free_nn w1.pi
  rw [hq1] at hrm1
  refine AK.seq ?_
  refine AK.seq ?_
  refine AK.region ?_
  refine AO.val (RV.move rfl) (.none rfl) rfl ?_
  refine AO.val (RV.nilCheck rfl) (.none rfl) rfl ?_
  refine AO.val (RV.fieldAddr rfl) (.none rfl) rfl ?_
  refine AO.val (by first | exact RV.loadO rfl rfl (by first | simp | assumption) | exact RV.loadF rfl (fun _ => rfl) (by omega) rfl rfl (by first | simp | assumption) | exact RV.loadF0 rfl (fun _ => rfl) (by omega) rfl rfl (by first | simp | assumption) | exact RV.loadS rfl (by assumption) (by omega) (by first | simp | assumption)) (.none rfl) rfl ?_
  refine AO.eff (EF.callF rfl (ring_room B [_] _ a aq M t1 hh1.ri.ok hh1.ni)) (.none rfl) rfl ?_
  rintro _ _ ⟨rfl, rfl⟩
  simp only [List.cons_append, List.nil_append]
  refine AO.val (RV.gtr rfl rfl) (.none rfl) rfl ?_
  refine AO.nil ?_
  refine AK.cond rfl ?_ ?_
  · intro hc1
    try simp only [decide_eq_true_eq, decide_eq_false_iff_not, Bool.not_eq_true', Bool.not_eq_false', beq_iff_eq] at hc1
    refine AK.skip ?_
    refine AK.block ?_
    refine AK.seq ?_
    refine AK.region ?_
    refine AO.val (RV.move rfl) (.none rfl) rfl ?_
    refine AO.val (RV.nilCheck rfl) (.none rfl) rfl ?_
    refine AO.val (RV.fieldAddr rfl) (.none rfl) rfl ?_
    refine AO.val (by first | exact RV.loadO rfl rfl (by first | simp | assumption) | exact RV.loadF rfl (fun _ => rfl) (by omega) rfl rfl (by first | simp | assumption) | exact RV.loadF0 rfl (fun _ => rfl) (by omega) rfl rfl (by first | simp | assumption) | exact RV.loadS rfl (by assumption) (by omega) (by first | simp | assumption)) (.none rfl) rfl ?_
    refine AO.eff (EF.callF rfl (Tri.perm (card_perm ..) (take_spec B _ p qb qt p1 L s1 bs w1.pi w1.hL w1.hbl w1.hr w1.hcb))) (.none rfl) rfl ?_
    rintro _ _ ⟨rfl, A2, c2, p2, rfl, hr2, hcc2⟩
    first | refine AO.perm (card_perm ..).symm ?_ | refine AK.perm (card_perm ..).symm ?_
    refine AO.val (RV.move rfl) (.none rfl) rfl ?_
    refine AO.val (RV.extract rfl rfl) (.none rfl) rfl ?_
    refine AO.val (RV.extract rfl rfl) (.none rfl) rfl ?_
    refine AO.val (RV.assign rfl) (.none rfl) rfl ?_
    refine AO.val (RV.assign rfl) (.none rfl) rfl ?_
    refine AO.nil ?_
    refine AK.seq ?_
    refine AK.seq ?_
    refine AK.region ?_
    refine AO.val (RV.move rfl) (.none rfl) rfl ?_
    refine AO.val (RV.not rfl) (.none rfl) rfl ?_
    refine AO.nil ?_
    refine AK.cond rfl ?_ ?_
    · intro hc2
      try simp only [decide_eq_true_eq, decide_eq_false_iff_not, Bool.not_eq_true', Bool.not_eq_false', beq_iff_eq] at hc2
      have htk : (takeP s1).2.2 = false := by simpa using hc2
      have hft := took_none2 htk
      have hte := took_none htk
      -- at L0TT
      clear hih0
      refine AK.ret (h' := ((c, Blk.cells [.pointer (some ⟨a, 0, none⟩), .pointer (some ⟨b, 0, none⟩), .pointer (some ⟨p, 0, none⟩)] 56 (0, 0)) :: (a, Blk.cells [.slice (some ⟨aq, 0, none⟩) M M, .int .i64 (t1).post, .int .i64 (t1).work, .int .i64 (t1).reap] 70 (0, 0)) :: (aq, Blk.cells (flat encS (t1).sl) 72 (0, 0)) :: (b, Blk.cells [.slice (some ⟨bq, 0, none⟩) M M, .int .i64 (so).post, .int .i64 (so).work, .int .i64 (so).reap] 70 (0, 0)) :: (bq, Blk.cells (flat encS (so).sl) 72 (0, 0)) :: (p2 ++ ((p, Blk.cells [.slice (some ⟨qb, 0, none⟩) L L, .slice (some ⟨qt, 0, none⟩) L L, .slice A2 ((takeP s1).1).back.length c2, .int .i64 ((takeP s1).1).fresh] 59 (0, 0)) :: (qt, Blk.cells (flat encBo ((takeP s1).1).tk) 4 (0, 0)) :: (qb, Blk.cells (flat encSl (bs)) 28 (0, 0)) :: h)))) Try.func28 .nil ?_ (by first | exact SubO.sub | exact List.Sublist.refl _ | exact .cons _ (List.Sublist.refl _) | exact .cons _ (.cons _ (List.Sublist.refl _)) | exact .cons _ (.cons _ (.cons _ (List.Sublist.refl _))))
      exact ⟨(takeP s1).1, t1, q1, A2, c2, p2, rfl, w1.take hr2 hcc2, by rw [hte]; exact hh1, hq1, by omega, by rw [hte]; omega⟩
    · intro hc2
      try simp only [decide_eq_true_eq, decide_eq_false_iff_not, Bool.not_eq_true', Bool.not_eq_false', beq_iff_eq] at hc2
      have htk : (takeP s1).2.2 = true := by simpa using hc2
      have hft := free_take htk
      have hh2 := hh1.take w1.pi htk
      refine AK.skip ?_
      refine AK.region ?_
      refine AO.val (RV.move rfl) (.none rfl) rfl ?_
      refine AO.val (RV.nilCheck rfl) (.none rfl) rfl ?_
      refine AO.val (RV.fieldAddr rfl) (.none rfl) rfl ?_
      refine AO.val (by first | exact RV.loadO rfl rfl (by first | simp | assumption) | exact RV.loadF rfl (fun _ => rfl) (by omega) rfl rfl (by first | simp | assumption) | exact RV.loadF0 rfl (fun _ => rfl) (by omega) rfl rfl (by first | simp | assumption) | exact RV.loadS rfl (by assumption) (by omega) (by first | simp | assumption)) (.none rfl) rfl ?_
      refine AO.val (RV.move rfl) (.none rfl) rfl ?_
      refine AO.eff (EF.callF rfl (ring_post B [_] _ a aq M t1 hh2.ri.ok hh2.ni _)) (.none rfl) rfl ?_
      rintro _ _ ⟨rfl, rfl⟩
      simp only [List.cons_append, List.nil_append]
      refine AO.nil ?_
      refine AK.inBlock ?_
      -- round ends at L0TF
      refine AK.weak (.cons (by exact rfl) .nil) (by first | exact SubO.sub | exact List.Sublist.refl _ | exact .cons _ (List.Sublist.refl _) | exact .cons _ (.cons _ (List.Sublist.refl _)) | exact .cons _ (.cons _ (.cons _ (List.Sublist.refl _)))) (hih0 ((takeP s1).1, (postR t1 (takeP s1).2.1).1, ⟨q1.posted ++ [(takeP s1).2.1], q1.ready, q1.ever + 1, q1.worked⟩, A2, c2, p2) ?_ ?_)
      · try dsimp only
        refine ⟨w1.take hr2 hcc2, hh2.postin (by rw [hq1]; omega), hq1, ?_, ?_⟩
        · simp only [List.length_append, List.length_cons, List.length_nil]; omega
        · simp only [List.length_append, List.length_cons, List.length_nil]; omega
      · try dsimp only
        have := took_some htk
        omega
  · intro hc1
    try simp only [decide_eq_true_eq, decide_eq_false_iff_not, Bool.not_eq_true', Bool.not_eq_false', beq_iff_eq] at hc1
    refine AK.exit rfl ?_
    -- at L0F
    clear hih0
    refine AK.fin (h' := ((c, Blk.cells [.pointer (some ⟨a, 0, none⟩), .pointer (some ⟨b, 0, none⟩), .pointer (some ⟨p, 0, none⟩)] 56 (0, 0)) :: (a, Blk.cells [.slice (some ⟨aq, 0, none⟩) M M, .int .i64 (t1).post, .int .i64 (t1).work, .int .i64 (t1).reap] 70 (0, 0)) :: (aq, Blk.cells (flat encS (t1).sl) 72 (0, 0)) :: (b, Blk.cells [.slice (some ⟨bq, 0, none⟩) M M, .int .i64 (so).post, .int .i64 (so).work, .int .i64 (so).reap] 70 (0, 0)) :: (bq, Blk.cells (flat encS (so).sl) 72 (0, 0)) :: (p1 ++ ((p, Blk.cells [.slice (some ⟨qb, 0, none⟩) L L, .slice (some ⟨qt, 0, none⟩) L L, .slice A1 (s1).back.length c1, .int .i64 (s1).fresh] 59 (0, 0)) :: (qt, Blk.cells (flat encBo (s1).tk) 4 (0, 0)) :: (qb, Blk.cells (flat encSl (bs)) 28 (0, 0)) :: h)))) Try.func28 .nil ?_ (by first | exact SubO.sub | exact List.Sublist.refl _ | exact .cons _ (List.Sublist.refl _) | exact .cons _ (.cons _ (List.Sublist.refl _)) | exact .cons _ (.cons _ (.cons _ (List.Sublist.refl _))))
    exact ⟨s1, t1, q1, A1, c1, p1, rfl, w1, hh1, hq1, by omega, by omega⟩

theorem reap_spec (B : World) (h : Own) (c a aq b bq p qb qt : Nat) (pb : Own) {Ab : Option Addr} {cb : Nat} (L M : Nat) (s : PS) (bs : List Sl) (ct : List (List Int)) (D : Own) (hD : ∀ x ∈ D, x ∈ h) (w : PW 3 B L (s) (bs) (ct) (D) Ab cb pb) (si so : RS) (qi qo : QS) (O : List Int) (hh : Hold M s O si so qi qo)  : Tri Try.prog B 32 [.pointer (some ⟨c, 0, none⟩)] ((c, Blk.cells [.pointer (some ⟨a, 0, none⟩), .pointer (some ⟨b, 0, none⟩), .pointer (some ⟨p, 0, none⟩)] 56 (0, 0)) :: (a, Blk.cells [.slice (some ⟨aq, 0, none⟩) M M, .int .i64 (si).post, .int .i64 (si).work, .int .i64 (si).reap] 70 (0, 0)) :: (aq, Blk.cells (flat encS (si).sl) 72 (0, 0)) :: (b, Blk.cells [.slice (some ⟨bq, 0, none⟩) M M, .int .i64 (so).post, .int .i64 (so).work, .int .i64 (so).reap] 70 (0, 0)) :: (bq, Blk.cells (flat encS (so).sl) 72 (0, 0)) :: (pb ++ ((p, Blk.cells [.slice (some ⟨qb, 0, none⟩) L L, .slice (some ⟨qt, 0, none⟩) L L, .slice Ab (s).back.length cb, .int .i64 (s).fresh] 59 (0, 0)) :: (qt, Blk.cells (flat encBo (s).tk) 4 (0, 0)) :: (qb, Blk.cells (flat encSl (bs)) 28 (0, 0)) :: h))) fun v h' => ∃ s1 bs1 ct1 o1 q1 A1 c1 p1, h' = ((c, Blk.cells [.pointer (some ⟨a, 0, none⟩), .pointer (some ⟨b, 0, none⟩), .pointer (some ⟨p, 0, none⟩)] 56 (0, 0)) :: (a, Blk.cells [.slice (some ⟨aq, 0, none⟩) M M, .int .i64 (si).post, .int .i64 (si).work, .int .i64 (si).reap] 70 (0, 0)) :: (aq, Blk.cells (flat encS (si).sl) 72 (0, 0)) :: (b, Blk.cells [.slice (some ⟨bq, 0, none⟩) M M, .int .i64 (o1).post, .int .i64 (o1).work, .int .i64 (o1).reap] 70 (0, 0)) :: (bq, Blk.cells (flat encS (o1).sl) 72 (0, 0)) :: (p1 ++ ((p, Blk.cells [.slice (some ⟨qb, 0, none⟩) L L, .slice (some ⟨qt, 0, none⟩) L L, .slice A1 (s1).back.length c1, .int .i64 (s1).fresh] 59 (0, 0)) :: (qt, Blk.cells (flat encBo (s1).tk) 4 (0, 0)) :: (qb, Blk.cells (flat encSl (bs1)) 28 (0, 0)) :: h))) ∧ PW 3 B L (s1) (bs1) (ct1) (D) A1 c1 p1 ∧ Hold M s1 O si o1 qi q1 ∧ ca ct1 qi q1 = (reapA (ca ct qi qo) (freeP s)).1 ∧ freeP s1 = (reapA (ca ct qi qo) (freeP s)).2 ∧ Same O ct ct1 ∧ q1.posted = qo.posted ∧ q1.ready = [] := by
  have hrm := hh.roomin
  have hro := hh.roomout
  have hsz := hh.sz
  have hfn := free_nn w.pi
  refine Tri.enter (n := 27) Try.func32 rfl rfl rfl ?_
  simp only [argsE, Nat.reduceAdd]
  try dsimp only [argsE]
  refine AK.seq ?_
  refine AK.region ?_
  refine AO.val (RV.move rfl) (.none rfl) rfl ?_
  refine AO.val (RV.nilCheck rfl) (.none rfl) rfl ?_
  refine AO.val (RV.fieldAddr rfl) (.none rfl) rfl ?_
  refine AO.val (by first | exact RV.loadO rfl rfl (by first | simp | assumption) | exact RV.loadF rfl (fun _ => rfl) (by omega) rfl rfl (by first | simp | assumption) | exact RV.loadF0 rfl (fun _ => rfl) (by omega) rfl rfl (by first | simp | assumption) | exact RV.loadS rfl (by assumption) (by omega) (by first | simp | assumption)) (.none rfl) rfl ?_
  refine AO.eff (EF.callF rfl (ring_reap B [_, _, _] _ b bq M so hh.ro.ok hh.no)) (.none rfl) rfl ?_
  rintro _ _ ⟨rfl, rfl⟩
  simp only [List.cons_append, List.nil_append]
  refine AO.val (RV.move rfl) (.none rfl) rfl ?_
  refine AO.val (RV.extract rfl rfl) (.none rfl) rfl ?_
  refine AO.val (RV.extract rfl rfl) (.none rfl) rfl ?_
  refine AO.val (RV.assign rfl) (.none rfl) rfl ?_
  refine AO.val (RV.assign rfl) (.none rfl) rfl ?_
  refine AO.nil ?_
  refine AK.block ?_
  obtain ⟨q0, hq1, hq2, hq3, hq4⟩ := hh.reapoutI
  refine AK.loop (α := PS × List Sl × List (List Int) × RS × QS × Int × Bool × Option Addr × Nat × Own) (E := fun ⟨s1, bs1, ct1, o1, q1, i1, b1, A1, c1, p1⟩ => [(0, .pointer (some ⟨c, 0, none⟩)), (2, .int .i64 i1), (3, .bool b1)]) (H := fun ⟨s1, bs1, ct1, o1, q1, i1, b1, A1, c1, p1⟩ => ((c, Blk.cells [.pointer (some ⟨a, 0, none⟩), .pointer (some ⟨b, 0, none⟩), .pointer (some ⟨p, 0, none⟩)] 56 (0, 0)) :: (a, Blk.cells [.slice (some ⟨aq, 0, none⟩) M M, .int .i64 (si).post, .int .i64 (si).work, .int .i64 (si).reap] 70 (0, 0)) :: (aq, Blk.cells (flat encS (si).sl) 72 (0, 0)) :: (b, Blk.cells [.slice (some ⟨bq, 0, none⟩) M M, .int .i64 (o1).post, .int .i64 (o1).work, .int .i64 (o1).reap] 70 (0, 0)) :: (bq, Blk.cells (flat encS (o1).sl) 72 (0, 0)) :: (p1 ++ ((p, Blk.cells [.slice (some ⟨qb, 0, none⟩) L L, .slice (some ⟨qt, 0, none⟩) L L, .slice A1 (s1).back.length c1, .int .i64 (s1).fresh] 59 (0, 0)) :: (qt, Blk.cells (flat encBo (s1).tk) 4 (0, 0)) :: (qb, Blk.cells (flat encSl (bs1)) 28 (0, 0)) :: h)))) (Inv := fun ⟨s1, bs1, ct1, o1, q1, i1, b1, A1, c1, p1⟩ => PW 3 B L (s1) (bs1) (ct1) (D) A1 c1 p1 ∧ Hold M s1 (if b1 = true then i1 :: O else O) si o1 qi q1 ∧ q1.posted = qo.posted ∧ (b1 = false → q1.ready = []) ∧ freeP s1 + q1.ready.length + (if b1 = true then 1 else 0) = freeP s + qo.ready.length ∧ Same (qi.ready ++ qo.posted ++ O) ct ct1) (μ := fun ⟨s1, bs1, ct1, o1, q1, i1, b1, A1, c1, p1⟩ => q1.ready.length + (if b1 = true then 1 else 0)) (s, bs, ct, (reapR so).1, q0, (reapR so).2.1, (reapR so).2.2, Ab, cb, pb) ?_ (.cons (by exact rfl) (.cons (by exact rfl) (.cons (by exact rfl) .nil))) ?_ ?_
  · exact ⟨w, hq2, hq1, hq3, by omega, Same.refl _ _⟩
  · exact (by first | exact SubO.sub | exact List.Sublist.refl _ | exact .cons _ (List.Sublist.refl _) | exact .cons _ (.cons _ (List.Sublist.refl _)) | exact .cons _ (.cons _ (.cons _ (List.Sublist.refl _))))
  rintro ⟨s1, bs1, ct1, o1, q1, i1, b1, A1, c1, p1⟩ ⟨w1, hh1, hq1, hb1, hf1, hs1⟩ hih0
  try dsimp only at hih0 ⊢
  refine AK.seq ?_
  refine AK.seq ?_
  refine AK.region ?_
  refine AO.val (RV.move rfl) (.none rfl) rfl ?_
  refine AO.nil ?_
  refine AK.cond rfl ?_ ?_
  · intro hc1
    try simp only [decide_eq_true_eq, decide_eq_false_iff_not, Bool.not_eq_true', Bool.not_eq_false', beq_iff_eq] at hc1
    subst hc1
    rw [if_pos rfl] at hh1 hf1
    have hg1 := hh1.give.1
    have hgh := hh1.give.2
    have hgf := free_give hgh
    have hs2 : Same (qi.ready ++ qo.posted ++ O) ct1 (lset ct1 i1 []) := (hh1.same w1.ctl []).sub (fun x hx => by simp only [List.mem_append, nums, hq1] at hx ⊢; rcases hx with (hx | hx) | hx <;> simp [hx])
    refine AK.skip ?_
    refine AK.seq ?_
    refine AK.block ?_
    refine AK.region ?_
    refine AO.val (RV.move rfl) (.none rfl) rfl ?_
    refine AO.val (RV.nilCheck rfl) (.none rfl) rfl ?_
    refine AO.val (RV.fieldAddr rfl) (.none rfl) rfl ?_
    refine AO.val (by first | exact RV.loadO rfl rfl (by first | simp | assumption) | exact RV.loadF rfl (fun _ => rfl) (by omega) rfl rfl (by first | simp | assumption) | exact RV.loadF0 rfl (fun _ => rfl) (by omega) rfl rfl (by first | simp | assumption) | exact RV.loadS rfl (by assumption) (by omega) (by first | simp | assumption)) (.none rfl) rfl ?_
    refine AO.val (RV.move rfl) (.none rfl) rfl ?_
    refine AO.eff (EF.callF rfl (Tri.perm (card_perm ..) (give2_spec B _ p qb qt p1 L s1 bs1 ct1 w1.pi w1.hL w1.hbl w1.hr w1.hcb D (fun x hx => .tail _ (.tail _ (.tail _ (.tail _ (.tail _ (hD x hx)))))) w1.hct i1))) (.none rfl) rfl ?_
    rintro _ _ ⟨rfl, bs2, A2, c2, p2, hb2, hct2, rfl, hr2, hcc2⟩
    rw [if_pos hgh] at hct2
    first | refine AO.perm (card_perm ..).symm ?_ | refine AK.perm (card_perm ..).symm ?_
    refine AO.nil ?_
    refine AK.inBlock ?_
    refine AK.region ?_
    refine AO.val (RV.move rfl) (.none rfl) rfl ?_
    refine AO.val (RV.nilCheck rfl) (.none rfl) rfl ?_
    refine AO.val (RV.fieldAddr rfl) (.none rfl) rfl ?_
    refine AO.val (by first | exact RV.loadO rfl rfl (by first | simp | assumption) | exact RV.loadF rfl (fun _ => rfl) (by omega) rfl rfl (by first | simp | assumption) | exact RV.loadF0 rfl (fun _ => rfl) (by omega) rfl rfl (by first | simp | assumption) | exact RV.loadS rfl (by assumption) (by omega) (by first | simp | assumption)) (.none rfl) rfl ?_
    refine AO.eff (EF.callF rfl (ring_reap B [_, _, _] _ b bq M o1 hg1.ro.ok hg1.no)) (.none rfl) rfl ?_
    rintro _ _ ⟨rfl, rfl⟩
    simp only [List.cons_append, List.nil_append]
    refine AO.val (RV.move rfl) (.none rfl) rfl ?_
    refine AO.val (RV.extract rfl rfl) (.none rfl) rfl ?_
    refine AO.val (RV.extract rfl rfl) (.none rfl) rfl ?_
    refine AO.val (RV.assign rfl) (.none rfl) rfl ?_
    refine AO.val (RV.assign rfl) (.none rfl) rfl ?_
    refine AO.nil ?_
    -- round ends at L0T
    obtain ⟨q2, hx1, hx2, hx3, hx4⟩ := hg1.reapoutI
    refine AK.weak (.cons (by exact rfl) (.cons (by exact rfl) (.cons (by exact rfl) .nil))) (by first | exact SubO.sub | exact List.Sublist.refl _ | exact .cons _ (List.Sublist.refl _) | exact .cons _ (.cons _ (List.Sublist.refl _)) | exact .cons _ (.cons _ (.cons _ (List.Sublist.refl _)))) (hih0 ((giveP s1 i1).1, bs2, lset ct1 i1 [], (reapR o1).1, q2, (reapR o1).2.1, (reapR o1).2.2, A2, c2, p2) ?_ ?_)
    · try dsimp only
      exact ⟨w1.give i1 hb2 hct2 hr2 hcc2, hx2, hx1.trans hq1, hx3, by omega, hs1.trans hs2⟩
    · try dsimp only
      rcases Bool.eq_false_or_eq_true (reapR o1).2.2 with hbb | hbb <;> simp only [hbb, if_true, Bool.false_eq_true, if_false] at hx4 ⊢ <;> omega
  · intro hc1
    try simp only [decide_eq_true_eq, decide_eq_false_iff_not, Bool.not_eq_true', Bool.not_eq_false', beq_iff_eq] at hc1
    have hbf : b1 = false := by simpa using hc1
    subst hbf
    have hre := hb1 rfl
    rw [if_neg (by simp)] at hh1 hf1
    have hrl : q1.ready.length = 0 := by rw [hre]; rfl
    refine AK.exit rfl ?_
    -- at L0F
    clear hih0
    refine AK.fin (h' := ((c, Blk.cells [.pointer (some ⟨a, 0, none⟩), .pointer (some ⟨b, 0, none⟩), .pointer (some ⟨p, 0, none⟩)] 56 (0, 0)) :: (a, Blk.cells [.slice (some ⟨aq, 0, none⟩) M M, .int .i64 (si).post, .int .i64 (si).work, .int .i64 (si).reap] 70 (0, 0)) :: (aq, Blk.cells (flat encS (si).sl) 72 (0, 0)) :: (b, Blk.cells [.slice (some ⟨bq, 0, none⟩) M M, .int .i64 (o1).post, .int .i64 (o1).work, .int .i64 (o1).reap] 70 (0, 0)) :: (bq, Blk.cells (flat encS (o1).sl) 72 (0, 0)) :: (p1 ++ ((p, Blk.cells [.slice (some ⟨qb, 0, none⟩) L L, .slice (some ⟨qt, 0, none⟩) L L, .slice A1 (s1).back.length c1, .int .i64 (s1).fresh] 59 (0, 0)) :: (qt, Blk.cells (flat encBo (s1).tk) 4 (0, 0)) :: (qb, Blk.cells (flat encSl (bs1)) 28 (0, 0)) :: h)))) Try.func32 .nil ?_ (by first | exact SubO.sub | exact List.Sublist.refl _ | exact .cons _ (List.Sublist.refl _) | exact .cons _ (.cons _ (List.Sublist.refl _)) | exact .cons _ (.cons _ (.cons _ (List.Sublist.refl _))))
    refine ⟨s1, bs1, ct1, o1, q1, A1, c1, p1, rfl, w1, hh1, ?_, ?_, hs1.sub fun x hx => by simp [hx], hq1, hre⟩
    · rw [ca_same (ct := ct) (hs1.sub fun x hx => by rw [hq1] at hx; exact List.mem_append_left _ hx)]
      simp only [ca, reapA, hq1, hre, List.length_nil]; rfl
    · simp only [reapA, ca]; omega

theorem arrive_spec (B : World) (h : Own) (c a aq b bq p qb qt : Nat) (pb : Own) {Ab : Option Addr} {cb : Nat} (L M : Nat) (s : PS) (bs : List Sl) (ct : List (List Int)) (D : Own) (hD : ∀ x ∈ D, x ∈ h) (w : PW 3 B L (s) (bs) (ct) (D) Ab cb pb) (si so : RS) (qi qo : QS) (O : List Int) (hh : Hold M s O si so qi qo) {A : Option Addr} {cap : Nat} (l : List Int) (hl : Src B h A l.length 1 (l.map (fun x => Value.int .u8 x))) (hlb : Bytes l) (hln : l.length ≤ 9223372036854775807) : Tri Try.prog B 9 [.pointer (some ⟨c, 0, none⟩), .slice A l.length cap] ((c, Blk.cells [.pointer (some ⟨a, 0, none⟩), .pointer (some ⟨b, 0, none⟩), .pointer (some ⟨p, 0, none⟩)] 56 (0, 0)) :: (a, Blk.cells [.slice (some ⟨aq, 0, none⟩) M M, .int .i64 (si).post, .int .i64 (si).work, .int .i64 (si).reap] 70 (0, 0)) :: (aq, Blk.cells (flat encS (si).sl) 72 (0, 0)) :: (b, Blk.cells [.slice (some ⟨bq, 0, none⟩) M M, .int .i64 (so).post, .int .i64 (so).work, .int .i64 (so).reap] 70 (0, 0)) :: (bq, Blk.cells (flat encS (so).sl) 72 (0, 0)) :: (pb ++ ((p, Blk.cells [.slice (some ⟨qb, 0, none⟩) L L, .slice (some ⟨qt, 0, none⟩) L L, .slice Ab (s).back.length cb, .int .i64 (s).fresh] 59 (0, 0)) :: (qt, Blk.cells (flat encBo (s).tk) 4 (0, 0)) :: (qb, Blk.cells (flat encSl (bs)) 28 (0, 0)) :: h))) fun v h' => ∃ bs1 ct1 t1 q1 part, v = .int .i64 (arriveA (ca ct qi qo) l).2 ∧ h' = ((c, Blk.cells [.pointer (some ⟨a, 0, none⟩), .pointer (some ⟨b, 0, none⟩), .pointer (some ⟨p, 0, none⟩)] 56 (0, 0)) :: (a, Blk.cells [.slice (some ⟨aq, 0, none⟩) M M, .int .i64 (t1).post, .int .i64 (t1).work, .int .i64 (t1).reap] 70 (0, 0)) :: (aq, Blk.cells (flat encS (t1).sl) 72 (0, 0)) :: (b, Blk.cells [.slice (some ⟨bq, 0, none⟩) M M, .int .i64 (so).post, .int .i64 (so).work, .int .i64 (so).reap] 70 (0, 0)) :: (bq, Blk.cells (flat encS (so).sl) 72 (0, 0)) :: (pb ++ ((p, Blk.cells [.slice (some ⟨qb, 0, none⟩) L L, .slice (some ⟨qt, 0, none⟩) L L, .slice Ab (s).back.length cb, .int .i64 (s).fresh] 59 (0, 0)) :: (qt, Blk.cells (flat encBo (s).tk) 4 (0, 0)) :: (qb, Blk.cells (flat encSl (bs1)) 28 (0, 0)) :: (part ++ h)))) ∧ PW 3 B L (s) (bs1) (ct1) (part ++ D) Ab cb pb ∧ Hold M s O t1 so q1 qo ∧ ca ct1 q1 qo = (arriveA (ca ct qi qo) l).1 ∧ Same O ct ct1 := by
  have hrm := hh.roomin
  have hro := hh.roomout
  have hsz := hh.sz
  have hfn := free_nn w.pi
  refine Tri.enter (n := 34) Try.func9 rfl rfl rfl ?_
  simp only [argsE, Nat.reduceAdd]
  try dsimp only [argsE]
  refine AK.seq ?_
  refine AK.region ?_
  refine AO.val (RV.assign rfl) (.none rfl) rfl ?_
  refine AO.nil ?_
  refine AK.seq ?_
  refine AK.seq ?_
  refine AK.region ?_
  refine AO.val (RV.move rfl) (.none rfl) rfl ?_
  refine AO.val (RV.eqlP rfl rfl) (.none rfl) rfl ?_
  refine AO.nil ?_
  refine AK.condF rfl ?_
  refine AK.skip ?_
  refine AK.seq ?_
  refine AK.seq ?_
  refine AK.region ?_
  refine AO.val (RV.move rfl) (.none rfl) rfl ?_
  refine AO.val (RV.lenS rfl) (.none rfl) rfl ?_
  refine AO.val (RV.gtr rfl rfl) (.none rfl) rfl ?_
  refine AO.nil ?_
  refine AK.cond rfl ?_ ?_
  · intro hc1
    try simp only [decide_eq_true_eq, decide_eq_false_iff_not, Bool.not_eq_true', Bool.not_eq_false', beq_iff_eq] at hc1
    refine AK.seq ?_
    refine AK.region ?_
    refine AO.val (RV.assign rfl) (.none rfl) rfl ?_
    refine AO.nil ?_
    -- at T
    refine AK.ret (h' := ((c, Blk.cells [.pointer (some ⟨a, 0, none⟩), .pointer (some ⟨b, 0, none⟩), .pointer (some ⟨p, 0, none⟩)] 56 (0, 0)) :: (a, Blk.cells [.slice (some ⟨aq, 0, none⟩) M M, .int .i64 (si).post, .int .i64 (si).work, .int .i64 (si).reap] 70 (0, 0)) :: (aq, Blk.cells (flat encS (si).sl) 72 (0, 0)) :: (b, Blk.cells [.slice (some ⟨bq, 0, none⟩) M M, .int .i64 (so).post, .int .i64 (so).work, .int .i64 (so).reap] 70 (0, 0)) :: (bq, Blk.cells (flat encS (so).sl) 72 (0, 0)) :: (pb ++ ((p, Blk.cells [.slice (some ⟨qb, 0, none⟩) L L, .slice (some ⟨qt, 0, none⟩) L L, .slice Ab (s).back.length cb, .int .i64 (s).fresh] 59 (0, 0)) :: (qt, Blk.cells (flat encBo (s).tk) 4 (0, 0)) :: (qb, Blk.cells (flat encSl (bs)) 28 (0, 0)) :: h)))) Try.func9 (.tmp rfl .nil) ?_ (by first | exact SubO.sub | exact List.Sublist.refl _ | exact .cons _ (List.Sublist.refl _) | exact .cons _ (.cons _ (List.Sublist.refl _)) | exact .cons _ (.cons _ (.cons _ (List.Sublist.refl _))))
    have e : (arriveA (ca ct qi qo) l) = ((ca ct qi qo), 14) := by simp only [arriveA]; rw [if_pos (by omega)]
    rw [e]
    exact ⟨bs, ct, si, qi, [], rfl, rfl, w, hh, rfl, Same.refl _ _⟩
  · intro hc1
    try simp only [decide_eq_true_eq, decide_eq_false_iff_not, Bool.not_eq_true', Bool.not_eq_false', beq_iff_eq] at hc1
    refine AK.skip ?_
    refine AK.seq ?_
    refine AK.region ?_
    refine AO.val (RV.move rfl) (.none rfl) rfl ?_
    refine AO.val (RV.nilCheck rfl) (.none rfl) rfl ?_
    refine AO.val (RV.fieldAddr rfl) (.none rfl) rfl ?_
    refine AO.val (by first | exact RV.loadO rfl rfl (by first | simp | assumption) | exact RV.loadF rfl (fun _ => rfl) (by omega) rfl rfl (by first | simp | assumption) | exact RV.loadF0 rfl (fun _ => rfl) (by omega) rfl rfl (by first | simp | assumption) | exact RV.loadS rfl (by assumption) (by omega) (by first | simp | assumption)) (.none rfl) rfl ?_
    refine AO.eff (EF.callF rfl (ring_next B [_] _ a aq M si hh.ri.ok hh.ni)) (.none rfl) rfl ?_
    rintro _ _ ⟨rfl, rfl⟩
    simp only [List.cons_append, List.nil_append]
    refine AO.val (RV.move rfl) (.none rfl) rfl ?_
    refine AO.val (RV.extract rfl rfl) (.none rfl) rfl ?_
    refine AO.val (RV.extract rfl rfl) (.none rfl) rfl ?_
    refine AO.val (RV.assign rfl) (.none rfl) rfl ?_
    refine AO.val (RV.assign rfl) (.none rfl) rfl ?_
    refine AO.nil ?_
    refine AK.seq ?_
    refine AK.seq ?_
    refine AK.region ?_
    refine AO.val (RV.move rfl) (.none rfl) rfl ?_
    refine AO.val (RV.not rfl) (.none rfl) rfl ?_
    refine AO.nil ?_
    refine AK.cond rfl ?_ ?_
    · intro hc2
      try simp only [decide_eq_true_eq, decide_eq_false_iff_not, Bool.not_eq_true', Bool.not_eq_false', beq_iff_eq] at hc2
      have hnx : (nextR si).2 = false := by simpa using hc2
      have hp := hh.nextin_none hnx
      refine AK.seq ?_
      refine AK.region ?_
      refine AO.val (RV.assign rfl) (.none rfl) rfl ?_
      refine AO.nil ?_
      -- at FT
      refine AK.ret (h' := ((c, Blk.cells [.pointer (some ⟨a, 0, none⟩), .pointer (some ⟨b, 0, none⟩), .pointer (some ⟨p, 0, none⟩)] 56 (0, 0)) :: (a, Blk.cells [.slice (some ⟨aq, 0, none⟩) M M, .int .i64 (si).post, .int .i64 (si).work, .int .i64 (si).reap] 70 (0, 0)) :: (aq, Blk.cells (flat encS (si).sl) 72 (0, 0)) :: (b, Blk.cells [.slice (some ⟨bq, 0, none⟩) M M, .int .i64 (so).post, .int .i64 (so).work, .int .i64 (so).reap] 70 (0, 0)) :: (bq, Blk.cells (flat encS (so).sl) 72 (0, 0)) :: (pb ++ ((p, Blk.cells [.slice (some ⟨qb, 0, none⟩) L L, .slice (some ⟨qt, 0, none⟩) L L, .slice Ab (s).back.length cb, .int .i64 (s).fresh] 59 (0, 0)) :: (qt, Blk.cells (flat encBo (s).tk) 4 (0, 0)) :: (qb, Blk.cells (flat encSl (bs)) 28 (0, 0)) :: h)))) Try.func9 (.tmp rfl .nil) ?_ (by first | exact SubO.sub | exact List.Sublist.refl _ | exact .cons _ (List.Sublist.refl _) | exact .cons _ (.cons _ (List.Sublist.refl _)) | exact .cons _ (.cons _ (.cons _ (List.Sublist.refl _))))
      have e : (arriveA (ca ct qi qo) l) = ((ca ct qi qo), 7) := by simp only [arriveA]; rw [if_neg (by omega), if_pos (by simp [ca, hp])]
      rw [e]
      exact ⟨bs, ct, si, qi, [], rfl, rfl, w, hh, rfl, Same.refl _ _⟩
    · intro hc2
      try simp only [decide_eq_true_eq, decide_eq_false_iff_not, Bool.not_eq_true', Bool.not_eq_false', beq_iff_eq] at hc2
      have hnx : (nextR si).2 = true := by simpa using hc2
      obtain ⟨r, hp⟩ := hh.nextin_some hnx
      have hgh := hh.has (nextR si).1 (by simp [nums, hp])
      have hok : (hasP s (nextR si).1 && decide (l.length ≤ 1514)) = true := by rw [hgh]; simp; omega
      refine AK.skip ?_
      refine AK.seq ?_
      refine AK.region ?_
      refine AO.val (RV.move rfl) (.none rfl) rfl ?_
      refine AO.val (RV.nilCheck rfl) (.none rfl) rfl ?_
      refine AO.val (RV.fieldAddr rfl) (.none rfl) rfl ?_
      refine AO.val (by first | exact RV.loadO rfl rfl (by first | simp | assumption) | exact RV.loadF rfl (fun _ => rfl) (by omega) rfl rfl (by first | simp | assumption) | exact RV.loadF0 rfl (fun _ => rfl) (by omega) rfl rfl (by first | simp | assumption) | exact RV.loadS rfl (by assumption) (by omega) (by first | simp | assumption)) (.none rfl) rfl ?_
      refine AO.val (RV.move rfl) (.none rfl) rfl ?_
      refine AO.val (RV.move rfl) (.none rfl) rfl ?_
      refine AO.eff (EF.callF rfl (Tri.perm (card_perm ..) (write_spec B _ p qb qt pb L s bs ct w.pi w.hL w.hbl w.hr w.hcb D (fun x hx => .tail _ (.tail _ (.tail _ (.tail _ (.tail _ (hD x hx)))))) w.hct (nextR si).1 l (hl.mono fun x hx => by simp [hx]) hlb (by omega)))) (.none rfl) rfl ?_
      rintro _ _ ⟨rfl, bs2, p2, hb2, hct2, rfl⟩
      rw [if_pos hok] at hct2
      first | refine AO.perm (card_perm2 ..) ?_ | refine AK.perm (card_perm2 ..) ?_
      refine AO.nil ?_
      refine AK.seq ?_
      refine AK.region ?_
      refine AO.val (RV.move rfl) (.none rfl) rfl ?_
      refine AO.val (RV.nilCheck rfl) (.none rfl) rfl ?_
      refine AO.val (RV.fieldAddr rfl) (.none rfl) rfl ?_
      refine AO.val (by first | exact RV.loadO rfl rfl (by first | simp | assumption) | exact RV.loadF rfl (fun _ => rfl) (by omega) rfl rfl (by first | simp | assumption) | exact RV.loadF0 rfl (fun _ => rfl) (by omega) rfl rfl (by first | simp | assumption) | exact RV.loadS rfl (by assumption) (by omega) (by first | simp | assumption)) (.none rfl) rfl ?_
      refine AO.eff (EF.callF rfl (ring_done B [_] _ a aq M si hh.ri.ok hh.ni)) (.none rfl) rfl ?_
      rintro _ _ ⟨rfl, rfl⟩
      simp only [List.cons_append, List.nil_append]
      refine AO.nil ?_
      refine AK.seq ?_
      refine AK.region ?_
      refine AO.val (RV.assign rfl) (.none rfl) rfl ?_
      refine AO.nil ?_
      -- at FF
      refine AK.ret (h' := ((c, Blk.cells [.pointer (some ⟨a, 0, none⟩), .pointer (some ⟨b, 0, none⟩), .pointer (some ⟨p, 0, none⟩)] 56 (0, 0)) :: (a, Blk.cells [.slice (some ⟨aq, 0, none⟩) M M, .int .i64 ((doneR si).1).post, .int .i64 ((doneR si).1).work, .int .i64 ((doneR si).1).reap] 70 (0, 0)) :: (aq, Blk.cells (flat encS ((doneR si).1).sl) 72 (0, 0)) :: (b, Blk.cells [.slice (some ⟨bq, 0, none⟩) M M, .int .i64 (so).post, .int .i64 (so).work, .int .i64 (so).reap] 70 (0, 0)) :: (bq, Blk.cells (flat encS (so).sl) 72 (0, 0)) :: (pb ++ ((p, Blk.cells [.slice (some ⟨qb, 0, none⟩) L L, .slice (some ⟨qt, 0, none⟩) L L, .slice Ab (s).back.length cb, .int .i64 (s).fresh] 59 (0, 0)) :: (qt, Blk.cells (flat encBo (s).tk) 4 (0, 0)) :: (qb, Blk.cells (flat encSl (bs2)) 28 (0, 0)) :: (p2 ++ h))))) Try.func9 (.tmp rfl .nil) ?_ (by first | exact SubO.sub | exact List.Sublist.refl _ | exact .cons _ (List.Sublist.refl _) | exact .cons _ (.cons _ (List.Sublist.refl _)) | exact .cons _ (.cons _ (.cons _ (List.Sublist.refl _))))
      have e := hh.arrive_ca w.ctl (l := l) hp (by omega)
      refine ⟨bs2, _, _, _, p2, by rw [e.2.1]; rfl, rfl, w.cont hb2 hct2, hh.donein hp, e.1, e.2.2⟩

theorem send_spec (B : World) (h : Own) (c a aq b bq p qb qt : Nat) (pb : Own) {Ab : Option Addr} {cb : Nat} (L M : Nat) (s : PS) (bs : List Sl) (ct : List (List Int)) (D : Own) (hD : ∀ x ∈ D, x ∈ h) (w : PW 3 B L (s) (bs) (ct) (D) Ab cb pb) (si so : RS) (qi qo : QS) (O : List Int) (hh : Hold M s O si so qi qo) {A : Option Addr} {cap : Nat} (l : List Int) (hl : Src B h A l.length 1 (l.map (fun x => Value.int .u8 x))) (hlb : Bytes l) (hln : l.length ≤ 9223372036854775807) : Tri Try.prog B 12 [.pointer (some ⟨c, 0, none⟩), .slice A l.length cap] ((c, Blk.cells [.pointer (some ⟨a, 0, none⟩), .pointer (some ⟨b, 0, none⟩), .pointer (some ⟨p, 0, none⟩)] 56 (0, 0)) :: (a, Blk.cells [.slice (some ⟨aq, 0, none⟩) M M, .int .i64 (si).post, .int .i64 (si).work, .int .i64 (si).reap] 70 (0, 0)) :: (aq, Blk.cells (flat encS (si).sl) 72 (0, 0)) :: (b, Blk.cells [.slice (some ⟨bq, 0, none⟩) M M, .int .i64 (so).post, .int .i64 (so).work, .int .i64 (so).reap] 70 (0, 0)) :: (bq, Blk.cells (flat encS (so).sl) 72 (0, 0)) :: (pb ++ ((p, Blk.cells [.slice (some ⟨qb, 0, none⟩) L L, .slice (some ⟨qt, 0, none⟩) L L, .slice Ab (s).back.length cb, .int .i64 (s).fresh] 59 (0, 0)) :: (qt, Blk.cells (flat encBo (s).tk) 4 (0, 0)) :: (qb, Blk.cells (flat encSl (bs)) 28 (0, 0)) :: h))) fun v h' => ∃ s1 bs1 ct1 o1 q1 A1 c1 p1 part, v = .int .i64 (sendA M (ca ct qi qo) (freeP s) l).2 ∧ h' = ((c, Blk.cells [.pointer (some ⟨a, 0, none⟩), .pointer (some ⟨b, 0, none⟩), .pointer (some ⟨p, 0, none⟩)] 56 (0, 0)) :: (a, Blk.cells [.slice (some ⟨aq, 0, none⟩) M M, .int .i64 (si).post, .int .i64 (si).work, .int .i64 (si).reap] 70 (0, 0)) :: (aq, Blk.cells (flat encS (si).sl) 72 (0, 0)) :: (b, Blk.cells [.slice (some ⟨bq, 0, none⟩) M M, .int .i64 (o1).post, .int .i64 (o1).work, .int .i64 (o1).reap] 70 (0, 0)) :: (bq, Blk.cells (flat encS (o1).sl) 72 (0, 0)) :: (p1 ++ ((p, Blk.cells [.slice (some ⟨qb, 0, none⟩) L L, .slice (some ⟨qt, 0, none⟩) L L, .slice A1 (s1).back.length c1, .int .i64 (s1).fresh] 59 (0, 0)) :: (qt, Blk.cells (flat encBo (s1).tk) 4 (0, 0)) :: (qb, Blk.cells (flat encSl (bs1)) 28 (0, 0)) :: (part ++ h)))) ∧ PW 3 B L (s1) (bs1) (ct1) (part ++ D) A1 c1 p1 ∧ Hold M s1 O si o1 qi q1 ∧ ca ct1 qi q1 = (sendA M (ca ct qi qo) (freeP s) l).1.1 ∧ freeP s1 = (sendA M (ca ct qi qo) (freeP s) l).1.2 ∧ Same O ct ct1 := by
  have hrm := hh.roomin
  have hro := hh.roomout
  have hsz := hh.sz
  have hfn := free_nn w.pi
  refine Tri.enter (n := 45) Try.func12 rfl rfl rfl ?_
  simp only [argsE, Nat.reduceAdd]
  try dsimp only [argsE]
  refine AK.seq ?_
  refine AK.region ?_
  refine AO.val (RV.assign rfl) (.none rfl) rfl ?_
  refine AO.nil ?_
  refine AK.seq ?_
  refine AK.seq ?_
  refine AK.region ?_
  refine AO.val (RV.move rfl) (.none rfl) rfl ?_
  refine AO.val (RV.eqlP rfl rfl) (.none rfl) rfl ?_
  refine AO.nil ?_
  refine AK.condF rfl ?_
  refine AK.skip ?_
  refine AK.seq ?_
  refine AK.region ?_
  refine AO.val (RV.move rfl) (.none rfl) rfl ?_
  refine AO.eff (EF.callF rfl (reap_spec B _ c a aq b bq p qb qt pb L M s bs ct D hD w si so qi qo O hh)) (.none rfl) rfl ?_
  rintro _ _ ⟨s1, bs1, ct1, o1, q1, A1, c1, p1, rfl, w1, hh1, hca1, hf1, hs1, hqp1, hqr1⟩
  have hro1 := hh1.roomout
  have hfn1 := free_nn w1.pi
  have hrl1 : q1.ready.length = 0 := by rw [hqr1]; rfl
  refine AO.nil ?_
  refine AK.seq ?_
  refine AK.block ?_
  refine AK.seq ?_
  refine AK.region ?_
  refine AO.val (RV.move rfl) (.none rfl) rfl ?_
  refine AO.val (RV.lenS rfl) (.none rfl) rfl ?_
  refine AO.val (RV.gtr rfl rfl) (.none rfl) rfl ?_
  refine AO.val (RV.assign rfl) (.none rfl) rfl ?_
  refine AO.nil ?_
  refine AK.cond rfl ?_ ?_
  · intro hc1
    try simp only [decide_eq_true_eq, decide_eq_false_iff_not, Bool.not_eq_true', Bool.not_eq_false', beq_iff_eq] at hc1
    refine AK.seq ?_
    refine AK.region ?_
    refine AO.val (RV.assign rfl) (.none rfl) rfl ?_
    refine AO.nil ?_
    -- at T
    refine AK.ret (h' := ((c, Blk.cells [.pointer (some ⟨a, 0, none⟩), .pointer (some ⟨b, 0, none⟩), .pointer (some ⟨p, 0, none⟩)] 56 (0, 0)) :: (a, Blk.cells [.slice (some ⟨aq, 0, none⟩) M M, .int .i64 (si).post, .int .i64 (si).work, .int .i64 (si).reap] 70 (0, 0)) :: (aq, Blk.cells (flat encS (si).sl) 72 (0, 0)) :: (b, Blk.cells [.slice (some ⟨bq, 0, none⟩) M M, .int .i64 (o1).post, .int .i64 (o1).work, .int .i64 (o1).reap] 70 (0, 0)) :: (bq, Blk.cells (flat encS (o1).sl) 72 (0, 0)) :: (p1 ++ ((p, Blk.cells [.slice (some ⟨qb, 0, none⟩) L L, .slice (some ⟨qt, 0, none⟩) L L, .slice A1 (s1).back.length c1, .int .i64 (s1).fresh] 59 (0, 0)) :: (qt, Blk.cells (flat encBo (s1).tk) 4 (0, 0)) :: (qb, Blk.cells (flat encSl (bs1)) 28 (0, 0)) :: h)))) Try.func12 (.tmp rfl .nil) ?_ (by first | exact SubO.sub | exact List.Sublist.refl _ | exact .cons _ (List.Sublist.refl _) | exact .cons _ (.cons _ (List.Sublist.refl _)) | exact .cons _ (.cons _ (.cons _ (List.Sublist.refl _))))
    have e : (sendA M (ca ct qi qo) (freeP s) l) = (reapA (ca ct qi qo) (freeP s), 14) := by simp only [sendA]; rw [if_pos (by omega)]
    rw [e]
    exact ⟨s1, bs1, ct1, o1, q1, A1, c1, p1, [], rfl, rfl, w1, hh1, hca1, hf1, hs1⟩
  · intro hc1
    try simp only [decide_eq_true_eq, decide_eq_false_iff_not, Bool.not_eq_true', Bool.not_eq_false', beq_iff_eq] at hc1
    refine AK.seq ?_
    refine AK.region ?_
    refine AO.val (RV.move rfl) (.none rfl) rfl ?_
    refine AO.val (RV.nilCheck rfl) (.none rfl) rfl ?_
    refine AO.val (RV.fieldAddr rfl) (.none rfl) rfl ?_
    refine AO.val (by first | exact RV.loadO rfl rfl (by first | simp | assumption) | exact RV.loadF rfl (fun _ => rfl) (by omega) rfl rfl (by first | simp | assumption) | exact RV.loadF0 rfl (fun _ => rfl) (by omega) rfl rfl (by first | simp | assumption) | exact RV.loadS rfl (by assumption) (by omega) (by first | simp | assumption)) (.none rfl) rfl ?_
    refine AO.eff (EF.callF rfl (ring_room B [_, _, _] _ b bq M o1 hh1.ro.ok hh1.no)) (.none rfl) rfl ?_
    rintro _ _ ⟨rfl, rfl⟩
    simp only [List.cons_append, List.nil_append]
    refine AO.val (RV.eql rfl rfl) (.none rfl) rfl ?_
    refine AO.val (RV.assign rfl) (.none rfl) rfl ?_
    refine AO.nil ?_
    refine AK.cond rfl ?_ ?_
    · intro hc2
      try simp only [decide_eq_true_eq, decide_eq_false_iff_not, Bool.not_eq_true', Bool.not_eq_false', beq_iff_eq] at hc2
      refine AK.seq ?_
      refine AK.region ?_
      refine AO.val (RV.assign rfl) (.none rfl) rfl ?_
      refine AO.nil ?_
      -- at FT
      refine AK.ret (h' := ((c, Blk.cells [.pointer (some ⟨a, 0, none⟩), .pointer (some ⟨b, 0, none⟩), .pointer (some ⟨p, 0, none⟩)] 56 (0, 0)) :: (a, Blk.cells [.slice (some ⟨aq, 0, none⟩) M M, .int .i64 (si).post, .int .i64 (si).work, .int .i64 (si).reap] 70 (0, 0)) :: (aq, Blk.cells (flat encS (si).sl) 72 (0, 0)) :: (b, Blk.cells [.slice (some ⟨bq, 0, none⟩) M M, .int .i64 (o1).post, .int .i64 (o1).work, .int .i64 (o1).reap] 70 (0, 0)) :: (bq, Blk.cells (flat encS (o1).sl) 72 (0, 0)) :: (p1 ++ ((p, Blk.cells [.slice (some ⟨qb, 0, none⟩) L L, .slice (some ⟨qt, 0, none⟩) L L, .slice A1 (s1).back.length c1, .int .i64 (s1).fresh] 59 (0, 0)) :: (qt, Blk.cells (flat encBo (s1).tk) 4 (0, 0)) :: (qb, Blk.cells (flat encSl (bs1)) 28 (0, 0)) :: h)))) Try.func12 (.tmp rfl .nil) ?_ (by first | exact SubO.sub | exact List.Sublist.refl _ | exact .cons _ (List.Sublist.refl _) | exact .cons _ (.cons _ (List.Sublist.refl _)) | exact .cons _ (.cons _ (.cons _ (List.Sublist.refl _))))
      have e : (sendA M (ca ct qi qo) (freeP s) l) = (reapA (ca ct qi qo) (freeP s), 7) := by simp only [sendA]; rw [if_neg (by omega), if_pos (by simp only [ca, List.length_map]; rw [hqp1] at hro1; omega)]
      rw [e]
      exact ⟨s1, bs1, ct1, o1, q1, A1, c1, p1, [], rfl, rfl, w1, hh1, hca1, hf1, hs1⟩
    · intro hc2
      try simp only [decide_eq_true_eq, decide_eq_false_iff_not, Bool.not_eq_true', Bool.not_eq_false', beq_iff_eq] at hc2
      refine AK.skip ?_
      refine AK.inBlock ?_
      refine AK.seq ?_
      refine AK.region ?_
      refine AO.val (RV.move rfl) (.none rfl) rfl ?_
      refine AO.val (RV.nilCheck rfl) (.none rfl) rfl ?_
      refine AO.val (RV.fieldAddr rfl) (.none rfl) rfl ?_
      refine AO.val (by first | exact RV.loadO rfl rfl (by first | simp | assumption) | exact RV.loadF rfl (fun _ => rfl) (by omega) rfl rfl (by first | simp | assumption) | exact RV.loadF0 rfl (fun _ => rfl) (by omega) rfl rfl (by first | simp | assumption) | exact RV.loadS rfl (by assumption) (by omega) (by first | simp | assumption)) (.none rfl) rfl ?_
      refine AO.eff (EF.callF rfl (Tri.perm (card_perm ..) (take_spec B _ p qb qt p1 L s1 bs1 w1.pi w1.hL w1.hbl w1.hr w1.hcb))) (.none rfl) rfl ?_
      rintro _ _ ⟨rfl, A2, c2, p2, rfl, hr2, hcc2⟩
      first | refine AO.perm (card_perm ..).symm ?_ | refine AK.perm (card_perm ..).symm ?_
      refine AO.val (RV.move rfl) (.none rfl) rfl ?_
      refine AO.val (RV.extract rfl rfl) (.none rfl) rfl ?_
      refine AO.val (RV.extract rfl rfl) (.none rfl) rfl ?_
      refine AO.val (RV.assign rfl) (.none rfl) rfl ?_
      refine AO.val (RV.assign rfl) (.none rfl) rfl ?_
      refine AO.nil ?_
      refine AK.seq ?_
      refine AK.seq ?_
      refine AK.region ?_
      refine AO.val (RV.move rfl) (.none rfl) rfl ?_
      refine AO.val (RV.not rfl) (.none rfl) rfl ?_
      refine AO.nil ?_
      refine AK.cond rfl ?_ ?_
      · intro hc3
        try simp only [decide_eq_true_eq, decide_eq_false_iff_not, Bool.not_eq_true', Bool.not_eq_false', beq_iff_eq] at hc3
        have htk : (takeP s1).2.2 = false := by simpa using hc3
        have hft := took_none2 htk
        have hte := took_none htk
        refine AK.seq ?_
        refine AK.region ?_
        refine AO.val (RV.assign rfl) (.none rfl) rfl ?_
        refine AO.nil ?_
        -- at FFT
        refine AK.ret (h' := ((c, Blk.cells [.pointer (some ⟨a, 0, none⟩), .pointer (some ⟨b, 0, none⟩), .pointer (some ⟨p, 0, none⟩)] 56 (0, 0)) :: (a, Blk.cells [.slice (some ⟨aq, 0, none⟩) M M, .int .i64 (si).post, .int .i64 (si).work, .int .i64 (si).reap] 70 (0, 0)) :: (aq, Blk.cells (flat encS (si).sl) 72 (0, 0)) :: (b, Blk.cells [.slice (some ⟨bq, 0, none⟩) M M, .int .i64 (o1).post, .int .i64 (o1).work, .int .i64 (o1).reap] 70 (0, 0)) :: (bq, Blk.cells (flat encS (o1).sl) 72 (0, 0)) :: (p2 ++ ((p, Blk.cells [.slice (some ⟨qb, 0, none⟩) L L, .slice (some ⟨qt, 0, none⟩) L L, .slice A2 ((takeP s1).1).back.length c2, .int .i64 ((takeP s1).1).fresh] 59 (0, 0)) :: (qt, Blk.cells (flat encBo ((takeP s1).1).tk) 4 (0, 0)) :: (qb, Blk.cells (flat encSl (bs1)) 28 (0, 0)) :: h)))) Try.func12 (.tmp rfl .nil) ?_ (by first | exact SubO.sub | exact List.Sublist.refl _ | exact .cons _ (List.Sublist.refl _) | exact .cons _ (.cons _ (List.Sublist.refl _)) | exact .cons _ (.cons _ (.cons _ (List.Sublist.refl _))))
        have hf2 := hf1
        simp only [reapA, ca] at hf2
        have e : (sendA M (ca ct qi qo) (freeP s) l) = (reapA (ca ct qi qo) (freeP s), 15) := by simp only [sendA]; rw [if_neg (by omega), if_neg (by simp only [ca, List.length_map]; rw [hqp1] at hro1; omega), if_pos (by simp only [ca]; omega)]
        rw [e]
        exact ⟨_, bs1, ct1, o1, q1, A2, c2, p2, [], rfl, rfl, w1.take hr2 hcc2, by rw [hte]; exact hh1, hca1, by rw [hte]; exact hf1, hs1⟩
      · intro hc3
        try simp only [decide_eq_true_eq, decide_eq_false_iff_not, Bool.not_eq_true', Bool.not_eq_false', beq_iff_eq] at hc3
        have htk : (takeP s1).2.2 = true := by simpa using hc3
        have hft := free_take htk
        have htn := took_some htk
        have hh2 := hh1.take w1.pi htk
        have w2 := w1.take hr2 hcc2
        have hgh := hh2.has (takeP s1).2.1 (by simp)
        have hok : (hasP (takeP s1).1 (takeP s1).2.1 && decide (l.length ≤ 1514)) = true := by rw [hgh]; simp; omega
        refine AK.skip ?_
        refine AK.seq ?_
        refine AK.region ?_
        refine AO.val (RV.move rfl) (.none rfl) rfl ?_
        refine AO.val (RV.nilCheck rfl) (.none rfl) rfl ?_
        refine AO.val (RV.fieldAddr rfl) (.none rfl) rfl ?_
        refine AO.val (by first | exact RV.loadO rfl rfl (by first | simp | assumption) | exact RV.loadF rfl (fun _ => rfl) (by omega) rfl rfl (by first | simp | assumption) | exact RV.loadF0 rfl (fun _ => rfl) (by omega) rfl rfl (by first | simp | assumption) | exact RV.loadS rfl (by assumption) (by omega) (by first | simp | assumption)) (.none rfl) rfl ?_
        refine AO.val (RV.move rfl) (.none rfl) rfl ?_
        refine AO.val (RV.move rfl) (.none rfl) rfl ?_
        refine AO.eff (EF.callF rfl (Tri.perm (card_perm ..) (write_spec B _ p qb qt p2 L (takeP s1).1 bs1 ct1 w2.pi w2.hL w2.hbl w2.hr w2.hcb D (fun x hx => .tail _ (.tail _ (.tail _ (.tail _ (.tail _ (hD x hx)))))) w2.hct (takeP s1).2.1 l (hl.mono fun x hx => by simp [hx]) hlb (by omega)))) (.none rfl) rfl ?_
        rintro _ _ ⟨rfl, bs3, p3, hb3, hct3, rfl⟩
        rw [if_pos hok] at hct3
        first | refine AO.perm (card_perm2 ..) ?_ | refine AK.perm (card_perm2 ..) ?_
        refine AO.nil ?_
        refine AK.seq ?_
        refine AK.region ?_
        refine AO.val (RV.move rfl) (.none rfl) rfl ?_
        refine AO.val (RV.nilCheck rfl) (.none rfl) rfl ?_
        refine AO.val (RV.fieldAddr rfl) (.none rfl) rfl ?_
        refine AO.val (by first | exact RV.loadO rfl rfl (by first | simp | assumption) | exact RV.loadF rfl (fun _ => rfl) (by omega) rfl rfl (by first | simp | assumption) | exact RV.loadF0 rfl (fun _ => rfl) (by omega) rfl rfl (by first | simp | assumption) | exact RV.loadS rfl (by assumption) (by omega) (by first | simp | assumption)) (.none rfl) rfl ?_
        refine AO.val (RV.move rfl) (.none rfl) rfl ?_
        refine AO.eff (EF.callF rfl (ring_post B [_, _, _] _ b bq M o1 hh2.ro.ok hh2.no _)) (.none rfl) rfl ?_
        rintro _ _ ⟨rfl, rfl⟩
        simp only [List.cons_append, List.nil_append]
        refine AO.nil ?_
        refine AK.seq ?_
        refine AK.region ?_
        refine AO.val (RV.assign rfl) (.none rfl) rfl ?_
        refine AO.nil ?_
        -- at FFF
        refine AK.ret (h' := ((c, Blk.cells [.pointer (some ⟨a, 0, none⟩), .pointer (some ⟨b, 0, none⟩), .pointer (some ⟨p, 0, none⟩)] 56 (0, 0)) :: (a, Blk.cells [.slice (some ⟨aq, 0, none⟩) M M, .int .i64 (si).post, .int .i64 (si).work, .int .i64 (si).reap] 70 (0, 0)) :: (aq, Blk.cells (flat encS (si).sl) 72 (0, 0)) :: (b, Blk.cells [.slice (some ⟨bq, 0, none⟩) M M, .int .i64 ((postR o1 (takeP s1).2.1).1).post, .int .i64 ((postR o1 (takeP s1).2.1).1).work, .int .i64 ((postR o1 (takeP s1).2.1).1).reap] 70 (0, 0)) :: (bq, Blk.cells (flat encS ((postR o1 (takeP s1).2.1).1).sl) 72 (0, 0)) :: (p2 ++ ((p, Blk.cells [.slice (some ⟨qb, 0, none⟩) L L, .slice (some ⟨qt, 0, none⟩) L L, .slice A2 ((takeP s1).1).back.length c2, .int .i64 ((takeP s1).1).fresh] 59 (0, 0)) :: (qt, Blk.cells (flat encBo ((takeP s1).1).tk) 4 (0, 0)) :: (qb, Blk.cells (flat encSl (bs3)) 28 (0, 0)) :: (p3 ++ h))))) Try.func12 (.tmp rfl .nil) ?_ (by first | exact SubO.sub | exact List.Sublist.refl _ | exact .cons _ (List.Sublist.refl _) | exact .cons _ (.cons _ (List.Sublist.refl _)) | exact .cons _ (.cons _ (.cons _ (List.Sublist.refl _))))
        have hf2 := hf1
        simp only [reapA, ca] at hf2
        have e : (sendA M (ca ct qi qo) (freeP s) l) = ((⟨qi.posted.length, qi.ready.map (lget ct), qo.posted.map (lget ct) ++ [l], 0⟩, freeP s + qo.ready.length - 1), 0) := by simp only [sendA]; rw [if_neg (by omega), if_neg (by simp only [ca, List.length_map]; rw [hqp1] at hro1; omega), if_neg (by simp only [ca]; omega)]; rfl
        have e2 := hh2.send_ca w2.ctl l
        rw [e]
        refine ⟨_, bs3, _, _, _, A2, c2, p2, p3, rfl, rfl, w2.cont hb3 hct3, hh2.postout (by omega), e2.1.trans ?_, by simp only; omega, hs1.trans e2.2⟩
        have e3 := hca1
        simp only [ca, reapA, CA.mk.injEq] at e3
        simp only [e3.1, e3.2.1, e3.2.2.1, e3.2.2.2]

theorem poll_spec (B : World) (h : Own) (c a aq b bq p qb qt : Nat) (pb : Own) {Ab : Option Addr} {cb : Nat} (L M : Nat) (s : PS) (bs : List Sl) (ct : List (List Int)) (D : Own) (hD : ∀ x ∈ D, x ∈ h) (w : PW 3 B L (s) (bs) (ct) (D) Ab cb pb) (si so : RS) (qi qo : QS) (O : List Int) (hh : Hold M s O si so qi qo)  : Tri Try.prog B 10 [.pointer (some ⟨c, 0, none⟩)] ((c, Blk.cells [.pointer (some ⟨a, 0, none⟩), .pointer (some ⟨b, 0, none⟩), .pointer (some ⟨p, 0, none⟩)] 56 (0, 0)) :: (a, Blk.cells [.slice (some ⟨aq, 0, none⟩) M M, .int .i64 (si).post, .int .i64 (si).work, .int .i64 (si).reap] 70 (0, 0)) :: (aq, Blk.cells (flat encS (si).sl) 72 (0, 0)) :: (b, Blk.cells [.slice (some ⟨bq, 0, none⟩) M M, .int .i64 (so).post, .int .i64 (so).work, .int .i64 (so).reap] 70 (0, 0)) :: (bq, Blk.cells (flat encS (so).sl) 72 (0, 0)) :: (pb ++ ((p, Blk.cells [.slice (some ⟨qb, 0, none⟩) L L, .slice (some ⟨qt, 0, none⟩) L L, .slice Ab (s).back.length cb, .int .i64 (s).fresh] 59 (0, 0)) :: (qt, Blk.cells (flat encBo (s).tk) 4 (0, 0)) :: (qb, Blk.cells (flat encSl (bs)) 28 (0, 0)) :: h))) fun v h' => ∃ A' c' part s1 bs1 ct1 t1 o1 q1 r1 A1 c1 p1, v = .tuple #[.slice A' (pollA M (ca ct qi qo) (freeP s)).2.1.length c', .bool (pollA M (ca ct qi qo) (freeP s)).2.2] ∧ (pollA M (ca ct qi qo) (freeP s)).2.1.length ≤ c' ∧ Row 5 1 (.slice A' (pollA M (ca ct qi qo) (freeP s)).2.1.length c') (pollA M (ca ct qi qo) (freeP s)).2.1.length ((pollA M (ca ct qi qo) (freeP s)).2.1.map (fun x => Value.int .u8 x)) part ∧ Bytes (pollA M (ca ct qi qo) (freeP s)).2.1 ∧ (pollA M (ca ct qi qo) (freeP s)).2.1.length ≤ 1514 ∧ h' = ((c, Blk.cells [.pointer (some ⟨a, 0, none⟩), .pointer (some ⟨b, 0, none⟩), .pointer (some ⟨p, 0, none⟩)] 56 (0, 0)) :: (a, Blk.cells [.slice (some ⟨aq, 0, none⟩) M M, .int .i64 (t1).post, .int .i64 (t1).work, .int .i64 (t1).reap] 70 (0, 0)) :: (aq, Blk.cells (flat encS (t1).sl) 72 (0, 0)) :: (b, Blk.cells [.slice (some ⟨bq, 0, none⟩) M M, .int .i64 (o1).post, .int .i64 (o1).work, .int .i64 (o1).reap] 70 (0, 0)) :: (bq, Blk.cells (flat encS (o1).sl) 72 (0, 0)) :: (p1 ++ ((p, Blk.cells [.slice (some ⟨qb, 0, none⟩) L L, .slice (some ⟨qt, 0, none⟩) L L, .slice A1 (s1).back.length c1, .int .i64 (s1).fresh] 59 (0, 0)) :: (qt, Blk.cells (flat encBo (s1).tk) 4 (0, 0)) :: (qb, Blk.cells (flat encSl (bs1)) 28 (0, 0)) :: (part ++ h)))) ∧ PW 3 B L (s1) (bs1) (ct1) (D) A1 c1 p1 ∧ Hold M s1 O t1 o1 q1 r1 ∧ ca ct1 q1 r1 = (pollA M (ca ct qi qo) (freeP s)).1.1 ∧ freeP s1 = (pollA M (ca ct qi qo) (freeP s)).1.2 ∧ Same O ct ct1 := by
  have hrm := hh.roomin
  have hro := hh.roomout
  have hsz := hh.sz
  have hfn := free_nn w.pi
  refine Tri.enter (n := 38) Try.func10 rfl rfl rfl ?_
  simp only [argsE, Nat.reduceAdd]
  try dsimp only [argsE]
  refine AK.seq ?_
  refine AK.region ?_
  refine AO.val (RV.assign rfl) (.none rfl) rfl ?_
  refine AO.val (RV.assign rfl) (.none rfl) rfl ?_
  refine AO.nil ?_
  refine AK.seq ?_
  refine AK.seq ?_
  refine AK.region ?_
  refine AO.val (RV.move rfl) (.none rfl) rfl ?_
  refine AO.val (RV.eqlP rfl rfl) (.none rfl) rfl ?_
  refine AO.nil ?_
  refine AK.condF rfl ?_
  refine AK.skip ?_
  refine AK.seq ?_
  refine AK.region ?_
  refine AO.val (RV.move rfl) (.none rfl) rfl ?_
  refine AO.eff (EF.callF rfl (reap_spec B _ c a aq b bq p qb qt pb L M s bs ct D hD w si so qi qo O hh)) (.none rfl) rfl ?_
  rintro _ _ ⟨s1, bs1, ct1, o1, q1, A1, c1, p1, rfl, w1, hh1, hca1, hf1, hs1, hqp1, hqr1⟩
  refine AO.nil ?_
  refine AK.seq ?_
  refine AK.region ?_
  refine AO.val (RV.move rfl) (.none rfl) rfl ?_
  refine AO.eff (EF.callF rfl (fill_spec B _ c a aq b bq p qb qt p1 L M s1 bs1 ct1 D hD w1 si o1 qi q1 O hh1)) (.none rfl) rfl ?_
  rintro _ _ ⟨s2, t2, q2, A2, c2, p2, rfl, w2, hh2, hq2, hl2, hf2⟩
  have hca2 := fill_ca (ct := ct1) (qo := q1) hq2 hl2 hf2
  rw [hca1, hf1] at hca2
  refine AO.nil ?_
  refine AK.seq ?_
  refine AK.region ?_
  refine AO.val (RV.move rfl) (.none rfl) rfl ?_
  refine AO.val (RV.nilCheck rfl) (.none rfl) rfl ?_
  refine AO.val (RV.fieldAddr rfl) (.none rfl) rfl ?_
  refine AO.val (by first | exact RV.loadO rfl rfl (by first | simp | assumption) | exact RV.loadF rfl (fun _ => rfl) (by omega) rfl rfl (by first | simp | assumption) | exact RV.loadF0 rfl (fun _ => rfl) (by omega) rfl rfl (by first | simp | assumption) | exact RV.loadS rfl (by assumption) (by omega) (by first | simp | assumption)) (.none rfl) rfl ?_
  refine AO.eff (EF.callF rfl (ring_reap B [_] _ a aq M t2 hh2.ri.ok hh2.ni)) (.none rfl) rfl ?_
  rintro _ _ ⟨rfl, rfl⟩
  simp only [List.cons_append, List.nil_append]
  refine AO.val (RV.move rfl) (.none rfl) rfl ?_
  refine AO.val (RV.extract rfl rfl) (.none rfl) rfl ?_
  refine AO.val (RV.extract rfl rfl) (.none rfl) rfl ?_
  refine AO.val (RV.assign rfl) (.none rfl) rfl ?_
  refine AO.val (RV.assign rfl) (.none rfl) rfl ?_
  refine AO.nil ?_
  refine AK.seq ?_
  refine AK.seq ?_
  refine AK.region ?_
  refine AO.val (RV.move rfl) (.none rfl) rfl ?_
  refine AO.val (RV.not rfl) (.none rfl) rfl ?_
  refine AO.nil ?_
  refine AK.cond rfl ?_ ?_
  · intro hc1
    try simp only [decide_eq_true_eq, decide_eq_false_iff_not, Bool.not_eq_true', Bool.not_eq_false', beq_iff_eq] at hc1
    have hre : (reapR t2).2.2 = false := by simpa using hc1
    obtain ⟨hr0, hh3⟩ := hh2.reapin_none hre
    refine AK.seq ?_
    refine AK.region ?_
    refine AO.val (RV.assign rfl) (.none rfl) rfl ?_
    refine AO.val (RV.assign rfl) (.none rfl) rfl ?_
    refine AO.nil ?_
    -- at T
    refine AK.ret (h' := ((c, Blk.cells [.pointer (some ⟨a, 0, none⟩), .pointer (some ⟨b, 0, none⟩), .pointer (some ⟨p, 0, none⟩)] 56 (0, 0)) :: (a, Blk.cells [.slice (some ⟨aq, 0, none⟩) M M, .int .i64 ((reapR t2).1).post, .int .i64 ((reapR t2).1).work, .int .i64 ((reapR t2).1).reap] 70 (0, 0)) :: (aq, Blk.cells (flat encS ((reapR t2).1).sl) 72 (0, 0)) :: (b, Blk.cells [.slice (some ⟨bq, 0, none⟩) M M, .int .i64 (o1).post, .int .i64 (o1).work, .int .i64 (o1).reap] 70 (0, 0)) :: (bq, Blk.cells (flat encS (o1).sl) 72 (0, 0)) :: (p2 ++ ((p, Blk.cells [.slice (some ⟨qb, 0, none⟩) L L, .slice (some ⟨qt, 0, none⟩) L L, .slice A2 (s2).back.length c2, .int .i64 (s2).fresh] 59 (0, 0)) :: (qt, Blk.cells (flat encBo (s2).tk) 4 (0, 0)) :: (qb, Blk.cells (flat encSl (bs1)) 28 (0, 0)) :: h)))) Try.func10 (.tmp rfl (.tmp rfl .nil)) ?_ (by first | exact SubO.sub | exact List.Sublist.refl _ | exact .cons _ (List.Sublist.refl _) | exact .cons _ (.cons _ (List.Sublist.refl _)) | exact .cons _ (.cons _ (.cons _ (List.Sublist.refl _))))
    have e : (pollA M (ca ct qi qo) (freeP s)) = _ := poll_none hca2.1 hr0
    rw [e]
    exact ⟨none, 0, [], s2, bs1, ct1, _, o1, q2, q1, A2, c2, p2, rfl, Nat.le_refl 0, .nil, by intro x hx; simp at hx, by simp, rfl, w2, hh3, hca2.1, hca2.2, hs1⟩
  · intro hc1
    try simp only [decide_eq_true_eq, decide_eq_false_iff_not, Bool.not_eq_true', Bool.not_eq_false', beq_iff_eq] at hc1
    have hre : (reapR t2).2.2 = true := by simpa using hc1
    obtain ⟨r, hr0, hh3⟩ := hh2.reapin_some hre
    have hgh := hh3.give.2
    have hg3 := hh3.give.1
    have hfg := free_give hgh
    have hs3 := hh3.same w2.ctl []
    obtain ⟨_, _, _, hk4, hk5⟩ := w2.hct.at_ (reapR t2).2.1 (has_in hgh).1 (by have := (has_in hgh).2.1; have := w2.ctl; rw [w2.hct.len] at this; omega)
    refine AK.skip ?_
    refine AK.seq ?_
    refine AK.region ?_
    refine AO.val (RV.move rfl) (.none rfl) rfl ?_
    refine AO.val (RV.nilCheck rfl) (.none rfl) rfl ?_
    refine AO.val (RV.fieldAddr rfl) (.none rfl) rfl ?_
    refine AO.val (by first | exact RV.loadO rfl rfl (by first | simp | assumption) | exact RV.loadF rfl (fun _ => rfl) (by omega) rfl rfl (by first | simp | assumption) | exact RV.loadF0 rfl (fun _ => rfl) (by omega) rfl rfl (by first | simp | assumption) | exact RV.loadS rfl (by assumption) (by omega) (by first | simp | assumption)) (.none rfl) rfl ?_
    refine AO.val (RV.move rfl) (.none rfl) rfl ?_
    refine AO.eff (EF.callF rfl (Tri.perm (card_perm ..) (read_spec B _ p qb qt p2 L s2 bs1 ct1 w2.pi w2.hL w2.hbl w2.hr w2.hcb D (fun x hx => .tail _ (.tail _ (.tail _ (.tail _ (.tail _ (hD x hx)))))) w2.hct (reapR t2).2.1))) (.none rfl) rfl ?_
    rintro v28 _ ⟨Ar, cr, pr, hv28, hcr, hrr, rfl⟩
    rw [if_pos hgh] at hv28 hcr hrr
    subst hv28
    first | refine AO.perm (card_perm3 ..) ?_ | refine AK.perm (card_perm3 ..) ?_
    refine AO.val (RV.assign rfl) (.none rfl) rfl ?_
    refine AO.nil ?_
    refine AK.seq ?_
    refine AK.region ?_
    refine AO.val (RV.move rfl) (.none rfl) rfl ?_
    refine AO.val (RV.nilCheck rfl) (.none rfl) rfl ?_
    refine AO.val (RV.fieldAddr rfl) (.none rfl) rfl ?_
    refine AO.val (by first | exact RV.loadO rfl rfl (by first | simp | assumption) | exact RV.loadF rfl (fun _ => rfl) (by omega) rfl rfl (by first | simp | assumption) | exact RV.loadF0 rfl (fun _ => rfl) (by omega) rfl rfl (by first | simp | assumption) | exact RV.loadS rfl (by assumption) (by omega) (by first | simp | assumption)) (.none rfl) rfl ?_
    refine AO.val (RV.move rfl) (.none rfl) rfl ?_
    refine AO.eff (EF.callF rfl (Tri.perm (card_perm ..) (give2_spec B _ p qb qt p2 L s2 bs1 ct1 w2.pi w2.hL w2.hbl w2.hr w2.hcb D (fun x hx => .tail _ (.tail _ (.tail _ (.tail _ (.tail _ (List.mem_append_right _ (hD x hx))))))) w2.hct (reapR t2).2.1))) (.none rfl) rfl ?_
    rintro _ _ ⟨rfl, bs3, A3, c3, p3, hb3, hct3, rfl, hr3, hcc3⟩
    rw [if_pos hgh] at hct3
    first | refine AO.perm (card_perm ..).symm ?_ | refine AK.perm (card_perm ..).symm ?_
    refine AO.nil ?_
    refine AK.seq ?_
    refine AK.region ?_
    refine AO.val (RV.move rfl) (.none rfl) rfl ?_
    refine AO.eff (EF.callF rfl (fill_spec B _ c a aq b bq p qb qt p3 L M (giveP s2 (reapR t2).2.1).1 bs3 (lset ct1 (reapR t2).2.1 []) D (fun x hx => List.mem_append_right _ (hD x hx)) (w2.give _ hb3 hct3 hr3 hcc3) (reapR t2).1 o1 ⟨q2.posted, r, q2.ever, q2.worked⟩ q1 O hg3)) (.none rfl) rfl ?_
    rintro _ _ ⟨s5, t5, q5, A5, c5, p5, rfl, w5, hh5, hq5, hl5, hf5⟩
    refine AO.nil ?_
    refine AK.seq ?_
    refine AK.region ?_
    refine AO.val (RV.move rfl) (.none rfl) rfl ?_
    refine AO.val (RV.assign rfl) (.none rfl) rfl ?_
    refine AO.val (RV.assign rfl) (.none rfl) rfl ?_
    refine AO.nil ?_
    -- at F
    refine AK.ret (h' := ((c, Blk.cells [.pointer (some ⟨a, 0, none⟩), .pointer (some ⟨b, 0, none⟩), .pointer (some ⟨p, 0, none⟩)] 56 (0, 0)) :: (a, Blk.cells [.slice (some ⟨aq, 0, none⟩) M M, .int .i64 (t5).post, .int .i64 (t5).work, .int .i64 (t5).reap] 70 (0, 0)) :: (aq, Blk.cells (flat encS (t5).sl) 72 (0, 0)) :: (b, Blk.cells [.slice (some ⟨bq, 0, none⟩) M M, .int .i64 (o1).post, .int .i64 (o1).work, .int .i64 (o1).reap] 70 (0, 0)) :: (bq, Blk.cells (flat encS (o1).sl) 72 (0, 0)) :: (p5 ++ ((p, Blk.cells [.slice (some ⟨qb, 0, none⟩) L L, .slice (some ⟨qt, 0, none⟩) L L, .slice A5 (s5).back.length c5, .int .i64 (s5).fresh] 59 (0, 0)) :: (qt, Blk.cells (flat encBo (s5).tk) 4 (0, 0)) :: (qb, Blk.cells (flat encSl (bs3)) 28 (0, 0)) :: (pr ++ h))))) Try.func10 (.tmp rfl (.tmp rfl .nil)) ?_ (by first | exact SubO.sub | exact List.Sublist.refl _ | exact .cons _ (List.Sublist.refl _) | exact .cons _ (.cons _ (List.Sublist.refl _)) | exact .cons _ (.cons _ (.cons _ (List.Sublist.refl _))))
    have e : (pollA M (ca ct qi qo) (freeP s)) = _ := poll_some hca2.1 hca2.2 hr0 q2.ever q2.worked (hs3.sub fun x hx => by simp only [List.mem_append, nums] at hx ⊢; rcases hx with hx | hx <;> simp [hx])
    rw [e]
    have hca5 := fill_ca (ct := lset ct1 (reapR t2).2.1 []) (qo := q1) hq5 hl5 hf5
    rw [hfg] at hca5
    exact ⟨Ar, cr, pr, s5, bs3, _, t5, o1, q5, q1, A5, c5, p5, rfl, hcr, hrr, hk4, hk5, rfl, w5, hh5, hca5.1, hca5.2, hs1.trans (hs3.sub fun x hx => by simp [hx])⟩

theorem finish_spec (B : World) (h : Own) (c a aq b bq p qb qt : Nat) (pb : Own) {Ab : Option Addr} {cb : Nat} (L M : Nat) (s : PS) (bs : List Sl) (ct : List (List Int)) (D : Own) (hD : ∀ x ∈ D, x ∈ h) (w : PW 3 B L (s) (bs) (ct) (D) Ab cb pb) (si so : RS) (qi qo : QS) (O : List Int) (hh : Hold M s O si so qi qo) (n : Int) : Tri Try.prog B 13 [.pointer (some ⟨c, 0, none⟩), .int .i64 n] ((c, Blk.cells [.pointer (some ⟨a, 0, none⟩), .pointer (some ⟨b, 0, none⟩), .pointer (some ⟨p, 0, none⟩)] 56 (0, 0)) :: (a, Blk.cells [.slice (some ⟨aq, 0, none⟩) M M, .int .i64 (si).post, .int .i64 (si).work, .int .i64 (si).reap] 70 (0, 0)) :: (aq, Blk.cells (flat encS (si).sl) 72 (0, 0)) :: (b, Blk.cells [.slice (some ⟨bq, 0, none⟩) M M, .int .i64 (so).post, .int .i64 (so).work, .int .i64 (so).reap] 70 (0, 0)) :: (bq, Blk.cells (flat encS (so).sl) 72 (0, 0)) :: (pb ++ ((p, Blk.cells [.slice (some ⟨qb, 0, none⟩) L L, .slice (some ⟨qt, 0, none⟩) L L, .slice Ab (s).back.length cb, .int .i64 (s).fresh] 59 (0, 0)) :: (qt, Blk.cells (flat encBo (s).tk) 4 (0, 0)) :: (qb, Blk.cells (flat encSl (bs)) 28 (0, 0)) :: h))) fun v h' => ∃ (zs : List (InS Int)) (Ao : Option Addr) (co : Nat) (po part : Own) (o1 : RS) (q1 : QS), v = .slice Ao zs.length co ∧ zs.length ≤ co ∧ Row 28 1 (.slice Ao zs.length co) zs.length (zs.map (fun z : InS Int => Value.slice z.A z.l.length z.cap)) po ∧ (∀ z ∈ zs, Src B part z.A z.l.length 1 (z.l.map (fun x => Value.int .u8 x)) ∧ Bytes z.l ∧ z.l.length ≤ 1514 ∧ z.l.length ≤ z.cap) ∧ zs.map (·.l) = (finishA (ca ct qi qo) n).2 ∧ h' = ((c, Blk.cells [.pointer (some ⟨a, 0, none⟩), .pointer (some ⟨b, 0, none⟩), .pointer (some ⟨p, 0, none⟩)] 56 (0, 0)) :: (a, Blk.cells [.slice (some ⟨aq, 0, none⟩) M M, .int .i64 (si).post, .int .i64 (si).work, .int .i64 (si).reap] 70 (0, 0)) :: (aq, Blk.cells (flat encS (si).sl) 72 (0, 0)) :: (b, Blk.cells [.slice (some ⟨bq, 0, none⟩) M M, .int .i64 (o1).post, .int .i64 (o1).work, .int .i64 (o1).reap] 70 (0, 0)) :: (bq, Blk.cells (flat encS (o1).sl) 72 (0, 0)) :: (pb ++ ((p, Blk.cells [.slice (some ⟨qb, 0, none⟩) L L, .slice (some ⟨qt, 0, none⟩) L L, .slice Ab (s).back.length cb, .int .i64 (s).fresh] 59 (0, 0)) :: (qt, Blk.cells (flat encBo (s).tk) 4 (0, 0)) :: (qb, Blk.cells (flat encSl (bs)) 28 (0, 0)) :: (po ++ (part ++ h))))) ∧ Hold M s O si o1 qi q1 ∧ ca ct qi q1 = (finishA (ca ct qi qo) n).1 := by
  have hrm := hh.roomin
  have hro := hh.roomout
  have hsz := hh.sz
  have hfn := free_nn w.pi
  refine Tri.enter (n := 42) Try.func13 rfl rfl rfl ?_
  simp only [argsE, Nat.reduceAdd]
  try dsimp only [argsE]
  refine AK.seq ?_
  refine AK.region ?_
  refine AO.val (RV.assign rfl) (.none rfl) rfl ?_
  refine AO.nil ?_
  refine AK.seq ?_
  refine AK.region ?_
  refine AO.val (RV.assign rfl) (.none rfl) rfl ?_
  refine AO.nil ?_
  refine AK.seq ?_
  refine AK.seq ?_
  refine AK.region ?_
  refine AO.val (RV.move rfl) (.none rfl) rfl ?_
  refine AO.val (RV.eqlP rfl rfl) (.none rfl) rfl ?_
  refine AO.nil ?_
  refine AK.condF rfl ?_
  refine AK.skip ?_
  refine AK.seq ?_
  refine AK.block ?_
  refine AK.loop (α := List (InS Int) × Option Addr × Nat × Own × Own × RS × QS) (E := fun ⟨zs, Ao, co, po, part, o1, q1⟩ => [(0, .pointer (some ⟨c, 0, none⟩)), (1, .int .i64 n), (5, .slice Ao zs.length co)]) (H := fun ⟨zs, Ao, co, po, part, o1, q1⟩ => ((c, Blk.cells [.pointer (some ⟨a, 0, none⟩), .pointer (some ⟨b, 0, none⟩), .pointer (some ⟨p, 0, none⟩)] 56 (0, 0)) :: (a, Blk.cells [.slice (some ⟨aq, 0, none⟩) M M, .int .i64 (si).post, .int .i64 (si).work, .int .i64 (si).reap] 70 (0, 0)) :: (aq, Blk.cells (flat encS (si).sl) 72 (0, 0)) :: (b, Blk.cells [.slice (some ⟨bq, 0, none⟩) M M, .int .i64 (o1).post, .int .i64 (o1).work, .int .i64 (o1).reap] 70 (0, 0)) :: (bq, Blk.cells (flat encS (o1).sl) 72 (0, 0)) :: (pb ++ ((p, Blk.cells [.slice (some ⟨qb, 0, none⟩) L L, .slice (some ⟨qt, 0, none⟩) L L, .slice Ab (s).back.length cb, .int .i64 (s).fresh] 59 (0, 0)) :: (qt, Blk.cells (flat encBo (s).tk) 4 (0, 0)) :: (qb, Blk.cells (flat encSl (bs)) 28 (0, 0)) :: (po ++ (part ++ h)))))) (Inv := fun ⟨zs, Ao, co, po, part, o1, q1⟩ => zs.length ≤ co ∧ Row 28 1 (.slice Ao zs.length co) zs.length (zs.map (fun z : InS Int => Value.slice z.A z.l.length z.cap)) po ∧ (∀ z ∈ zs, Src B part z.A z.l.length 1 (z.l.map (fun x => Value.int .u8 x)) ∧ Bytes z.l ∧ z.l.length ≤ 1514 ∧ z.l.length ≤ z.cap) ∧ Hold M s O si o1 qi q1 ∧ (zs.length : Int) ≤ max n 0 ∧ zs.map (·.l) ++ q1.posted.map (lget ct) = qo.posted.map (lget ct) ∧ (q1.ready.length : Int) = qo.ready.length + zs.length) (μ := fun ⟨zs, Ao, co, po, part, o1, q1⟩ => q1.posted.length) ([], none, 0, [], [], so, qo) ?_ (.cons (by exact rfl) (.cons (by exact rfl) (.cons (by exact rfl) .nil))) ?_ ?_
  · exact ⟨Nat.le_refl 0, .nil, by simp, hh, by simp only [List.length_nil]; omega, rfl, by simp⟩
  · exact (by first | exact SubO.sub | exact List.Sublist.refl _ | exact .cons _ (List.Sublist.refl _) | exact .cons _ (.cons _ (List.Sublist.refl _)) | exact .cons _ (.cons _ (.cons _ (List.Sublist.refl _))))
  rintro ⟨zs, Ao, co, po, part, o1, q1⟩ ⟨hco, hro1, hz, hh1, hzn, hzq, hqr⟩ hih0
  try dsimp only at hih0 ⊢
  have hzl : zs.length + q1.posted.length = qo.posted.length := by have := congrArg List.length hzq; simpa using this
  refine AK.seq ?_
  refine AK.seq ?_
  refine AK.region ?_
  refine AO.val (RV.move rfl) (.none rfl) rfl ?_
  refine AO.val (RV.lenS rfl) (.none rfl) rfl ?_
  refine AO.val (RV.move rfl) (.none rfl) rfl ?_
  refine AO.val (RV.lss rfl rfl) (.none rfl) rfl ?_
  refine AO.nil ?_
  refine AK.cond rfl ?_ ?_
  · intro hc1
    try simp only [decide_eq_true_eq, decide_eq_false_iff_not, Bool.not_eq_true', Bool.not_eq_false', beq_iff_eq] at hc1
    refine AK.skip ?_
    refine AK.block ?_
    refine AK.seq ?_
    refine AK.region ?_
    refine AO.val (RV.move rfl) (.none rfl) rfl ?_
    refine AO.val (RV.nilCheck rfl) (.none rfl) rfl ?_
    refine AO.val (RV.fieldAddr rfl) (.none rfl) rfl ?_
    refine AO.val (by first | exact RV.loadO rfl rfl (by first | simp | assumption) | exact RV.loadF rfl (fun _ => rfl) (by omega) rfl rfl (by first | simp | assumption) | exact RV.loadF0 rfl (fun _ => rfl) (by omega) rfl rfl (by first | simp | assumption) | exact RV.loadS rfl (by assumption) (by omega) (by first | simp | assumption)) (.none rfl) rfl ?_
    refine AO.eff (EF.callF rfl (ring_next B [_, _, _] _ b bq M o1 hh1.ro.ok hh1.no)) (.none rfl) rfl ?_
    rintro _ _ ⟨rfl, rfl⟩
    simp only [List.cons_append, List.nil_append]
    refine AO.val (RV.move rfl) (.none rfl) rfl ?_
    refine AO.val (RV.extract rfl rfl) (.none rfl) rfl ?_
    refine AO.val (RV.extract rfl rfl) (.none rfl) rfl ?_
    refine AO.val (RV.assign rfl) (.none rfl) rfl ?_
    refine AO.val (RV.assign rfl) (.none rfl) rfl ?_
    refine AO.nil ?_
    refine AK.seq ?_
    refine AK.seq ?_
    refine AK.region ?_
    refine AO.val (RV.move rfl) (.none rfl) rfl ?_
    refine AO.val (RV.not rfl) (.none rfl) rfl ?_
    refine AO.nil ?_
    refine AK.cond rfl ?_ ?_
    · intro hc2
      try simp only [decide_eq_true_eq, decide_eq_false_iff_not, Bool.not_eq_true', Bool.not_eq_false', beq_iff_eq] at hc2
      have hnx : (nextR o1).2 = false := by simpa using hc2
      have hp := hh1.nextout_none hnx
      refine AK.exit rfl ?_
      refine AK.seq ?_
      refine AK.region ?_
      refine AO.val (RV.move rfl) (.none rfl) rfl ?_
      refine AO.val (RV.assign rfl) (.none rfl) rfl ?_
      refine AO.nil ?_
      -- at L0TT
      clear hih0
      refine AK.ret (h' := ((c, Blk.cells [.pointer (some ⟨a, 0, none⟩), .pointer (some ⟨b, 0, none⟩), .pointer (some ⟨p, 0, none⟩)] 56 (0, 0)) :: (a, Blk.cells [.slice (some ⟨aq, 0, none⟩) M M, .int .i64 (si).post, .int .i64 (si).work, .int .i64 (si).reap] 70 (0, 0)) :: (aq, Blk.cells (flat encS (si).sl) 72 (0, 0)) :: (b, Blk.cells [.slice (some ⟨bq, 0, none⟩) M M, .int .i64 (o1).post, .int .i64 (o1).work, .int .i64 (o1).reap] 70 (0, 0)) :: (bq, Blk.cells (flat encS (o1).sl) 72 (0, 0)) :: (pb ++ ((p, Blk.cells [.slice (some ⟨qb, 0, none⟩) L L, .slice (some ⟨qt, 0, none⟩) L L, .slice Ab (s).back.length cb, .int .i64 (s).fresh] 59 (0, 0)) :: (qt, Blk.cells (flat encBo (s).tk) 4 (0, 0)) :: (qb, Blk.cells (flat encSl (bs)) 28 (0, 0)) :: (po ++ (part ++ h)))))) Try.func13 (.tmp rfl .nil) ?_ (by first | exact SubO.sub | exact List.Sublist.refl _ | exact .cons _ (List.Sublist.refl _) | exact .cons _ (.cons _ (List.Sublist.refl _)) | exact .cons _ (.cons _ (.cons _ (List.Sublist.refl _))))
      have e := finish_ca (qi := qi) hzq (by rw [List.length_map]; exact hqr) n (by rw [List.length_map]; exact hzn) (by rw [List.length_map]; exact .inr hp)
      exact ⟨zs, Ao, co, po, part, o1, q1, rfl, hco, hro1, hz, e.2, rfl, hh1, e.1⟩
    · intro hc2
      try simp only [decide_eq_true_eq, decide_eq_false_iff_not, Bool.not_eq_true', Bool.not_eq_false', beq_iff_eq] at hc2
      have hnx : (nextR o1).2 = true := by simpa using hc2
      obtain ⟨r, hp⟩ := hh1.nextout_some hnx
      have hgh := hh1.has (nextR o1).1 (by simp [nums, hp])
      obtain ⟨_, _, _, hk4, hk5⟩ := w.hct.at_ (nextR o1).1 (has_in hgh).1 (by have := (has_in hgh).2.1; have := w.ctl; rw [w.hct.len] at this; omega)
      refine AK.skip ?_
      refine AK.seq ?_
      refine AK.region ?_
      refine AO.val (RV.move rfl) (.none rfl) rfl ?_
      refine AO.val (RV.move rfl) (.none rfl) rfl ?_
      refine AO.val (RV.nilCheck rfl) (.none rfl) rfl ?_
      refine AO.val (RV.fieldAddr rfl) (.none rfl) rfl ?_
      refine AO.val (by first | exact RV.loadO rfl rfl (by first | simp | assumption) | exact RV.loadF rfl (fun _ => rfl) (by omega) rfl rfl (by first | simp | assumption) | exact RV.loadF0 rfl (fun _ => rfl) (by omega) rfl rfl (by first | simp | assumption) | exact RV.loadS rfl (by assumption) (by omega) (by first | simp | assumption)) (.none rfl) rfl ?_
      refine AO.val (RV.move rfl) (.none rfl) rfl ?_
      refine AO.eff (EF.callF rfl (Tri.perm (card_perm ..) (read_spec B _ p qb qt pb L s bs ct w.pi w.hL w.hbl w.hr w.hcb D (fun x hx => .tail _ (.tail _ (.tail _ (.tail _ (.tail _ (List.mem_append_right _ (List.mem_append_right _ (hD x hx)))))))) w.hct (nextR o1).1))) (.none rfl) rfl ?_
      rintro v28 _ ⟨Ar, cr, pr, hv28, hcr, hrr, rfl⟩
      rw [if_pos hgh] at hv28 hcr hrr
      subst hv28
      first | refine AO.perm (card_perm3 ..) ?_ | refine AK.perm (card_perm3 ..) ?_
      refine AO.eff (EF.buildSeq [.slice Ar (lget ct (nextR o1).1).length cr] rfl rfl rfl rfl) (.none rfl) rfl ?_
      rintro _ _ ⟨b32, hf32, rfl, rfl⟩
      refine AO.eff (EF.callF rfl ((join_spec (A := some ⟨b32, 0, none⟩) (cap := 1) B _ ([⟨Ar, cr, (lget ct (nextR o1).1)⟩] : List (InS Int)) (Src.of_new (el := 28) (cs := [.slice Ar (lget ct (nextR o1).1).length cr]) (by simp) 1 1 (Nat.le_refl _)) (by intro x hx; simp only [List.mem_cons, List.not_mem_nil, or_false] at hx; subst hx; exact hrr.src fun x hx => by simp [hx]) (by simp; omega) (by simp)).mono fun v h2 r => r.to (n' := ((lget ct (nextR o1).1)).length) (ys := ((lget ct (nextR o1).1)).map (fun x => Value.int .u8 x)) (by simp) (by simp))) (.none rfl) rfl ?_
      rintro _ _ ⟨A33, c33, p33, rfl, hr33, hc33, rfl⟩
      refine AO.eff (EF.buildSeq [.slice A33 (lget ct (nextR o1).1).length c33] rfl rfl rfl rfl) (.none rfl) rfl ?_
      rintro _ _ ⟨b34, hf34, rfl, rfl⟩
      refine AO.eff (EF.appendS (n' := (zs ++ [(⟨A33, c33, (lget ct (nextR o1).1)⟩ : InS Int)]).length) (ys := (zs ++ [(⟨A33, c33, (lget ct (nextR o1).1)⟩ : InS Int)]).map (fun z : InS Int => Value.slice z.A z.l.length z.cap)) rfl rfl hro1 (Src.of_new (el := 28) (cs := [.slice A33 (lget ct (nextR o1).1).length c33]) (by simp) 1 1 (Nat.le_refl _)) (by simp) (by simp) rfl (by decide) rfl (by omega) (by omega)) (.none rfl) rfl ?_
      rintro _ _ ⟨A35, c35, p35, rfl, hr35, hc35, rfl⟩
      refine AO.perm (fin_perm ..) ?_
      refine Nic.AO.drop (.cons _ (.cons _ (List.sublist_append_right _ _))) ?_
      refine AO.val (RV.assign rfl) (.none rfl) rfl ?_
      refine AO.nil ?_
      refine AK.region ?_
      refine AO.val (RV.move rfl) (.none rfl) rfl ?_
      refine AO.val (RV.nilCheck rfl) (.none rfl) rfl ?_
      refine AO.val (RV.fieldAddr rfl) (.none rfl) rfl ?_
      refine AO.val (by first | exact RV.loadO rfl rfl (by first | simp | assumption) | exact RV.loadF rfl (fun _ => rfl) (by omega) rfl rfl (by first | simp | assumption) | exact RV.loadF0 rfl (fun _ => rfl) (by omega) rfl rfl (by first | simp | assumption) | exact RV.loadS rfl (by assumption) (by omega) (by first | simp | assumption)) (.none rfl) rfl ?_
      refine AO.eff (EF.callF rfl (ring_done B [_, _, _] _ b bq M o1 hh1.ro.ok hh1.no)) (.none rfl) rfl ?_
      rintro _ _ ⟨rfl, rfl⟩
      simp only [List.cons_append, List.nil_append]
      refine AO.nil ?_
      refine AK.inBlock ?_
      -- round ends at L0TF
      refine AK.weak (.cons (by exact rfl) (.cons (by exact rfl) (.cons (by exact rfl) .nil))) (by first | exact SubO.sub | exact List.Sublist.refl _ | exact .cons _ (List.Sublist.refl _) | exact .cons _ (.cons _ (List.Sublist.refl _)) | exact .cons _ (.cons _ (.cons _ (List.Sublist.refl _)))) (hih0 ((zs ++ [(⟨A33, c33, (lget ct (nextR o1).1)⟩ : InS Int)]), A35, c35, p35, p33 ++ part, (doneR o1).1, ⟨r, q1.ready ++ [(nextR o1).1], q1.ever, q1.worked + 1⟩) ?_ ?_)
      · try dsimp only
        refine ⟨hc35, hr35, ?_, hh1.doneout hp, by simp; omega, ?_, by simp; omega⟩
        · intro z hz2
          rcases List.mem_append.1 hz2 with h2 | h2
          · obtain ⟨k1, k2⟩ := hz z h2
            exact ⟨k1.mono fun x hx => List.mem_append_right _ hx, k2⟩
          · simp only [List.mem_singleton] at h2
            subst h2
            exact ⟨hr33.src fun x hx => List.mem_append_left _ hx, hk4, hk5, hc33⟩
        · rw [← hzq, hp]; simp
      · try dsimp only
        rw [hp]; simp
  · intro hc1
    try simp only [decide_eq_true_eq, decide_eq_false_iff_not, Bool.not_eq_true', Bool.not_eq_false', beq_iff_eq] at hc1
    refine AK.exit rfl ?_
    refine AK.seq ?_
    refine AK.region ?_
    refine AO.val (RV.move rfl) (.none rfl) rfl ?_
    refine AO.val (RV.assign rfl) (.none rfl) rfl ?_
    refine AO.nil ?_
    -- at L0F
    clear hih0
    refine AK.ret (h' := ((c, Blk.cells [.pointer (some ⟨a, 0, none⟩), .pointer (some ⟨b, 0, none⟩), .pointer (some ⟨p, 0, none⟩)] 56 (0, 0)) :: (a, Blk.cells [.slice (some ⟨aq, 0, none⟩) M M, .int .i64 (si).post, .int .i64 (si).work, .int .i64 (si).reap] 70 (0, 0)) :: (aq, Blk.cells (flat encS (si).sl) 72 (0, 0)) :: (b, Blk.cells [.slice (some ⟨bq, 0, none⟩) M M, .int .i64 (o1).post, .int .i64 (o1).work, .int .i64 (o1).reap] 70 (0, 0)) :: (bq, Blk.cells (flat encS (o1).sl) 72 (0, 0)) :: (pb ++ ((p, Blk.cells [.slice (some ⟨qb, 0, none⟩) L L, .slice (some ⟨qt, 0, none⟩) L L, .slice Ab (s).back.length cb, .int .i64 (s).fresh] 59 (0, 0)) :: (qt, Blk.cells (flat encBo (s).tk) 4 (0, 0)) :: (qb, Blk.cells (flat encSl (bs)) 28 (0, 0)) :: (po ++ (part ++ h)))))) Try.func13 (.tmp rfl .nil) ?_ (by first | exact SubO.sub | exact List.Sublist.refl _ | exact .cons _ (List.Sublist.refl _) | exact .cons _ (.cons _ (List.Sublist.refl _)) | exact .cons _ (.cons _ (.cons _ (List.Sublist.refl _))))
    have e := finish_ca (qi := qi) hzq (by rw [List.length_map]; exact hqr) n (by rw [List.length_map]; exact hzn) (by rw [List.length_map]; left; omega)
    exact ⟨zs, Ao, co, po, part, o1, q1, rfl, hco, hro1, hz, e.2, rfl, hh1, e.1⟩

theorem nic_new (B : World) (h : Own) (p qb qt : Nat) (pb : Own) {Ab : Option Addr} {cb : Nat} (L : Nat) (s : PS) (bs : List Sl) (ct : List (List Int)) (D : Own) (hD : ∀ x ∈ D, x ∈ h) (w : PW 3 B L (s) (bs) (ct) (D) Ab cb pb) (O : List Int) (hO : O.Nodup) (hOh : ∀ i ∈ O, hasP s i = true) (n : Int) : Tri Try.prog B 6 [.int .i64 n, .pointer (some ⟨p, 0, none⟩)] (pb ++ ((p, Blk.cells [.slice (some ⟨qb, 0, none⟩) L L, .slice (some ⟨qt, 0, none⟩) L L, .slice Ab (s).back.length cb, .int .i64 (s).fresh] 59 (0, 0)) :: (qt, Blk.cells (flat encBo (s).tk) 4 (0, 0)) :: (qb, Blk.cells (flat encSl (bs)) 28 (0, 0)) :: h)) fun v h' => ∃ c a aq b bq s1 t1 q1 A1 c1 p1, v = .pointer (some ⟨c, 0, none⟩) ∧ h' = ((c, Blk.cells [.pointer (some ⟨a, 0, none⟩), .pointer (some ⟨b, 0, none⟩), .pointer (some ⟨p, 0, none⟩)] 56 (0, 0)) :: (a, Blk.cells [.slice (some ⟨aq, 0, none⟩) (newR n).sl.length (newR n).sl.length, .int .i64 (t1).post, .int .i64 (t1).work, .int .i64 (t1).reap] 70 (0, 0)) :: (aq, Blk.cells (flat encS (t1).sl) 72 (0, 0)) :: (b, Blk.cells [.slice (some ⟨bq, 0, none⟩) (newR n).sl.length (newR n).sl.length, .int .i64 ((newR n)).post, .int .i64 ((newR n)).work, .int .i64 ((newR n)).reap] 70 (0, 0)) :: (bq, Blk.cells (flat encS ((newR n)).sl) 72 (0, 0)) :: (p1 ++ ((p, Blk.cells [.slice (some ⟨qb, 0, none⟩) L L, .slice (some ⟨qt, 0, none⟩) L L, .slice A1 (s1).back.length c1, .int .i64 (s1).fresh] 59 (0, 0)) :: (qt, Blk.cells (flat encBo (s1).tk) 4 (0, 0)) :: (qb, Blk.cells (flat encSl (bs)) 28 (0, 0)) :: h))) ∧ PW 3 B L (s1) (bs) (ct) (D) A1 c1 p1 ∧ Hold (newR n).sl.length s1 O t1 (newR n) q1 newQ ∧ ca ct q1 newQ = (fillA (newR n).sl.length ⟨0, [], [], 0⟩ (freeP s)).1 ∧ freeP s1 = (fillA (newR n).sl.length ⟨0, [], [], 0⟩ (freeP s)).2 := by
  refine Tri.enter (n := 18) Try.func6 rfl rfl rfl ?_
  simp only [argsE, Nat.reduceAdd]
  try dsimp only [argsE]
  refine AK.seq ?_
  refine AK.region ?_
  refine AO.val (RV.assign rfl) (.none rfl) rfl ?_
  refine AO.nil ?_
  refine AK.seq ?_
  refine AK.seq ?_
  refine AK.region ?_
  refine AO.val (RV.move rfl) (.none rfl) rfl ?_
  refine AO.val (RV.eqlP rfl rfl) (.none rfl) rfl ?_
  refine AO.nil ?_
  refine AK.condF rfl ?_
  refine AK.skip ?_
  refine AK.seq ?_
  refine AK.region ?_
  refine AO.val (RV.move rfl) (.none rfl) rfl ?_
  refine AO.eff (EF.callF rfl (ring_new B _ n)) (.none rfl) rfl ?_
  rintro _ _ ⟨a, aq, rfl, rfl⟩
  refine AO.val (RV.move rfl) (.none rfl) rfl ?_
  refine AO.eff (EF.callF rfl (ring_new B _ n)) (.none rfl) rfl ?_
  rintro _ _ ⟨b, bq, rfl, rfl⟩
  refine AO.val (RV.move rfl) (.none rfl) rfl ?_
  refine AO.val (RV.build rfl (.cons rfl rfl rfl rfl (.cons rfl rfl rfl rfl (.cons rfl rfl rfl rfl .nil)))) (.none rfl) rfl ?_
  refine AO.eff (EF.box rfl rfl) (.none rfl) rfl ?_
  rintro _ _ ⟨b14, hf14, rfl, rfl⟩
  refine AO.val (RV.assign rfl) (.none rfl) rfl ?_
  refine AO.nil ?_
  refine AK.seq ?_
  refine AK.region ?_
  refine AO.val (RV.move rfl) (.none rfl) rfl ?_
  refine AO.eff (EF.callF rfl (Tri.perm (new_perm ..) (fill_spec B h b14 a aq b bq p qb qt pb L (newR n).sl.length s bs ct D hD w (newR n) (newR n) newQ newQ O (hold_new n s O hO hOh)))) (.none rfl) rfl ?_
  rintro _ _ ⟨s1, t1, q1, A1, c1, p1, rfl, w1, hh1, hq1, hl1, hf1⟩
  refine AO.nil ?_
  refine AK.seq ?_
  refine AK.region ?_
  refine AO.val (RV.move rfl) (.none rfl) rfl ?_
  refine AO.val (RV.assign rfl) (.none rfl) rfl ?_
  refine AO.nil ?_
  -- at 
  refine AK.ret (h' := ((b14, Blk.cells [.pointer (some ⟨a, 0, none⟩), .pointer (some ⟨b, 0, none⟩), .pointer (some ⟨p, 0, none⟩)] 56 (0, 0)) :: (a, Blk.cells [.slice (some ⟨aq, 0, none⟩) (newR n).sl.length (newR n).sl.length, .int .i64 (t1).post, .int .i64 (t1).work, .int .i64 (t1).reap] 70 (0, 0)) :: (aq, Blk.cells (flat encS (t1).sl) 72 (0, 0)) :: (b, Blk.cells [.slice (some ⟨bq, 0, none⟩) (newR n).sl.length (newR n).sl.length, .int .i64 ((newR n)).post, .int .i64 ((newR n)).work, .int .i64 ((newR n)).reap] 70 (0, 0)) :: (bq, Blk.cells (flat encS ((newR n)).sl) 72 (0, 0)) :: (p1 ++ ((p, Blk.cells [.slice (some ⟨qb, 0, none⟩) L L, .slice (some ⟨qt, 0, none⟩) L L, .slice A1 (s1).back.length c1, .int .i64 (s1).fresh] 59 (0, 0)) :: (qt, Blk.cells (flat encBo (s1).tk) 4 (0, 0)) :: (qb, Blk.cells (flat encSl (bs)) 28 (0, 0)) :: h)))) Try.func6 (.tmp rfl .nil) ?_ (by first | exact SubO.sub | exact List.Sublist.refl _ | exact .cons _ (List.Sublist.refl _) | exact .cons _ (.cons _ (List.Sublist.refl _)) | exact .cons _ (.cons _ (.cons _ (List.Sublist.refl _))))
  have e := fill_ca (ct := ct) (qo := newQ) hq1 hl1 hf1
  exact ⟨b14, a, aq, b, bq, s1, t1, q1, A1, c1, p1, rfl, rfl, w1, hh1, e.1, e.2⟩

end Go.Proofs.Ytpobjhmbonojkaa
