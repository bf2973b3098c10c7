/- Plain laws of cards: two rings and a pool. No program in sight. -/
import Derived.Test.YtpobjhmbonojkaaPlain15
import Derived.Test.YtpobjhmbonojkaaPlainQ14
set_option linter.unusedSimpArgs false
set_option linter.unusedVariables false
namespace Go.Sep.Nic
open Go.Sep Go.Sep.Ring Go.Sep.Pool
theorem AO.drop {P : Program} {B : World} {f n : Nat} {R : Value → Own → Prop} {ops : Array Oper} {k : List Item} {e : Env} {h h' : Own} {l : List Oper} (sh : h'.Sublist h) (hk : AO P B f n R ops l k e h') : AO P B f n R ops l k e h :=
  ⟨fun a w g m => hk.run a w g (m.sub sh)⟩
def nums (qi qo : QS) : List Int := qi.posted ++ qi.ready ++ (qo.posted ++ qo.ready)
/-- the rings are rows of numbers, all of buffers that are taken, each once; O are the numbers of others -/
structure Hold (M : Nat) (s : PS) (O : List Int) (si so : RS) (qi qo : QS) : Prop where
  ri : Rel si qi
  ro : Rel so qo
  ni : si.sl.length = M
  no : so.sl.length = M
  nd : (nums qi qo ++ O).Nodup
  has : ∀ i ∈ nums qi qo ++ O, hasP s i = true
theorem has_take {s : PS} (p : PI s) (h : (takeP s).2.2 = true) (x : Int) : hasP (takeP s).1 x = (hasP s x || decide (x = (takeP s).2.1)) := by
  have hi := took_in p h
  have key : ∀ (i : Int) (b : List Int) (f : Int), 0 ≤ i → i < s.N → hasP ⟨lset s.tk i true, b, f⟩ x = (hasP s x || decide (x = i)) := by
    intro i b f h0 h1
    have hin : 0 ≤ i ∧ i < (s.tk.length : Int) := ⟨h0, h1⟩
    simp only [hasP, N_lset]
    by_cases hx : 0 ≤ x ∧ x < s.N
    · rw [lget_lset _ _ _ _ hin hx.1]
      by_cases he : x = i
      · simp [he, hx, h0, h1]
      · simp [he]
    · have : x ≠ i := by omega
      simp [hx, this]
  by_cases h1 : freeP s = 0
  · rw [take_none h1] at h; simp at h
  by_cases h2 : 0 < (s.back.length : Int)
  · rw [take_back h1 h2] at hi ⊢
    exact key _ _ _ hi.1 hi.2.1
  · rw [take_fresh h1 h2] at hi ⊢
    exact key _ _ _ hi.1 hi.2.1
theorem free_take {s : PS} (h : (takeP s).2.2 = true) : freeP (takeP s).1 = freeP s - 1 := by
  by_cases h1 : freeP s = 0
  · rw [take_none h1] at h; simp at h
  by_cases h2 : 0 < (s.back.length : Int)
  · rw [take_back h1 h2]
    simp only [freeP, backP, N_lset, List.length_take]; omega
  · rw [take_fresh h1 h2]
    simp only [freeP, freshP, N_lset]; omega
theorem has_give {s : PS} {i : Int} (h : hasP s i = true) (x : Int) : hasP (giveP s i).1 x = (hasP s x && !decide (x = i)) := by
  obtain ⟨h0, h1, _⟩ := has_in h
  have hin : 0 ≤ i ∧ i < (s.tk.length : Int) := ⟨h0, h1⟩
  unfold giveP; rw [if_pos h]
  simp only [hasP, N_lset]
  by_cases hx : 0 ≤ x ∧ x < s.N
  · rw [lget_lset _ _ _ _ hin hx.1]
    by_cases he : x = i
    · simp [he]
    · simp [he]
  · simp [hx]
theorem free_give {s : PS} {i : Int} (h : hasP s i = true) : freeP (giveP s i).1 = freeP s + 1 := by
  unfold giveP; rw [if_pos h]
  simp only [freeP, N_lset, List.length_append, List.length_cons, List.length_nil]; omega
theorem free_nn {s : PS} (p : PI s) : 0 ≤ freeP s := (back_len p).2
theorem took_some {s : PS} (h : (takeP s).2.2 = true) : freeP s ≠ 0 := by
  intro h1; rw [take_none h1] at h; simp at h
section
variable {M : Nat} {s : PS} {O : List Int} {si so : RS} {qi qo : QS}
theorem Hold.take (h : Hold M s O si so qi qo) (p : PI s) (ht : (takeP s).2.2 = true) : Hold M (takeP s).1 ((takeP s).2.1 :: O) si so qi qo := by
  refine ⟨h.ri, h.ro, h.ni, h.no, ?_, fun x hx => ?_⟩
  · refine (List.perm_middle.nodup_iff).2 (List.nodup_cons.2 ⟨fun hm => ?_, h.nd⟩)
    have := h.has _ hm
    rw [(took_in p ht).2.2] at this; simp at this
  · rw [has_take p ht]
    rcases List.mem_cons.1 (List.perm_middle.mem_iff.1 hx) with rfl | hx
    · simp
    · simp [h.has _ hx]
theorem Hold.give {i : Int} (h : Hold M s (i :: O) si so qi qo) : Hold M (giveP s i).1 O si so qi qo ∧ hasP s i = true := by
  have hi : hasP s i = true := h.has i (by simp)
  have hnd := (List.perm_middle.nodup_iff).1 h.nd
  rw [List.nodup_cons] at hnd
  refine ⟨⟨h.ri, h.ro, h.ni, h.no, hnd.2, fun x hx => ?_⟩, hi⟩
  rw [has_give hi]
  have hne : x ≠ i := fun e => hnd.1 (e ▸ hx)
  rw [h.has x (List.perm_middle.mem_iff.2 (List.mem_cons_of_mem _ hx))]
  simp [hne]
theorem Hold.N (h : Hold M s O si so qi qo) : si.N = M ∧ so.N = M := ⟨by rw [RS.N, h.ni], by rw [RS.N, h.no]⟩
theorem Hold.of (h : Hold M s O si so qi qo) {O' : List Int} {si' so' : RS} {qi' qo' : QS} (a : Rel si' qi') (b : Rel so' qo') (c : si'.sl.length = si.sl.length) (d : so'.sl.length = so.sl.length) (p : (nums qi' qo' ++ O').Perm (nums qi qo ++ O)) : Hold M s O' si' so' qi' qo' :=
  ⟨a, b, c.trans h.ni, d.trans h.no, p.nodup_iff.2 h.nd, fun x hx => h.has x (p.mem_iff.1 hx)⟩
theorem Hold.postin {i : Int} (h : Hold M s (i :: O) si so qi qo) (hr : (qi.posted.length : Int) + qi.ready.length < M) : Hold M s O (postR si i).1 so ⟨qi.posted ++ [i], qi.ready, qi.ever + 1, qi.worked⟩ qo := by
  have hq : (postQ si.N qi i).1 = ⟨qi.posted ++ [i], qi.ready, qi.ever + 1, qi.worked⟩ := by unfold postQ; rw [h.N.1, if_neg (by omega)]
  refine h.of (hq ▸ (rel_post h.ri i).1) h.ro (len_post ..) rfl ?_
  refine List.perm_iff_count.2 fun x => ?_
  simp only [nums, List.count_append, List.count_cons, List.count_nil]; omega
theorem Hold.postout {i : Int} (h : Hold M s (i :: O) si so qi qo) (hr : (qo.posted.length : Int) + qo.ready.length < M) : Hold M s O si (postR so i).1 qi ⟨qo.posted ++ [i], qo.ready, qo.ever + 1, qo.worked⟩ := by
  have hq : (postQ so.N qo i).1 = ⟨qo.posted ++ [i], qo.ready, qo.ever + 1, qo.worked⟩ := by unfold postQ; rw [h.N.2, if_neg (by omega)]
  refine h.of h.ri (hq ▸ (rel_post h.ro i).1) rfl (len_post ..) ?_
  refine List.perm_iff_count.2 fun x => ?_
  simp only [nums, List.count_append, List.count_cons, List.count_nil]; omega
theorem Hold.reapout {x : Int} {r : List Int} (h : Hold M s O si so qi qo) (hr : qo.ready = x :: r) : Hold M s (x :: O) si (reapR so).1 qi ⟨qo.posted, r, qo.ever, qo.worked⟩ := by
  have hq : (reapQ qo).1 = ⟨qo.posted, r, qo.ever, qo.worked⟩ := by unfold reapQ; rw [hr]
  refine h.of h.ri (hq ▸ (rel_reap h.ro).1) rfl (len_reap ..) ?_
  refine List.perm_iff_count.2 fun x => ?_
  simp only [nums, hr, List.count_append, List.count_cons, List.count_nil]; omega
theorem Hold.reapin {x : Int} {r : List Int} (h : Hold M s O si so qi qo) (hr : qi.ready = x :: r) : Hold M s (x :: O) (reapR si).1 so ⟨qi.posted, r, qi.ever, qi.worked⟩ qo := by
  have hq : (reapQ qi).1 = ⟨qi.posted, r, qi.ever, qi.worked⟩ := by unfold reapQ; rw [hr]
  refine h.of (hq ▸ (rel_reap h.ri).1) h.ro (len_reap ..) rfl ?_
  refine List.perm_iff_count.2 fun x => ?_
  simp only [nums, hr, List.count_append, List.count_cons, List.count_nil]; omega
theorem Hold.donein {x : Int} {r : List Int} (h : Hold M s O si so qi qo) (hr : qi.posted = x :: r) : Hold M s O (doneR si).1 so ⟨r, qi.ready ++ [x], qi.ever, qi.worked + 1⟩ qo := by
  have hq : (doneQ qi).1 = ⟨r, qi.ready ++ [x], qi.ever, qi.worked + 1⟩ := by unfold doneQ; rw [hr]
  refine h.of (hq ▸ (rel_done h.ri).1) h.ro (len_done ..) rfl ?_
  refine List.perm_iff_count.2 fun x => ?_
  simp only [nums, hr, List.count_append, List.count_cons, List.count_nil]; omega
theorem Hold.doneout {x : Int} {r : List Int} (h : Hold M s O si so qi qo) (hr : qo.posted = x :: r) : Hold M s O si (doneR so).1 qi ⟨r, qo.ready ++ [x], qo.ever, qo.worked + 1⟩ := by
  have hq : (doneQ qo).1 = ⟨r, qo.ready ++ [x], qo.ever, qo.worked + 1⟩ := by unfold doneQ; rw [hr]
  refine h.of h.ri (hq ▸ (rel_done h.ro).1) rfl (len_done ..) ?_
  refine List.perm_iff_count.2 fun x => ?_
  simp only [nums, hr, List.count_append, List.count_cons, List.count_nil]; omega
theorem Hold.roomin (h : Hold M s O si so qi qo) : cnt isRoom si.sl = M - qi.posted.length - qi.ready.length ∧ (qi.posted.length : Int) + qi.ready.length ≤ M := ⟨by rw [h.ri.croom, h.N.1], by have := h.ri.nm; rw [h.N.1] at this; exact this⟩
theorem Hold.roomout (h : Hold M s O si so qi qo) : cnt isRoom so.sl = M - qo.posted.length - qo.ready.length ∧ (qo.posted.length : Int) + qo.ready.length ≤ M := ⟨by rw [h.ro.croom, h.N.2], by have := h.ro.nm; rw [h.N.2] at this; exact this⟩
theorem Hold.sz (h : Hold M s O si so qi qo) : 0 < M ∧ M ≤ 64 := by
  have := h.ri.ok.n
  rw [h.N.1] at this; omega
end
/-- a pool with what it holds -/
structure PW (IT : Nat) (B : World) (L : Nat) (s : PS) (bs : List Sl) (ct : List (List Int)) (D : Own) (A : Option Addr) (cb : Nat) (pb : Own) : Prop where
  pi : PI s
  hL : s.tk.length = L
  hbl : bs.length = L
  hr : Row IT 1 (.slice A s.back.length cb) s.back.length (s.back.map Pool.I64) pb
  hcb : s.back.length ≤ cb
  hct : Cont B D bs ct
section
variable {IT : Nat} {B : World} {L : Nat} {s : PS} {bs : List Sl} {ct : List (List Int)} {D : Own} {A : Option Addr} {cb : Nat} {pb : Own}
theorem PW.take (w : PW IT B L s bs ct D A cb pb) {A' : Option Addr} {c' : Nat} {pb' : Own} (hr : Row IT 1 (.slice A' (takeP s).1.back.length c') (takeP s).1.back.length ((takeP s).1.back.map Pool.I64) pb') (hc : (takeP s).1.back.length ≤ c') : PW IT B L (takeP s).1 bs ct D A' c' pb' :=
  ⟨pi_take w.pi, (len_take s).trans w.hL, w.hbl, hr, hc, w.hct⟩
theorem PW.give (w : PW IT B L s bs ct D A cb pb) (i : Int) {bs' : List Sl} {ct' : List (List Int)} {A' : Option Addr} {c' : Nat} {pb' : Own} (hb : bs'.length = L) (hct : Cont B D bs' ct') (hr : Row IT 1 (.slice A' (giveP s i).1.back.length c') (giveP s i).1.back.length ((giveP s i).1.back.map Pool.I64) pb') (hc : (giveP s i).1.back.length ≤ c') : PW IT B L (giveP s i).1 bs' ct' D A' c' pb' :=
  ⟨pi_give w.pi i, (len_give s i).trans w.hL, hb, hr, hc, hct⟩
theorem PW.cont (w : PW IT B L s bs ct D A cb pb) {bs' : List Sl} {ct' : List (List Int)} {D' : Own} (hb : bs'.length = L) (hct : Cont B D' bs' ct') : PW IT B L s bs' ct' D' A cb pb :=
  ⟨w.pi, w.hL, hb, w.hr, w.hcb, hct⟩
theorem PW.mono (w : PW IT B L s bs ct D A cb pb) {D' : Own} (h : ∀ x ∈ D, x ∈ D') : PW IT B L s bs ct D' A cb pb := ⟨w.pi, w.hL, w.hbl, w.hr, w.hcb, w.hct.mono h⟩
theorem PW.ctl (w : PW IT B L s bs ct D A cb pb) : (ct.length : Int) = s.N := by
  rw [w.hct.len, w.hbl, ← w.hL]; rfl
end
theorem card_perm (a b c d e x y z : Nat × Blk) (pb h : Own) : (a :: b :: c :: d :: e :: (pb ++ (x :: y :: z :: h))).Perm (pb ++ (x :: y :: z :: (a :: b :: c :: d :: e :: h))) :=
  perm_count fun v => by simp only [List.count_append, List.count_cons]; omega
/-- what the numbers of a row hold is what they held -/
def Same (l : List Int) (ct ct' : List (List Int)) : Prop := ∀ i ∈ l, lget ct' i = lget ct i
theorem same_set {ct : List (List Int)} {l : List Int} {i : Int} {x : List Int} (hi : 0 ≤ i ∧ i < ct.length) (hl : ∀ j ∈ l, 0 ≤ j) (hn : i ∉ l) : Same l ct (lset ct i x) := fun j hj => by
  rw [lget_lset _ _ _ _ hi (hl j hj), if_neg]
  intro e; subst e; exact hn hj
theorem Same.refl (l : List Int) (ct : List (List Int)) : Same l ct ct := fun _ _ => rfl
theorem Same.trans {l : List Int} {a b c : List (List Int)} (h : Same l a b) (h2 : Same l b c) : Same l a c := fun i hi => (h2 i hi).trans (h i hi)
theorem Same.sub {l l' : List Int} {a b : List (List Int)} (h : Same l a b) (hs : ∀ x ∈ l', x ∈ l) : Same l' a b := fun i hi => h i (hs i hi)
/-- the document's card: how many descriptors wait for the wire, what came in, what goes out, how many of what went out weren't reaped -/
structure CA where
  inN : Int
  came : List (List Int)
  goes : List (List Int)
  spent : Int
def ca (ct : List (List Int)) (qi qo : QS) : CA := ⟨qi.posted.length, qi.ready.map (lget ct), qo.posted.map (lget ct), qo.ready.length⟩
def fillA (M : Nat) (a : CA) (F : Int) : CA × Int := (⟨a.inN + min ((M : Int) - a.inN - a.came.length) F, a.came, a.goes, a.spent⟩, F - min ((M : Int) - a.inN - a.came.length) F)
def reapA (a : CA) (F : Int) : CA × Int := (⟨a.inN, a.came, a.goes, 0⟩, F + a.spent)
def arriveA (a : CA) (l : List Int) : CA × Int := if 1514 < (l.length : Int) then (a, 14) else if a.inN = 0 then (a, 7) else (⟨a.inN - 1, a.came ++ [l], a.goes, a.spent⟩, 0)
def pollB (M : Nat) (x : CA × Int) : (CA × Int) × List Int × Bool := match x.1.came with
  | [] => (x, [], false)
  | y :: r => (fillA M ⟨x.1.inN, r, x.1.goes, x.1.spent⟩ (x.2 + 1), y, true)
def pollA (M : Nat) (a : CA) (F : Int) : (CA × Int) × List Int × Bool := pollB M (fillA M (reapA a F).1 (reapA a F).2)
def sendA (M : Nat) (a : CA) (F : Int) (l : List Int) : (CA × Int) × Int :=
  if 1514 < (l.length : Int) then (reapA a F, 14) else if (M : Int) ≤ a.goes.length then (reapA a F, 7) else if F + a.spent = 0 then (reapA a F, 15)
  else ((⟨a.inN, a.came, a.goes ++ [l], 0⟩, F + a.spent - 1), 0)
def finishA (a : CA) (n : Int) : CA × List (List Int) := (⟨a.inN, a.came, a.goes.drop n.toNat, a.spent + (a.goes.take n.toNat).length⟩, a.goes.take n.toNat)
theorem map_same {l : List Int} {ct ct' : List (List Int)} (h : Same l ct ct') : l.map (lget ct') = l.map (lget ct) := List.map_congr_left fun x hx => h x hx
theorem ca_same {ct ct' : List (List Int)} {qi qo : QS} (h : Same (qi.ready ++ qo.posted) ct ct') : ca ct' qi qo = ca ct qi qo := by
  unfold ca
  rw [map_same (h.sub fun x hx => List.mem_append_left _ hx), map_same (h.sub fun x hx => List.mem_append_right _ hx)]
theorem fill_ca {M : Nat} {ct : List (List Int)} {qi qo q1 : QS} {F F1 : Int} (h1 : q1.ready = qi.ready) (h2 : (q1.posted.length : Int) = qi.posted.length + min ((M : Int) - qi.posted.length - qi.ready.length) F) (h3 : F1 = F - min ((M : Int) - qi.posted.length - qi.ready.length) F) :
    ca ct q1 qo = (fillA M (ca ct qi qo) F).1 ∧ F1 = (fillA M (ca ct qi qo) F).2 := by
  simp only [ca, fillA, List.length_map, h1, h2, h3, and_self]
section
variable {M : Nat} {s : PS} {O : List Int} {si so : RS} {qi qo : QS}
theorem Hold.range (h : Hold M s O si so qi qo) {x : Int} (hx : x ∈ nums qi qo ++ O) : 0 ≤ x ∧ x < s.N := by
  have := has_in (h.has x hx); exact ⟨this.1, this.2.1⟩
theorem Hold.same {i : Int} (h : Hold M s (i :: O) si so qi qo) {ct : List (List Int)} (hc : (ct.length : Int) = s.N) (y : List Int) : Same (nums qi qo ++ O) ct (lset ct i y) := by
  have hnd := (List.perm_middle.nodup_iff).1 h.nd
  rw [List.nodup_cons] at hnd
  refine same_set (by rw [hc]; exact h.range (by simp)) (fun j hj => (h.range (List.perm_middle.mem_iff.2 (List.mem_cons_of_mem _ hj))).1) hnd.1
theorem Hold.reapout2 (h : Hold M s O si so qi qo) : ((reapR so).2.2 = false ∧ qo.ready = [] ∧ Hold M s O si (reapR so).1 qi qo) ∨ ((reapR so).2.2 = true ∧ ∃ r, qo.ready = (reapR so).2.1 :: r ∧ Hold M s ((reapR so).2.1 :: O) si (reapR so).1 qi ⟨qo.posted, r, qo.ever, qo.worked⟩) := by
  have hr := rel_reap h.ro
  cases hq : qo.ready with
  | nil =>
    have e : reapQ qo = (qo, 0, false) := by unfold reapQ; rw [hq]
    rw [e] at hr
    exact .inl ⟨by rw [hr.2], rfl, h.of h.ri hr.1 rfl (len_reap ..) (List.Perm.refl _)⟩
  | cons x r =>
    have e : reapQ qo = (⟨qo.posted, r, qo.ever, qo.worked⟩, x, true) := by unfold reapQ; rw [hq]
    rw [e] at hr
    refine .inr ⟨by rw [hr.2], r, by rw [hr.2], ?_⟩
    rw [hr.2]
    exact h.reapout hq
theorem Hold.reapoutI (h : Hold M s O si so qi qo) : ∃ q1 : QS, q1.posted = qo.posted ∧ Hold M s (if (reapR so).2.2 = true then (reapR so).2.1 :: O else O) si (reapR so).1 qi q1 ∧ ((reapR so).2.2 = false → q1.ready = []) ∧ (q1.ready.length : Int) + (if (reapR so).2.2 = true then 1 else 0) = qo.ready.length := by
  rcases h.reapout2 with ⟨e, e2, h2⟩ | ⟨e, r, e2, h2⟩
  · refine ⟨qo, rfl, ?_, fun _ => e2, by rw [e2, e]; rfl⟩
    rw [e]; exact h2
  · refine ⟨⟨qo.posted, r, qo.ever, qo.worked⟩, rfl, ?_, fun hf => ?_, ?_⟩
    · rw [if_pos e]; exact h2
    · rw [e] at hf; simp at hf
    · rw [e, e2]; simp
theorem Hold.reapin2 (h : Hold M s O si so qi qo) : ((reapR si).2.2 = false ∧ qi.ready = [] ∧ Hold M s O (reapR si).1 so qi qo) ∨ ((reapR si).2.2 = true ∧ ∃ r, qi.ready = (reapR si).2.1 :: r ∧ Hold M s ((reapR si).2.1 :: O) (reapR si).1 so ⟨qi.posted, r, qi.ever, qi.worked⟩ qo) := by
  have hr := rel_reap h.ri
  cases hq : qi.ready with
  | nil =>
    have e : reapQ qi = (qi, 0, false) := by unfold reapQ; rw [hq]
    rw [e] at hr
    exact .inl ⟨by rw [hr.2], rfl, h.of hr.1 h.ro (len_reap ..) rfl (List.Perm.refl _)⟩
  | cons x r =>
    have e : reapQ qi = (⟨qi.posted, r, qi.ever, qi.worked⟩, x, true) := by unfold reapQ; rw [hq]
    rw [e] at hr
    refine .inr ⟨by rw [hr.2], r, by rw [hr.2], ?_⟩
    rw [hr.2]
    exact h.reapin hq
theorem Hold.nextin (h : Hold M s O si so qi qo) : ((nextR si).2 = false ∧ qi.posted = []) ∨ ((nextR si).2 = true ∧ ∃ r, qi.posted = (nextR si).1 :: r) := by
  rw [rel_next h.ri]
  unfold nextQ
  cases qi.posted with
  | nil => exact .inl ⟨rfl, rfl⟩
  | cons x r => exact .inr ⟨rfl, r, rfl⟩
theorem Hold.nextin_some (h : Hold M s O si so qi qo) (e : (nextR si).2 = true) : ∃ r, qi.posted = (nextR si).1 :: r := by
  rcases h.nextin with h1 | h1
  · rw [h1.1] at e; simp at e
  · exact h1.2
theorem Hold.nextin_none (h : Hold M s O si so qi qo) (e : (nextR si).2 = false) : qi.posted = [] := by
  rcases h.nextin with h1 | h1
  · exact h1.2
  · rw [h1.1] at e; simp at e
theorem Hold.nextout (h : Hold M s O si so qi qo) : ((nextR so).2 = false ∧ qo.posted = []) ∨ ((nextR so).2 = true ∧ ∃ r, qo.posted = (nextR so).1 :: r) := by
  rw [rel_next h.ro]
  unfold nextQ
  cases qo.posted with
  | nil => exact .inl ⟨rfl, rfl⟩
  | cons x r => exact .inr ⟨rfl, r, rfl⟩
end
section
variable {M : Nat} {s : PS} {O : List Int} {si so : RS} {qi qo : QS} {ct : List (List Int)}
theorem Hold.arrive_ca (h : Hold M s O si so qi qo) (hc : (ct.length : Int) = s.N) {x : Int} {r l : List Int} (hp : qi.posted = x :: r) (hl : ¬ 1514 < (l.length : Int)) :
    ca (lset ct x l) ⟨r, qi.ready ++ [x], qi.ever, qi.worked + 1⟩ qo = (arriveA (ca ct qi qo) l).1 ∧ (arriveA (ca ct qi qo) l).2 = 0 ∧ Same O ct (lset ct x l) := by
  have hnd := h.nd
  simp only [nums, hp, List.cons_append, List.nodup_cons] at hnd
  have hx : x ∈ nums qi qo ++ O := by simp [nums, hp]
  have hs : Same (qi.ready ++ qo.posted ++ O) ct (lset ct x l) := by
    refine same_set (by rw [hc]; exact h.range hx) (fun j hj => (h.range ?_).1) fun hm => hnd.1 ?_
    · simp only [List.mem_append, nums] at hj ⊢; rcases hj with (hj | hj) | hj <;> simp [hj]
    · simp only [List.mem_append] at hm ⊢; rcases hm with (hj | hj) | hj <;> simp [hj]
  have hg : lget (lset ct x l) x = l := by
    have hr := h.range hx
    rw [lget_lset _ _ _ _ (by rw [hc]; exact hr) hr.1, if_pos rfl]
  have h1 : ¬ (qi.posted.length : Int) = 0 := by rw [hp]; simp; omega
  have h2 : (qi.posted.length : Int) = r.length + 1 := by rw [hp]; simp
  have e : arriveA (ca ct qi qo) l = (⟨qi.posted.length - 1, qi.ready.map (lget ct) ++ [l], qo.posted.map (lget ct), qo.ready.length⟩, 0) := by
    unfold arriveA
    rw [if_neg hl, if_neg (show ¬ (ca ct qi qo).inN = 0 from h1)]; rfl
  rw [e]
  simp only [ca, List.map_append, List.map_cons, List.map_nil, hg]
  rw [map_same (hs.sub (l' := qi.ready) fun y hy => by simp [hy]), map_same (hs.sub (l' := qo.posted) fun y hy => by simp [hy]), show (r.length : Int) = qi.posted.length - 1 by omega]
  exact ⟨rfl, trivial, hs.sub fun y hy => by simp [hy]⟩
theorem Hold.send_ca {x : Int} (h : Hold M s (x :: O) si so qi qo) (hc : (ct.length : Int) = s.N) (l : List Int) :
    ca (lset ct x l) qi ⟨qo.posted ++ [x], qo.ready, qo.ever + 1, qo.worked⟩ = ⟨qi.posted.length, qi.ready.map (lget ct), qo.posted.map (lget ct) ++ [l], qo.ready.length⟩ ∧ Same O ct (lset ct x l) := by
  have hs := h.same hc l
  have hg : lget (lset ct x l) x = l := by
    have hr := h.range (x := x) (by simp)
    rw [lget_lset _ _ _ _ (by rw [hc]; exact hr) hr.1, if_pos rfl]
  simp only [ca, List.map_append, List.map_cons, List.map_nil, hg]
  rw [map_same (hs.sub (l' := qi.ready) fun y hy => by simp [hy, nums]), map_same (hs.sub (l' := qo.posted) fun y hy => by simp [hy, nums])]
  exact ⟨rfl, hs.sub fun y hy => by simp [hy]⟩
theorem Hold.nextout_some (h : Hold M s O si so qi qo) (e : (nextR so).2 = true) : ∃ r, qo.posted = (nextR so).1 :: r := by
  rcases h.nextout with h1 | h1
  · rw [h1.1] at e; simp at e
  · exact h1.2
theorem Hold.nextout_none (h : Hold M s O si so qi qo) (e : (nextR so).2 = false) : qo.posted = [] := by
  rcases h.nextout with h1 | h1
  · exact h1.2
  · rw [h1.1] at e; simp at e
theorem Hold.reapin_some (h : Hold M s O si so qi qo) (e : (reapR si).2.2 = true) : ∃ r, qi.ready = (reapR si).2.1 :: r ∧ Hold M s ((reapR si).2.1 :: O) (reapR si).1 so ⟨qi.posted, r, qi.ever, qi.worked⟩ qo := by
  rcases h.reapin2 with h1 | h1
  · rw [h1.1] at e; simp at e
  · exact h1.2
theorem Hold.reapin_none (h : Hold M s O si so qi qo) (e : (reapR si).2.2 = false) : qi.ready = [] ∧ Hold M s O (reapR si).1 so qi qo := by
  rcases h.reapin2 with h1 | h1
  · exact h1.2
  · rw [h1.1] at e; simp at e
end
theorem poll_none {M : Nat} {ct : List (List Int)} {qi qo : QS} {X : CA × Int} (e : ca ct qi qo = X.1) (hr : qi.ready = []) : pollB M X = (X, [], false) := by
  have : X.1.came = [] := by rw [← e]; simp [ca, hr]
  unfold pollB; rw [this]
theorem poll_some {M : Nat} {ct ct' : List (List Int)} {qi qo : QS} {X : CA × Int} (e : ca ct qi qo = X.1) {F : Int} (e2 : F = X.2) {x : Int} {r : List Int} (hr : qi.ready = x :: r) (ev wo : Int) (hs : Same (r ++ qo.posted) ct ct') : pollB M X = (fillA M (ca ct' ⟨qi.posted, r, ev, wo⟩ qo) (F + 1), lget ct x, true) := by
  have h1 : X.1.came = lget ct x :: r.map (lget ct) := by rw [← e]; simp [ca, hr]
  unfold pollB
  rw [h1]
  simp only
  rw [ca_same (ct := ct) hs, ← e, ← e2]; rfl
theorem fin_perm (a b c d e x y z x34 x32 : Nat × Blk) (pb pr p35 p33 part h : Own) : (p35 ++ (x34 :: (p33 ++ (x32 :: a :: b :: c :: d :: e :: (pb ++ (x :: y :: z :: (pr ++ (part ++ h)))))))).Perm (x34 :: x32 :: (pr ++ (a :: b :: c :: d :: e :: (pb ++ (x :: y :: z :: (p35 ++ ((p33 ++ part) ++ h))))))) :=
  perm_count fun v => by simp only [List.count_append, List.count_cons]; omega
theorem fin_take {l r G : List (List Int)} (h : l ++ r = G) (n : Int) (h1 : (l.length : Int) ≤ max n 0) (h2 : n ≤ l.length ∨ r = []) : G.take n.toNat = l ∧ G.drop n.toNat = r := by
  subst h
  rcases h2 with h2 | h2
  · have e : n.toNat = l.length := by omega
    rw [e, List.take_left, List.drop_left]; exact ⟨rfl, rfl⟩
  · subst h2
    have e : l.length ≤ n.toNat := by omega
    rw [List.append_nil]
    exact ⟨List.take_of_length_le e, List.drop_eq_nil_of_le e⟩
theorem finish_ca {ct : List (List Int)} {qi qo q1 : QS} {l : List (List Int)} (h : l ++ q1.posted.map (lget ct) = qo.posted.map (lget ct)) (hr : (q1.ready.length : Int) = qo.ready.length + l.length) (n : Int) (h1 : (l.length : Int) ≤ max n 0) (h2 : n ≤ l.length ∨ q1.posted = []) :
    ca ct qi q1 = (finishA (ca ct qi qo) n).1 ∧ l = (finishA (ca ct qi qo) n).2 := by
  obtain ⟨e1, e2⟩ := fin_take h n h1 (h2.imp id fun e => by rw [e]; rfl)
  simp only [finishA, ca, e1, e2, hr, and_self]
theorem card_perm2 (a b c d e x y z : Nat × Blk) (pb q h : Own) : (pb ++ (x :: y :: z :: (q ++ (a :: b :: c :: d :: e :: h)))).Perm (a :: b :: c :: d :: e :: (pb ++ (x :: y :: z :: (q ++ h)))) :=
  perm_count fun v => by simp only [List.count_append, List.count_cons]; omega
theorem card_perm3 (a b c d e x y z : Nat × Blk) (pb q h : Own) : (q ++ (pb ++ (x :: y :: z :: (a :: b :: c :: d :: e :: h)))).Perm (a :: b :: c :: d :: e :: (pb ++ (x :: y :: z :: (q ++ h)))) :=
  perm_count fun v => by simp only [List.count_append, List.count_cons]; omega
theorem new_perm (a b c d e : Nat × Blk) (h : Own) : (a :: d :: e :: b :: c :: h).Perm (a :: b :: c :: d :: e :: h) :=
  perm_count fun v => by simp only [List.count_cons]; omega
theorem in_perm (v a b c d e x y z : Nat × Blk) (pb h : Own) : (v :: a :: b :: c :: d :: e :: (pb ++ (x :: y :: z :: h))).Perm (a :: b :: c :: d :: e :: (pb ++ (x :: y :: z :: (v :: h)))) :=
  perm_count fun w => by simp only [List.count_append, List.count_cons]; omega
theorem hold_new (n : Int) (s : PS) (O : List Int) (hO : O.Nodup) (hh : ∀ i ∈ O, hasP s i = true) : Hold (newR n).sl.length s O (newR n) (newR n) newQ newQ :=
  ⟨rel_new n, rel_new n, rfl, rfl, hO, hh⟩
/-- no more are taken than there are -/
theorem taken_le : ∀ (l : List Int) (tk : List Bool), l.Nodup → (∀ i ∈ l, 0 ≤ i ∧ i < tk.length ∧ lget tk i = true) → (l.length : Int) ≤ cntB tk
  | [], tk, _, _ => by have : 0 ≤ cntB tk := by { unfold cntB; omega }
                       simpa using this
  | i :: r, tk, hn, hl => by
    obtain ⟨h0, h1, h2⟩ := hl i (by simp)
    rw [List.nodup_cons] at hn
    have hc := cntB_lset tk i false ⟨h0, h1⟩
    rw [h2] at hc
    have := taken_le r (lset tk i false) hn.2 fun j hj => by
      obtain ⟨k0, k1, k2⟩ := hl j (List.mem_cons_of_mem _ hj)
      have hne : j ≠ i := fun e => hn.1 (e ▸ hj)
      rw [lset_len, lget_lset _ _ _ _ ⟨h0, h1⟩ k0, if_neg hne]
      exact ⟨k0, k1, k2⟩
    simp only [List.length_cons, if_true, Bool.false_eq_true, if_false] at hc ⊢
    omega
theorem hold_free {M : Nat} {s : PS} {O : List Int} {si so : RS} {qi qo : QS} (h : Hold M s O si so qi qo) (p : PI s) : (qi.posted.length : Int) + qi.ready.length + qo.posted.length + freeP s ≤ s.N := by
  have h1 := taken_le _ s.tk h.nd fun i hi => by have := has_in (h.has i hi); exact this
  rw [p.ct] at h1
  simp only [nums, List.length_append] at h1
  unfold freeP; omega
theorem one_of {zs : List (InS Int)} {x : List Int} (h : zs.map (·.l) = [x]) : ∃ z, zs = [z] ∧ z.l = x := by
  cases zs with
  | nil => simp at h
  | cons z r => cases r with
    | nil => exact ⟨z, rfl, by simpa using h⟩
    | cons y r => simp at h
theorem lget_in {T : Type} [Inhabited T] {l : List T} {i : Int} (h : 0 ≤ i ∧ i < l.length) : lget l i ∈ l := by
  obtain ⟨h2, e⟩ := lget_at h
  rw [e]; exact List.getElem_mem h2
abbrev NDeed := Int × Int × Int × InS Int × Unit
abbrev encN (x : NDeed) : List Value := [.int .i64 x.1, .int .i64 x.2.1, .int .i64 x.2.2.1, .slice x.2.2.2.1.A x.2.2.2.1.l.length x.2.2.2.1.cap]
theorem row_drop1 {el n c : Nat} {A : Option Addr} {xs : List Value} {p : Own} (r : Row el 1 (.slice A n c) n xs p) (h : 1 ≤ n) : Row el 1 (.slice (if (c : Int) = 1 then A else cutA A 1) (n - 1) (c - 1)) (n - 1) (xs.drop 1) p := by
  cases r with
  | nil => omega
  | @mk b off _ _ cs _ h1 h2 h3 =>
    by_cases hc : (c : Int) = 1
    · rw [if_pos hc]
      refine .mk (by omega) (by omega) ?_
      subst h3
      have : n = 1 := by omega
      subst this
      simp [List.drop_take]
    · rw [if_neg hc]
      simp only [cutA, Option.map, Addr.add_lit]
      refine .mk (by omega) (by omega) ?_
      subst h3
      rw [List.drop_take, List.drop_drop]
      congr 1; omega
abbrev frV (z : InS Int) : Value := .slice z.A z.l.length z.cap
/-- a row of frames -/
structure FR (IT : Nat) (B : World) (D : Own) (z : List (InS Int)) (A : Option Addr) (c : Nat) (p : Own) (l : List (List Int)) : Prop where
  row : Row IT 1 (.slice A z.length c) z.length (z.map frV) p
  cap : z.length ≤ c
  src : ∀ x ∈ z, Src B D x.A x.l.length 1 (x.l.map (fun x => Value.int .u8 x))
  eq : z.map (·.l) = l
section
variable {IT : Nat} {B : World} {D : Own} {z : List (InS Int)} {A : Option Addr} {c : Nat} {p : Own} {l : List (List Int)}
theorem FR.nil : FR IT B D [] none 0 [] [] := ⟨.nil, Nat.le_refl 0, by simp, rfl⟩
theorem FR.len (f : FR IT B D z A c p l) : z.length = l.length := by rw [← f.eq, List.length_map]
theorem FR.mono {D' : Own} (f : FR IT B D z A c p l) (h : ∀ x ∈ D, x ∈ D') : FR IT B D' z A c p l := ⟨f.row, f.cap, fun x hx => (f.src x hx).mono h, f.eq⟩
theorem FR.cons (f : FR IT B D z A c p l) (h : l ≠ []) : ∃ x r, z = x :: r ∧ l = x.l :: r.map (·.l) ∧ Src B D x.A x.l.length 1 (x.l.map (fun x => Value.int .u8 x)) ∧ FR IT B D r (if (c : Int) = 1 then A else cutA A 1) (c - 1) p (r.map (·.l)) := by
  cases z with
  | nil => exact absurd f.eq.symm h
  | cons x r =>
    refine ⟨x, r, rfl, by rw [← f.eq]; rfl, f.src x List.mem_cons_self, ?_, ?_, fun y hy => f.src y (List.mem_cons_of_mem _ hy), rfl⟩
    · have := row_drop1 f.row (by simp)
      simpa using this
    · have := f.cap
      simp only [List.length_cons] at this; omega
theorem FR.push (f : FR IT B D z A c p l) {x : InS Int} (hs : Src B D x.A x.l.length 1 (x.l.map (fun x => Value.int .u8 x))) {A' : Option Addr} {c' : Nat} {p' : Own} (hr : Row IT 1 (.slice A' (z ++ [x]).length c') (z ++ [x]).length ((z ++ [x]).map frV) p') (hc : (z ++ [x]).length ≤ c') : FR IT B D (z ++ [x]) A' c' p' (l ++ [x.l]) := by
  refine ⟨hr, hc, fun y hy => ?_, by rw [List.map_append, f.eq]; rfl⟩
  rcases List.mem_append.1 hy with h | h
  · exact f.src y h
  · simp only [List.mem_singleton] at h; subst h; exact hs
end
theorem ord_perm (x a b c d e u v w : Nat × Blk) (pb q r t D : Own) : (q ++ (x :: a :: b :: c :: d :: e :: (pb ++ (u :: v :: w :: (t ++ (r ++ D)))))).Perm (x :: a :: b :: c :: d :: e :: (pb ++ (u :: v :: w :: (q ++ (r ++ (t ++ D)))))) :=
  perm_count fun y => by simp only [List.count_append, List.count_cons]; omega
theorem ord_perm2 (x a b c d e u v w : Nat × Blk) (pb q r t D : Own) : (q ++ (x :: a :: b :: c :: d :: e :: (pb ++ (u :: v :: w :: (t ++ (r ++ D)))))).Perm (x :: a :: b :: c :: d :: e :: (pb ++ (u :: v :: w :: (r ++ (q ++ (t ++ D)))))) :=
  perm_count fun y => by simp only [List.count_append, List.count_cons]; omega
theorem ord_perm3 (a b c d e u v w : Nat × Blk) (pb q r t D : Own) : (a :: b :: c :: d :: e :: (pb ++ (u :: v :: w :: (t ++ (q ++ (r ++ D)))))).Perm (a :: b :: c :: d :: e :: (pb ++ (u :: v :: w :: (q ++ (r ++ (t ++ D)))))) :=
  perm_count fun y => by simp only [List.count_append, List.count_cons]; omega
theorem pollA_facts (M : Nat) (a : CA) (F : Int) : (pollA M a F).2.2 = decide (0 < a.came.length) ∧ (pollA M a F).1.1.goes = a.goes ∧ (a.came = [] → (pollA M a F).1.1.came = []) ∧ ∀ x r, a.came = x :: r → (pollA M a F).2.1 = x ∧ (pollA M a F).1.1.came = r := by
  have e : (fillA M (reapA a F).1 (reapA a F).2).1.came = a.came := rfl
  unfold pollA pollB
  rw [e]
  cases h : a.came with
  | nil => refine ⟨rfl, rfl, fun _ => ?_, fun x r hx => by cases hx⟩
           simp only [e, h]
  | cons x r => exact ⟨by simp, rfl, fun hx => (by cases hx), fun y q hy => (by cases hy; exact ⟨rfl, rfl⟩)⟩
theorem arriveA_facts (a : CA) (l : List Int) : ((arriveA a l).2 = 0 → (arriveA a l).1.came = a.came ++ [l] ∧ (arriveA a l).1.goes = a.goes) ∧ (¬ (arriveA a l).2 = 0 → (arriveA a l).1 = a) := by
  unfold arriveA
  split
  · exact ⟨fun h => by simp at h, fun _ => rfl⟩
  split
  · exact ⟨fun h => by simp at h, fun _ => rfl⟩
  · exact ⟨fun _ => ⟨rfl, rfl⟩, fun h => absurd rfl h⟩
theorem sendA_facts (M : Nat) (a : CA) (F : Int) (l : List Int) : (sendA M a F l).1.1.came = a.came ∧ ((sendA M a F l).2 = 0 → (sendA M a F l).1.1.goes = a.goes ++ [l]) ∧ (¬ (sendA M a F l).2 = 0 → (sendA M a F l).1.1.goes = a.goes) := by
  unfold sendA
  split
  · exact ⟨rfl, fun h => by simp at h, fun _ => rfl⟩
  split
  · exact ⟨rfl, fun h => by simp at h, fun _ => rfl⟩
  split
  · exact ⟨rfl, fun h => by simp at h, fun _ => rfl⟩
  · exact ⟨rfl, fun _ => rfl, fun h => absurd rfl h⟩
theorem fin_head {G : List (List Int)} {zf : List (InS Int)} {n k : Int} (h : zf.map (·.l) = G.take n.toNat) (hk : 0 ≤ k ∧ k < zf.length) : ∃ r, G.drop k.toNat = (lget zf k).l :: r ∧ G.drop (k + 1).toNat = r := by
  obtain ⟨h2, e⟩ := lget_at hk
  have hl := congrArg List.length h
  simp only [List.length_map, List.length_take] at hl
  have hg : k.toNat < G.length := by omega
  refine ⟨G.drop (k + 1).toNat, ?_, rfl⟩
  rw [List.drop_eq_getElem_cons hg, show (k + 1).toNat = k.toNat + 1 by omega, e]
  congr 1
  have h3 : (zf.map (·.l))[k.toNat]? = (G.take n.toNat)[k.toNat]? := by rw [h]
  rw [List.getElem?_map, List.getElem?_eq_getElem h2, List.getElem?_take, if_pos (by omega), List.getElem?_eq_getElem hg] at h3
  simpa using h3.symm
theorem fin_rest {G : List (List Int)} {zf : List (InS Int)} {n : Int} (h : zf.map (·.l) = G.take n.toNat) : G.drop ((zf.length : Int)).toNat = G.drop n.toNat := by
  have hl := congrArg List.length h
  simp only [List.length_map, List.length_take] at hl
  by_cases hn : n.toNat ≤ G.length
  · congr 1; omega
  · rw [List.drop_eq_nil_of_le (by omega), List.drop_eq_nil_of_le (by omega)]
theorem few_src {B : World} {h : Own} {x : InS Int} (hx : Src B h x.A x.l.length 1 (x.l.map (fun x => Value.int .u8 x))) (k : Int) : Src B h x.A (x.l.take k.toNat).length 1 ((x.l.take k.toNat).map (fun x => Value.int .u8 x)) := by
  have := hx.take (min k.toNat x.l.length) (by omega)
  rw [Nat.mul_one, ← List.map_take] at this
  rw [List.length_take]
  have e : x.l.take k.toNat = x.l.take (min k.toNat x.l.length) := by rw [List.take_eq_take_min]
  rw [e]; exact this
theorem ord_perm4 (a b c d e u v w : Nat × Blk) (pb f t q r D : Own) : (a :: b :: c :: d :: e :: (pb ++ (u :: v :: w :: (f ++ (t ++ (q ++ (r ++ D))))))).Perm (a :: b :: c :: d :: e :: (pb ++ (u :: v :: w :: (q ++ (r ++ (f ++ (t ++ D))))))) :=
  perm_count fun y => by simp only [List.count_append, List.count_cons]; omega
end Go.Sep.Nic
