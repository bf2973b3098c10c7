/- Plain laws of rings: a ring of descriptors against two rows. No program in sight. -/
import Derived.Test.YtpobjhmbonojkaaSep9
set_option linter.unusedSimpArgs false
set_option linter.unusedVariables false
namespace Go.Sep.Ring
open Go.Sep
/-- a descriptor: its buffer, whose it is, whether it has one -/
abbrev Slot := Int × Bool × Bool
abbrev encS (s : Slot) : List Value := [.int .i64 s.1, .bool s.2.1, .bool s.2.2]
theorem encS_len (s : Slot) : (encS s).length = 3 := rfl
structure RS where
  sl : List Slot
  post : Int
  work : Int
  reap : Int
structure QS where
  posted : List Int
  ready : List Int
  ever : Int
  worked : Int
def RS.N (s : RS) : Int := s.sl.length
def isOwn (x : Slot) : Bool := x.2.1
def isReady (x : Slot) : Bool := x.2.2 && !x.2.1
def isRoom (x : Slot) : Bool := !x.2.2
def cnt (p : Slot → Bool) (l : List Slot) : Int := (l.filter p).length
def postR (s : RS) (i : Int) : RS × Bool :=
  if (lget s.sl s.post).2.2 then (s, false) else ({ s with sl := lset s.sl s.post (i, true, true), post := (s.post + 1) % s.N }, true)
def nextR (s : RS) : Int × Bool := if (lget s.sl s.work).2.1 then ((lget s.sl s.work).1, true) else (0, false)
def doneR (s : RS) : RS × Bool :=
  if (lget s.sl s.work).2.1 then ({ s with sl := lset s.sl s.work ((lget s.sl s.work).1, false, (lget s.sl s.work).2.2), work := (s.work + 1) % s.N }, true) else (s, false)
def reapR (s : RS) : RS × Int × Bool :=
  if isReady (lget s.sl s.reap) then ({ s with sl := lset s.sl s.reap (0, false, false), reap := (s.reap + 1) % s.N }, (lget s.sl s.reap).1, true) else (s, 0, false)
def ownR (s : RS) (k : Int) : Bool := decide (0 ≤ k ∧ k < s.N) && (lget s.sl k).2.1
/-- the places are places -/
structure RS.Ok (s : RS) : Prop where
  n : 0 < s.N ∧ s.N ≤ 64
  post : 0 ≤ s.post ∧ s.post < s.N
  work : 0 ≤ s.work ∧ s.work < s.N
  reap : 0 ≤ s.reap ∧ s.reap < s.N

theorem RS.Ok.set {s : RS} (ok : s.Ok) (i : Int) (x : Slot) : RS.Ok ⟨lset s.sl i x, s.post, s.work, s.reap⟩ := by
  have e : (⟨lset s.sl i x, s.post, s.work, s.reap⟩ : RS).N = s.N := by simp [RS.N, lset_len]
  exact ⟨by rw [e]; exact ok.n, by rw [e]; exact ok.post, by rw [e]; exact ok.work, by rw [e]; exact ok.reap⟩
def postQ (N : Int) (q : QS) (i : Int) : QS × Bool :=
  if N ≤ (q.posted.length : Int) + q.ready.length then (q, false) else ({ q with posted := q.posted ++ [i], ever := q.ever + 1 }, true)
def doneQ (q : QS) : QS × Bool :=
  match q.posted with
  | [] => (q, false)
  | x :: r => ({ q with posted := r, ready := q.ready ++ [x], worked := q.worked + 1 }, true)
def reapQ (q : QS) : QS × Int × Bool :=
  match q.ready with
  | [] => (q, 0, false)
  | x :: r => ({ q with ready := r }, x, true)
def nextQ (q : QS) : Int × Bool :=
  match q.posted with
  | [] => (0, false)
  | x :: _ => (x, true)
def ownQ (N : Int) (q : QS) (k : Int) : Prop := ∃ j, q.worked ≤ j ∧ j < q.ever ∧ j % N = k

/-- one is the other -/
structure Rel (s : RS) (q : QS) : Prop where
  ok : s.Ok
  c0 : 0 ≤ q.worked - q.ready.length
  we : q.worked + q.posted.length = q.ever
  nm : (q.posted.length : Int) + q.ready.length ≤ s.N
  post : s.post = q.ever % s.N
  work : s.work = q.worked % s.N
  reap : s.reap = (q.worked - q.ready.length) % s.N
  full : ∀ k, 0 ≤ k → k < s.N → ((lget s.sl k).2.2 = true ↔ ∃ j, q.worked - q.ready.length ≤ j ∧ j < q.ever ∧ j % s.N = k)
  own : ∀ k, 0 ≤ k → k < s.N → ((lget s.sl k).2.1 = true ↔ ∃ j, q.worked ≤ j ∧ j < q.ever ∧ j % s.N = k)
  buf : ∀ j, q.worked - q.ready.length ≤ j → j < q.ever → (lget s.sl (j % s.N)).1 = lget (q.ready ++ q.posted) (j - (q.worked - q.ready.length))
  cown : cnt isOwn s.sl = q.posted.length
  cready : cnt isReady s.sl = q.ready.length
  croom : cnt isRoom s.sl = s.N - q.posted.length - q.ready.length

/-- two of fewer than N in a row are not at one place -/
theorem mod_ne {N i j : Int} (h : 0 < N) (h1 : i < j) (h2 : j < i + N) : i % N ≠ j % N := by
  intro e
  have h3 := Int.emod_add_mul_ediv i N
  have h4 := Int.emod_add_mul_ediv j N
  rw [e] at h3
  have h5 : N * (j / N - i / N) = j - i := by rw [Int.mul_sub]; omega
  have h6 : 0 < j / N - i / N := by
    refine Int.pos_of_mul_pos_left ?_ h
    rw [Int.mul_comm, h5]; omega
  have h7 : N * 1 ≤ N * (j / N - i / N) := Int.mul_le_mul_of_nonneg_left (by omega) (by omega)
  omega
theorem mod_succ {N i : Int} (h : 0 < N) : (i % N + 1) % N = (i + 1) % N := by rw [Int.emod_add_emod]
theorem cnt_lset (p : Slot → Bool) (l : List Slot) (i : Int) (x : Slot) (hi : 0 ≤ i ∧ i < l.length) :
    cnt p (lset l i x) = cnt p l - (if p (lget l i) then 1 else 0) + (if p x then 1 else 0) := by
  obtain ⟨h2, e2⟩ := lget_at hi
  unfold cnt lset
  rw [e2]
  generalize i.toNat = k at *
  clear e2 hi
  induction l generalizing k with
  | nil => simp at h2
  | cons y r ih =>
    cases k with
    | zero =>
      simp only [List.set_cons_zero, List.filter_cons, List.getElem_cons_zero]
      by_cases hy : p y = true <;> by_cases hx : p x = true <;> simp [hx, hy] <;> omega
    | succ k =>
      have := ih k (by simpa using h2)
      simp only [List.set_cons_succ, List.filter_cons, List.getElem_cons_succ]
      by_cases hy : p y = true
      · rw [if_pos hy, if_pos hy, List.length_cons, List.length_cons]; omega
      · rw [if_neg hy, if_neg hy]; exact this


theorem lget_append_l {l m : List Int} {k : Int} (h0 : 0 ≤ k) (h1 : k < l.length) : lget (l ++ m) k = lget l k := by
  simp [lget, List.getD, List.getElem?_append_left (show k.toNat < l.length by omega)]
theorem lget_end (l : List Int) (x : Int) (k : Int) (h : k = l.length) : lget (l ++ [x]) k = x := by
  subst h; simp [lget, List.getD]
theorem lget_cons (x : Int) (l : List Int) (k : Int) (h : 0 < k) : lget (x :: l) k = lget l (k - 1) := by
  have : k.toNat = (k - 1).toNat + 1 := by omega
  unfold lget
  rw [this]; rfl
theorem mod_in {N : Int} (h : 0 < N) (i : Int) : 0 ≤ i % N ∧ i % N < N := ⟨Int.emod_nonneg _ (by omega), Int.emod_lt_of_pos _ h⟩

theorem full_post {s : RS} {q : QS} (r : Rel s q) : (lget s.sl s.post).2.2 = true ↔ s.N ≤ (q.posted.length : Int) + q.ready.length := by
  have hN := r.ok.n.1
  have hw := r.we
  have hm := r.nm
  rw [r.full _ r.ok.post.1 r.ok.post.2, r.post]
  constructor
  · rintro ⟨j, h1, h2, h3⟩
    refine Decidable.byContradiction fun hlt => ?_
    exact mod_ne hN h2 (by omega) h3
  · intro h
    refine ⟨q.ever - s.N, by omega, by omega, ?_⟩
    rw [Int.sub_emod_right]

theorem rel_post {s : RS} {q : QS} (r : Rel s q) (i : Int) : Rel (postR s i).1 (postQ s.N q i).1 ∧ (postR s i).2 = (postQ s.N q i).2 := by
  have hf := full_post r
  unfold postR postQ
  by_cases hb : s.N ≤ (q.posted.length : Int) + q.ready.length
  · rw [if_pos hb, if_pos (hf.2 hb)]; exact ⟨r, rfl⟩
  rw [if_neg hb, if_neg (fun h => hb (hf.1 h))]
  refine ⟨?_, rfl⟩
  have hN := r.ok.n.1
  have hw := r.we
  have hm := r.nm
  have hp := r.ok.post
  have hc := r.c0
  have hfl : (lget s.sl s.post).2.2 = false := by simpa using fun h => hb (hf.1 h)
  have how : (lget s.sl s.post).2.1 = false := by
    refine Bool.eq_false_iff.2 fun h => ?_
    obtain ⟨j, h1, h2, h3⟩ := (r.own _ hp.1 hp.2).1 h
    exact hb (hf.1 ((r.full _ hp.1 hp.2).2 ⟨j, by omega, h2, h3⟩))
  have hNe : (⟨lset s.sl s.post (i, true, true), (s.post + 1) % s.N, s.work, s.reap⟩ : RS).N = s.N := by simp [RS.N, lset_len]
  refine ⟨⟨by rw [hNe]; exact r.ok.n, by rw [hNe]; exact mod_in hN _, by rw [hNe]; exact r.ok.work, by rw [hNe]; exact r.ok.reap⟩, hc, by simp; omega, by rw [hNe]; simp; omega, ?_, by rw [hNe]; exact r.work, by rw [hNe]; exact r.reap, ?_, ?_, ?_, ?_, ?_, ?_⟩
  · rw [hNe]; simp only [r.post, mod_succ hN]
  · intro k h0 h1
    rw [hNe] at h1 ⊢
    simp only
    rw [lget_lset _ _ _ _ hp h0]
    split
    · next e => subst e; simp only [true_iff]; exact ⟨q.ever, by omega, by omega, r.post.symm⟩
    · next e =>
      rw [r.full k h0 h1]
      constructor
      · rintro ⟨j, a, b, c⟩; exact ⟨j, a, by omega, c⟩
      · rintro ⟨j, a, b, c⟩
        by_cases hj : j = q.ever
        · subst hj; exact absurd (c.symm.trans r.post.symm) e
        · exact ⟨j, a, by omega, c⟩
  · intro k h0 h1
    rw [hNe] at h1 ⊢
    simp only
    rw [lget_lset _ _ _ _ hp h0]
    split
    · next e => subst e; simp only [true_iff]; exact ⟨q.ever, by omega, by omega, r.post.symm⟩
    · next e =>
      rw [r.own k h0 h1]
      constructor
      · rintro ⟨j, a, b, c⟩; exact ⟨j, a, by omega, c⟩
      · rintro ⟨j, a, b, c⟩
        by_cases hj : j = q.ever
        · subst hj; exact absurd (c.symm.trans r.post.symm) e
        · exact ⟨j, a, by omega, c⟩
  · intro j h0 h1
    rw [hNe]
    simp only at h0 h1 ⊢
    rw [lget_lset _ _ _ _ hp (mod_in hN _).1, ← List.append_assoc]
    by_cases hj : j = q.ever
    · subst hj
      rw [if_pos r.post.symm, lget_end _ _ _ (by simp; omega)]
    · rw [if_neg (by rw [r.post]; exact mod_ne hN (by omega) (by omega)), r.buf j h0 (by omega), lget_append_l (l := q.ready ++ q.posted) (by omega) (by simp; omega)]
  · have := cnt_lset isOwn s.sl s.post (i, true, true) hp
    have := r.cown
    simp only [isOwn] at *
    simp [how] at *; omega
  · have := cnt_lset isReady s.sl s.post (i, true, true) hp
    have := r.cready
    simp only [isReady] at *
    simp [how, hfl] at *; omega
  · have := cnt_lset isRoom s.sl s.post (i, true, true) hp
    have := r.croom
    rw [hNe]
    simp only [isRoom] at *
    simp [how, hfl] at *; omega

theorem own_work {s : RS} {q : QS} (r : Rel s q) : (lget s.sl s.work).2.1 = true ↔ q.posted ≠ [] := by
  have hw := r.we
  rw [r.own _ r.ok.work.1 r.ok.work.2, r.work]
  constructor
  · rintro ⟨j, h1, h2, _⟩ e; rw [e] at hw; simp at hw; omega
  · intro h
    have : 0 < q.posted.length := List.length_pos_iff.2 h
    exact ⟨q.worked, by omega, by omega, rfl⟩
theorem rel_next {s : RS} {q : QS} (r : Rel s q) : nextR s = nextQ q := by
  have ho := own_work r
  have hw := r.we
  have hc := r.c0
  unfold nextR nextQ
  cases hp : q.posted with
  | nil => rw [if_neg (fun h => ho.1 h hp)]
  | cons x t =>
    rw [if_pos (ho.2 (by rw [hp]; simp))]
    have hl : 0 < q.posted.length := by rw [hp]; simp
    have hb := r.buf q.worked (by omega) (by omega)
    rw [← r.work] at hb
    rw [hb, show q.worked - (q.worked - q.ready.length) = q.ready.length by omega, hp]
    simp [lget, List.getD]
theorem rel_own {s : RS} {q : QS} (r : Rel s q) (k : Int) : ownR s k = true ↔ ownQ s.N q k := by
  have hN := r.ok.n.1
  unfold ownR ownQ
  by_cases h : 0 ≤ k ∧ k < s.N
  · simp only [h, and_self, decide_true, Bool.true_and]; exact r.own k h.1 h.2
  · simp only [h, decide_false, Bool.false_and, Bool.false_eq_true, false_iff]
    rintro ⟨j, _, _, e⟩
    exact h (e ▸ mod_in hN j)
theorem rel_done {s : RS} {q : QS} (r : Rel s q) : Rel (doneR s).1 (doneQ q).1 ∧ (doneR s).2 = (doneQ q).2 := by
  have ho := own_work r
  have hN := r.ok.n.1
  have hw := r.we
  have hm := r.nm
  have hp := r.ok.work
  have hc := r.c0
  unfold doneR doneQ
  cases hps : q.posted with
  | nil => rw [if_neg (fun h => ho.1 h hps)]; exact ⟨r, rfl⟩
  | cons x t =>
  have how := ho.2 (by rw [hps]; simp)
  rw [if_pos how]
  refine ⟨?_, rfl⟩
  have hl : (q.posted.length : Int) = t.length + 1 := by rw [hps]; simp
  have hfl : (lget s.sl s.work).2.2 = true := (r.full _ hp.1 hp.2).2 ⟨q.worked, by omega, by omega, r.work.symm⟩
  have hNe : (⟨lset s.sl s.work ((lget s.sl s.work).1, false, (lget s.sl s.work).2.2), s.post, (s.work + 1) % s.N, s.reap⟩ : RS).N = s.N := by simp [RS.N, lset_len]
  refine ⟨⟨by rw [hNe]; exact r.ok.n, by rw [hNe]; exact r.ok.post, by rw [hNe]; exact mod_in hN _, by rw [hNe]; exact r.ok.reap⟩, by simp; omega, by simp; omega, by rw [hNe]; simp; omega, by rw [hNe]; exact r.post, ?_, ?_, ?_, ?_, ?_, ?_, ?_, ?_⟩
  · rw [hNe]; simp only [r.work, mod_succ hN]
  · rw [hNe]; simp only [r.reap]; congr 1; simp; omega
  · intro k h0 h1
    rw [hNe] at h1 ⊢
    simp only [List.length_append, List.length_cons, List.length_nil]
    rw [lget_lset _ _ _ _ hp h0, show q.worked + 1 - ((q.ready.length + (0 + 1) : Nat) : Int) = q.worked - q.ready.length by omega, ← r.full k h0 h1]
    split
    · next e => subst e; exact Iff.rfl
    · exact Iff.rfl
  · intro k h0 h1
    rw [hNe] at h1 ⊢
    simp only
    rw [lget_lset _ _ _ _ hp h0]
    split
    · next e =>
      subst e
      simp only [Bool.false_eq_true, false_iff]
      rintro ⟨j, a, b, c⟩
      exact mod_ne hN (show q.worked < j by omega) (by omega) (by rw [c, r.work])
    · next e =>
      rw [r.own k h0 h1]
      constructor
      · rintro ⟨j, a, b, c⟩
        by_cases hj : j = q.worked
        · subst hj; exact absurd (c.symm.trans r.work.symm) e
        · exact ⟨j, by omega, b, c⟩
      · rintro ⟨j, a, b, c⟩; exact ⟨j, by omega, b, c⟩
  · intro j h0 h1
    rw [hNe]
    simp only [List.length_append, List.length_cons, List.length_nil] at h0 h1 ⊢
    have e1 : q.worked + 1 - ((q.ready.length + (0 + 1) : Nat) : Int) = q.worked - q.ready.length := by omega
    rw [e1] at h0 ⊢
    have hb := r.buf j h0 h1
    rw [lget_lset _ _ _ _ hp (mod_in hN _).1, List.append_assoc, List.cons_append, List.nil_append, ← hps, ← hb]
    split
    · next e => rw [e]
    · rfl
  · have := cnt_lset isOwn s.sl s.work ((lget s.sl s.work).1, false, (lget s.sl s.work).2.2) hp
    have := r.cown
    simp only [isOwn] at *
    simp [how] at *; omega
  · have := cnt_lset isReady s.sl s.work ((lget s.sl s.work).1, false, (lget s.sl s.work).2.2) hp
    have := r.cready
    simp only [isReady] at *
    simp [how, hfl] at *; omega
  · have := cnt_lset isRoom s.sl s.work ((lget s.sl s.work).1, false, (lget s.sl s.work).2.2) hp
    have := r.croom
    rw [hNe]
    simp only [isRoom] at *
    simp [hfl] at *; omega

theorem ready_reap {s : RS} {q : QS} (r : Rel s q) : isReady (lget s.sl s.reap) = true ↔ q.ready ≠ [] := by
  have hN := r.ok.n.1
  have hw := r.we
  have hm := r.nm
  have hp := r.ok.reap
  unfold isReady
  rw [Bool.and_eq_true, Bool.not_eq_true', r.full _ hp.1 hp.2]
  constructor
  · rintro ⟨⟨j, h1, h2, h3⟩, h4⟩ e
    rw [e] at h1
    simp only [List.length_nil] at h1
    have := (r.own _ hp.1 hp.2).2 ⟨j, by omega, h2, h3⟩
    rw [this] at h4; cases h4
  · intro h
    have : 0 < q.ready.length := List.length_pos_iff.2 h
    refine ⟨⟨_, Int.le_refl _, by omega, r.reap.symm⟩, Bool.eq_false_iff.2 fun h4 => ?_⟩
    obtain ⟨j, h1, h2, h3⟩ := (r.own _ hp.1 hp.2).1 h4
    exact mod_ne hN (show q.worked - q.ready.length < j by omega) (by omega) (by rw [h3, r.reap])
theorem rel_reap {s : RS} {q : QS} (r : Rel s q) : Rel (reapR s).1 (reapQ q).1 ∧ (reapR s).2 = (reapQ q).2 := by
  have ho := ready_reap r
  have hN := r.ok.n.1
  have hw := r.we
  have hm := r.nm
  have hp := r.ok.reap
  have hc := r.c0
  unfold reapR reapQ
  cases hps : q.ready with
  | nil => rw [if_neg (fun h => ho.1 h hps)]; exact ⟨r, rfl⟩
  | cons x t =>
  have hrd := ho.2 (by rw [hps]; simp)
  rw [if_pos hrd]
  have hl : (q.ready.length : Int) = t.length + 1 := by rw [hps]; simp
  have hfl : (lget s.sl s.reap).2.2 = true := by simp only [isReady, Bool.and_eq_true] at hrd; exact hrd.1
  have how : (lget s.sl s.reap).2.1 = false := by simp only [isReady, Bool.and_eq_true, Bool.not_eq_true'] at hrd; exact hrd.2
  have hb0 := r.buf (q.worked - q.ready.length) (Int.le_refl _) (by omega)
  rw [← r.reap, Int.sub_self, hps] at hb0
  refine ⟨?_, by rw [hb0]; simp [lget, List.getD]⟩
  have hNe : (⟨lset s.sl s.reap (0, false, false), s.post, s.work, (s.reap + 1) % s.N⟩ : RS).N = s.N := by simp [RS.N, lset_len]
  refine ⟨⟨by rw [hNe]; exact r.ok.n, by rw [hNe]; exact r.ok.post, by rw [hNe]; exact r.ok.work, by rw [hNe]; exact mod_in hN _⟩, by simp; omega, hw, by rw [hNe]; simp; omega, by rw [hNe]; exact r.post, by rw [hNe]; exact r.work, ?_, ?_, ?_, ?_, ?_, ?_, ?_⟩
  · rw [hNe]; simp only [r.reap, mod_succ hN]; congr 1; omega
  · intro k h0 h1
    rw [hNe] at h1 ⊢
    simp only
    rw [lget_lset _ _ _ _ hp h0]
    split
    · next e =>
      subst e
      simp only [Bool.false_eq_true, false_iff]
      rintro ⟨j, a, b, c⟩
      exact mod_ne hN (show q.worked - q.ready.length < j by omega) (by omega) (by rw [c, r.reap])
    · next e =>
      rw [r.full k h0 h1]
      constructor
      · rintro ⟨j, a, b, c⟩
        by_cases hj : j = q.worked - q.ready.length
        · subst hj; exact absurd (c.symm.trans r.reap.symm) e
        · exact ⟨j, by omega, b, c⟩
      · rintro ⟨j, a, b, c⟩; exact ⟨j, by omega, b, c⟩
  · intro k h0 h1
    rw [hNe] at h1 ⊢
    simp only
    rw [lget_lset _ _ _ _ hp h0]
    split
    · next e =>
      subst e
      simp only [Bool.false_eq_true, false_iff]
      rintro ⟨j, a, b, c⟩
      exact mod_ne hN (show q.worked - q.ready.length < j by omega) (by omega) (by rw [c, r.reap])
    · exact r.own k h0 h1
  · intro j h0 h1
    rw [hNe]
    simp only at h0 h1 ⊢
    rw [lget_lset _ _ _ _ hp (mod_in hN _).1, if_neg (by rw [r.reap]; exact fun e => mod_ne hN (show q.worked - q.ready.length < j by omega) (by omega) e.symm), r.buf j (by omega) h1, hps, List.cons_append, lget_cons _ _ _ (by simp; omega)]
    congr 1; simp; omega
  · have := cnt_lset isOwn s.sl s.reap (0, false, false) hp
    have := r.cown
    simp only [isOwn] at *
    simp [how] at *; omega
  · have := cnt_lset isReady s.sl s.reap (0, false, false) hp
    have := r.cready
    simp only [isReady] at *
    simp [how, hfl] at *; omega
  · have := cnt_lset isRoom s.sl s.reap (0, false, false) hp
    have := r.croom
    rw [hNe]
    simp only [isRoom] at *
    simp [hfl] at *; omega
def newR (n : Int) : RS := ⟨List.replicate (min (max n 1) 64).toNat (0, false, false), 0, 0, 0⟩
def newQ : QS := ⟨[], [], 0, 0⟩
theorem rel_new (n : Int) : Rel (newR n) newQ := by
  have hN : (newR n).N = min (max n 1) 64 := by simp [newR, RS.N]; omega
  have hg : ∀ k : Int, lget (List.replicate (min (max n 1) 64).toNat ((0, false, false) : Slot)) k = (0, false, false) := by
    intro k
    simp only [lget, List.getD, List.getElem?_replicate]
    split <;> rfl
  refine ⟨⟨by omega, by rw [hN]; simp [newR]; omega, by rw [hN]; simp [newR]; omega, by rw [hN]; simp [newR]; omega⟩, by simp [newQ], by simp [newQ], by rw [hN]; simp [newQ]; omega, by simp [newR, newQ], by simp [newR, newQ], by simp [newR, newQ], ?_, ?_, ?_, ?_, ?_, ?_⟩
  · intro k _ _; simp only [newR, hg, newQ]; simp; intros; omega
  · intro k _ _; simp only [newR, hg, newQ]; simp; intros; omega
  · intro j h0 h1; simp [newQ] at h0 h1; omega
  · simp [newR, newQ, cnt, isOwn, List.filter_replicate]
  · simp [newR, newQ, cnt, isReady, List.filter_replicate]
  · rw [hN]; simp [newR, newQ, cnt, isRoom, List.filter_replicate]; omega

theorem cnt_take (p : Slot → Bool) (l : List Slot) (i : Int) (h0 : 0 ≤ i) (h1 : i < l.length) : cnt p (l.take (i + 1).toNat) = cnt p (l.take i.toNat) + (if p (lget l i) = true then 1 else 0) := by
  have h : i.toNat < l.length := by omega
  rw [show (i + 1).toNat = i.toNat + 1 by omega, List.take_succ_eq_append_getElem h, show lget l i = l[i.toNat] by simp [lget, List.getD, h]]
  unfold cnt
  rw [List.filter_append]
  by_cases hp : p l[i.toNat] = true <;> simp [hp]
theorem cnt_le (p : Slot → Bool) (l : List Slot) : 0 ≤ cnt p l ∧ cnt p l ≤ l.length := by
  unfold cnt
  have := List.length_filter_le p l
  omega

theorem doneQ_ne {q : QS} (h : ¬ (q.posted.length : Int) = 0) : doneQ q = (⟨q.posted.drop 1, q.ready ++ [lget q.posted 0], q.ever, q.worked + 1⟩, true) := by
  obtain ⟨po, re, ev, wo⟩ := q
  cases po with
  | nil => simp at h
  | cons x r => rfl
theorem doneQ_eq {q : QS} (h : (q.posted.length : Int) = 0) : doneQ q = (q, false) := by
  obtain ⟨po, re, ev, wo⟩ := q
  cases po with
  | nil => rfl
  | cons x r => simp at h; omega
theorem reapQ_ne {q : QS} (h : ¬ (q.ready.length : Int) = 0) : reapQ q = (⟨q.posted, q.ready.drop 1, q.ever, q.worked⟩, lget q.ready 0, true) := by
  obtain ⟨po, re, ev, wo⟩ := q
  cases re with
  | nil => simp at h
  | cons x r => rfl
theorem reapQ_eq {q : QS} (h : (q.ready.length : Int) = 0) : reapQ q = (q, 0, false) := by
  obtain ⟨po, re, ev, wo⟩ := q
  cases re with
  | nil => rfl
  | cons x r => simp at h; omega
theorem nextQ_ne {q : QS} (h : ¬ (q.posted.length : Int) = 0) : nextQ q = (lget q.posted 0, true) := by
  obtain ⟨po, re, ev, wo⟩ := q
  cases po with
  | nil => simp at h
  | cons x r => rfl
theorem nextQ_eq {q : QS} (h : (q.posted.length : Int) = 0) : nextQ q = (0, false) := by
  obtain ⟨po, re, ev, wo⟩ := q
  cases po with
  | nil => rfl
  | cons x r => simp at h; omega
abbrev I64 (x : Int) : Value := .int .i64 x
/-- what is known of the rows' memory -/
structure QM (B : World) (h : Own) (q : QS) (Ap : Option Addr) (cp : Nat) (Ar : Option Addr) (cr : Nat) : Prop where
  sp : Src B h Ap q.posted.length 1 (q.posted.map I64)
  sr : Src B h Ar q.ready.length 1 (q.ready.map I64)
  cp : q.posted.length ≤ cp
  cr : q.ready.length ≤ cr
theorem QM.mono {B : World} {h h' : Own} {q : QS} {Ap : Option Addr} {cp : Nat} {Ar : Option Addr} {cr : Nat} (m : QM B h q Ap cp Ar cr) (hs : ∀ x ∈ h, x ∈ h') : QM B h' q Ap cp Ar cr := ⟨m.sp.mono hs, m.sr.mono hs, m.cp, m.cr⟩
theorem flat_rep (k : Nat) : zerosL k (encS (0, false, false)) = flat encS (List.replicate k (0, false, false)) := by
  induction k with
  | zero => rfl
  | succ k ih => rw [List.replicate_succ]; simp only [zerosL, flat, List.flatMap_cons] at *; rw [ih]

theorem len_post (s : RS) (i : Int) : (postR s i).1.sl.length = s.sl.length := by unfold postR; split <;> simp [lset_len]
theorem len_done (s : RS) : (doneR s).1.sl.length = s.sl.length := by unfold doneR; split <;> simp [lset_len]
theorem len_reap (s : RS) : (reapR s).1.sl.length = s.sl.length := by unfold reapR; split <;> simp [lset_len]
theorem ever_post (N : Int) (q : QS) (i : Int) : (postQ N q i).1.ever ≤ q.ever + 1 := by unfold postQ; split <;> simp <;> omega
theorem ever_done (q : QS) : (doneQ q).1.ever = q.ever := by unfold doneQ; split <;> rfl
theorem ever_reap (q : QS) : (reapQ q).1.ever = q.ever := by unfold reapQ; split <;> rfl
abbrev Deed := Int × Int × Unit
abbrev encD (x : Deed) : List Value := [.int .i64 x.1, .int .i64 x.2.1]
/-- what holds of both rings behind i deeds -/
structure RI (B : World) (D : Own) (n : Int) (i : Int) (s : RS) (t : QS) (Ap : Option Addr) (cp : Nat) (Ar : Option Addr) (cr : Nat) : Prop where
  rel : Rel s t
  sl : s.sl.length = (newR n).sl.length
  qm : QM B D t Ap cp Ar cr
  ev : t.ever ≤ i
theorem newR_N (n : Int) : ((newR n).sl.length : Int) = min (max n 1) 64 := by simp [newR]; omega
theorem RI.N {B : World} {D : Own} {n i : Int} {s : RS} {t : QS} {Ap : Option Addr} {cp : Nat} {Ar : Option Addr} {cr : Nat} (r : RI B D n i s t Ap cp Ar cr) : s.N = min (max n 1) 64 := by
  unfold RS.N; rw [r.sl, newR_N]
theorem RI.le {B : World} {D : Own} {n i : Int} {s : RS} {t : QS} {Ap : Option Addr} {cp : Nat} {Ar : Option Addr} {cr : Nat} (r : RI B D n i s t Ap cp Ar cr) (j : Int) (h : i ≤ j) : RI B D n j s t Ap cp Ar cr := ⟨r.rel, r.sl, r.qm, Int.le_trans r.ev h⟩
/-- what stands in order -/
structure Ord (t : QS) (nx rp : Int) : Prop where
  ev : t.ever = nx
  ba : t.worked - t.ready.length = rp
  at_ : ∀ k, 0 ≤ k → k < ((t.ready ++ t.posted).length : Int) → lget (t.ready ++ t.posted) k = rp + k
theorem ord_new : Ord newQ 0 0 := ⟨rfl, rfl, by simp [newQ]; omega⟩
theorem ord_post {N : Int} {t : QS} {nx rp : Int} (o : Ord t nx rp) (we : t.worked + t.posted.length = t.ever) : Ord (postQ N t nx).1 (if (postQ N t nx).2 = true then nx + 1 else nx) rp := by
  unfold postQ
  split
  · exact o
  · refine ⟨by have := o.ev; simp; omega, by have := o.ba; simp; omega, fun k h0 h1 => ?_⟩
    have e1 := o.ev
    have e2 := o.ba
    simp only [← List.append_assoc] at h1 ⊢
    by_cases hk : k < ((t.ready ++ t.posted).length : Int)
    · rw [lget_append_l h0 hk]; exact o.at_ k h0 hk
    · have hke : k = ((t.ready ++ t.posted).length : Int) := by simp at h1 hk ⊢; omega
      rw [lget_end _ _ _ hke, hke]
      simp; omega
theorem ord_done {t : QS} {nx rp : Int} (o : Ord t nx rp) : Ord (doneQ t).1 nx rp := by
  obtain ⟨po, re, ev, wo⟩ := t
  have e1 := o.ev
  have e2 := o.ba
  have e3 := o.at_
  cases po with
  | nil => exact o
  | cons x r =>
    dsimp only at e2
    refine ⟨e1, by simp only [doneQ, List.length_append, List.length_cons, List.length_nil]; omega, ?_⟩
    simpa [doneQ] using e3
theorem ord_reap {t : QS} {nx rp : Int} (o : Ord t nx rp) : ((reapQ t).2.2 = true → (reapQ t).2.1 = rp) ∧ Ord (reapQ t).1 nx (if (reapQ t).2.2 = true then rp + 1 else rp) := by
  obtain ⟨po, re, ev, wo⟩ := t
  have e1 := o.ev
  have e2 := o.ba
  have e3 := o.at_
  cases re with
  | nil => exact ⟨by simp [reapQ], o⟩
  | cons x r =>
    simp only [reapQ, if_true] at *
    refine ⟨fun _ => by simpa [lget] using e3 0 (by omega) (by simp; omega), e1, by simp only [List.length_cons] at e2; show wo - (r.length : Int) = rp + 1; omega, fun k h0 h1 => ?_⟩
    have h1 : k < ((r ++ po).length : Int) := h1
    have := e3 (k + 1) (by omega) (by simp only [List.cons_append, List.length_cons]; omega)
    rw [List.cons_append, lget_cons _ _ _ (by omega), Int.add_sub_cancel] at this
    show lget (r ++ po) k = _
    rw [this]; omega
end Go.Sep.Ring
