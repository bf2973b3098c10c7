/- Two cards on one pool. No program in sight. -/
import Derived.Test.YtpobjhmbonojkaaPlainQ16
import Derived.Test.YtpobjhmbonojkaaSep19
set_option linter.unusedSimpArgs false
set_option linter.unusedVariables false
namespace Go.Sep.Nic
open Go.Sep Go.Sep.Ring Go.Sep.Pool
abbrev PTRV (c : Nat) : Value := .pointer (some ⟨c, 0, none⟩)
structure SD where
  c : Nat
  a : Nat
  aq : Nat
  b : Nat
  bq : Nat
  si : RS
  so : RS
  qi : QS
  qo : QS
def SD.nums (x : SD) : List Int := Nic.nums x.qi x.qo
def sel {T : Type} (k : Int) (x y : T) : T := if k = 0 then x else y
theorem sel0 {T : Type} (x y : T) : sel 0 x y = x := rfl
theorem sel1 {T : Type} (x y : T) : sel 1 x y = y := rfl
theorem lget_sel {k : Int} (hk : k = 0 ∨ k = 1) (a b : Nat) : lget [a, b] k = sel k a b := by
  rcases hk with rfl | rfl <;> rfl
theorem lget_other {T : Type} [Inhabited T] {l : List T} {k : Int} (hk : k = 0 ∨ k = 1) (hl : l.length = 2) (x : T) : lget (lset l k x) (1 - k) = lget l (1 - k) := by
  rw [lget_lset _ _ _ _ ⟨by omega, by omega⟩ (by omega), if_neg (by omega)]
theorem own_sel (k : Int) (f : SD → Own) (x y : SD) (u v w : Nat × Blk) (pb r : Own) :
    (f x ++ (pb ++ (u :: v :: w :: (f y ++ r)))).Perm (f (sel k x y) ++ (pb ++ (u :: v :: w :: (f (sel k y x) ++ r)))) := by
  unfold sel
  split
  · exact List.Perm.refl _
  · exact perm_count fun z => by simp only [List.count_append, List.count_cons]; omega
/-- a card and what the document has of it; O are the numbers of the other card -/
structure Side (B : World) (M : Nat) (s : PS) (ct : List (List Int)) (D : Own) (ins sps : List Int) (cm gm : List Fr) (j : Int) (X : SD) (O : List Int) : Prop where
  hold : Hold M s O X.si X.so X.qi X.qo
  inN : lget ins j = X.qi.posted.length
  spent : lget sps j = X.qo.ready.length
  came : FC B D (lget cm j) (X.qi.ready.map (lget ct))
  goes : FC B D (lget gm j) (X.qo.posted.map (lget ct))
section
variable {B : World} {M : Nat} {s s' : PS} {ct ct' : List (List Int)} {D D' : Own} {ins sps ins' sps' : List Int} {cm gm cm' gm' : List Fr} {j k : Int} {x y X K K2 : SD} {O O' : List Int}
theorem Side.ca (h : Side B M s ct D ins sps cm gm j X O) : (⟨lget ins j, X.qi.ready.map (lget ct), X.qo.posted.map (lget ct), lget sps j⟩ : CA) = Nic.ca ct X.qi X.qo := by
  rw [h.inN, h.spent]; rfl
theorem Side.of {si so : RS} {qi qo : QS} {c a aq b bq : Nat} (h : Hold M s O si so qi qo) {A : CA} (e : Nic.ca ct qi qo = A) (e1 : lget ins j = A.inN) (e2 : lget sps j = A.spent) (e3 : FC B D (lget cm j) A.came) (e4 : FC B D (lget gm j) A.goes) :
    Side B M s ct D ins sps cm gm j ⟨c, a, aq, b, bq, si, so, qi, qo⟩ O := by
  subst e
  exact ⟨h, e1, e2, e3, e4⟩
theorem Hold.other {si so : RS} {qi qo : QS} (h : Hold M s K2.nums si so qi qo) {s0 : PS} (h2 : Hold M s0 O K2.si K2.so K2.qi K2.qo) : Hold M s (Nic.nums qi qo) K2.si K2.so K2.qi K2.qo :=
  ⟨h2.ri, h2.ro, h2.ni, h2.no, (List.perm_append_comm.nodup_iff).1 h.nd, fun i hi => h.has i ((List.perm_append_comm.mem_iff).1 hi)⟩
theorem Side.other {si so : RS} {qi qo : QS} (h2 : Side B M s ct D ins sps cm gm j K2 O) (h : Hold M s' K2.nums si so qi qo) (hs : Same K2.nums ct ct') (hd : ∀ x ∈ D, x ∈ D') (e1 : lget ins' j = lget ins j) (e2 : lget sps' j = lget sps j) (e3 : lget cm' j = lget cm j) (e4 : lget gm' j = lget gm j) :
    Side B M s' ct' D' ins' sps' cm' gm' j K2 (Nic.nums qi qo) := by
  refine ⟨h.other h2.hold, e1.trans h2.inN, e2.trans h2.spent, ?_, ?_⟩
  · rw [e3, map_same (hs.sub fun x hx => by simp [SD.nums, Nic.nums, hx])]; exact h2.came.mono hd
  · rw [e4, map_same (hs.sub fun x hx => by simp [SD.nums, Nic.nums, hx])]; exact h2.goes.mono hd
theorem side_sel (hk : k = 0 ∨ k = 1) (a : Side B M s ct D ins sps cm gm 0 x y.nums) (b : Side B M s ct D ins sps cm gm 1 y x.nums) :
    Side B M s ct D ins sps cm gm k (sel k x y) (sel k y x).nums ∧ Side B M s ct D ins sps cm gm (1 - k) (sel k y x) (sel k x y).nums := by
  rcases hk with rfl | rfl
  · exact ⟨a, b⟩
  · exact ⟨b, a⟩
theorem side_back (hk : k = 0 ∨ k = 1) (a : Side B M s ct D ins sps cm gm k K K2.nums) (b : Side B M s ct D ins sps cm gm (1 - k) K2 K.nums) :
    Side B M s ct D ins sps cm gm 0 (sel k K K2) (sel k K2 K).nums ∧ Side B M s ct D ins sps cm gm 1 (sel k K2 K) (sel k K K2).nums := by
  rcases hk with rfl | rfl
  · exact ⟨a, b⟩
  · exact ⟨b, a⟩
theorem sel_c (hk : k = 0 ∨ k = 1) {c0 c1 : Nat} (h0 : x.c = c0) (h1 : y.c = c1) : (sel k x y).c = sel k c0 c1 ∧ (sel k y x).c = sel k c1 c0 := by
  rcases hk with rfl | rfl <;> exact ⟨by first | exact h0 | exact h1, by first | exact h1 | exact h0⟩
theorem sel_cb (hk : k = 0 ∨ k = 1) {c0 c1 : Nat} (h0 : K.c = sel k c0 c1) (h1 : K2.c = sel k c1 c0) : (sel k K K2).c = c0 ∧ (sel k K2 K).c = c1 := by
  rcases hk with rfl | rfl
  · exact ⟨h0, h1⟩
  · exact ⟨h1, h0⟩
end
theorem tmod2 (x : Int) : (Int.tmod x 2 < 0 → -Int.tmod x 2 = 0 ∨ -Int.tmod x 2 = 1) ∧ (¬ Int.tmod x 2 < 0 → Int.tmod x 2 = 0 ∨ Int.tmod x 2 = 1) := by
  have h1 := Int.tmod_lt_of_pos x (b := 2) (by omega)
  have h2 := Int.lt_tmod_of_pos x (b := 2) (by omega)
  omega
theorem free_newP (n : Int) : freeP (newP n) = min (max n 0) 256 := by
  have := newP_N n
  unfold freeP
  rw [this]; simp [newP]
/-- what the document has of a card that was made -/
theorem side_new {B : World} {M : Nat} {s : PS} {ct : List (List Int)} {N F : Int} {ins sps : List Int} {cm gm : List Fr} {j : Int} {O : List Int} {si so : RS} {qi : QS} {c a aq b bq : Nat} {D : Own} (h : Hold M s O si so qi newQ) (e : ca ct qi newQ = (fillA M ⟨0, [], [], 0⟩ F).1) (hM : (M : Int) = N)
    (e1 : lget ins j = min N F) (e2 : lget sps j = 0) (e3 : lget cm j = ⟨none, 0, []⟩) (e4 : lget gm j = ⟨none, 0, []⟩) : Side B M s ct D ins sps cm gm j ⟨c, a, aq, b, bq, si, so, qi, newQ⟩ O := by
  refine Side.of h e ?_ (by rw [e2]; rfl) (by rw [e3]; exact fc_nil B D) (by rw [e4]; exact fc_nil B D)
  rw [e1, ← hM]; simp [fillA]
theorem doc_perm1 (a b c d e u v w q : Nat × Blk) (pb o2 wi wc wg ws r : Own) : (a :: b :: c :: d :: e :: (pb ++ (u :: v :: w :: (o2 ++ (q :: (wi ++ (wc ++ (wg ++ (ws ++ r))))))))).Perm (q :: (wi ++ (wc ++ (wg ++ (ws ++ (a :: b :: c :: d :: e :: (pb ++ (u :: v :: w :: (o2 ++ r))))))))) :=
  perm_count fun y => by simp only [List.count_append, List.count_cons]; omega
theorem doc_perm2 (a b c d e u v w q : Nat × Blk) (pb t o2 wi wc wg ws r : Own) : (a :: b :: c :: d :: e :: (pb ++ (u :: v :: w :: (t ++ (o2 ++ (q :: (wi ++ (wc ++ (wg ++ (ws ++ r)))))))))).Perm (q :: (wi ++ (wc ++ (wg ++ (ws ++ (a :: b :: c :: d :: e :: (pb ++ (u :: v :: w :: (t ++ (o2 ++ r)))))))))) :=
  perm_count fun y => by simp only [List.count_append, List.count_cons]; omega
theorem doc_perm3 (a b c d e u v w q : Nat × Blk) (pb t t2 o2 wi wc wg ws r : Own) : (a :: b :: c :: d :: e :: (pb ++ (u :: v :: w :: (t ++ (t2 ++ (o2 ++ (q :: (wi ++ (wc ++ (wg ++ (ws ++ r))))))))))).Perm (q :: (wi ++ (wc ++ (wg ++ (ws ++ (a :: b :: c :: d :: e :: (pb ++ (u :: v :: w :: (t ++ (t2 ++ (o2 ++ r))))))))))) :=
  perm_count fun y => by simp only [List.count_append, List.count_cons]; omega
/-- behind Arrive or Send of both -/
theorem doc_back1 (a b c d e u v w q ar : Nat × Blk) (pb t t2 o2 wi wc wg ws r : Own) : (q :: (wi ++ (wc ++ (wg ++ (ws ++ (t2 ++ (a :: b :: c :: d :: e :: (pb ++ (u :: v :: w :: (t ++ (o2 ++ (ar :: r)))))))))))).Perm (a :: b :: c :: d :: e :: (pb ++ (u :: v :: w :: (o2 ++ (q :: (wi ++ (wc ++ (wg ++ (ws ++ (ar :: (t2 ++ (t ++ r)))))))))))) :=
  perm_count fun y => by simp only [List.count_append, List.count_cons]; omega
/-- behind Poll of both -/
theorem doc_back2 (a b c d e u v w q ar : Nat × Blk) (pb t o2 wi wc wg ws r : Own) : (q :: (wi ++ (wc ++ (wg ++ (ws ++ (a :: b :: c :: d :: e :: (pb ++ (u :: v :: w :: (t ++ (o2 ++ (ar :: r))))))))))).Perm (a :: b :: c :: d :: e :: (pb ++ (u :: v :: w :: (o2 ++ (q :: (wi ++ (wc ++ (wg ++ (ws ++ (ar :: (t ++ r))))))))))) :=
  perm_count fun y => by simp only [List.count_append, List.count_cons]; omega
/-- behind Finish of both -/
theorem doc_back3 (a b c d e u v w q ar : Nat × Blk) (pb p t t2 o2 wi wc wg ws r : Own) : (q :: (wi ++ (wc ++ (wg ++ (ws ++ (p ++ (a :: b :: c :: d :: e :: (pb ++ (u :: v :: w :: (t ++ (t2 ++ (o2 ++ (ar :: r))))))))))))).Perm (a :: b :: c :: d :: e :: (pb ++ (u :: v :: w :: (o2 ++ (q :: (wi ++ (wc ++ (wg ++ (ws ++ (ar :: (p ++ (t ++ (t2 ++ r))))))))))))) :=
  perm_count fun y => by simp only [List.count_append, List.count_cons]; omega
theorem doc_init (a b c d e a' b' c' d' e' u v w q ar : Nat × Blk) (pb wi wc wg ws : Own) : (q :: (wi ++ (wc ++ (wg ++ (ws ++ (ar :: a' :: b' :: c' :: d' :: e' :: (pb ++ (u :: v :: w :: (a :: b :: c :: d :: e :: []))))))))).Perm (a :: b :: c :: d :: e :: (pb ++ (u :: v :: w :: (a' :: b' :: c' :: d' :: e' :: (q :: (wi ++ (wc ++ (wg ++ (ws ++ [ar]))))))))) :=
  perm_count fun y => by simp only [List.count_append, List.count_cons, List.count_nil]; omega
theorem arr_rest (a : CA) (l : List Int) : (arriveA a l).1.goes = a.goes ∧ a.spent = (arriveA a l).1.spent := by
  unfold arriveA
  split
  · exact ⟨rfl, rfl⟩
  split <;> exact ⟨rfl, rfl⟩
theorem poll_rest (M : Nat) (a : CA) (F : Int) : (pollA M a F).1.1.goes = a.goes ∧ (pollA M a F).1.1.spent = 0 := by
  unfold pollA pollB
  split <;> exact ⟨rfl, rfl⟩
theorem send_rest (M : Nat) (a : CA) (F : Int) (l : List Int) : a.inN = (sendA M a F l).1.1.inN ∧ (sendA M a F l).1.1.came = a.came ∧ (sendA M a F l).1.1.spent = 0 := by
  unfold sendA
  split
  · exact ⟨rfl, rfl, rfl⟩
  split
  · exact ⟨rfl, rfl, rfl⟩
  split <;> exact ⟨rfl, rfl, rfl⟩
theorem own_back (k : Int) (f : SD → Own) (K K2 : SD) {a b c d e : Nat × Blk} (hf : f K = [a, b, c, d, e]) (u v w : Nat × Blk) (pb r : Own) :
    (a :: b :: c :: d :: e :: (pb ++ (u :: v :: w :: (f K2 ++ r)))).Perm (f (sel k K K2) ++ (pb ++ (u :: v :: w :: (f (sel k K2 K) ++ r)))) := by
  have := own_sel k f K K2 u v w pb r
  rw [hf] at this
  exact this
end Go.Sep.Nic
