/- The document's cards. No program in sight. -/
import Derived.Test.YtpobjhmbonojkaaPlain
set_option linter.unusedSimpArgs false
set_option linter.unusedVariables false
namespace Go.Sep.Nic
open Go.Sep Go.Sep.Ring Go.Sep.Pool
/-- a row of frames that is only read -/
abbrev Fr := InS (InS Int)
abbrev frsV (x : Fr) : Value := .slice x.A x.l.length x.cap
instance : Inhabited Fr := ⟨⟨none, 0, []⟩⟩
structure FC (B : World) (D : Own) (x : Fr) (L : List (List Int)) : Prop where
  src : Src B D x.A x.l.length 1 (x.l.map frV)
  cap : x.l.length ≤ x.cap
  each : ∀ y ∈ x.l, Src B D y.A y.l.length 1 (y.l.map (fun x => Value.int .u8 x))
  eq : x.l.map (·.l) = L
theorem FC.mono {B : World} {D D' : Own} {x : Fr} {L : List (List Int)} (f : FC B D x L) (h : ∀ y ∈ D, y ∈ D') : FC B D' x L := ⟨f.src.mono h, f.cap, fun y hy => (f.each y hy).mono h, f.eq⟩
theorem FC.len {B : World} {D : Own} {x : Fr} {L : List (List Int)} (f : FC B D x L) : x.l.length = L.length := by rw [← f.eq, List.length_map]
theorem fc_nil (B : World) (D : Own) : FC B D ⟨none, 0, []⟩ [] := ⟨⟨rfl, by simp⟩, Nat.le_refl 0, by simp, rfl⟩
/-- the document's cards: two of each -/
structure CS where
  ins : List Int
  came : List (List (List Int))
  goes : List (List (List Int))
  spent : List Int
def CS.at (s : CS) (k : Int) : CA := ⟨lget s.ins k, lget s.came k, lget s.goes k, lget s.spent k⟩
def CS.put (s : CS) (k : Int) (a : CA) : CS := ⟨lset s.ins k a.inN, lset s.came k a.came, lset s.goes k a.goes, lset s.spent k a.spent⟩
theorem lset_lget {α : Type} [Inhabited α] {l : List α} {i : Int} (h : 0 ≤ i ∧ i < l.length) : lset l i (lget l i) = l := by
  obtain ⟨h2, e⟩ := lget_at h
  rw [e]
  unfold lset
  exact List.set_getElem_self h2
theorem AO.nodup {P : Program} {B : World} {f n : Nat} {R : Value → Own → Prop} {ops : Array Oper} {k : List Item} {e : Env} {h : Own} {l : List Oper} (hk : (h.map (·.1)).Nodup → AO P B f n R ops l k e h) : AO P B f n R ops l k e h :=
  ⟨fun a w g m => (hk m.nodup).run a w g m⟩
theorem keep_app {x b : Nat × Blk} {p p' q r : Own} (hx : x ∈ b :: (q ++ (p ++ r))) (hM : x.1 ∉ p.map (·.1)) : x ∈ p' ++ (b :: (q ++ r)) := by
  have : x ∉ p := fun h => hM (List.mem_map_of_mem h)
  simp only [List.mem_append, List.mem_cons] at hx ⊢
  grind
theorem part_ne {p w r : Own} {x : Nat × Blk} (hnd : ((p ++ (w ++ (x :: r))).map (·.1)).Nodup) : x.1 ∉ p.map (·.1) := by
  rw [List.map_append, List.nodup_append] at hnd
  intro h
  exact hnd.2.2 _ h _ (List.mem_map_of_mem (f := (·.1)) (by simp : x ∈ w ++ (x :: r))) rfl
theorem cards_perm2 (x b : Nat × Blk) (w3 p52 p50 w2 g s h : Own) : (w3 ++ (p52 ++ (b :: (p50 ++ (w2 ++ (x :: (g ++ (s ++ h)))))))).Perm (b :: x :: (w2 ++ (w3 ++ (g ++ (s ++ ((p52 ++ p50) ++ h)))))) :=
  perm_count fun v => by simp only [List.count_append, List.count_cons]; omega
theorem cards_perm1 (x : Nat × Blk) (a b c d h : Own) : (d ++ (x :: (a ++ (b ++ (c ++ h))))).Perm (x :: (a ++ (b ++ (c ++ (d ++ h))))) :=
  perm_count fun v => by simp only [List.count_append, List.count_cons]; omega
theorem set_map {α : Type} (f : α → Value) (l : List α) (i : Int) (x : α) : (lset l i x).map f = (l.map f).set i.toNat (f x) := by simp [lset, List.map_set]
theorem lset_lset {α : Type} (l : List α) (i : Int) (x y : α) : lset (lset l i x) i y = lset l i y := by simp [lset, List.set_set]
theorem lset_last {α : Type} (l : List α) (a b : α) : lset (l ++ [a]) (l.length : Int) b = l ++ [b] := by simp [lset]
theorem lget_last {α : Type} [Inhabited α] (l : List α) (a : α) : lget (l ++ [a]) (l.length : Int) = a := by simp [lget]
theorem lget_own {α : Type} [Inhabited α] {l : List α} {i : Int} (h : 0 ≤ i ∧ i < l.length) (x : α) : lget (lset l i x) i = x := by rw [lget_lset _ _ _ _ h h.1, if_pos rfl]
theorem FC.cut {B : World} {D : Own} {x : Fr} {L : List (List Int)} (f : FC B D x L) {y : InS Int} {r : List (InS Int)} (h : x.l = y :: r) :
    ∃ L', L = y.l :: L' ∧ Src B D y.A y.l.length 1 (y.l.map (fun x => Value.int .u8 x)) ∧ FC B D ⟨if (x.cap : Int) = 1 then x.A else cutA x.A 1, x.cap - 1, r⟩ L' := by
  have hl : x.l.length = r.length + 1 := by rw [h]; rfl
  refine ⟨r.map (·.l), by rw [← f.eq, h]; rfl, f.each y (by rw [h]; simp), ?_, ?_, fun z hz => f.each z (by rw [h]; exact List.mem_cons_of_mem _ hz), rfl⟩
  · have := f.src.drop (cap := x.cap) 1 (by omega) f.cap
    rw [show ((x.l.length : Int) - 1).toNat = r.length by omega, show ((1 : Int).toNat * 1) = 1 by rfl, h] at this
    simpa using this
  · have := f.cap
    simp only; omega
theorem FC.push {B : World} {D D' : Own} {x : Fr} {L : List (List Int)} (f : FC B D x L) (hd : ∀ y ∈ D, y ∈ D') {y : InS Int} (hy : Src B D' y.A y.l.length 1 (y.l.map (fun x => Value.int .u8 x))) {A : Option Addr} {c : Nat}
    (hr : Src B D' A (x.l ++ [y]).length 1 ((x.l ++ [y]).map frV)) (hc : (x.l ++ [y]).length ≤ c) : FC B D' ⟨A, c, x.l ++ [y]⟩ (L ++ [y.l]) := by
  refine ⟨hr, hc, fun z hz => ?_, by simp [f.eq]⟩
  rcases List.mem_append.1 hz with h1 | h1
  · exact (f.each z h1).mono hd
  · simp only [List.mem_singleton] at h1
    subst h1
    exact hy
theorem FC.ne {B : World} {D : Own} {x : Fr} {L : List (List Int)} (_ : FC B D x L) (h : 0 < x.l.length) : ∃ y r, x.l = y :: r := by
  cases e : x.l with
  | nil => rw [e] at h; simp at h
  | cons y r => exact ⟨y, r, rfl⟩
theorem cards_perm3 (x b : Nat × Blk) (w3 p52 p50 wi wc s h : Own) : (w3 ++ (p52 ++ (b :: (p50 ++ (x :: (wi ++ (wc ++ (s ++ h)))))))).Perm (b :: x :: (wi ++ (wc ++ (w3 ++ (s ++ ((p52 ++ p50) ++ h)))))) :=
  perm_count fun v => by simp only [List.count_append, List.count_cons]; omega
theorem cards_perm4 (x : Nat × Blk) (w3 wi r : Own) : (w3 ++ (x :: (wi ++ r))).Perm (x :: (wi ++ (w3 ++ r))) :=
  perm_count fun v => by simp only [List.count_append, List.count_cons]; omega
theorem cards_perm5 (x b : Nat × Blk) (w2 w3 p wi wc h : Own) : (w3 ++ (w2 ++ (p ++ (b :: (x :: (wi ++ (wc ++ h))))))).Perm (b :: x :: (wi ++ (wc ++ (w2 ++ (w3 ++ (p ++ h)))))) :=
  perm_count fun v => by simp only [List.count_append, List.count_cons]; omega
theorem poll_zero (M : Nat) (i : Int) (G : List (List Int)) (sp F : Int) : pollA M ⟨i, [], G, sp⟩ F = ((⟨i + min ((M : Int) - i) (F + sp), [], G, 0⟩, F + sp - min ((M : Int) - i) (F + sp)), [], false) := by
  simp [pollA, pollB, fillA, reapA]
theorem poll_cons (M : Nat) (i : Int) (y : List Int) (L G : List (List Int)) (sp F T U : Int) (hT : T = min ((M : Int) - i - (L.length + 1)) (F + sp)) (hU : U = min ((M : Int) - (i + T) - L.length) (F + sp - T + 1)) :
    pollA M ⟨i, y :: L, G, sp⟩ F = ((⟨i + T + U, L, G, 0⟩, F + sp - T + 1 - U), y, true) := by
  subst hU; subst hT
  simp [pollA, pollB, fillA, reapA]
def insN (N F : Int) : Nat → List Int × Int
  | 0 => ([], F)
  | k + 1 => ((insN N F k).1 ++ [min N (insN N F k).2], (insN N F k).2 - min N (insN N F k).2)
theorem insN_len (N F : Int) : ∀ k, (insN N F k).1.length = k
  | 0 => rfl
  | k + 1 => by simp [insN, insN_len N F k]
theorem insN_nn (N F : Int) (h : 0 ≤ F) : ∀ k, 0 ≤ (insN N F k).2 ∧ (0 ≤ N → (insN N F k).2 ≤ F)
  | 0 => by simp only [insN]; omega
  | k + 1 => by have := insN_nn N F h k; simp only [insN]; omega
theorem insN_step {N F : Int} (k : Nat) : lget ((insN N F k).1 ++ [0]) (k : Int) = 0 ∧ ∀ m, lset ((insN N F k).1 ++ [0]) (k : Int) m = (insN N F k).1 ++ [m] := by
  have h := insN_len N F k
  refine ⟨?_, fun m => ?_⟩
  · have := lget_last (insN N F k).1 0; rw [h] at this; exact this
  · have := lset_last (insN N F k).1 0 m; rw [h] at this; exact this
theorem rep_step {α : Type} [Inhabited α] (a : α) (k : Nat) : lget (List.replicate k a ++ [a]) (k : Int) = a := by
  have := lget_last (List.replicate k a) a; rw [List.length_replicate] at this; exact this
theorem rep_succ {α : Type} (a : α) (k : Nat) : List.replicate k a ++ [a] = List.replicate (k + 1) a := List.replicate_succ'.symm
theorem new_permQ (b1 b2 b3 b4 q : Nat × Blk) (p1 p2 p3 p4 h : Own) : (p4 ++ (b4 :: (p3 ++ (b3 :: (p2 ++ (b2 :: (p1 ++ (b1 :: (q :: h))))))))).Perm (q :: (p1 ++ (p2 ++ (p3 ++ (p4 ++ (b4 :: b3 :: b2 :: b1 :: h)))))) :=
  perm_count fun v => by simp only [List.count_append, List.count_cons]; omega
theorem new_permR (b1 b2 b3 b4 q : Nat × Blk) (p1 p2 p3 p4 h : Own) : (q :: (p1 ++ (p2 ++ (p3 ++ (p4 ++ (b4 :: b3 :: b2 :: b1 :: h)))))).Perm (b4 :: b3 :: b2 :: b1 :: q :: (p1 ++ (p2 ++ (p3 ++ (p4 ++ h))))) :=
  perm_count fun v => by simp only [List.count_append, List.count_cons]; omega
theorem fin_permQ (b q : Nat × Blk) (wi wc wg ws h : Own) : (b :: q :: (wi ++ (wc ++ (wg ++ (ws ++ h))))).Perm (q :: (wi ++ (wc ++ (wg ++ (ws ++ ([b] ++ h)))))) :=
  perm_count fun v => by simp only [List.count_append, List.count_cons, List.count_nil]; omega
theorem row_at {z1 z2 : List (InS Int)} (h : z1.map (·.l) = z2.map (·.l)) {i : Int} (hi : 0 ≤ i ∧ i < z1.length) : (lget z1 i).l = (lget z2 i).l := by
  have hl : z1.length = z2.length := by have := congrArg List.length h; simpa using this
  obtain ⟨h1, e1⟩ := lget_at hi
  obtain ⟨h2, e2⟩ := lget_at (l := z2) (i := i) ⟨hi.1, by omega⟩
  have := congrArg (·[i.toNat]?) h
  simp only [List.getElem?_map, List.getElem?_eq_getElem h1, List.getElem?_eq_getElem h2, Option.map_some, Option.some.injEq] at this
  rw [e1, e2, this]
end Go.Sep.Nic
