/- Plain laws of meters. No program in sight. -/
import Derived.Test.YtdefjkokbffccaaSep12
set_option linter.unusedSimpArgs false
set_option linter.unusedVariables false
namespace Go.Sep.Meter
open Go.Sep
abbrev Bk := Int × Int
abbrev evB (x : Bk) : Value := .agg #[.int .i64 x.1, .int .i64 x.2]
structure MS where
  size : Int
  rate : Int
  burst : Int
  now : Int
  l : List (Ent Bk)
  c : Nat
structure MI (s : MS) : Prop where
  size : 1 ≤ s.size ∧ s.size ≤ 64
  rate : 0 ≤ s.rate ∧ s.rate ≤ 1000
  burst : 1 ≤ s.burst ∧ s.burst ≤ 1000
  now : 0 ≤ s.now ∧ s.now ≤ 1073741824
  bk : ∀ k x, findT s.l k = some x → 0 ≤ x.1 ∧ x.1 ≤ 1000 ∧ 0 ≤ x.2 ∧ x.2 ≤ s.now
def tickM (s : MS) (now : Int) : Int := max s.now (min now 1073741824)
def fillM (s : MS) (now : Int) (x : Bk) : Int := min (x.1 + min (now - x.2) 1000 * s.rate) s.burst
def leftM (s : MS) (src now : Int) : Int := match findT s.l src with | some x => fillM s (tickM s now) x | none => s.burst
def nextM (s : MS) (src now : Int) (l : List (Ent Bk)) (c : Nat) : MS :=
  ⟨s.size, s.rate, s.burst, tickM s now, updT l c src (if 0 < leftM s src now then leftM s src now - 1 else leftM s src now, tickM s now), clkT l c src⟩
theorem tick_mul {t r : Int} (ht : 0 ≤ t ∧ t ≤ 1000) (hr : 0 ≤ r ∧ r ≤ 1000) : 0 ≤ t * r ∧ t * r ≤ 1000000 := by
  have h1 := Int.mul_nonneg ht.1 hr.1
  have h2 := Int.mul_le_mul ht.2 hr.2 hr.1 (by omega)
  omega
theorem left_in {s : MS} (i : MI s) (src now : Int) : 0 ≤ leftM s src now ∧ leftM s src now ≤ 1000 := by
  unfold leftM
  have hb := i.burst
  split
  · next x hx =>
    have h1 := i.bk _ _ hx
    have h2 := tick_mul (t := min (tickM s now - x.2) 1000) ⟨by unfold tickM; omega, by omega⟩ i.rate
    unfold fillM; omega
  · omega
theorem next_mi {s : MS} (i : MI s) (src now : Int) (l : List (Ent Bk)) (c : Nat) (hl : ∀ k x, findT l k = some x → findT s.l k = some x) : MI (nextM s src now l c) := by
  have hn := i.now
  have hle := left_in i src now
  have ht : s.now ≤ tickM s now ∧ tickM s now ≤ 1073741824 := by unfold tickM; omega
  refine ⟨i.size, i.rate, i.burst, ⟨by show 0 ≤ tickM s now; omega, by show tickM s now ≤ _; omega⟩, fun k x hx => ?_⟩
  have hx : findT (updT l c src (if 0 < leftM s src now then leftM s src now - 1 else leftM s src now, tickM s now)) k = some x := hx
  rw [findT_upd] at hx
  show 0 ≤ x.1 ∧ x.1 ≤ 1000 ∧ 0 ≤ x.2 ∧ x.2 ≤ tickM s now
  split at hx
  · cases hx
    dsimp only
    split <;> omega
  · have := i.bk k x (hl k x hx); omega
def newM (size rate burst : Int) : MS := ⟨min (max size 1) 64, min (max rate 0) 1000, min (max burst 1) 1000, 0, [], 0⟩
theorem new_mi (size rate burst : Int) : MI (newM size rate burst) := by
  refine ⟨by simp only [newM]; omega, by simp only [newM]; omega, by simp only [newM]; omega, by simp only [newM]; omega, fun k x hx => by simp [newM, findT] at hx⟩
/-- who was told of longer ago -/
def olderB (s : Int) (a : Bk) (t : Int) (b : Bk) : Bool := if a.2 ≠ b.2 then decide (a.2 < b.2) else decide (s < t)
/-- the one of those met who was told of longest ago -/
structure Oldest (l : List (Ent Bk)) (V : List Nat) (found : Bool) (g : Int) : Prop where
  no : found = false → V = []
  yes : found = true → ∃ x ∈ l, x.1 = g ∧ x.2.2 ∈ V ∧ ∀ y ∈ l, y.2.2 ∈ V → olderB y.1 y.2.1 x.1 x.2.1 = false
theorem findT_mem {l : List (Ent Bk)} (hk : KeysOk l) {x : Ent Bk} (hx : x ∈ l) : findT l x.1 = some x.2.1 := by
  induction l with
  | nil => cases hx
  | cons y r ih =>
    have hr : KeysOk r := (List.nodup_cons.1 hk).2
    have hy : y.1 ∉ r.map (·.1) := (List.nodup_cons.1 hk).1
    rcases List.mem_cons.1 hx with rfl | hx
    · simp [findT]
    · have hne : ¬ y.1 = x.1 := fun e => hy (e ▸ List.mem_map.2 ⟨x, hx, rfl⟩)
      simp only [findT, hne, if_false]
      exact ih hr hx
theorem born_inj {l : List (Ent Bk)} {c : Nat} (hs : StampT l c) {x y : Ent Bk} (hx : x ∈ l) (hy : y ∈ l) (h : x.2.2 = y.2.2) : x = y := by
  have h2 := hs.2
  clear hs
  induction l with
  | nil => cases hx
  | cons z r ih =>
    have hz := List.nodup_cons.1 h2
    rcases List.mem_cons.1 hx with rfl | hx' <;> rcases List.mem_cons.1 hy with rfl | hy'
    · rfl
    · exact absurd (List.mem_map.2 ⟨y, hy', h.symm⟩) hz.1
    · exact absurd (List.mem_map.2 ⟨x, hx', h⟩) hz.1
    · exact ih hx' hy' hz.2
theorem older_trans {a b c : Ent Bk} (h1 : olderB a.1 a.2.1 b.1 b.2.1 = false) (h2 : olderB c.1 c.2.1 b.1 b.2.1 = true) : olderB a.1 a.2.1 c.1 c.2.1 = false := by
  unfold olderB at *
  split at h1 <;> split at h2 <;> split <;> simp at * <;> omega
theorem older_self (a : Ent Bk) : olderB a.1 a.2.1 a.1 a.2.1 = false := by simp [olderB]
theorem oldest_step {l : List (Ent Bk)} {c : Nat} (hs : StampT l c) (hk : KeysOk l) {V : List Nat} {found : Bool} {g : Int} (o : Oldest l V found g) {y : Ent Bk} (hy : y ∈ l) :
    ((found = false ∨ olderB y.1 y.2.1 g ((findT l g).getD (0, 0)) = true) → Oldest l (V ++ [y.2.2]) true y.1) ∧
    (found = true → olderB y.1 y.2.1 g ((findT l g).getD (0, 0)) = false → Oldest l (V ++ [y.2.2]) true g) := by
  constructor
  · intro h
    refine ⟨by simp, fun _ => ⟨y, hy, rfl, by simp, fun z hz hzV => ?_⟩⟩
    rw [List.mem_append, List.mem_singleton] at hzV
    rcases hzV with hzV | hzV
    · cases hf : found with
      | false => rw [o.no hf] at hzV; cases hzV
      | true =>
        obtain ⟨x, hx, hxg, hxV, hmin⟩ := o.yes hf
        rcases h with h | h
        · rw [hf] at h; cases h
        · rw [← hxg, findT_mem hk hx] at h
          exact older_trans (hmin z hz hzV) h
    · rw [born_inj hs hz hy hzV]; exact older_self y
  · intro hf h
    obtain ⟨x, hx, hxg, hxV, hmin⟩ := o.yes hf
    refine ⟨by simp, fun _ => ⟨x, hx, hxg, by simp [hxV], fun z hz hzV => ?_⟩⟩
    rw [List.mem_append, List.mem_singleton] at hzV
    rcases hzV with hzV | hzV
    · exact hmin z hz hzV
    · rw [born_inj hs hz hy hzV]
      rw [← hxg, findT_mem hk hx] at h
      exact h
/-- who is kept when k asks: all, or all but the one who was told of longest ago -/
def Kept (s : MS) (k : Int) (l : List (Ent Bk)) : Prop :=
  (((findT s.l k).isSome = true ∨ (s.l.length : Int) < s.size) ∧ l = s.l) ∨
  ((findT s.l k).isSome = false ∧ s.size ≤ (s.l.length : Int) ∧ ∃ x ∈ s.l, (∀ y ∈ s.l, olderB y.1 y.2.1 x.1 x.2.1 = false) ∧ l = delT s.l x.1)
def leftN (l : List (Ent Bk)) (V : List Nat) : Nat := (l.filter fun x => !V.contains x.2.2).length
theorem left_less {l : List (Ent Bk)} {V : List Nat} {y : Ent Bk} (hy : y ∈ l) (hn : y.2.2 ∉ V) : leftN l (V ++ [y.2.2]) < leftN l V := by
  unfold leftN
  induction l with
  | nil => cases hy
  | cons z r ih =>
    have hle : ∀ r : List (Ent Bk), (r.filter fun x => !(V ++ [y.2.2]).contains x.2.2).length ≤ (r.filter fun x => !V.contains x.2.2).length := by
      intro r
      induction r with
      | nil => simp
      | cons w r ih =>
        simp only [List.filter_cons]
        by_cases h1 : w.2.2 ∈ V
        · simp [h1]; simpa using ih
        · by_cases h2 : w.2.2 = y.2.2
          · simp [h1, h2, hn]; simp at ih; omega
          · simp [h1, h2]; simpa using ih
    rcases List.mem_cons.1 hy with rfl | hy
    · have := hle r
      simp only [List.filter_cons]
      simp [hn]
      simp at this; omega
    · have := ih hy
      simp only [List.filter_cons]
      by_cases h1 : z.2.2 ∈ V
      · simp [h1]; simpa using this
      · by_cases h2 : z.2.2 = y.2.2
        · simp [h1, h2, hn]; simp at this; omega
        · simp [h1, h2]; simpa using this
abbrev Tok := Int × Int × Int
abbrev encOn (x : Tok) : List Value := [.int .u32 x.1, .int .i64 x.2.1, .int .i64 x.2.2]
/-- the place of a source in a row; below 0: nowhere -/
def findF : List Tok → Int → Nat → Int
  | [], _, _ => -1
  | x :: r, k, i => if x.1 = k then (i : Int) else findF r k (i + 1)
def findQ (L : List Tok) (k : Int) : Int := findF L k 0
theorem findF_at (k : Int) : ∀ (L : List Tok) (d i : Nat) (h : i < L.length), L[i].1 = k → (∀ j (hj : j < L.length), j < i → L[j].1 ≠ k) → findF L k d = ((d + i : Nat) : Int)
  | [], _, _, h, _, _ => by simp at h
  | x :: r, d, 0, _, he, _ => by simp at he; simp [findF, he]
  | x :: r, d, i + 1, h, he, hn => by
    have h0 : ¬ x.1 = k := hn 0 (by simp) (by omega)
    have := findF_at k r (d + 1) i (by simpa using h) (by simpa using he) (fun j hj hji => hn (j + 1) (by simpa using hj) (by omega))
    rw [findF, if_neg h0, this]
    congr 1; omega
theorem findF_none (k : Int) : ∀ (L : List Tok) (d : Nat), (∀ x ∈ L, x.1 ≠ k) → findF L k d = -1
  | [], _, _ => rfl
  | x :: r, d, hn => by rw [findF, if_neg (hn x List.mem_cons_self)]; exact findF_none k r (d + 1) fun y hy => hn y (List.mem_cons_of_mem _ hy)
theorem lget_one {L : List Tok} {j : Nat} (h : j < L.length) : lget L (j : Int) = L[j] := by simp [lget, List.getD, h]
theorem findQ_at (L : List Tok) (k i : Int) (hi : 0 ≤ i ∧ i < L.length) (he : (lget L i).1 = k) (hn : ∀ j, 0 ≤ j → j < i → (lget L j).1 ≠ k) : findQ L k = i := by
  obtain ⟨i, rfl⟩ := Int.eq_ofNat_of_zero_le hi.1
  have h2 : i < L.length := by omega
  rw [lget_one h2] at he
  have := findF_at k L 0 i h2 he (fun j hj hji => by have := hn j (by omega) (by omega); rwa [lget_one hj] at this)
  rw [findQ, this]; simp
theorem findQ_none (L : List Tok) (k : Int) (hn : ∀ j : Int, 0 ≤ j → j < L.length → (lget L j).1 ≠ k) : findQ L k = -1 := by
  refine findF_none k L 0 fun x hx => ?_
  obtain ⟨j, hj, rfl⟩ := List.mem_iff_getElem.1 hx
  have := hn j (by omega) (by omega)
  rwa [lget_one hj] at this
/-- the first i of a row, but for place k -/
def keepTo (L : List Tok) (k : Int) : Nat → List Tok
  | 0 => []
  | i + 1 => if (i : Int) = k then keepTo L k i else keepTo L k i ++ [lget L i]
theorem keepTo_len (L : List Tok) (k : Int) (i : Nat) : (keepTo L k i).length ≤ i := by
  induction i with
  | zero => simp [keepTo]
  | succ i ih =>
    unfold keepTo
    split
    · omega
    · rw [List.length_append, List.length_singleton]; omega
/-- place kk is the one that goes when k was found there, or the oldest's where there is no room, or nowhere -/
def Goes (L : List Tok) (size k kk : Int) : Prop :=
  (0 ≤ k ∧ kk = k) ∨ (k < 0 ∧ (L.length : Int) ≠ size ∧ kk = k) ∨
  (k < 0 ∧ (L.length : Int) = size ∧ 0 ≤ kk ∧ kk < L.length ∧ ∀ j : Int, 0 ≤ j → j < L.length → olderB (lget L j).1 (lget L j).2 (lget L kk).1 (lget L kk).2 = false)
def leftQ (L : List Tok) (r b n k : Int) : Int := if 0 ≤ k then min ((lget L k).2.1 + min (n - (lget L k).2.2) 1000 * r) b else b
def nextL (L : List Tok) (kk src left n : Int) : List Tok := keepTo L kk L.length ++ [(src, if 0 < left then left - 1 else left, n)]
theorem fill_loop {a d r b j : Int} (hr : 0 ≤ r ∧ r ≤ 1000) (hb : 1 ≤ b ∧ b ≤ 1000) (ha : 0 ≤ a) (hj : 0 ≤ j) (hjd : j ≤ d ∨ j = 0) (hd : 0 ≤ d) (hlast : j = 0 ∨ (a + (j - 1) * r < b ∧ 1 ≤ r))
    (hend : d ≤ j ∨ b ≤ a + j * r ∨ r ≤ 0) : min (a + j * r) b = min (a + min d 1000 * r) b := by
  have hj1000 : j ≤ 1000 := by
    rcases hlast with h | ⟨h1, h2⟩
    · omega
    · rcases Int.lt_or_le j 1 with h3 | h3
      · omega
      · have := Int.mul_le_mul_of_nonneg_left (show (1 : Int) ≤ r by omega) (show (0 : Int) ≤ j - 1 by omega)
        rw [Int.mul_one] at this
        omega
  rcases hend with h | h | h
  · rcases hjd with h' | h'
    · rw [show d = j by omega, show min j 1000 = j by omega]
    · subst h'; rw [show d = 0 by omega]; rfl
  · have hm : j ≤ min d 1000 := by omega
    have := Int.mul_le_mul_of_nonneg_right hm hr.1
    omega
  · have : r = 0 := by omega
    subst this; simp
theorem olderB_trans {s t u : Int} {a b c : Bk} (h1 : olderB s a t b = false) (h2 : olderB u c t b = true) : olderB s a u c = false := by
  unfold olderB at *
  split at h1 <;> split at h2 <;> split <;> simp at * <;> omega
theorem olderB_self (s : Int) (a : Bk) : olderB s a s a = false := by simp [olderB]
theorem findF_in (k : Int) : ∀ (L : List Tok) (d : Nat), findF L k d = -1 ∨ ((d : Int) ≤ findF L k d ∧ findF L k d < d + L.length)
  | [], _ => .inl rfl
  | x :: r, d => by
    unfold findF
    split
    · right; simp; omega
    · rcases findF_in k r (d + 1) with h | h
      · exact .inl h
      · right; simp at h ⊢; omega
theorem findQ_in (L : List Tok) (k : Int) : findQ L k = -1 ∨ (0 ≤ findQ L k ∧ findQ L k < L.length) := by
  have := findF_in k L 0
  simpa [findQ] using this
end Go.Sep.Meter
