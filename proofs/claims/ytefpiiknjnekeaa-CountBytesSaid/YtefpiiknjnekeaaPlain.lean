/- Plain laws of counts, of their names and lines. No program in sight. -/
import Derived.Test.YtefpiiknjnekeaaPlain34
import Derived.Test.YtefpiiknjnekeaaSep18
set_option linter.unusedSimpArgs false
set_option linter.unusedVariables false
namespace Go.Sep.Count
open Go.Sep Go.Sep.Sip Go.Sep.Tag
/-- the places' names, as bytes -/
def NMS : List (List Int) := [[105, 110], [111, 117, 116], [114, 105, 110, 103, 45, 102, 117, 108, 108], [103, 105, 97, 110, 116], [116, 120, 45, 102, 117, 108, 108], [110, 111, 45, 98, 117, 102, 102, 101, 114], [113, 117, 101, 117, 101, 45, 102, 117, 108, 108], [110, 111, 45, 97, 110, 115, 119, 101, 114], [101, 116, 104, 101, 114], [97, 114, 112], [105, 112], [110, 111, 116, 45, 109, 105, 110, 101], [102, 114, 97, 103, 109, 101, 110, 116], [101, 120, 112, 105, 114, 101, 100], [112, 114, 111, 116, 111], [104, 101, 97, 100, 101, 114], [110, 111, 45, 118, 105, 112], [110, 111, 45, 98, 97, 99, 107, 101, 110, 100], [116, 111, 111, 45, 98, 105, 103], [117, 110, 116, 114, 97, 99, 107, 101, 100], [116, 114, 97, 99, 107, 101, 100], [99, 111, 111, 107, 105, 101], [98, 97, 100, 45, 99, 111, 111, 107, 105, 101], [110, 111, 116, 45, 106, 111, 105, 110, 101, 100], [106, 111, 105, 110, 101, 100], [115, 116, 101, 101, 114, 101, 100], [108, 111, 115, 116], [101, 99, 104, 111], [111, 114, 100, 101, 114], [114, 101, 102, 117, 115, 101, 100], [102, 111, 114, 103, 101, 100], [114, 101, 112, 108, 97, 121, 101, 100], [112, 114, 111, 98, 101], [112, 114, 111, 98, 101, 45, 103, 111, 111, 100], [112, 114, 111, 98, 101, 45, 98, 97, 100], [102, 111, 114, 119, 97, 114, 100], [111, 118, 101, 114]]
def ALLB : List Int := [105, 110, 32, 111, 117, 116, 32, 114, 105, 110, 103, 45, 102, 117, 108, 108, 32, 103, 105, 97, 110, 116, 32, 116, 120, 45, 102, 117, 108, 108, 32, 110, 111, 45, 98, 117, 102, 102, 101, 114, 32, 113, 117, 101, 117, 101, 45, 102, 117, 108, 108, 32, 110, 111, 45, 97, 110, 115, 119, 101, 114, 32, 101, 116, 104, 101, 114, 32, 97, 114, 112, 32, 105, 112, 32, 110, 111, 116, 45, 109, 105, 110, 101, 32, 102, 114, 97, 103, 109, 101, 110, 116, 32, 101, 120, 112, 105, 114, 101, 100, 32, 112, 114, 111, 116, 111, 32, 104, 101, 97, 100, 101, 114, 32, 110, 111, 45, 118, 105, 112, 32, 110, 111, 45, 98, 97, 99, 107, 101, 110, 100, 32, 116, 111, 111, 45, 98, 105, 103, 32, 117, 110, 116, 114, 97, 99, 107, 101, 100, 32, 116, 114, 97, 99, 107, 101, 100, 32, 99, 111, 111, 107, 105, 101, 32, 98, 97, 100, 45, 99, 111, 111, 107, 105, 101, 32, 110, 111, 116, 45, 106, 111, 105, 110, 101, 100, 32, 106, 111, 105, 110, 101, 100, 32, 115, 116, 101, 101, 114, 101, 100, 32, 108, 111, 115, 116, 32, 101, 99, 104, 111, 32, 111, 114, 100, 101, 114, 32, 114, 101, 102, 117, 115, 101, 100, 32, 102, 111, 114, 103, 101, 100, 32, 114, 101, 112, 108, 97, 121, 101, 100, 32, 112, 114, 111, 98, 101, 32, 112, 114, 111, 98, 101, 45, 103, 111, 111, 100, 32, 112, 114, 111, 98, 101, 45, 98, 97, 100, 32, 102, 111, 114, 119, 97, 114, 100, 32, 111, 118, 101, 114, 32]
theorem NMS_len : NMS.length = 37 := rfl
theorem NMS_ok : ∀ x ∈ NMS, x.length ≤ 20 ∧ Bytes x := by decide
theorem NMS_nd : NMS.Nodup := by decide
theorem ALLB_len : ALLB.length = 282 := by decide +kernel
theorem ALLB_bytes : Bytes ALLB := by decide +kernel
def stepW (s : List (List Int) × List Int) (x : Int) : List (List Int) × List Int := if x = 32 then (s.1 ++ [s.2], []) else (s.1, s.2 ++ [x])
def parseW (l : List Int) : List (List Int) × List Int := l.foldl stepW ([], [])
theorem parse_all : parseW ALLB = (NMS, []) := by decide +kernel
theorem parse_snoc (l : List Int) (x : Int) : parseW (l ++ [x]) = stepW (parseW l) x := by simp [parseW, List.foldl_append]
theorem parse_len (l : List Int) : (parseW l).1.length ≤ l.length ∧ (parseW l).2.length ≤ l.length := by
  have key : ∀ (r : List Int) (s : List (List Int) × List Int), (r.foldl stepW s).1.length ≤ s.1.length + r.length ∧ (r.foldl stepW s).2.length ≤ s.2.length + r.length := by
    intro r
    induction r with
    | nil => intro s; simp
    | cons x r ih =>
      intro s
      have h1 := ih (stepW s x)
      have h2 : (stepW s x).1.length ≤ s.1.length + 1 ∧ (stepW s x).2.length ≤ s.2.length + 1 := by unfold stepW; split <;> simp
      rw [List.foldl_cons, List.length_cons]; omega
  simpa [parseW] using key l ([], [])
def digS (n : Int) : List Int := if n ≤ 9 then [48 + n] else digS (n / 10) ++ [48 + n % 10]
termination_by n.toNat
decreasing_by omega
theorem dig_one {n : Int} (h : n ≤ 9) : digS n = [48 + n] := by rw [digS, if_pos h]
theorem dig_more {n : Int} (h : ¬ n ≤ 9) : digS n = digS (n / 10) ++ [48 + n % 10] := by rw [digS, if_neg h]
theorem dig_len (k : Nat) : ∀ n : Int, n < 10 ^ (k + 1) → (digS n).length ≤ k + 1 := by
  induction k with
  | zero => intro n h; rw [dig_one (by simp at h; omega)]; simp
  | succ k ih =>
    intro n h
    by_cases h9 : n ≤ 9
    · rw [dig_one h9]; simp
    · rw [dig_more h9, List.length_append, List.length_singleton]
      have := ih (n / 10) (by
        have h2 : (10 : Int) ^ (k + 1 + 1) = 10 ^ (k + 1) * 10 := Int.pow_succ ..
        rw [h2] at h; omega)
      omega
theorem dig_ten {n : Int} (h : n ≤ 4294967295) : (digS n).length ≤ 10 := dig_len 9 n (by omega)
theorem dig_bytes : ∀ (k : Nat) (n : Int), n.toNat ≤ k → 0 ≤ n → Bytes (digS n) := by
  intro k
  induction k with
  | zero => intro n h h0; rw [dig_one (by omega)]; intro x hx; simp at hx; omega
  | succ k ih =>
    intro n h h0
    by_cases h9 : n ≤ 9
    · rw [dig_one h9]; intro x hx; simp at hx; omega
    · rw [dig_more h9]
      exact bytes_app (ih (n / 10) (by omega) (by omega)) (by intro x hx; simp at hx; omega)
theorem dig_ok {n : Int} (h : 0 ≤ n) : Bytes (digS n) := dig_bytes n.toNat n (Nat.le_refl _) h
/-- counts: 37 numbers of 32 bits -/
structure Cnt (c : List Int) : Prop where
  len : c.length = 37
  rng : ∀ x ∈ c, 0 ≤ x ∧ x ≤ 4294967295
theorem Cnt.at_ {c : List Int} (h : Cnt c) {i : Int} (h0 : 0 ≤ i) (h1 : i < 37) : 0 ≤ lget c i ∧ lget c i ≤ 4294967295 := by
  obtain ⟨h2, e⟩ := lget_at (l := c) ⟨h0, by rw [h.len]; exact h1⟩
  rw [e]; exact h.rng _ (List.getElem_mem h2)
theorem nms_at {i : Int} (h0 : 0 ≤ i) (h1 : i < 37) : (lget NMS i).length ≤ 20 ∧ Bytes (lget NMS i) := by
  obtain ⟨h2, e⟩ := lget_at (l := NMS) ⟨h0, h1⟩
  rw [e]; exact NMS_ok _ (List.getElem_mem h2)
def lineS (c : List Int) (i : Int) : List Int := if 0 < lget c i then ((lget NMS i ++ [32]) ++ digS (lget c i)) ++ [10] else []
def linesS (c : List Int) : Nat → List Int
  | 0 => []
  | i + 1 => linesS c i ++ lineS c i
theorem line_ok {c : List Int} (h : Cnt c) {i : Int} (h0 : 0 ≤ i) (h1 : i < 37) : (lineS c i).length ≤ 40 ∧ Bytes (lineS c i) := by
  have hn := nms_at h0 h1
  have hc := h.at_ h0 h1
  unfold lineS
  split
  · have hd := dig_ten hc.2
    refine ⟨by simp only [List.length_append, List.length_singleton]; omega, bytes_app (bytes_app (bytes_app hn.2 ?_) (dig_ok hc.1)) ?_⟩ <;> (intro x hx; simp at hx; omega)
  · exact ⟨by simp, by intro x hx; simp at hx⟩
theorem lines_ok {c : List Int} (h : Cnt c) : ∀ i : Nat, i ≤ 37 → (linesS c i).length ≤ 40 * i ∧ Bytes (linesS c i) := by
  intro i
  induction i with
  | zero => intro _; exact ⟨by simp [linesS], by intro x hx; simp [linesS] at hx⟩
  | succ i ih =>
    intro hi
    have h1 := ih (by omega)
    have h2 := line_ok h (i := (i : Int)) (by omega) (by omega)
    rw [linesS]
    exact ⟨by rw [List.length_append]; omega, bytes_app h1.2 h2.2⟩
def nameS (k : Int) : List Int := if 0 ≤ k ∧ k < 37 then lget NMS k else []
theorem name_in {k : Int} (h0 : 0 ≤ k) (h1 : k < 37) : nameS k = lget NMS k := by rw [nameS, if_pos ⟨h0, h1⟩]
theorem name_len (k : Int) : (nameS k).length ≤ 20 := by
  unfold nameS
  split
  · next h => exact (nms_at h.1 h.2).1
  · simp
/-! ### who is called so -/
def eqN (s : ByteArray) (x : List Int) : Bool := (strL x).toList == s.toList
/-- the place of the name s among the first n -/
structure FindOk (s : ByteArray) (n : Int) (k : Int) (b : Bool) : Prop where
  yes : b = true → 0 ≤ k ∧ k < n ∧ eqN s (lget NMS k) = true
  no : b = false → k = 0 ∧ ∀ j : Int, 0 ≤ j → j < n → eqN s (lget NMS j) = false
theorem eq_uniq {s : ByteArray} {i j : Int} (hi : 0 ≤ i ∧ i < 37) (hj : 0 ≤ j ∧ j < 37) (h1 : eqN s (lget NMS i) = true) (h2 : eqN s (lget NMS j) = true) : i = j := by
  have e : ((strL (lget NMS i)).toList == (strL (lget NMS j)).toList) = true := by
    simp only [eqN, beq_iff_eq] at *
    rw [h1, h2]
  rw [strL_beq _ _ (nms_at hi.1 hi.2).2 (nms_at hj.1 hj.2).2, decide_eq_true_eq] at e
  obtain ⟨a1, e1⟩ := lget_at (l := NMS) ⟨hi.1, hi.2⟩
  obtain ⟨a2, e2⟩ := lget_at (l := NMS) ⟨hj.1, hj.2⟩
  rw [e1, e2] at e
  have := (List.getElem_inj NMS_nd).1 e
  omega
theorem find_uniq {s : ByteArray} {i j : Int} {b d : Bool} (h1 : FindOk s 37 i b) (h2 : FindOk s 37 j d) : i = j ∧ b = d := by
  cases b with
  | true =>
    have a := h1.yes rfl
    cases d with
    | true =>
      have b := h2.yes rfl
      exact ⟨eq_uniq ⟨a.1, a.2.1⟩ ⟨b.1, b.2.1⟩ a.2.2 b.2.2, rfl⟩
    | false =>
      have b := (h2.no rfl).2 i a.1 a.2.1
      rw [a.2.2] at b; cases b
  | false =>
    have a := h1.no rfl
    cases d with
    | true =>
      have b := h2.yes rfl
      have := a.2 j b.1 b.2.1
      rw [b.2.2] at this; cases this
    | false => exact ⟨by rw [a.1, (h2.no rfl).1], rfl⟩
theorem eqN_self (x : List Int) : eqN (strL x) x = true := by simp [eqN]
theorem find_name {i k : Int} {b : Bool} (h0 : 0 ≤ i) (h1 : i < 37) (h : FindOk (strL (lget NMS i)) 37 k b) : k = i ∧ b = true := by
  cases b with
  | true =>
    have a := h.yes rfl
    exact ⟨eq_uniq ⟨a.1, a.2.1⟩ ⟨h0, h1⟩ a.2.2 (eqN_self _), rfl⟩
  | false =>
    have := (h.no rfl).2 i h0 h1
    rw [eqN_self] at this; cases this
theorem FindOk.zero (s : ByteArray) : FindOk s 0 0 false := ⟨fun h => by (cases h), fun _ => ⟨rfl, fun j h0 h1 => by omega⟩⟩
theorem FindOk.hit {s : ByteArray} {n : Int} {k : Int} {b : Bool} (_ : FindOk s n k b) (h0 : 0 ≤ n) (h : eqN s (lget NMS n) = true) : FindOk s (n + 1) n true := ⟨fun _ => ⟨h0, by omega, h⟩, fun h => by (cases h)⟩
theorem FindOk.miss {s : ByteArray} {n : Int} {k : Int} {b : Bool} (f : FindOk s n k b) (h : eqN s (lget NMS n) = false) : FindOk s (n + 1) k b := ⟨fun hb => by have := f.yes hb; exact ⟨this.1, by omega, this.2.2⟩, fun hb => by
  have := f.no hb
  refine ⟨this.1, fun j h0 h1 => ?_⟩
  by_cases hj : j = n
  · subst hj; exact h
  · exact this.2 j h0 (by omega)⟩
/-! ### bytes -/
def bytesC (c : List Int) : List Int := c.flatMap (beR 4)
def valsB (b : List Int) : List Int := (List.range 37).map fun i : Nat => beV (cutL b (4 * i) 4)
theorem bytesC_len {c : List Int} : (bytesC c).length = 4 * c.length := by
  induction c with
  | nil => rfl
  | cons x r ih => simp only [bytesC, List.flatMap_cons, List.length_append, beR_len, List.length_cons] at *; omega
theorem bytesC_bytes (c : List Int) : Bytes (bytesC c) := by
  intro x hx
  obtain ⟨y, _, hy⟩ := List.mem_flatMap.1 hx
  exact beR_bytes 4 y x hy
theorem cut_bytes (c : List Int) (i : Nat) (hi : i < c.length) : cutL (bytesC c) (4 * i) 4 = beR 4 c[i] := by
  have key : ∀ (l : List Int) (i : Nat), (l.flatMap (beR 4)).drop (4 * i) = (l.drop i).flatMap (beR 4) := by
    intro l
    induction l with
    | nil => intro i; simp
    | cons x r ih =>
      intro i
      cases i with
      | zero => simp
      | succ i =>
        rw [List.flatMap_cons, List.drop_succ_cons, show 4 * (i + 1) = (beR 4 x).length + 4 * i by rw [beR_len]; omega, List.drop_length_add_append]
        exact ih i
  have e : (4 * (i : Int)).toNat = 4 * i := by omega
  rw [cutL, e, bytesC, key, List.drop_eq_getElem_cons hi, List.flatMap_cons]
  exact List.take_left' (by rw [beR_len]; rfl)
theorem vals_bytes {c : List Int} (h : Cnt c) : valsB (bytesC c) = c := by
  apply List.ext_getElem
  · rw [valsB, List.length_map, List.length_range, h.len]
  · intro i h1 h2
    simp only [valsB, List.getElem_map, List.getElem_range]
    rw [cut_bytes c i h2]
    have := h.rng _ (List.getElem_mem h2)
    exact beV_beR 4 _ this.1 (by omega)
theorem beR_beV4 {l : List Int} (hl : l.length = 4) (hb : Bytes l) : beR 4 (beV l) = l := by
  match l, hl with
  | [a, b, c, d], _ =>
    have ha := hb a (by simp); have hb1 := hb b (by simp); have hc := hb c (by simp); have hd := hb d (by simp)
    rw [be4]
    show [_, _, _, _] = _
    have e : beV [a, b, c, d] = ((a * 256 + b) * 256 + c) * 256 + d := by simp [beV]
    rw [e]
    congr 1
    · omega
    · congr 1
      · omega
      · congr 1
        · omega
        · congr 1; omega
theorem cuts_take (b : List Int) : ∀ k : Nat, 4 * k ≤ b.length → (List.range k).flatMap (fun i : Nat => cutL b (4 * i) 4) = b.take (4 * k) := by
  intro k
  induction k with
  | zero => intro _; simp
  | succ k ih =>
    intro h
    rw [List.range_succ, List.flatMap_append, ih (by omega)]
    simp only [List.flatMap_cons, List.flatMap_nil, List.append_nil]
    rw [cutL, show (4 * (k : Int)).toNat = 4 * k by omega, show (4 : Int).toNat = 4 from rfl, show 4 * (k + 1) = 4 * k + 4 by omega, List.take_add]
theorem bytes_vals {b : List Int} (hl : b.length = 148) (hb : Bytes b) : bytesC (valsB b) = b := by
  have h1 : bytesC (valsB b) = (List.range 37).flatMap (fun i : Nat => cutL b (4 * i) 4) := by
    rw [bytesC, valsB, List.flatMap_map]
    simp only [List.flatMap]
    congr 1
    refine List.map_congr_left fun i hi => ?_
    have hi := List.mem_range.1 hi
    exact beR_beV4 (by simp [cutL]; omega) (part_bytes hb _ _)
  rw [h1, cuts_take b 37 (by omega), List.take_of_length_le (by omega)]
theorem vals_cnt {b : List Int} (hl : b.length = 148) (hb : Bytes b) : Cnt (valsB b) := by
  refine ⟨by rw [valsB, List.length_map, List.length_range], fun x hx => ?_⟩
  obtain ⟨i, hi, rfl⟩ := List.mem_map.1 hx
  have hi := List.mem_range.1 hi
  have h1 := beV_in (cutL b (4 * i) 4) (part_bytes hb _ _)
  have h2 : (cutL b (4 * i) 4).length = 4 := by simp [cutL]; omega
  rw [h2] at h1
  exact ⟨h1.1, by have := h1.2; omega⟩
def zeroC : List Int := List.replicate 37 0
theorem zero_cnt : Cnt zeroC := ⟨by simp [zeroC], fun x hx => by rw [List.eq_of_mem_replicate hx]; omega⟩
def ofC (b : List Int) : List Int × Bool := if b.length = 148 then (valsB b, true) else (zeroC, false)
end Go.Sep.Count
