/- Plain laws of options. No program in sight. -/
import Derived.Test.YtagfegkpgdaimaaPlain34
set_option linter.unusedSimpArgs false
set_option linter.unusedVariables false
namespace Go.Sep.Topt
open Go.Sep Go.Sep.Sip
/-- an option: its kind, its bytes -/
abbrev OL := Int × List Int
/-- an option as it lies in memory -/
abbrev Opt := Int × InS Int × Unit
abbrev encOpt (x : Opt) : List Value := [.int .u8 x.1, .slice x.2.1.A x.2.1.l.length x.2.1.cap]
def prO (x : Opt) : OL := (x.1, x.2.1.l)
def consR (x : OL) (r : List OL × Int) : List OL × Int := if r.2 = 0 then (x :: r.1, 0) else ([], r.2)
def appR (xs : List OL) (r : List OL × Int) : List OL × Int := if r.2 = 0 then (xs ++ r.1, 0) else ([], r.2)
theorem appR_nil (r : List OL × Int) (h : r.2 ≠ 0 → r.1 = []) : appR [] r = r := by
  obtain ⟨l, e⟩ := r
  unfold appR
  by_cases he : e = 0
  · simp [he]
  · simp only [he, if_false]; simp only at h; rw [h he]
theorem appR_snoc (xs : List OL) (x : OL) (r : List OL × Int) : appR (xs ++ [x]) r = appR xs (consR x r) := by
  unfold appR consR
  by_cases he : r.2 = 0 <;> simp [he]
theorem appR_cons (x : OL) (xs : List OL) (r : List OL × Int) : consR x (appR xs r) = appR (x :: xs) r := by
  unfold appR consR
  by_cases he : r.2 = 0 <;> simp [he]
def oneS (b : List Int) : OL × List Int × Int :=
  if lget b 0 = 1 then ((1, []), b.drop 1, 0)
  else if b.length < 2 then ((0, []), [], 4)
  else if lget b 1 < 2 then ((0, []), [], 3)
  else if (b.length : Int) < lget b 1 then ((0, []), [], 4)
  else ((lget b 0, cutL b 2 (lget b 1 - 2)), b.drop (lget b 1).toNat, 0)
theorem oneS_len {b : List Int} (hb : b ≠ []) : (oneS b).2.1.length < b.length := by
  have h0 : 0 < b.length := List.length_pos_iff.2 hb
  unfold oneS
  split
  · simp; omega
  · split
    · simp; omega
    · split
      · simp; omega
      · split
        · simp; omega
        · simp; omega
def ofS (b : List Int) : List OL × Int :=
  if h : b = [] then ([], 0) else if lget b 0 = 0 then ([], 0)
  else if (oneS b).2.2 = 0 then consR (oneS b).1 (ofS (oneS b).2.1) else ([], (oneS b).2.2)
termination_by b.length
decreasing_by exact oneS_len h
theorem ofS_end {b : List Int} (h : ¬ (0 < (b.length : Int) ∧ lget b 0 ≠ 0)) : ofS b = ([], 0) := by
  rw [ofS]
  split
  · rfl
  · next hb =>
    have : 0 < b.length := List.length_pos_iff.2 hb
    rw [if_pos (by omega)]
theorem ofS_go {b : List Int} (h : 0 < (b.length : Int) ∧ lget b 0 ≠ 0) : ofS b = if (oneS b).2.2 = 0 then consR (oneS b).1 (ofS (oneS b).2.1) else ([], (oneS b).2.2) := by
  rw [ofS, dif_neg (by intro e; subst e; simp at h), if_neg h.2]
theorem ofS_err (b : List Int) : (ofS b).2 ≠ 0 → (ofS b).1 = [] := by
  by_cases h : 0 < (b.length : Int) ∧ lget b 0 ≠ 0
  · rw [ofS_go h]
    split
    · unfold consR; split <;> simp
    · simp
  · rw [ofS_end h]; simp
theorem oneS_bytes {b : List Int} (hb : Bytes b) (h0 : 0 < (b.length : Int)) : (0 ≤ (oneS b).1.1 ∧ (oneS b).1.1 ≤ 255) ∧ Bytes (oneS b).1.2 ∧ Bytes (oneS b).2.1 ∧ (oneS b).1.2.length ≤ b.length := by
  have hx := lget_bytes hb 0 (by omega) h0
  have hn : Bytes [] := by intro x hx; simp at hx
  unfold oneS
  split
  · exact ⟨by simp, hn, bytes_drop hb _, by simp⟩
  · split
    · exact ⟨by simp, hn, hn, by simp⟩
    · split
      · exact ⟨by simp, hn, hn, by simp⟩
      · split
        · exact ⟨by simp, hn, hn, by simp⟩
        · exact ⟨hx, part_bytes hb _ _, bytes_drop hb _, by simp [cutL]; omega⟩
/-- what is read: numbers of a byte -/
def OkL (l : List OL) (n : Nat) : Prop := ∀ x ∈ l, (0 ≤ x.1 ∧ x.1 ≤ 255) ∧ Bytes x.2 ∧ x.2.length ≤ n
theorem ofS_ok (n : Nat) : ∀ (b : List Int), b.length ≤ n → Bytes b → OkL (ofS b).1 n ∧ (ofS b).1.length ≤ b.length := by
  suffices H : ∀ (k : Nat) (b : List Int), b.length ≤ k → b.length ≤ n → Bytes b → OkL (ofS b).1 n ∧ (ofS b).1.length ≤ b.length from fun b h hb => H b.length b (Nat.le_refl _) h hb
  intro k
  induction k with
  | zero =>
    intro b hk hn hb
    have : b = [] := List.eq_nil_of_length_eq_zero (by omega)
    subst this
    rw [ofS_end (by simp)]
    exact ⟨fun x hx => by simp at hx, by simp⟩
  | succ k ih =>
    intro b hk hn hb
    by_cases h : 0 < (b.length : Int) ∧ lget b 0 ≠ 0
    · rw [ofS_go h]
      have h1 := oneS_bytes hb h.1
      have h2 := oneS_len (b := b) (by intro e; subst e; simp at h)
      split
      · obtain ⟨i1, i2⟩ := ih (oneS b).2.1 (by omega) (by omega) h1.2.2.1
        unfold consR
        split
        · refine ⟨fun x hx => ?_, by simp; omega⟩
          rcases List.mem_cons.1 hx with rfl | hx
          · exact ⟨h1.1, h1.2.1, by omega⟩
          · exact i1 x hx
        · exact ⟨fun x hx => by simp at hx, by simp⟩
      · exact ⟨fun x hx => by simp at hx, by simp⟩
    · rw [ofS_end h]
      exact ⟨fun x hx => by simp at hx, by simp⟩
/-! ### the greatest segment -/
def firstS : List OL → Int × Bool
  | [] => (0, false)
  | x :: r => if x.1 = 2 ∧ x.2.length = 2 then (lget x.2 0 * 256 + lget x.2 1, true) else firstS r
def mssS (b : List Int) : Int × Bool := firstS (ofS b).1
instance : Inhabited Opt := ⟨(0, default, ())⟩
theorem drop_at {α : Type} [Inhabited α] {l : List α} {i : Int} (h0 : 0 ≤ i) (h1 : i < l.length) : l.drop i.toNat = lget l i :: l.drop (i + 1).toNat := by
  obtain ⟨h2, e⟩ := lget_at ⟨h0, h1⟩
  rw [e, show (i + 1).toNat = i.toNat + 1 by omega]
  exact List.drop_eq_getElem_cons h2
theorem firstS_in {l : List OL} {n : Nat} (h : OkL l n) : 0 ≤ (firstS l).1 ∧ (firstS l).1 ≤ 65535 := by
  induction l with
  | nil => simp [firstS]
  | cons x r ih =>
    unfold firstS
    split
    · next hx =>
      have hb := (h x List.mem_cons_self).2.1
      have h0 := lget_bytes hb 0 (by omega) (by omega)
      have h1 := lget_bytes hb 1 (by omega) (by omega)
      simp only; omega
    · exact ih fun y hy => h y (List.mem_cons_of_mem _ hy)
/-! ### options' bytes -/
def mayO (x : OL) : Bool := decide (x.1 ≠ 0 ∧ (x.1 = 1 → x.2.length = 0) ∧ x.2.length ≤ 38)
def optB (x : OL) : List Int := if x.1 = 1 then [1] else [x.1, 2 + x.2.length] ++ x.2
def padS (out : List Int) : List Int := out ++ List.replicate ((4 - out.length % 4) % 4) 1
def putF : List Int → List OL → List Int × Int
  | out, [] => (padS out, 0)
  | out, x :: r => if mayO x = true then if 40 < (out ++ optB x).length then ([], 2) else putF (out ++ optB x) r else ([], 2)
def putS (l : List OL) : List Int × Int := putF [] l
theorem padS_len (out : List Int) : (padS out).length % 4 = 0 ∧ (padS out).length ≤ out.length + 3 ∧ (out.length ≤ 40 → (padS out).length ≤ 40) := by
  simp only [padS, List.length_append, List.length_replicate]; omega
theorem padS_more {out : List Int} (h : out.length % 4 ≠ 0) : padS (out ++ [1]) = padS out := by
  unfold padS
  rw [List.append_assoc, List.length_append, List.length_singleton]
  congr 1
  have : (4 - out.length % 4) % 4 = (4 - (out.length + 1) % 4) % 4 + 1 := by omega
  rw [this, List.replicate_succ]; rfl
theorem padS_done {out : List Int} (h : out.length % 4 = 0) : padS out = out := by
  unfold padS; rw [h]; simp
theorem encB_bytes {x : OL} (h : mayO x = true) (hk : 0 ≤ x.1 ∧ x.1 ≤ 255) (hb : Bytes x.2) : Bytes (optB x) := by
  simp only [mayO, decide_eq_true_eq] at h
  unfold optB
  split
  · intro y hy; simp at hy; omega
  · refine bytes_app ?_ hb
    intro y hy
    simp only [List.mem_cons, List.not_mem_nil, or_false] at hy
    rcases hy with rfl | rfl <;> omega
theorem padS_bytes {b : List Int} (h : Bytes b) : Bytes (padS b) := bytes_app h (by intro y hy; rw [List.mem_replicate] at hy; omega)
theorem putF_bytes {l : List OL} (hl : ∀ x ∈ l, (0 ≤ x.1 ∧ x.1 ≤ 255) ∧ Bytes x.2) : ∀ out : List Int, Bytes out → Bytes (putF out l).1 := by
  induction l with
  | nil => intro out ho; exact padS_bytes ho
  | cons x r ih =>
    intro out ho
    have hx := hl x List.mem_cons_self
    have hn : Bytes [] := by intro x hx; simp at hx
    unfold putF
    split
    · next hm =>
      split
      · exact hn
      · exact ih (fun y hy => hl y (List.mem_cons_of_mem _ hy)) _ (bytes_app ho (encB_bytes hm hx.1 hx.2))
    · exact hn
theorem putF_len (l : List OL) : ∀ out : List Int, out.length ≤ 40 → (putF out l).1.length ≤ 40 := by
  induction l with
  | nil => intro out ho; exact (padS_len out).2.2 ho
  | cons x r ih =>
    intro out ho
    unfold putF
    split
    · split
      · simp
      · exact ih _ (by omega)
    · simp
theorem putF_ok {l : List OL} : ∀ out : List Int, out.length ≤ 40 → (putF out l).2 = 0 → (putF out l).1 = padS (out ++ l.flatMap optB) ∧ (out ++ l.flatMap optB).length ≤ 40 ∧ ∀ x ∈ l, mayO x = true := by
  induction l with
  | nil => intro out ho _; exact ⟨by simp [putF], by simpa using ho, fun x hx => by simp at hx⟩
  | cons x r ih =>
    intro out ho h
    unfold putF at h ⊢
    split at h
    · next hm =>
      rw [if_pos hm]
      split at h
      · simp at h
      · next hlt =>
        rw [if_neg hlt]
        obtain ⟨h1, h2, h3⟩ := ih _ (by omega) h
        rw [List.flatMap_cons, ← List.append_assoc]
        refine ⟨h1, h2, fun y hy => ?_⟩
        rcases List.mem_cons.1 hy with rfl | hy
        · exact hm
        · exact h3 y hy
    · simp at h
theorem lget_cons0 (x : Int) (r : List Int) : lget (x :: r) 0 = x := rfl
theorem lget_cons1 (x y : Int) (r : List Int) : lget (x :: y :: r) 1 = y := rfl
theorem of_enc (x : OL) (h : mayO x = true) (r : List Int) : ofS (optB x ++ r) = consR x (ofS r) := by
  obtain ⟨k, d⟩ := x
  simp only [mayO, decide_eq_true_eq] at h
  unfold optB
  split
  · next hk =>
    simp only at hk
    subst hk
    have hd : d = [] := List.eq_nil_of_length_eq_zero (h.2.1 rfl)
    subst hd
    have e : oneS ([1] ++ r) = ((1, []), r, 0) := by
      unfold oneS
      rw [if_pos (show lget ([1] ++ r) 0 = 1 from rfl)]; rfl
    rw [ofS_go ⟨by simp, by rw [List.singleton_append, lget_cons0]; omega⟩, e]
    simp
  · next hk =>
    simp only at hk
    have e : oneS (([k, 2 + (d.length : Int)] ++ d) ++ r) = ((k, d), r, 0) := by
      have h0 : lget (([k, 2 + (d.length : Int)] ++ d) ++ r) 0 = k := rfl
      have h1 : lget (([k, 2 + (d.length : Int)] ++ d) ++ r) 1 = 2 + (d.length : Int) := rfl
      unfold oneS
      rw [h0, h1, if_neg hk, if_neg (by simp), if_neg (by omega), if_neg (by simp; omega)]
      have e1 : (2 + (d.length : Int) - 2).toNat = d.length := by omega
      have e2 : (2 + (d.length : Int)).toNat = d.length + 2 := by omega
      simp only [cutL, e1, e2]
      congr 1
      · congr 1
        show List.take d.length (List.drop 2 _) = _
        simp
      · congr 1
        show List.drop (d.length + 2) (k :: (2 + (d.length : Int)) :: (d ++ r)) = r
        rw [List.drop_succ_cons, List.drop_succ_cons]
        simp
    rw [ofS_go ⟨by simp; omega, by simp only [List.cons_append, lget_cons0]; exact h.1⟩, e]
    simp
theorem of_flat (l : List OL) (hl : ∀ x ∈ l, mayO x = true) (r : List Int) : ofS (l.flatMap optB ++ r) = appR l (ofS r) := by
  induction l with
  | nil => simp only [List.flatMap_nil, List.nil_append]; rw [appR_nil _ (ofS_err r)]
  | cons x l ih =>
    rw [List.flatMap_cons, List.append_assoc, of_enc x (hl x List.mem_cons_self), ih fun y hy => hl y (List.mem_cons_of_mem _ hy), appR_cons]
def ones (k : Nat) : List OL := List.replicate k (1, [])
theorem flat_ones (k : Nat) : (ones k).flatMap optB = List.replicate k 1 := by
  induction k with
  | zero => rfl
  | succ k ih => simp only [ones, List.replicate_succ, List.flatMap_cons] at *; rw [ih]; rfl
theorem may_ones (k : Nat) : ∀ x ∈ ones k, mayO x = true := by
  intro x hx
  rw [List.eq_of_mem_replicate hx]; rfl
/-- bytes that were put: they are options and some of kind 1, whatever stands behind that nothing plays a part of -/
theorem put_form {l : List OL} (h : (putS l).2 = 0) : ∃ k, k ≤ 3 ∧ (putS l).1 = (l ++ ones k).flatMap optB ∧ (∀ x ∈ l ++ ones k, mayO x = true) := by
  obtain ⟨h1, h2, h3⟩ := putF_ok (l := l) [] (by simp) h
  refine ⟨(4 - (l.flatMap optB).length % 4) % 4, by omega, ?_, ?_⟩
  · show (putF [] l).1 = _
    rw [h1, List.flatMap_append, flat_ones]; rfl
  · intro x hx
    rcases List.mem_append.1 hx with hx | hx
    · exact h3 x hx
    · exact may_ones _ x hx
theorem of_put {l : List OL} (h : (putS l).2 = 0) : ∃ k, k ≤ 3 ∧ ofS (putS l).1 = (l ++ ones k, 0) := by
  obtain ⟨k, hk, e, hm⟩ := put_form h
  refine ⟨k, hk, ?_⟩
  have := of_flat _ hm []
  rw [List.append_nil, ofS_end (b := []) (by simp)] at this
  rw [e, this]; simp [appR]
theorem of_put_end {l : List OL} (h : (putS l).2 = 0) (r : List Int) : ofS ((putS l).1 ++ 0 :: r) = ofS (putS l).1 := by
  obtain ⟨k, hk, e, hm⟩ := put_form h
  have h1 := of_flat _ hm []
  have h2 := of_flat _ hm (0 :: r)
  rw [List.append_nil, ofS_end (b := []) (by simp)] at h1
  rw [ofS_end (b := 0 :: r) (by simp [lget_cons0])] at h2
  rw [e, h2, h1]
theorem put_len4 {l : List OL} (h : (putS l).2 = 0) : (putS l).1.length % 4 = 0 ∧ (putS l).1.length ≤ 40 := by
  obtain ⟨h1, h2, h3⟩ := putF_ok (l := l) [] (by simp) h
  have : (putS l).1 = padS ([] ++ l.flatMap optB) := h1
  rw [this]
  have := padS_len ([] ++ l.flatMap optB)
  exact ⟨this.1, this.2.2 h2⟩
end Go.Sep.Topt
namespace Go.Sep.Topt
open Go.Sep Go.Sep.Sip
def usualS (b : List Int) : Bool := decide ((ofS b).2 = 0) && (ofS b).1.all (fun x => decide (x.1 ≤ 4))
def pmB (n : Int) : List Int := [2, 4, n / 256 % 256, n % 256]
theorem putS_mss (n : Int) : putS [(2, beR 2 n)] = (pmB n, 0) := by simp [putS, putF, mayO, optB, padS, be2, pmB]
theorem pmB_bytes (n : Int) : Bytes (pmB n) := by intro x hx; simp [pmB] at hx; omega
theorem mss_pm {n : Int} (h : 0 ≤ n ∧ n ≤ 65535) : mssS (pmB n) = (n, true) := by
  obtain ⟨k, _, e⟩ := of_put (l := [(2, beR 2 n)]) (by rw [putS_mss])
  rw [putS_mss] at e
  show firstS (ofS (pmB n)).1 = _
  rw [show ofS (pmB n) = _ from e]
  show (if (2 : Int) = 2 ∧ (beR 2 n).length = 2 then _ else _) = _
  rw [if_pos ⟨rfl, rfl⟩]
  show (n / 256 % 256 * 256 + n % 256, true) = (n, true)
  congr 1; omega
end Go.Sep.Topt
