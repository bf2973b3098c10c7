/- Plain laws of tables that are filled turn by turn. No program in sight. -/
import Derived.Test.YtbdlohjmifgcaaaPlain18
import Derived.Test.YtbdlohjmifgcaaaSep15
set_option linter.unusedSimpArgs false
set_option linter.unusedVariables false
namespace Go.Sep.Maglev
open Go.Sep Go.Sep.Sip Go.Sep.Perm
/-- who plays a part: number, weight -/
abbrev PL := Int × Int
def validW (w : Int) : Bool := decide (1 ≤ w ∧ w ≤ 8)
def metP (out : List PL) (id : Int) : Bool := out.any fun p => decide (p.1 = id)
def stepP (out : List PL) (b : PL) : List PL := if metP out b.1 = false ∧ validW b.2 = true then out ++ [b] else out
def partsS (l : List PL) : List PL := l.foldl stepP []
theorem parts_snoc (l : List PL) (b : PL) : partsS (l ++ [b]) = stepP (partsS l) b := by simp [partsS, List.foldl_append]
theorem met_snoc (l : List PL) (b : PL) (id : Int) : metP (l ++ [b]) id = (metP l id || decide (b.1 = id)) := by simp [metP]
/-- who was met: whose weight may be -/
theorem parts_met (l : List PL) (id : Int) : metP (partsS l) id = l.any fun b => decide (b.1 = id) && validW b.2 := by
  have key : ∀ (r : List PL) (out : List PL), metP (r.foldl stepP out) id = (metP out id || r.any fun b => decide (b.1 = id) && validW b.2) := by
    intro r
    induction r with
    | nil => intro out; simp
    | cons b r ih =>
      intro out
      rw [List.foldl_cons, ih, List.any_cons, ← Bool.or_assoc]
      congr 1
      unfold stepP
      split
      · next h => rw [met_snoc, h.2, Bool.and_true]
      · next h =>
        by_cases hb : b.1 = id
        · subst hb
          cases hm : metP out b.1 with
          | true => simp
          | false => cases hv : validW b.2 with
            | true => exact absurd ⟨hm, hv⟩ h
            | false => simp
        · simp [hb]
  have := key l []
  simpa [metP, partsS] using this
/-- numbers all different, weights that may be -/
def Good (l : List PL) : Prop := (l.map (·.1)).Nodup ∧ ∀ p ∈ l, validW p.2 = true
theorem met_mem {l : List PL} {id : Int} : metP l id = true ↔ id ∈ l.map (·.1) := by simp [metP]
theorem good_step {out : List PL} (h : Good out) (b : PL) : Good (stepP out b) := by
  unfold stepP
  split
  · next hb =>
    refine ⟨?_, fun p hp => ?_⟩
    · rw [List.map_append, List.nodup_append]
      refine ⟨h.1, by simp, fun x hx y hy => ?_⟩
      simp at hy; subst hy
      intro e; subst e
      have := met_mem.2 hx
      rw [hb.1] at this; cases this
    · rcases List.mem_append.1 hp with hp | hp
      · exact h.2 p hp
      · rw [List.mem_singleton.1 hp]; exact hb.2
  · exact h
theorem good_foldl (l : List PL) : ∀ out : List PL, Good out → Good (l.foldl stepP out) := by
  induction l with
  | nil => intro out h; exact h
  | cons b r ih => intro out h; exact ih _ (good_step h b)
theorem parts_good (l : List PL) : Good (partsS l) := good_foldl l [] ⟨by simp, fun p hp => by simp at hp⟩
theorem parts_self {l : List PL} (h : Good l) : partsS l = l := by
  have key : ∀ (r out : List PL), Good (out ++ r) → r.foldl stepP out = out ++ r := by
    intro r
    induction r with
    | nil => intro out _; simp
    | cons b r ih =>
      intro out hg
      have hs : stepP out b = out ++ [b] := by
        unfold stepP
        rw [if_pos]
        refine ⟨?_, hg.2 b (by simp)⟩
        rw [Bool.eq_false_iff]
        intro hm
        have h1 := met_mem.1 hm
        have h2 := hg.1
        rw [List.map_append, List.nodup_append] at h2
        exact h2.2.2 _ h1 b.1 (by simp) rfl
      rw [List.foldl_cons, hs, ih (out ++ [b]) (by rw [List.append_assoc]; exact hg), List.append_assoc]; rfl
  exact key l [] h
theorem parts_idem (l : List PL) : partsS (partsS l) = partsS l := parts_self (parts_good l)
theorem parts_len (l : List PL) : (partsS l).length ≤ l.length := by
  have key : ∀ (r out : List PL), (r.foldl stepP out).length ≤ out.length + r.length := by
    intro r
    induction r with
    | nil => intro out; simp
    | cons b r ih =>
      intro out
      have := ih (stepP out b)
      have h2 : (stepP out b).length ≤ out.length + 1 := by unfold stepP; split <;> simp
      rw [List.foldl_cons, List.length_cons]; omega
  simpa [partsS] using key l []
theorem weight_in {p : PL} (h : validW p.2 = true) : 1 ≤ p.2 ∧ p.2 ≤ 8 := by simpa [validW] using h
/-! ### turns -/
def rep (p : PL) : List PL := List.replicate p.2.toNat p
def block (ps : List PL) : List PL := ps.flatMap rep
def cyc (ps : List PL) : Nat → List PL
  | 0 => []
  | k + 1 => block ps ++ cyc ps k
def turns (ps : List PL) (m : Nat) : List PL := (cyc ps m).take m
theorem cyc_snoc (ps : List PL) (k : Nat) : cyc ps (k + 1) = cyc ps k ++ block ps := by
  induction k with
  | zero => simp [cyc]
  | succ k ih =>
    show block ps ++ cyc ps (k + 1) = (block ps ++ cyc ps k) ++ block ps
    rw [ih, List.append_assoc]
theorem block_pos {ps : List PL} (hg : Good ps) (hne : ps ≠ []) : 0 < (block ps).length := by
  obtain ⟨p, r, rfl⟩ := List.exists_cons_of_ne_nil hne
  have := weight_in (hg.2 p List.mem_cons_self)
  simp [block, rep]; omega
theorem cyc_len {ps : List PL} (h : 0 < (block ps).length) (k : Nat) : k ≤ (cyc ps k).length := by
  induction k with
  | zero => simp
  | succ k ih => rw [cyc, List.length_append]; omega
theorem turns_len {ps : List PL} (h : 0 < (block ps).length) (m : Nat) : (turns ps m).length = m := by
  have := cyc_len h m
  simp [turns]; omega
/-- the next round looks like the first -/
theorem cyc_take {ps : List PL} (h : 0 < (block ps).length) {m l : Nat} (hl : l ≤ m) : (cyc ps m).take l = (block ps ++ cyc ps m).take l := by
  show _ = (cyc ps (m + 1)).take l
  rw [cyc_snoc, List.take_append_of_le_length (by have := cyc_len h m; omega)]
/-! ### places -/
def free (row : List Int) (ss : List (Int × Bool)) : Nat := row.findIdx fun x => !(lget (ss.map (·.2)) x)
def spot (row : List Int) (ss : List (Int × Bool)) : Int := lget row (free row ss)
def stepF (rowOf : Int → List Int) (ss : List (Int × Bool)) (p : PL) : List (Int × Bool) := lset ss (spot (rowOf p.1) ss) (p.1, true)
def zeroF (m : Nat) : List (Int × Bool) := List.replicate m (0, false)
def fillF (rowOf : Int → List Int) (ps : List PL) (m : Nat) : List (Int × Bool) := (turns ps m).foldl (stepF rowOf) (zeroF m)
structure GoodRow (row : List Int) (m : Nat) : Prop where
  len : row.length = m
  rng : ∀ x ∈ row, 0 ≤ x ∧ x < m
  nd : row.Nodup
theorem map_lset {α β : Type} (f : α → β) (l : List α) (i : Int) (x : α) : (lset l i x).map f = lset (l.map f) i (f x) := by simp [lset, List.map_set]
theorem cnt_ge (row : List Int) : ∀ tk : List Bool, row.Nodup → (∀ x ∈ row, 0 ≤ x ∧ x < tk.length ∧ lget tk x = true) → row.length ≤ tk.count true := by
  induction row with
  | nil => intro tk _ _; simp
  | cons x r ih =>
    intro tk hn hx
    have h0 := hx x List.mem_cons_self
    obtain ⟨h1, e⟩ := lget_at (l := tk) ⟨h0.1, h0.2.1⟩
    have h2 : (lset tk x false).count true = tk.count true - 1 := by
      unfold lset
      rw [List.count_set h1, ← e, h0.2.2]; simp
    have h3 : 0 < tk.count true := List.count_pos_iff.2 (by rw [← h0.2.2, e]; exact List.getElem_mem h1)
    have h4 := ih (lset tk x false) (List.nodup_cons.1 hn).2 fun y hy => by
      have hy0 := hx y (List.mem_cons_of_mem _ hy)
      refine ⟨hy0.1, by rw [lset_len]; exact hy0.2.1, ?_⟩
      rw [lget_lset _ _ _ _ ⟨h0.1, h0.2.1⟩ hy0.1, if_neg (by intro e; subst e; exact (List.nodup_cons.1 hn).1 hy)]
      exact hy0.2.2
    rw [List.length_cons]; omega
def cntF (ss : List (Int × Bool)) : Nat := ss.countP fun q => q.2
theorem cntF_eq (ss : List (Int × Bool)) : (ss.map (·.2)).count true = cntF ss := by
  simp only [List.count, cntF, List.countP_map]
  congr 1
  funext q
  simp
/-- while one place is left, one of the row is free -/
theorem free_lt {row : List Int} {m : Nat} (g : GoodRow row m) {ss : List (Int × Bool)} (hl : ss.length = m) (hc : cntF ss < m) : free row ss < m := by
  rcases Nat.lt_or_ge (free row ss) m with h | h
  · exact h
  · exfalso
    have h1 : free row ss = row.length := by
      have := List.findIdx_le_length (p := fun x => !(lget (ss.map (·.2)) x)) (xs := row)
      unfold free at h ⊢
      rw [g.len] at this ⊢; omega
    have h2 := List.findIdx_eq_length.1 h1
    have h3 := cnt_ge row (ss.map (·.2)) g.nd fun x hx => ⟨(g.rng x hx).1, by rw [List.length_map, hl]; exact (g.rng x hx).2, by simpa using h2 x hx⟩
    rw [cntF_eq, g.len] at h3
    omega
theorem free_at {row : List Int} {ss : List (Int × Bool)} (h : free row ss < row.length) : lget (ss.map (·.2)) row[free row ss] = false := by
  have := List.findIdx_getElem (p := fun x : Int => !(lget (List.map (fun q : Int × Bool => q.2) ss) x)) (xs := row) (w := h)
  rw [Bool.not_eq_true'] at this
  exact this
theorem spot_in {row : List Int} {m : Nat} (g : GoodRow row m) {ss : List (Int × Bool)} (hl : ss.length = m) (hc : cntF ss < m) : 0 ≤ spot row ss ∧ spot row ss < m ∧ lget (ss.map (·.2)) (spot row ss) = false := by
  have h := free_lt g hl hc
  have h1 : free row ss < row.length := by rw [g.len]; exact h
  have e : spot row ss = row[free row ss] := by simp [spot, lget, List.getD, h1]
  have hr := g.rng _ (List.getElem_mem h1)
  rw [e]
  exact ⟨hr.1, hr.2, free_at h1⟩
/-- a place before the first free one is taken -/
theorem taken_before {row : List Int} {ss : List (Int × Bool)} {j : Int} (h0 : 0 ≤ j) (h1 : j < row.length) (hall : ∀ i : Int, 0 ≤ i → i < j → lget (ss.map (·.2)) (lget row i) = true) (hf : lget (ss.map (·.2)) (lget row j) = false) : (free row ss : Int) = j := by
  obtain ⟨h2, e⟩ := lget_at ⟨h0, h1⟩
  have a : free row ss ≤ j.toNat := by
    rcases Nat.lt_or_ge j.toNat (free row ss) with h | h
    · have := List.not_of_lt_findIdx (p := fun x => !(lget (ss.map (·.2)) x)) h
      simp only [Bool.not_eq_false'] at this
      rw [← e, hf] at this; cases this
    · exact h
  have b : j.toNat ≤ free row ss := by
    rcases Nat.lt_or_ge (free row ss) j.toNat with h | h
    · have h3 : free row ss < row.length := by omega
      have h5 := hall (free row ss : Int) (by omega) (by omega)
      have e5 : lget row (free row ss : Int) = row[free row ss] := by simp [lget, List.getD, h3]
      rw [e5, free_at h3] at h5
      cases h5
    · exact h
  omega
theorem taken_le {row : List Int} {m : Nat} (g : GoodRow row m) {ss : List (Int × Bool)} (hl : ss.length = m) (hc : cntF ss < m) {j : Int} (h0 : 0 ≤ j) (hall : ∀ i : Int, 0 ≤ i → i < j → lget (ss.map (·.2)) (lget row i) = true) : j ≤ free row ss := by
  have hf := spot_in g hl hc
  rcases Int.lt_or_le (free row ss : Int) j with h | h
  · have := hall (free row ss : Int) (by omega) h
    rw [show lget row (free row ss : Int) = spot row ss from rfl, hf.2.2] at this; cases this
  · exact h
theorem step_len (rowOf : Int → List Int) (ss : List (Int × Bool)) (p : PL) : (stepF rowOf ss p).length = ss.length := lset_len ..
theorem step_cnt {rowOf : Int → List Int} {m : Nat} (hr : ∀ id, GoodRow (rowOf id) m) {ss : List (Int × Bool)} (hl : ss.length = m) (hc : cntF ss < m) (p : PL) : cntF (stepF rowOf ss p) = cntF ss + 1 := by
  have h := spot_in (hr p.1) hl hc
  obtain ⟨h1, e⟩ := lget_at (l := ss.map (·.2)) (i := spot (rowOf p.1) ss) ⟨h.1, by rw [List.length_map, hl]; exact h.2.1⟩
  have h1' : (spot (rowOf p.1) ss).toNat < ss.length := by simpa using h1
  rw [h.2.2] at e
  simp only [List.getElem_map] at e
  unfold stepF lset cntF
  rw [List.countP_set h1', ← e]; simp
def ownF (id : Int) (ss : List (Int × Bool)) : Nat := ss.countP fun q => q.2 && decide (q.1 = id)
theorem step_own {rowOf : Int → List Int} {m : Nat} (hr : ∀ id, GoodRow (rowOf id) m) {ss : List (Int × Bool)} (hl : ss.length = m) (hc : cntF ss < m) (p : PL) (id : Int) : ownF id (stepF rowOf ss p) = ownF id ss + (if p.1 = id then 1 else 0) := by
  have h := spot_in (hr p.1) hl hc
  obtain ⟨h1, e⟩ := lget_at (l := ss.map (·.2)) (i := spot (rowOf p.1) ss) ⟨h.1, by rw [List.length_map, hl]; exact h.2.1⟩
  have h1' : (spot (rowOf p.1) ss).toNat < ss.length := by simpa using h1
  rw [h.2.2] at e
  simp only [List.getElem_map] at e
  unfold stepF lset ownF
  rw [List.countP_set h1', ← e]
  by_cases hp : p.1 = id <;> simp [hp]
/-- behind some turns -/
theorem fold_props {rowOf : Int → List Int} {m : Nat} (hr : ∀ id, GoodRow (rowOf id) m) (T : List PL) : ∀ ss : List (Int × Bool), ss.length = m → cntF ss + T.length ≤ m →
    (T.foldl (stepF rowOf) ss).length = m ∧ cntF (T.foldl (stepF rowOf) ss) = cntF ss + T.length ∧ ∀ id, ownF id (T.foldl (stepF rowOf) ss) = ownF id ss + T.countP fun p => decide (p.1 = id) := by
  induction T with
  | nil => intro ss hl _; exact ⟨hl, by simp, by simp⟩
  | cons p T ih =>
    intro ss hl hc
    rw [List.length_cons] at hc
    have h1 := step_cnt hr hl (by omega) p
    obtain ⟨a, b, c⟩ := ih (stepF rowOf ss p) (by rw [step_len]; exact hl) (by omega)
    rw [List.foldl_cons]
    refine ⟨a, by rw [b, h1, List.length_cons]; omega, fun id => ?_⟩
    rw [c id, step_own hr hl (by omega) p id, List.countP_cons]
    by_cases hp : p.1 = id <;> simp [hp] <;> omega
theorem zero_cnt (m : Nat) : cntF (zeroF m) = 0 := by simp [cntF, zeroF, List.countP_replicate]
theorem zero_own (m : Nat) (id : Int) : ownF id (zeroF m) = 0 := by simp [ownF, zeroF, List.countP_replicate]
theorem zero_len (m : Nat) : (zeroF m).length = m := by simp [zeroF]
theorem fill_len {rowOf : Int → List Int} {m : Nat} (hr : ∀ id, GoodRow (rowOf id) m) {ps : List PL} (hb : 0 < (block ps).length) : (fillF rowOf ps m).length = m :=
  (fold_props hr (turns ps m) (zeroF m) (zero_len m) (by rw [zero_cnt, turns_len hb]; omega)).1
/-- how many places one has: how often it has its turn -/
theorem fill_count {rowOf : Int → List Int} {m : Nat} (hr : ∀ id, GoodRow (rowOf id) m) {ps : List PL} (hb : 0 < (block ps).length) (id : Int) : ((fillF rowOf ps m).map (·.1)).count id = (turns ps m).countP fun p => decide (p.1 = id) := by
  obtain ⟨a, b, c⟩ := fold_props hr (turns ps m) (zeroF m) (zero_len m) (by rw [zero_cnt, turns_len hb]; omega)
  rw [zero_cnt, turns_len hb, Nat.zero_add] at b
  have hall : ∀ q ∈ fillF rowOf ps m, q.2 = true := by
    have : cntF (fillF rowOf ps m) = (fillF rowOf ps m).length := by rw [fill_len hr hb]; exact b
    exact List.countP_eq_length.1 this
  have h1 := c id
  rw [zero_own, Nat.zero_add] at h1
  rw [← h1]
  show _ = ownF id (fillF rowOf ps m)
  simp only [List.count, ownF, List.countP_map]
  refine List.countP_congr fun q hq => ?_
  simp [hall q hq]
/-! ### shares -/
theorem block_count {ps : List PL} (hg : Good ps) {p : PL} (hp : p ∈ ps) : (block ps).countP (fun q => decide (q.1 = p.1)) = p.2.toNat := by
  induction ps with
  | nil => simp at hp
  | cons x r ih =>
    have hn := List.nodup_cons.1 hg.1
    have hgr : Good r := ⟨hn.2, fun y hy => hg.2 y (List.mem_cons_of_mem _ hy)⟩
    have hb : block (x :: r) = rep x ++ block r := rfl
    have hx : (rep x).countP (fun q => decide (q.1 = p.1)) = if x.1 = p.1 then x.2.toNat else 0 := by simp [rep, List.countP_replicate]
    rw [hb, List.countP_append, hx]
    rcases List.mem_cons.1 hp with rfl | hp
    · rw [if_pos rfl]
      have : (block r).countP (fun q => decide (q.1 = p.1)) = 0 := by
        rw [List.countP_eq_zero]
        intro q hq
        obtain ⟨y, hy, hq⟩ := List.mem_flatMap.1 hq
        rw [List.eq_of_mem_replicate hq]
        intro e
        have e : y.1 = p.1 := by simpa using e
        exact hn.1 (List.mem_map.2 ⟨y, hy, e⟩)
      omega
    · rw [if_neg (fun e => hn.1 (List.mem_map.2 ⟨p, hp, e.symm⟩)), ih hgr hp]; omega
theorem cyc_count (ps : List PL) (f : PL → Bool) (k : Nat) : (cyc ps k).countP f = k * (block ps).countP f := by
  induction k with
  | zero => simp [cyc]
  | succ k ih => rw [cyc, List.countP_append, ih, Nat.add_mul]; omega
theorem cyc_length (ps : List PL) (k : Nat) : (cyc ps k).length = k * (block ps).length := by
  induction k with
  | zero => simp [cyc]
  | succ k ih => rw [cyc, List.length_append, ih, Nat.add_mul]; omega
theorem cyc_add (ps : List PL) (j k : Nat) : cyc ps (j + k) = cyc ps j ++ cyc ps k := by
  induction j with
  | zero => simp [cyc]
  | succ j ih => rw [show j + 1 + k = (j + k) + 1 by omega, cyc, ih, cyc, List.append_assoc]
/-- so many whole rounds, and a part of one -/
theorem turns_share {ps : List PL} (hg : Good ps) (hne : ps ≠ []) (m : Nat) {p : PL} (hp : p ∈ ps) :
    m / (block ps).length * p.2.toNat ≤ (turns ps m).countP (fun q => decide (q.1 = p.1)) ∧ (turns ps m).countP (fun q => decide (q.1 = p.1)) ≤ (m / (block ps).length + 1) * p.2.toNat := by
  have hb := block_pos hg hne
  have hR : m / (block ps).length ≤ m := Nat.div_le_self _ _
  have hm := Nat.div_add_mod m (block ps).length
  have hlt := Nat.mod_lt m hb
  have hle : m ≤ (m / (block ps).length + 1) * (block ps).length := by rw [Nat.add_mul, Nat.one_mul, Nat.mul_comm]; omega
  have hge : m / (block ps).length * (block ps).length ≤ m := Nat.div_mul_le_self _ _
  have h1 : ((cyc ps m).take (m / (block ps).length * (block ps).length)) = cyc ps (m / (block ps).length) := by
    have : cyc ps m = cyc ps (m / (block ps).length) ++ cyc ps (m - m / (block ps).length) := by rw [← cyc_add]; congr 1; omega
    rw [this]
    exact List.take_left' (cyc_length _ _)
  have hsub1 : (cyc ps (m / (block ps).length)).Sublist (turns ps m) := by
    rw [← h1, turns]
    exact (List.take_prefix_take_left hge).sublist
  have hsub2 : (turns ps m).Sublist (cyc ps (m / (block ps).length + 1)) := by
    rcases Nat.lt_or_ge m (m / (block ps).length + 1) with h | h
    · -- the division is m itself: then a round is one turn
      have hmm : m / (block ps).length = m := by omega
      rw [hmm, cyc_add]
      exact (List.take_sublist _ _).trans (List.sublist_append_left _ _)
    · have : cyc ps m = cyc ps (m / (block ps).length + 1) ++ cyc ps (m - (m / (block ps).length + 1)) := by rw [← cyc_add]; congr 1; omega
      rw [turns, this, List.take_append_of_le_length (by rw [cyc_length]; exact hle)]
      exact List.take_sublist _ _
  have a := hsub1.countP_le (p := fun q => decide (q.1 = p.1))
  have b := hsub2.countP_le (p := fun q => decide (q.1 = p.1))
  rw [cyc_count, block_count hg hp] at a b
  exact ⟨a, b⟩
theorem turns_mem {ps : List PL} {m : Nat} {q : PL} (h : q ∈ turns ps m) : q ∈ ps := by
  have h1 := List.mem_of_mem_take h
  have key : ∀ k, q ∈ cyc ps k → q ∈ ps := by
    intro k
    induction k with
    | zero => intro h; simp [cyc] at h
    | succ k ih =>
      intro h
      rcases List.mem_append.1 h with h | h
      · obtain ⟨y, hy, hq⟩ := List.mem_flatMap.1 h
        rw [List.eq_of_mem_replicate hq]; exact hy
      · exact ih h
  exact key m h1
def sumC (ps : List PL) (T : List PL) : Nat := (ps.map fun p => T.countP fun q => decide (q.1 = p.1)).sum
theorem sum_all {ps : List PL} (hn : (ps.map (·.1)).Nodup) (T : List PL) (hT : ∀ q ∈ T, q ∈ ps) : sumC ps T = T.length := by
  induction T with
  | nil =>
    have : ∀ l : List PL, (l.map fun p => ([] : List PL).countP fun q => decide (q.1 = p.1)).sum = 0 := by
      intro l
      induction l with
      | nil => rfl
      | cons x r ih => rw [List.map_cons, List.sum_cons, ih]; rfl
    exact this ps
  | cons q T ih =>
    have h1 := ih fun y hy => hT y (List.mem_cons_of_mem _ hy)
    have h2 : sumC ps (q :: T) = sumC ps T + 1 := by
      have hq := hT q List.mem_cons_self
      clear h1 ih hT
      induction ps with
      | nil => simp at hq
      | cons x r ih2 =>
        have hx := List.nodup_cons.1 hn
        simp only [sumC, List.map_cons, List.sum_cons, List.countP_cons] at ih2 ⊢
        rcases List.mem_cons.1 hq with rfl | hq
        · have : (r.map fun p => T.countP (fun q => decide (q.1 = p.1)) + if decide (q.1 = p.1) = true then 1 else 0) = r.map fun p => T.countP (fun q => decide (q.1 = p.1)) := by
            refine List.map_congr_left fun p hp => ?_
            have : ¬ q.1 = p.1 := fun e => hx.1 (List.mem_map.2 ⟨p, hp, e.symm⟩)
            simp [this]
          rw [this]; simp; omega
        · have h3 := ih2 hx.2 hq
          have : ¬ q.1 = x.1 := fun e => hx.1 (List.mem_map.2 ⟨q, hq, e⟩)
          simp only [this, decide_false, Bool.false_eq_true, if_false] at h3 ⊢
          omega
    rw [h2, h1, List.length_cons]
theorem shares_all {ps : List PL} (hg : Good ps) (hne : ps ≠ []) (m : Nat) : sumC ps (turns ps m) = m := by
  rw [sum_all hg.1 _ fun q hq => turns_mem hq, turns_len (block_pos hg hne)]
/-! ### rows -/
theorem row_good {lo hi id m : Int} (hp : prB m = true) : GoodRow (rowS lo hi id m) m.toNat := by
  have hm := prB_in hp
  have hrs : rowS lo hi id m = rowK lo hi id m m.toNat := by simp [rowS, hp]
  refine ⟨by rw [hrs, rowK_len], fun x hx => ?_, ?_⟩
  · rw [hrs, rowK] at hx
    obtain ⟨j, _, rfl⟩ := List.mem_map.1 hx
    have := Int.emod_nonneg (startA lo hi id m + (j : Int) * startB lo hi id m) (show m ≠ 0 by omega)
    have := Int.emod_lt_of_pos (startA lo hi id m + (j : Int) * startB lo hi id m) (show 0 < m by omega)
    omega
  · rw [hrs, rowK, List.nodup_iff_pairwise_ne, List.pairwise_map]
    refine (List.pairwise_lt_range).imp_of_mem fun {i j} hi hj hlt => ?_
    exact row_ne hp hlt (by have := List.mem_range.1 hj; omega)
def fillS (lo hi m : Int) (l : List PL) : List Int := if prB m = true ∧ partsS l ≠ [] then (fillF (fun id => rowS lo hi id m) (partsS l) m.toNat).map (·.1) else []
end Go.Sep.Maglev
namespace Go.Sep.Maglev
open Go.Sep Go.Sep.Sip Go.Sep.Perm
theorem rep_step (p : PL) (X : List PL) {n left : Int} (h : 0 < n) (hl : 0 < left) : (List.replicate n.toNat p ++ X).take left.toNat = p :: (List.replicate (n - 1).toNat p ++ X).take (left - 1).toNat := by
  rw [show n.toNat = (n - 1).toNat + 1 by omega, show left.toNat = (left - 1).toNat + 1 by omega, List.replicate_succ, List.cons_append, List.take_succ_cons]
def restT (ps : List PL) (m : Nat) (i : Nat) : List PL := (ps.drop i).flatMap rep ++ cyc ps m
theorem rest_step {ps : List PL} (m : Nat) {i : Nat} (hi : i < ps.length) : restT ps m i = List.replicate ps[i].2.toNat ps[i] ++ restT ps m (i + 1) := by
  unfold restT
  rw [List.drop_eq_getElem_cons hi, List.flatMap_cons, List.append_assoc]; rfl
theorem rest_end (ps : List PL) (m : Nat) {i : Nat} (hi : ps.length ≤ i) : restT ps m i = cyc ps m := by
  unfold restT
  rw [List.drop_eq_nil_of_le hi]; rfl
theorem rest_start {ps : List PL} (h : 0 < (block ps).length) {m l : Nat} (hl : l ≤ m) : (cyc ps m).take l = (restT ps m 0).take l := cyc_take h hl
theorem lset_lset {α : Type} (l : List α) (i : Int) (a b : α) : lset (lset l i a) i b = lset l i b := by simp [lset, List.set_set]
theorem lset_self {α : Type} [Inhabited α] (l : List α) (i : Int) (h : 0 ≤ i ∧ i < l.length) : lset l i (lget l i) = l := by
  obtain ⟨h2, e⟩ := lget_at h
  rw [e, lset]; exact List.set_getElem_self h2
theorem mem_lset {α : Type} {l : List α} {i : Int} {a x : α} (h : x ∈ lset l i a) : x ∈ l ∨ x = a := List.mem_or_eq_of_mem_set h
theorem before_free {row : List Int} {ss : List (Int × Bool)} {j : Int} (h0 : 0 ≤ j) (h1 : j < free row ss) : lget (ss.map (·.2)) (lget row j) = true := by
  have hlt : j.toNat < free row ss := by omega
  have hl : j.toNat < row.length := by
    have := List.findIdx_le_length (p := fun x => !(lget (ss.map (·.2)) x)) (xs := row)
    unfold free at hlt; omega
  have := List.not_of_lt_findIdx (p := fun x : Int => !(lget (List.map (fun q : Int × Bool => q.2) ss) x)) hlt
  have e : lget row j = row[j.toNat] := by simp [lget, List.getD, hl]
  rw [e]
  simpa using this
theorem step_taken {rowOf : Int → List Int} {m : Nat} (hr : ∀ id, GoodRow (rowOf id) m) {ss : List (Int × Bool)} (hl : ss.length = m) (hc : cntF ss < m) (p : PL) {x : Int} (h0 : 0 ≤ x) (h : lget (ss.map (·.2)) x = true) : lget ((stepF rowOf ss p).map (·.2)) x = true := by
  have hs := spot_in (hr p.1) hl hc
  rw [stepF, map_lset, lget_lset _ _ _ _ ⟨hs.1, by rw [List.length_map, hl]; exact hs.2.1⟩ h0]
  split
  · rfl
  · exact h
theorem row_at {row : List Int} {m : Nat} (g : GoodRow row m) {j : Int} (h0 : 0 ≤ j) (h1 : j < m) : 0 ≤ lget row j ∧ lget row j < m := by
  obtain ⟨h2, e⟩ := lget_at (l := row) ⟨h0, by rw [g.len]; exact h1⟩
  rw [e]; exact g.rng _ (List.getElem_mem h2)
end Go.Sep.Maglev
namespace Go.Sep.Maglev
open Go.Sep Go.Sep.Sip Go.Sep.Perm
theorem fillS_pos {lo hi m : Int} {l : List PL} (hp : prB m = true) (hne : partsS l ≠ []) : (fillS lo hi m l).length = m.toNat ∧ ∀ id, (fillS lo hi m l).count id = (turns (partsS l) m.toNat).countP fun p => decide (p.1 = id) := by
  have hb := block_pos (parts_good l) hne
  have hg := fun id => row_good (lo := lo) (hi := hi) (id := id) hp
  rw [fillS, if_pos ⟨hp, hne⟩]
  exact ⟨by rw [List.length_map, fill_len hg hb], fun id => fill_count hg hb id⟩
theorem fillS_len (lo hi m : Int) (l : List PL) : (fillS lo hi m l).length ≤ 251 := by
  by_cases h : prB m = true ∧ partsS l ≠ []
  · rw [(fillS_pos h.1 h.2).1]
    have := prB_in h.1; omega
  · rw [fillS, if_neg h]; simp
theorem fillS_parts (lo hi m : Int) (l : List PL) : fillS lo hi m (partsS l) = fillS lo hi m l := by
  unfold fillS
  rw [parts_idem]
def roundsS (m : Int) (l : List PL) : Nat := m.toNat / (block (partsS l)).length
theorem share_in {lo hi m : Int} {l : List PL} (hp : prB m = true) (hne : partsS l ≠ []) {p : PL} (hm : p ∈ partsS l) :
    (roundsS m l : Int) * p.2 ≤ ((fillS lo hi m l).count p.1 : Nat) ∧ ((fillS lo hi m l).count p.1 : Nat) ≤ ((roundsS m l : Int) + 1) * p.2 := by
  have h := turns_share (parts_good l) hne m.toNat hm
  have hw := weight_in ((parts_good l).2 p hm)
  rw [(fillS_pos hp hne).2]
  have e : p.2 = (p.2.toNat : Int) := by omega
  rw [e, show ((p.2.toNat : Int)).toNat = p.2.toNat by omega] at *
  unfold roundsS
  constructor
  · have := h.1
    rw [← Int.natCast_mul]; exact Int.ofNat_le.2 this
  · have := h.2
    rw [show (((m.toNat / (block (partsS l)).length : Nat) : Int) + 1) = ((m.toNat / (block (partsS l)).length + 1 : Nat) : Int) by omega, ← Int.natCast_mul]; exact Int.ofNat_le.2 this
theorem share_sum {lo hi m : Int} {l : List PL} (hp : prB m = true) (hne : partsS l ≠ []) : ((partsS l).map fun p => (fillS lo hi m l).count p.1).sum = m.toNat := by
  have h := shares_all (parts_good l) hne m.toNat
  rw [sumC] at h
  rw [← h]
  congr 1
  refine List.map_congr_left fun p _ => ?_
  rw [(fillS_pos hp hne).2]
theorem rounds_le (m : Int) (l : List PL) : (roundsS m l : Int) ≤ max m 0 := by
  have := Nat.div_le_self m.toNat (block (partsS l)).length
  unfold roundsS; omega
theorem lives_fill : (fillS 0 0 7 [(4, 1)]).length = 7 ∧ (fillS 0 0 7 [(4, 1)]).count 4 = 7 ∧ lget (fillS 0 0 7 [(4, 1)]) 2 = 4 := by
  have hp : prB 7 = true := by decide
  have hps : partsS [(4, 1)] = [(4, 1)] := by decide
  have hne : partsS [(4, 1)] ≠ [] := by rw [hps]; simp
  obtain ⟨h1, h2⟩ := fillS_pos (lo := 0) (hi := 0) hp hne
  have h3 : (turns (partsS [(4, 1)]) (7 : Int).toNat).countP (fun p => decide (p.1 = 4)) = 7 := by rw [hps]; decide
  have h4 := (h2 4).trans h3
  refine ⟨h1, h4, ?_⟩
  have h5 : (fillS 0 0 7 [(4, 1)]).count 4 = (fillS 0 0 7 [(4, 1)]).length := h4.trans h1.symm
  have h6 := List.count_eq_length.1 h5
  have h7 : 2 < (fillS 0 0 7 [(4, 1)]).length := by rw [h1]; decide
  have h8 := h6 _ (List.getElem_mem h7)
  have : lget (fillS 0 0 7 [(4, 1)]) 2 = (fillS 0 0 7 [(4, 1)])[2] := by simp [lget, List.getD, h7]
  rw [this]; exact h8.symm
end Go.Sep.Maglev
namespace Go.Sep.Maglev
open Go.Sep Go.Sep.Sip Go.Sep.Perm
theorem sum_take_le (l : List PL) (f : PL → Nat) (n : Nat) : ((l.take n).map f).sum ≤ (l.map f).sum := by
  have e : l.map f = (l.take n).map f ++ (l.drop n).map f := by rw [← List.map_append, List.take_append_drop]
  rw [e, List.sum_append]; omega
theorem sum_le_m {lo hi m : Int} {l : List PL} (hp : prB m = true) (hne : partsS l ≠ []) (i : Int) : (((partsS l).take i.toNat).map fun p => (fillS lo hi m l).count p.1).sum ≤ m.toNat := by
  rw [← share_sum (lo := lo) (hi := hi) hp hne]
  exact sum_take_le _ _ _
end Go.Sep.Maglev
