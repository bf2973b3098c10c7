/- The operations of a region, one behind the other, or in an open order. No project text. -/
import Derived.Test.YtbdlohjmifgcaaaSep1
set_option linter.unusedSimpArgs false
set_option linter.unusedVariables false
namespace Go.Sep
open Go.RowKit

def postK (P : Program) (B : World) (f n : Nat) (R : Value → Own → Prop) (k : List Item) : Exit → Act → World → Prop :=
  fun ex a w => ex = .normal ∧ ∃ e h, Agree n e a ∧ Models B h w ∧ AK P B f n R k e h

structure AO (P : Program) (B : World) (f n : Nat) (R : Value → Own → Prop) (ops : Array Oper) (l : List Oper) (k : List Item) (e : Env) (h : Own) : Prop where
  run : ∀ a w, Agree n e a → Models B h w → wpList P ops (postK P B f n R k) l a w

/-- o's value in every world that holds h but for the blocks M -/
structure RV (P : Program) (B : World) (h : Own) (M : List Nat) (n : Nat) (e : Env) (o : Oper) (v : Value) : Prop where
  run : ∀ a, Agree n e a → ∀ w, Held B h M w → (execOp a.eval o).run P w = .ok (.value v) w

/-- o comes to one of K's values and memories -/
structure EF (P : Program) (B : World) (h : Own) (n : Nat) (e : Env) (o : Oper) (K : Value → Own → Prop) : Prop where
  run : ∀ a w, Agree n e a → Models B h w → ∀ (Kw : Act → World → Prop) (Q : Exit → Act → World → Prop),
    (∀ v h' w', Models B h' w' → K v h' → Kw (a.put o.dst v) w') → o.wp P a w Kw Q

structure Wants (n : Nat) (ops : Array Oper) (e : Env) (o : Oper) (b : Bool) : Prop where
  run : ∀ a, Agree n e a → Region.wanted o (yielded ops a.tmps) = b

theorem Wants.none {n : Nat} {ops : Array Oper} {e : Env} {o : Oper} (hg : o.guard = .none) : Wants n ops e o true := ⟨fun _ _ => by simp [Region.wanted, hg]⟩
theorem Wants.some {n : Nat} {ops : Array Oper} {e : Env} {o : Oper} {j d : Nat} {want t r : Bool} (hg : o.guard = .some (j, want)) (hd : ((ops[j]?).bind (·.dst)) = .some d) (hl : lk e d = .some (.bool t)) (hr : (t == want) = r) : Wants n ops e o r :=
  ⟨fun a g => by
    have := g.at_ _ _ hl
    subst hr
    cases t <;> cases want <;> simp [Region.wanted, hg, yielded, hd, this]⟩

section
variable {P : Program} {B : World} {f n : Nat} {R : Value → Own → Prop} {k : List Item} {e : Env} {h : Own} {ops : Array Oper} {rest : List Oper} {o : Oper} {M : List Nat}

theorem AK.of_wp {c : Code} (hw : ∀ a w, Agree n e a → Models B h w → c.wp P (postK P B f n R k) a w) : AK P B f n R (.code c :: k) e h :=
  ⟨fun a w g m cs => by
    obtain ⟨ex, a', w', ⟨rfl, e', h', g', m', hk⟩, hs⟩ := hw a w g m (baseFrame f) k cs
    obtain ⟨en, w2, fr, r, c, q⟩ := hk.run a' w' g' m' cs
    exact ⟨en, w2, fr, r, c.of_steps hs, q⟩⟩

theorem AK.region {id : Nat} {l : List Oper} (hk : AO P B f n R l.toArray l k e h) : AK P B f n R (.code (.region id l.toArray false) :: k) e h :=
  AK.of_wp fun a w g m => wp_region_lit (hk.run a w g m)

theorem AO.nil (hk : AK P B f n R k e h) : AO P B f n R ops [] k e h := ⟨fun _ _ g m => ⟨rfl, e, h, g, m, hk⟩⟩

variable {d : Nat} {op : Op} {ty : TypeId} {ps : String} {af : Array Edge} {gd : Option (Nat × Bool)}

theorem AO.val {v : Value} (hv : RV P B h [] n e ⟨some d, op, ty, ps, af, gd⟩ v) (hw : Wants n ops e ⟨some d, op, ty, ps, af, gd⟩ true) (hd : Nat.blt d n = true) (hk : AO P B f n R ops rest k ((d, v) :: e) h) :
    AO P B f n R ops (⟨some d, op, ty, ps, af, gd⟩ :: rest) k e h :=
  ⟨fun a w g m => wpList_step fun K hK => by
    rw [hw.run a g, if_pos rfl]
    unfold Oper.wp
    rw [hv.run a g w (m.held _)]
    exact hK _ _ (hk.run _ _ (g.put (d := some d) hd) m)⟩

theorem AO.pass (hw : Wants n ops e ⟨some d, op, ty, ps, af, gd⟩ false) (hd : Nat.blt d n = true) (hk : AO P B f n R ops rest k ((d, undef) :: e) h) : AO P B f n R ops (⟨some d, op, ty, ps, af, gd⟩ :: rest) k e h :=
  ⟨fun a w g m => wpList_step fun K hK => by
    rw [hw.run a g]
    exact hK _ _ (hk.run _ _ (g.put (d := some d) hd) m)⟩

theorem AO.passN (hw : Wants n ops e ⟨none, op, ty, ps, af, gd⟩ false) (hk : AO P B f n R ops rest k e h) : AO P B f n R ops (⟨none, op, ty, ps, af, gd⟩ :: rest) k e h :=
  ⟨fun a w g m => wpList_step fun K hK => by
    rw [hw.run a g]
    exact hK _ _ (hk.run _ _ g m)⟩

theorem AO.eff {K : Value → Own → Prop} (hv : EF P B h n e ⟨some d, op, ty, ps, af, gd⟩ K) (hw : Wants n ops e ⟨some d, op, ty, ps, af, gd⟩ true) (hd : Nat.blt d n = true) (hk : ∀ v h', K v h' → AO P B f n R ops rest k ((d, v) :: e) h') :
    AO P B f n R ops (⟨some d, op, ty, ps, af, gd⟩ :: rest) k e h :=
  ⟨fun a w g m => wpList_step fun K' hK => by
    rw [hw.run a g, if_pos rfl]
    exact hv.run a w g m _ _ fun v h' w' m' hv' => hK _ _ ((hk v h' hv').run _ _ (g.put (d := some d) hd) m')⟩

theorem AO.effN {K : Value → Own → Prop} (hv : EF P B h n e ⟨none, op, ty, ps, af, gd⟩ K) (hw : Wants n ops e ⟨none, op, ty, ps, af, gd⟩ true) (hk : ∀ v h', K v h' → AO P B f n R ops rest k e h') :
    AO P B f n R ops (⟨none, op, ty, ps, af, gd⟩ :: rest) k e h :=
  ⟨fun a w g m => wpList_step fun K' hK => by
    rw [hw.run a g, if_pos rfl]
    exact hv.run a w g m _ _ fun v h' w' m' hv' => hK _ _ ((hk v h' hv').run _ _ g m')⟩

theorem Agree.case {d : Nat} {t : Bool} {a : Act} (g : Agree n e a) (hd : lk e d = some (.bool t)) : Agree n ((d, .bool t) :: e) a :=
  ⟨g.defers, g.size, fun u v hu => by
    simp only [lk] at hu
    cases hx : Nat.beq d u with
    | true => simp [hx] at hu; have := Nat.eq_of_beq_eq_true hx; subst this; subst hu; exact g.at_ _ _ hd
    | false => simp [hx] at hu; exact g.at_ _ _ hu⟩

theorem AO.case {d : Nat} {t : Bool} {l : List Oper} (hd : lk e d = some (.bool t)) (h1 : t = true → AO P B f n R ops l k ((d, .bool true) :: e) h) (h2 : t = false → AO P B f n R ops l k ((d, .bool false) :: e) h) : AO P B f n R ops l k e h := by
  cases t with
  | true => exact ⟨fun a w g m => (h1 rfl).run a w (g.case hd) m⟩
  | false => exact ⟨fun a w g m => (h2 rfl).run a w (g.case hd) m⟩

/-- a guard that is not known: part by it -/
theorem AO.caseG {j d : Nat} {want t : Bool} (hg : o.guard = some (j, want)) (hd : ((ops[j]?).bind (·.dst)) = some d) (hl : lk e d = some (.bool t))
    (h1 : t = true → AO P B f n R ops (o :: rest) k ((d, .bool true) :: e) h) (h2 : t = false → AO P B f n R ops (o :: rest) k ((d, .bool false) :: e) h) : AO P B f n R ops (o :: rest) k e h :=
  let _ := hg; let _ := hd; AO.case hl h1 h2

theorem AO.weak {e' : Env} {h' : Own} {l : List Oper} (se : SubE e' e) (sh : h'.Sublist h) (hk : AO P B f n R ops l k e' h') : AO P B f n R ops l k e h :=
  ⟨fun a w g m => hk.run a w (g.sub se) (m.sub sh)⟩

theorem AO.perm {h' : Own} {l : List Oper} (p : h.Perm h') (hk : AO P B f n R ops l k e h') : AO P B f n R ops l k e h := ⟨fun a w g m => hk.run a w g (m.perm p)⟩

/-! ### in an open order -/
/-- one of L has come up -/
def dropped (L : List Nat) (listed : Array Bool) : Bool := L.any fun j => listed.getD j false
/-- operation j waits, by edges, for i -/
def waitsF (ops : Array Oper) (i : Nat) : Nat → Nat → Bool
  | 0, _ => false
  | fuel + 1, j => ((ops[j]?).map fun o => (o.after.any fun x => Region.binds .any x && x.on == i) || (o.after.any fun x => Region.binds .any x && waitsF ops i fuel x.on)).getD false
def waitsOn (ops : Array Oper) (i j : Nat) : Bool := waitsF ops i 6 j
/-- what has come up is closed under the edges -/
def closedL (ops : Array Oper) (listed : Array Bool) : Bool := (List.range ops.size).all fun k => !listed.getD k false || ((ops[k]?).map fun o => o.after.all fun x => !Region.binds .any x || listed.getD x.on false).getD true

theorem dropped_set {L : List Nat} {listed : Array Bool} {i : Nat} (h : dropped L listed = true) : dropped L (listed.setIfInBounds i true) = true := by
  simp only [dropped, List.any_eq_true] at h ⊢
  obtain ⟨j, hj, hl⟩ := h
  refine ⟨j, hj, ?_⟩
  by_cases hij : i = j
  · subst hij
    rcases Nat.lt_or_ge i listed.size with hlt | hge
    · simp [hlt]
    · simp [Array.getElem?_eq_none hge] at hl
  · rw [getD_set_ne false hij]; exact hl

theorem dropped_unset {L : List Nat} {listed : Array Bool} {i : Nat} (hi : i ∉ L) (h : dropped L (listed.setIfInBounds i true) = true) : dropped L listed = true := by
  simp only [dropped, List.any_eq_true] at h ⊢
  obtain ⟨j, hj, hl⟩ := h
  refine ⟨j, hj, ?_⟩
  have hij : i ≠ j := fun e => hi (e ▸ hj)
  rwa [getD_set_ne false hij] at hl

/-- Whatever order is picked from here on. S0 holds behind every operation that is carried out; S too, until one of L has come up. -/
def wpAnyG (P : Program) (ops : Array Oper) (Q : Exit → Act → World → Prop) (S0 S : World → Prop) (L : List Nat) : Nat → Array Bool → Act → World → Prop
  | 0, listed, a, w => Region.ready .any ops listed = [] ∧ Q .normal a w
  | fuel + 1, listed, a, w =>
    (Region.ready .any ops listed = [] → Q .normal a w) ∧
    ∀ i ∈ Region.ready .any ops listed, wpOp P ops Q i (fun a' w' => S0 w' ∧ (dropped L (listed.setIfInBounds i true) = true ∨ S w') ∧ wpAnyG P ops Q S0 S L fuel (listed.setIfInBounds i true) a' w') a w

theorem wpAny_of_G {Q : Exit → Act → World → Prop} {S0 S : World → Prop} {L : List Nat} : ∀ (fuel : Nat) (listed : Array Bool) (a : Act) (w : World), wpAnyG P ops Q S0 S L fuel listed a w → wpAny P .any ops Q fuel listed a w
  | 0, _, _, _, h => h
  | fuel + 1, _, _, _, h => ⟨h.1, fun i hi => wpOp_mono (fun a' w' h' => wpAny_of_G fuel _ a' w' h'.2.2) (h.2 i hi)⟩

theorem wpAnyG_weaken {Q : Exit → Act → World → Prop} {S0 S S' : World → Prop} {L : List Nat} (hs : ∀ w, S' w → S w) : ∀ (fuel : Nat) (listed : Array Bool) (a : Act) (w : World), wpAnyG P ops Q S0 S' L fuel listed a w → wpAnyG P ops Q S0 S L fuel listed a w
  | 0, _, _, _, h => h
  | fuel + 1, _, _, _, h => ⟨h.1, fun i hi => wpOp_mono (fun a' w' h' => ⟨h'.1, h'.2.1.imp id (hs _), wpAnyG_weaken hs fuel _ a' w' h'.2.2⟩) (h.2 i hi)⟩

/-- once one of L has come up, S says nothing -/
theorem wpAnyG_free {Q : Exit → Act → World → Prop} {S0 S S' : World → Prop} {L : List Nat} : ∀ (fuel : Nat) (listed : Array Bool) (a : Act) (w : World), dropped L listed = true → wpAnyG P ops Q S0 S' L fuel listed a w → wpAnyG P ops Q S0 S L fuel listed a w
  | 0, _, _, _, _, h => h
  | fuel + 1, _, _, _, hd, h => ⟨h.1, fun i hi => wpOp_mono (fun a' w' h' => ⟨h'.1, .inl (dropped_set hd), wpAnyG_free fuel _ a' w' (dropped_set hd) h'.2.2⟩) (h.2 i hi)⟩

theorem closedL_spec {listed : Array Bool} (hc : closedL ops listed = true) {k : Nat} {o : Oper} (hk : ops[k]? = some o) (hl : listed.getD k false = true) : ∀ x ∈ o.after, Region.binds .any x = true → listed.getD x.on false = true := by
  intro x hx hb
  have hlt : k < ops.size := by
    rcases Nat.lt_or_ge k ops.size with h | h
    · exact h
    · rw [Array.getElem?_eq_none h] at hk; cases hk
  have := List.all_eq_true.1 hc k (List.mem_range.2 hlt)
  simp only [hl, Bool.not_true, Bool.false_or, hk, Option.map_some, Option.getD_some, Array.all_eq_true] at this
  obtain ⟨n, hn, rfl⟩ := Array.mem_iff_getElem.1 hx
  have h2 := this n hn
  simpa [hb] using h2

theorem waitsF_listed {listed : Array Bool} (hc : closedL ops listed = true) {i : Nat} : ∀ (fuel j : Nat), waitsF ops i fuel j = true → listed.getD j false = true → listed.getD i false = true := by
  intro fuel
  induction fuel with
  | zero => intro j hw; cases hw
  | succ fuel ih =>
    intro j hw hl
    cases hoj : ops[j]? with
    | none => simp [waitsF, hoj] at hw
    | some oj =>
      simp only [waitsF, hoj, Option.map_some, Option.getD_some, Bool.or_eq_true, Array.any_eq_true, Bool.and_eq_true, beq_iff_eq] at hw
      rcases hw with ⟨k, hk, he⟩ | ⟨k, hk, he⟩
      · have := closedL_spec hc hoj hl _ (Array.getElem_mem hk) he.1
        rwa [he.2] at this
      · exact ih _ he.2 (closedL_spec hc hoj hl _ (Array.getElem_mem hk) he.1)

theorem closedL_set {listed : Array Bool} {j : Nat} (hc : closedL ops listed = true) (hj : j ∈ Region.ready .any ops listed) : closedL ops (listed.setIfInBounds j true) = true := by
  obtain ⟨_, oj, hoj, hall⟩ := mem_ready.1 hj
  have keep : ∀ q, listed.getD q false = true → (listed.setIfInBounds j true).getD q false = true := fun q hq => by
    by_cases hqj : j = q
    · subst hqj
      rcases Nat.lt_or_ge j listed.size with hlt | hge
      · simp [hlt]
      · simp [Array.getElem?_eq_none hge] at hq
    · rw [getD_set_ne false hqj]; exact hq
  refine List.all_eq_true.2 fun k hk => ?_
  cases hko : ops[k]? with
  | none => simp
  | some ok =>
    by_cases hkj : j = k
    · subst hkj
      rw [hoj] at hko
      injection hko with hko
      subst hko
      simp only [Option.map_some, Option.getD_some, Bool.or_eq_true, Array.all_eq_true]
      refine .inr fun n hn => ?_
      rcases hb : Region.binds .any oj.after[n] with _ | _
      · simp
      · simp only [Bool.not_true, Bool.false_or]
        exact .inr (keep _ (hall _ (Array.getElem_mem hn) hb))
    · rw [getD_set_ne false hkj]
      rcases hkl : listed.getD k false with _ | _
      · simp
      · simp only [Bool.not_true, Bool.false_or, Option.map_some, Option.getD_some, Array.all_eq_true]
        intro n hn
        rcases hb : Region.binds .any ok.after[n] with _ | _
        · simp
        · simp only [Bool.not_true, Bool.false_or]
          exact keep _ (closedL_spec hc hko hkl _ (Array.getElem_mem hn) hb)

theorem wpAnyG_first {Q : Exit → Act → World → Prop} {S0 S : World → Prop} {L : List Nat} {i : Nat} {oi : Oper} {v : Value} (hi : ops[i]? = some oi) (hsel : ∀ (j : Nat) (o : Oper) cs b, ops[j]? = some o → o.op ≠ .select cs b)
    (hQ : ∀ c a w, Q (.panic c) (a.put oi.dst v) w → Q (.panic c) a w) (Y : World → Prop) (needs : Bool) (hiL : i ∉ L) (hL : needs = true → ∀ j ∈ L, waitsOn ops i j = true) (hY : ∀ w, S0 w → (needs = true → S w) → Y w) :
    ∀ (fuel : Nat) (listed : Array Bool) (a : Act) (w : World),
      (∀ j oj, ops[j]? = some oj → j ≠ i → listed.getD j true = false → (∀ e ∈ oj.after, Region.binds .any e = true → e.on ≠ i) → oi.apart ops oj = true) →
      i ∈ Region.ready .any ops listed → closedL ops listed = true → YieldsIf P ops Y oi v a → S0 w → (dropped L listed = true ∨ S w) →
      wpAnyG P ops Q S0 S L fuel (listed.setIfInBounds i true) (a.put oi.dst v) w → wpAnyG P ops Q S0 S L (fuel + 1) listed a w := by
  -- while i has not come up, none of L has
  have hnd : needs = true → ∀ listed : Array Bool, i ∈ Region.ready .any ops listed → closedL ops listed = true → dropped L listed = false := fun hn listed hr hc => by
    rcases hb : dropped L listed with _ | _
    · rfl
    · exfalso
      simp only [dropped, List.any_eq_true] at hb
      obtain ⟨j, hj, hl⟩ := hb
      have hw := hL hn j hj
      have h1 := waitsF_listed hc 6 j hw hl
      have h0 := (mem_ready.1 hr).1
      rcases Nat.lt_or_ge i listed.size with h' | h'
      · simp [h'] at h0 h1; rw [h0] at h1; cases h1
      · simp [Array.getElem?_eq_none h'] at h1
  intro fuel
  induction fuel with
  | zero =>
    intro listed a w _ hr hc hy h0 hS H
    refine ⟨fun h => (by rw [h] at hr; cases hr), fun j hj => ?_⟩
    by_cases hji : j = i
    · subst hji
      exact hy.wpOp hi (hY w h0 fun hn => hS.resolve_left (by rw [hnd hn listed hr hc]; simp)) ⟨h0, hS.imp dropped_set id, H⟩
    · have := ready_mono hj hji
      rw [H.1] at this
      cases this
  | succ fuel ih =>
    intro listed a w hfree hr hc hy h0 hS H
    refine ⟨fun h => (by rw [h] at hr; cases hr), fun j hj => ?_⟩
    by_cases hji : j = i
    · subst hji
      exact hy.wpOp hi (hY w h0 fun hn => hS.resolve_left (by rw [hnd hn listed hr hc]; simp)) ⟨h0, hS.imp dropped_set id, H⟩
    · have h1 := H.2 j (ready_mono hj hji)
      obtain ⟨hjun, oj, hoj, hall⟩ := mem_ready.1 hj
      have hnot : ∀ e ∈ oj.after, Region.binds .any e = true → e.on ≠ i := fun e he hb heq => by
        have h1 := hall e he hb
        have h0 := (mem_ready.1 hr).1
        rw [heq] at h1
        rcases Nat.lt_or_ge i listed.size with h' | h'
        · simp [h'] at h0 h1; rw [h0] at h1; cases h1
        · simp [Array.getElem?_eq_none h'] at h1
      have h2 := wpOp_putIf hoj (hfree j oj hoj hji hjun hnot) (fun cs b => hsel i oi cs b hi) (fun cs b => hsel j oj cs b hoj) hQ hy h1
      have hfree' : ∀ k ok, ops[k]? = some ok → k ≠ i → (listed.setIfInBounds j true).getD k true = false →
          (∀ e ∈ ok.after, Region.binds .any e = true → e.on ≠ i) → oi.apart ops ok = true := fun k ok hk hki hun hno => by
        refine hfree k ok hk hki ?_ hno
        by_cases hjk : j = k
        · subst hjk; exact hjun
        · rw [getD_set_ne true hjk] at hun; exact hun
      refine wpOp_mono (fun a' w' h3 => ?_) h2
      have hd : dropped L (listed.setIfInBounds j true) = true ∨ S w' := h3.2.2.1.imp (fun hd => by
        rw [Array.setIfInBounds_comm _ _ (Ne.symm hji)] at hd
        exact dropped_unset hiL hd) id
      refine ⟨h3.2.1, hd, ih (listed.setIfInBounds j true) a' w' hfree' (ready_mono hr (Ne.symm hji)) (closedL_set hc hj) h3.1 h3.2.1 hd ?_⟩
      rw [Array.setIfInBounds_comm _ _ hji]
      exact h3.2.2.2

/-- what holds of the base, whatever is done -/
def BaseHeld (B w : World) : Prop := ∀ b, b < B.heap.size → w.heap[b]? = B.heap[b]?

structure AD (P : Program) (B : World) (f n : Nat) (R : Value → Own → Prop) (ops : Array Oper) (M L : List Nat) (fuel : Nat) (listed : Array Bool) (k : List Item) (e : Env) (h : Own) : Prop where
  run : ∀ a w, Agree n e a → Models B h w → wpAnyG P ops (postK P B f n R k) (BaseHeld B) (Held B h M) L fuel listed a w

theorem AK.draw {id : Nat} {l : List Oper} (M L : List Nat) (hm : P.follows .mixedOrders = true) (hk : AD P B f n R l.toArray M L l.length (Array.replicate l.length false) k e h) : AK P B f n R (.code (.region id l.toArray true) :: k) e h :=
  AK.of_wp fun a w g m => wp_region_any hm (wpAny_of_G _ _ _ _ (by simpa using hk.run a w.drew g m.drew))

variable {fuel i : Nat} {listed : Array Bool} {L : List Nat}

theorem AD.done (hr : Region.ready .any ops listed = []) (hk : AK P B f n R k e h) : AD P B f n R ops M L fuel listed k e h :=
  ⟨fun _ _ g m => by
    cases fuel with
    | zero => exact ⟨hr, rfl, e, h, g, m, hk⟩
    | succ fuel => exact ⟨fun _ => ⟨rfl, e, h, g, m, hk⟩, by rw [hr]; simp⟩⟩

/-- the side conditions of a take, in one -/
def takeOk (ops : Array Oper) (L : List Nat) (needs : Bool) (listed : Array Bool) (i : Nat) : Bool :=
  Region.noSelect ops && Region.free .any ops listed i && (Region.ready .any ops listed).contains i && closedL ops listed && !L.contains i && (!needs || L.all (waitsOn ops i))

theorem takeOk_spec {needs : Bool} (ht : takeOk ops L needs listed i = true) : Region.noSelect ops = true ∧ Region.free .any ops listed i = true ∧ i ∈ Region.ready .any ops listed ∧ closedL ops listed = true ∧ i ∉ L ∧ (needs = true → ∀ j ∈ L, waitsOn ops i j = true) := by
  simp only [takeOk, Bool.and_eq_true, Bool.or_eq_true, Bool.not_eq_true', List.all_eq_true] at ht
  obtain ⟨⟨⟨⟨⟨h1, h2⟩, h3⟩, h4⟩, h5⟩, h6⟩ := ht
  refine ⟨h1, h2, by simpa using h3, h4, by simpa using h5, fun hn => h6.resolve_left (by rw [hn]; simp)⟩

theorem AD.takeAny {v : Value} {needs : Bool} (hi : ops[i]? = some o) (ht : takeOk ops L needs listed i = true) {a : Act} {w : World} (m : Models B h w)
    (hy : YieldsIf P ops (fun w => BaseHeld B w ∧ (needs = true → Held B h M w)) o v a) (hk : wpAnyG P ops (postK P B f n R k) (BaseHeld B) (Held B h M) L fuel (listed.setIfInBounds i true) (a.put o.dst v) w) :
    wpAnyG P ops (postK P B f n R k) (BaseHeld B) (Held B h M) L (fuel + 1) listed a w := by
  obtain ⟨h1, h2, h3, h4, h5, h6⟩ := takeOk_spec ht
  exact wpAnyG_first hi (Region.noSelect_spec h1) (fun _ _ _ hq => by cases hq.1) _ needs h5 h6 (fun w' a1 a2 => ⟨a1, a2⟩) fuel listed a w (Region.free_spec hi h2) h3 h4 hy m.below.block (.inr (m.held M)) hk

theorem AD.take {v : Value} (i : Nat) (hi : ops[i]? = some ⟨some d, op, ty, ps, af, gd⟩) (ht : takeOk ops L true listed i = true)
    (hv : RV P B h M n e ⟨some d, op, ty, ps, af, gd⟩ v) (hw : Wants n ops e ⟨some d, op, ty, ps, af, gd⟩ true) (hd : Nat.blt d n = true) (hk : AD P B f n R ops M L fuel (listed.setIfInBounds i true) k ((d, v) :: e) h) : AD P B f n R ops M L (fuel + 1) listed k e h :=
  ⟨fun a w g m => AD.takeAny hi ht m (.inl ⟨hw.run a g, fun w' hw' => hv.run a g w' (hw'.2 rfl)⟩) (hk.run _ _ (g.put (d := some d) hd) m)⟩

/-- what hangs on no block of the call's own -/
theorem AD.takeP {v : Value} (i : Nat) (hi : ops[i]? = some ⟨some d, op, ty, ps, af, gd⟩) (ht : takeOk ops L false listed i = true)
    (hv : RV P B [] [] n e ⟨some d, op, ty, ps, af, gd⟩ v) (hw : Wants n ops e ⟨some d, op, ty, ps, af, gd⟩ true) (hd : Nat.blt d n = true) (hk : AD P B f n R ops M L fuel (listed.setIfInBounds i true) k ((d, v) :: e) h) : AD P B f n R ops M L (fuel + 1) listed k e h :=
  ⟨fun a w g m => AD.takeAny (M := M) hi ht m (.inl ⟨hw.run a g, fun w' hw' => hv.run a g w' ⟨hw'.1, by simp⟩⟩) (hk.run _ _ (g.put (d := some d) hd) m)⟩

theorem AD.pass (i : Nat) (hi : ops[i]? = some ⟨some d, op, ty, ps, af, gd⟩) (ht : takeOk ops L false listed i = true)
    (hw : Wants n ops e ⟨some d, op, ty, ps, af, gd⟩ false) (hd : Nat.blt d n = true) (hk : AD P B f n R ops M L fuel (listed.setIfInBounds i true) k ((d, undef) :: e) h) : AD P B f n R ops M L (fuel + 1) listed k e h :=
  ⟨fun a w g m => AD.takeAny (M := M) hi ht m (.inr ⟨hw.run a g, rfl⟩) (hk.run _ _ (g.put (d := some d) hd) m)⟩

/-- what one operation, carried out in its turn, owes -/
structure AE (P : Program) (B : World) (f n : Nat) (R : Value → Own → Prop) (ops : Array Oper) (M L : List Nat) (fuel : Nat) (listed : Array Bool) (k : List Item) (e : Env) (h : Own) (i : Nat) : Prop where
  run : ∀ a w, Agree n e a → Models B h w →
    wpOp P ops (postK P B f n R k) i (fun a' w' => BaseHeld B w' ∧ (dropped L (listed.setIfInBounds i true) = true ∨ Held B h M w') ∧ wpAnyG P ops (postK P B f n R k) (BaseHeld B) (Held B h M) L fuel (listed.setIfInBounds i true) a' w') a w

theorem AE.eff {K : Value → Own → Prop} (hi : ops[i]? = some ⟨some d, op, ty, ps, af, gd⟩) (hv : EF P B h n e ⟨some d, op, ty, ps, af, gd⟩ K) (hw : Wants n ops e ⟨some d, op, ty, ps, af, gd⟩ true) (hd : Nat.blt d n = true)
    (hk : ∀ v h', K v h' → (dropped L (listed.setIfInBounds i true) = true ∨ ∀ x ∈ h, x.1 ∉ M → x ∈ h') ∧ AD P B f n R ops M L fuel (listed.setIfInBounds i true) k ((d, v) :: e) h') : AE P B f n R ops M L fuel listed k e h i :=
  ⟨fun a w g m => by
    unfold wpOp
    simp only [hi, hw.run a g, if_true]
    refine .inl (hv.run a w g m _ _ fun v h' w' m' hv' => ?_)
    obtain ⟨hle, hk'⟩ := hk v h' hv'
    have hk2 := hk'.run _ _ (g.put (d := some d) hd) m'
    rcases hle with hdr | hle
    · exact ⟨m'.below.block, .inl hdr, wpAnyG_free _ _ _ _ hdr hk2⟩
    · have hh : ∀ w2, Held B h' M w2 → Held B h M w2 := fun w2 hw2 => hw2.mono fun x hx hM => ⟨hle x hx hM, hM⟩
      exact ⟨m'.below.block, .inr (hh _ (m'.held M)), wpAnyG_weaken hh _ _ _ _ hk2⟩⟩

theorem AE.effN {K : Value → Own → Prop} (hi : ops[i]? = some ⟨none, op, ty, ps, af, gd⟩) (hv : EF P B h n e ⟨none, op, ty, ps, af, gd⟩ K) (hw : Wants n ops e ⟨none, op, ty, ps, af, gd⟩ true)
    (hk : ∀ v h', K v h' → (dropped L (listed.setIfInBounds i true) = true ∨ ∀ x ∈ h, x.1 ∉ M → x ∈ h') ∧ AD P B f n R ops M L fuel (listed.setIfInBounds i true) k e h') : AE P B f n R ops M L fuel listed k e h i :=
  ⟨fun a w g m => by
    unfold wpOp
    simp only [hi, hw.run a g, if_true]
    refine .inl (hv.run a w g m _ _ fun v h' w' m' hv' => ?_)
    obtain ⟨hle, hk'⟩ := hk v h' hv'
    have hk2 := hk'.run _ _ g m'
    rcases hle with hdr | hle
    · exact ⟨m'.below.block, .inl hdr, wpAnyG_free _ _ _ _ hdr hk2⟩
    · have hh : ∀ w2, Held B h' M w2 → Held B h M w2 := fun w2 hw2 => hw2.mono fun x hx hM => ⟨hle x hx hM, hM⟩
      exact ⟨m'.below.block, .inr (hh _ (m'.held M)), wpAnyG_weaken hh _ _ _ _ hk2⟩⟩

/-- a guarded operation that has no slot and is not wanted -/
theorem AE.passN (hi : ops[i]? = some ⟨none, op, ty, ps, af, gd⟩) (hw : Wants n ops e ⟨none, op, ty, ps, af, gd⟩ false) (hk : AD P B f n R ops M L fuel (listed.setIfInBounds i true) k e h) : AE P B f n R ops M L fuel listed k e h i :=
  ⟨fun a w g m => by
    unfold wpOp
    simp only [hi, hw.run a g]
    exact ⟨m.below.block, .inr (m.held M), hk.run _ _ g m⟩⟩

/-- One alone may come up. -/
theorem AD.one (i : Nat) (hr : Region.ready .any ops listed = [i]) (h1 : AE P B f n R ops M L fuel listed k e h i) : AD P B f n R ops M L (fuel + 1) listed k e h :=
  ⟨fun a w g m => ⟨fun h0 => (by rw [hr] at h0; cases h0), fun j hj => by
    rw [hr] at hj
    obtain rfl : j = i := by simpa using hj
    exact h1.run a w g m⟩⟩

/-- Two may come up: each of them first. -/
theorem AD.two (i j : Nat) (hr : Region.ready .any ops listed = [i, j]) (h1 : AE P B f n R ops M L fuel listed k e h i) (h2 : AE P B f n R ops M L fuel listed k e h j) : AD P B f n R ops M L (fuel + 1) listed k e h :=
  ⟨fun a w g m => ⟨fun h0 => (by rw [hr] at h0; cases h0), fun l hl => by
    rw [hr] at hl
    rcases List.mem_cons.1 hl with rfl | hl
    · exact h1.run a w g m
    · obtain rfl : l = j := by simpa using hl
      exact h2.run a w g m⟩⟩

/-- Some may come up: each of them first. -/
inductive AEs (P : Program) (B : World) (f n : Nat) (R : Value → Own → Prop) (ops : Array Oper) (M L : List Nat) (fuel : Nat) (listed : Array Bool) (k : List Item) (e : Env) (h : Own) : List Nat → Prop where
  | nil : AEs P B f n R ops M L fuel listed k e h []
  | cons {i : Nat} {r : List Nat} : AE P B f n R ops M L fuel listed k e h i → AEs P B f n R ops M L fuel listed k e h r → AEs P B f n R ops M L fuel listed k e h (i :: r)
theorem AEs.mem {l : List Nat} (hs : AEs P B f n R ops M L fuel listed k e h l) : ∀ i ∈ l, AE P B f n R ops M L fuel listed k e h i := by
  induction hs with
  | nil => intro i hi; cases hi
  | cons h1 _ ih =>
    intro i hi
    rcases List.mem_cons.1 hi with rfl | hi
    · exact h1
    · exact ih i hi
theorem AD.many {i : Nat} {l : List Nat} (hr : Region.ready .any ops listed = i :: l) (hs : AEs P B f n R ops M L fuel listed k e h (i :: l)) : AD P B f n R ops M L (fuel + 1) listed k e h :=
  ⟨fun a w g m => ⟨fun h0 => (by rw [hr] at h0; cases h0), fun j hj => by
    rw [hr] at hj
    exact (hs.mem j hj).run a w g m⟩⟩
/-- what stands in e stands in e', but for the slots ks -/
structure SubX (ks : List Nat) (e' e : Env) : Prop where
  lk : ∀ t u, ks.contains t = false → lk e' t = some u → lk e t = some u
theorem SubX.refl {ks : List Nat} {e : Env} : SubX ks e e := ⟨fun _ _ _ h => h⟩
theorem SubX.drop {ks : List Nat} {e' e : Env} {d : Nat} {v : Value} (hd : ks.contains d = true) (s : SubX ks e' e) : SubX ks e' ((d, v) :: e) := ⟨fun t u ht h => by
  have h1 := s.lk t u ht h
  simp only [Sep.lk]
  cases hb : Nat.beq d t with
  | true => have := Nat.eq_of_beq_eq_true hb; subst this; rw [hd] at ht; cases ht
  | false => simpa using h1⟩
theorem SubX.cons {ks : List Nat} {e' e : Env} {d : Nat} {v : Value} (h1 : Sep.lk e d = some v) (s : SubX (d :: ks) e' e) : SubX ks ((d, v) :: e') e := ⟨fun t u ht h => by
  simp only [Sep.lk] at h
  cases hb : Nat.beq d t with
  | true => have := Nat.eq_of_beq_eq_true hb; subst this; simp at h; subst h; exact h1
  | false =>
    simp [hb] at h
    refine s.lk t u ?_ h
    have : t ≠ d := fun e => by subst e; simp at hb
    simp only [List.contains_cons, Bool.or_eq_false_iff, beq_eq_false_iff_ne]
    exact ⟨this, ht⟩⟩
theorem Agree.subX {E e : Env} {a : Act} (g : Agree n e a) (s : SubX [] E e) : Agree n E a := ⟨g.defers, g.size, fun t v h => g.at_ t v (s.lk t v rfl h)⟩
/-- a state that several orders come to is shown once -/
theorem AD.cut {α : Type} (fuel' : Nat) (listed' : Array Bool) (E : α → Env → Env) (H : α → Own → Own) (Inv : α → Prop) (hS : ∀ x, Inv x → AD P B f n R ops M L fuel' listed' k (E x e) (H x h))
    (hk : (∀ x, Inv x → AD P B f n R ops M L fuel' listed' k (E x e) (H x h)) → AD P B f n R ops M L fuel listed k e h) : AD P B f n R ops M L fuel listed k e h := hk hS
theorem AD.to {fuel' : Nat} {listed' : Array Bool} {e' : Env} {h' : Own} (hf : Nat.beq fuel fuel' = true) (hl : listed = listed') (se : SubX [] e' e) (sp : h.Perm h') (hk : AD P B f n R ops M L fuel' listed' k e' h') : AD P B f n R ops M L fuel listed k e h := by
  have := Nat.eq_of_beq_eq_true hf; subst this; subst hl
  have hh : ∀ w, Held B h' M w → Held B h M w := fun w hw => hw.mono fun x hx hM => ⟨sp.mem_iff.1 hx, hM⟩
  exact ⟨fun a w g m => wpAnyG_weaken hh _ _ _ _ (hk.run a w (g.subX se) (m.perm sp))⟩

/-- a guard that is not known -/
theorem AD.caseG {j d : Nat} {t : Bool} (hd : ((ops[j]?).bind (·.dst)) = some d) (hl : lk e d = some (.bool t))
    (h1 : t = true → AD P B f n R ops M L fuel listed k ((d, .bool true) :: e) h) (h2 : t = false → AD P B f n R ops M L fuel listed k ((d, .bool false) :: e) h) : AD P B f n R ops M L fuel listed k e h := by
  have _ := hd
  cases t with
  | true => exact ⟨fun a w g m => (h1 rfl).run a w (g.case hl) m⟩
  | false => exact ⟨fun a w g m => (h2 rfl).run a w (g.case hl) m⟩

theorem AD.weak {e' : Env} (se : SubE e' e) (hk : AD P B f n R ops M L fuel listed k e' h) : AD P B f n R ops M L fuel listed k e h :=
  ⟨fun a w g m => hk.run a w (g.sub se) m⟩

theorem AD.case {d : Nat} {t : Bool} (hd : lk e d = some (.bool t)) (h1 : t = true → AD P B f n R ops M L fuel listed k ((d, .bool true) :: e) h) (h2 : t = false → AD P B f n R ops M L fuel listed k ((d, .bool false) :: e) h) : AD P B f n R ops M L fuel listed k e h := by
  cases t with
  | true => exact ⟨fun a w g m => (h1 rfl).run a w (g.case hd) m⟩
  | false => exact ⟨fun a w g m => (h2 rfl).run a w (g.case hd) m⟩
end
end Go.Sep
