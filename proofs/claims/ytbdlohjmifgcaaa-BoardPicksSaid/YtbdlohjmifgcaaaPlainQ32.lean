/- Plain laws of boards: tables by address. No program in sight. -/
import Derived.Test.YtbdlohjmifgcaaaPlain
import Derived.Test.YtbdlohjmifgcaaaSep12
set_option linter.unusedSimpArgs false
set_option linter.unusedVariables false
namespace Go.Sep.Board
open Go.Sep Go.Sep.Sip Go.Sep.Perm Go.Sep.Maglev
abbrev VpT := Int × Int × Int × Int × Int × Unit
abbrev encV (v : VpT) : List Value := [.int .i64 v.1, .int .u32 v.2.1, .int .u16 v.2.2.1, .int .u8 v.2.2.2.1, .int .i64 v.2.2.2.2.1]
instance : Inhabited VpT := ⟨(0, 0, 0, 0, 0, ())⟩
abbrev encSh (p : PL) : List Value := [.int .i64 p.1, .int .i64 p.2]
/-- a table: shares, places -/
abbrev TB := InS PL × InS Int
abbrev evT (t : TB) : Value := .agg #[.slice t.1.A t.1.l.length t.1.cap, .slice t.2.A t.2.l.length t.2.cap]
abbrev zeroT : TB := (⟨none, 0, []⟩, ⟨none, 0, []⟩)
structure TOk (F : List PL → List Int) (B : World) (D : Own) (T : List PL) (t : TB) : Prop where
  sh : t.1.l = T
  pl : t.2.l = F T
  ne : T ≠ []
  s1 : Src B D t.1.A t.1.l.length 2 (flat encSh t.1.l)
  s2 : Src B D t.2.A t.2.l.length 1 (t.2.l.map (fun x => Value.int .i64 x))
  ln : t.1.l.length ≤ 1000
  cp : t.2.l.length ≤ t.2.cap
structure BM (F : List PL → List Int) (B : World) (D : Own) (l : List (Ent TB)) (T : Int → List PL) : Prop where
  some_ : ∀ k t, findT l k = some t → TOk F B D (T k) t
  none_ : ∀ k, findT l k = none → T k = []
section
variable {F : List PL → List Int} {B : World} {D D' : Own} {l : List (Ent TB)} {T T' : Int → List PL} {p : List PL} {t : TB}
theorem TOk.mono (o : TOk F B D p t) (h : ∀ x ∈ D, x ∈ D') : TOk F B D' p t := ⟨o.sh, o.pl, o.ne, o.s1.mono h, o.s2.mono h, o.ln, o.cp⟩
theorem BM.mono (b : BM F B D l T) (h : ∀ x ∈ D, x ∈ D') : BM F B D' l T := ⟨fun k t e => (b.some_ k t e).mono h, b.none_⟩
theorem BM.nil : BM F B D [] (fun _ => []) := ⟨fun k t e => by simp [findT] at e, fun _ _ => rfl⟩
theorem BM.congr (b : BM F B D l T) (h : ∀ k, T' k = T k) : BM F B D l T' := ⟨fun k t e => by rw [h]; exact b.some_ k t e, fun k e => by rw [h]; exact b.none_ k e⟩
theorem BM.upd (b : BM F B D l T) (o : TOk F B D p t) (c : Nat) (k : Int) (h : ∀ j, T' j = if j = k then p else T j) : BM F B D (updT l c k t) T' := by
  refine ⟨fun j t' e => ?_, fun j e => ?_⟩
  · rw [findT_upd] at e
    rw [h]
    split
    · next hj => rw [if_pos hj] at e; cases e; exact o
    · next hj => rw [if_neg hj] at e; exact b.some_ j t' e
  · rw [findT_upd] at e
    rw [h]
    split
    · next hj => rw [if_pos hj] at e; cases e
    · next hj => rw [if_neg hj] at e; exact b.none_ j e
end
def tabV (vs : List VpT) (bk : List BkT) (k : Int) : List PL := if k ∈ vs.map (·.1) then fitP bk k else []
theorem tabV_snoc (vs : List VpT) (bk : List BkT) (v : VpT) (k : Int) : tabV (vs ++ [v]) bk k = if k = v.1 then fitP bk k else tabV vs bk k := by
  unfold tabV
  by_cases h : k = v.1
  · simp [h]
  · simp only [List.map_append, List.mem_append, List.map_cons, List.map_nil, List.mem_singleton, h, or_false, if_false]
theorem tabV_skip {vs : List VpT} {bk : List BkT} {v : VpT} (h : fitP bk v.1 = []) (k : Int) : tabV (vs ++ [v]) bk k = tabV vs bk k := by
  rw [tabV_snoc]
  split
  · next e =>
    subst e
    unfold tabV
    split <;> simp [h]
  · rfl
theorem take_vs {vs : List VpT} {i : Int} (h0 : 0 ≤ i) (h1 : i < vs.length) : vs.take (i + 1).toNat = vs.take i.toNat ++ [lget vs i] := by
  obtain ⟨h2, e⟩ := lget_at ⟨h0, h1⟩
  rw [show (i + 1).toNat = i.toNat + 1 by omega, List.take_succ_eq_append_getElem h2, e]
/-- whose table is another one -/
def Other (T : Int → List PL) (vs : List VpT) (bk : List BkT) : Prop := ∃ v ∈ vs, fitP bk v.1 ≠ [] ∧ T v.1 ≠ fitP bk v.1
theorem other_nil (T : Int → List PL) (bk : List BkT) : ¬ Other T [] bk := by rintro ⟨v, hv, _⟩; cases hv
theorem other_snoc (T : Int → List PL) (vs : List VpT) (bk : List BkT) (v : VpT) : Other T (vs ++ [v]) bk ↔ Other T vs bk ∨ (fitP bk v.1 ≠ [] ∧ T v.1 ≠ fitP bk v.1) := by
  constructor
  · rintro ⟨w, hw, h⟩
    rcases List.mem_append.1 hw with h1 | h1
    · exact .inl ⟨w, h1, h⟩
    · simp only [List.mem_singleton] at h1; subst h1; exact .inr h
  · rintro (⟨w, hw, h⟩ | h)
    · exact ⟨w, List.mem_append_left _ hw, h⟩
    · exact ⟨v, by simp, h⟩
theorem turned_iff {F : List PL → List Int} {B : World} {D D' : Own} {l ln : List (Ent TB)} {T : Int → List PL} {vs : List VpT} {bk : List BkT} {tb : Bool} (b : BM F B D l T) (b' : BM F B D' ln (tabV vs bk)) (h : tb = true ↔ Other T vs bk ∨ ∃ y ∈ l, findT ln y.1 = none) :
    tb = true ↔ ∃ k, T k ≠ tabV vs bk k := by
  rw [h]
  constructor
  · rintro (⟨v, hv, h1, h2⟩ | ⟨y, hy, h1⟩)
    · refine ⟨v.1, ?_⟩
      unfold tabV
      rw [if_pos (List.mem_map_of_mem hv)]; exact h2
    · refine ⟨y.1, ?_⟩
      rw [b'.none_ _ h1]
      cases hf : findT l y.1 with
      | none => exact absurd (List.mem_map_of_mem hy) (findT_none.1 hf)
      | some t => exact (b.some_ _ _ hf).ne
  · rintro ⟨k, hk⟩
    by_cases h0 : tabV vs bk k = []
    · right
      rw [h0] at hk
      cases hf : findT l k with
      | none => exact absurd (b.none_ _ hf) hk
      | some t =>
        have hm : k ∈ l.map (·.1) := Decidable.byContradiction fun hn => by rw [findT_none.2 hn] at hf; cases hf
        obtain ⟨y, hy, rfl⟩ := List.mem_map.1 hm
        refine ⟨y, hy, ?_⟩
        cases hf2 : findT ln y.1 with
        | none => rfl
        | some t2 => exact absurd h0 (b'.some_ _ _ hf2).ne
    · left
      have hm : k ∈ vs.map (·.1) := Decidable.byContradiction fun hn => h0 (by unfold tabV; rw [if_neg hn])
      obtain ⟨v, hv, rfl⟩ := List.mem_map.1 hm
      have e : tabV vs bk v.1 = fitP bk v.1 := by unfold tabV; rw [if_pos (List.mem_map_of_mem hv)]
      rw [e] at h0 hk
      exact ⟨v, hv, h0, hk⟩
def leftM (l : List (Ent TB)) (V : List Nat) : Nat := (l.filter fun x => !V.contains x.2.2).length
theorem leftM_less {l : List (Ent TB)} {V : List Nat} {y : Ent TB} (hy : y ∈ l) (hn : y.2.2 ∉ V) : leftM l (V ++ [y.2.2]) < leftM l V := by
  unfold leftM
  induction l with
  | nil => cases hy
  | cons z r ih =>
    have hle : ∀ r : List (Ent TB), (r.filter fun x => !(V ++ [y.2.2]).contains x.2.2).length ≤ (r.filter fun x => !V.contains x.2.2).length := by
      intro r
      induction r with
      | nil => simp
      | cons w r ih =>
        simp only [List.filter_cons]
        by_cases h1 : w.2.2 ∈ V
        · simp [h1]; simpa using ih
        · by_cases h2 : w.2.2 = y.2.2
          · simp [h1, h2, hn]; simp at ih; omega
          · simp [h1, h2]; simpa using ih
    rcases List.mem_cons.1 hy with rfl | hy
    · have := hle r
      simp only [List.filter_cons]
      simp [hn]
      simp at this; omega
    · have := ih hy
      simp only [List.filter_cons]
      by_cases h1 : z.2.2 ∈ V
      · simp [h1]; simpa using this
      · by_cases h2 : z.2.2 = y.2.2
        · simp [h1, h2, hn]; simp at this; omega
        · simp [h1, h2]; simpa using this
/-- which keys of those that were met are gone -/
def Gone (l ln : List (Ent TB)) (V : List Nat) : Prop := ∃ y ∈ l, y.2.2 ∈ V ∧ findT ln y.1 = none
theorem born_inj {l : List (Ent TB)} {c : Nat} (hs : StampT l c) {x y : Ent TB} (hx : x ∈ l) (hy : y ∈ l) (h : x.2.2 = y.2.2) : x = y := by
  have hn := hs.2
  clear hs
  induction l with
  | nil => cases hx
  | cons z r ih =>
    rw [List.map_cons, List.nodup_cons] at hn
    rcases List.mem_cons.1 hx with hx1 | hx1
    · rcases List.mem_cons.1 hy with hy1 | hy1
      · rw [hx1, hy1]
      · subst hx1; exact absurd (h ▸ List.mem_map_of_mem hy1) hn.1
    · rcases List.mem_cons.1 hy with hy1 | hy1
      · subst hy1; exact absurd (h ▸ List.mem_map_of_mem hx1) hn.1
      · exact ih hx1 hy1 hn.2
theorem gone_step {l ln : List (Ent TB)} {c : Nat} (hs : StampT l c) {V : List Nat} {y : Ent TB} (hy : y ∈ l) : Gone l ln (V ++ [y.2.2]) ↔ Gone l ln V ∨ findT ln y.1 = none := by
  constructor
  · rintro ⟨z, hz, hv, h⟩
    rcases List.mem_append.1 hv with h1 | h1
    · exact .inl ⟨z, hz, h1, h⟩
    · simp only [List.mem_singleton] at h1
      have := born_inj hs hz hy h1
      subst this; exact .inr h
  · rintro (⟨z, hz, hv, h⟩ | h)
    · exact ⟨z, hz, List.mem_append_left _ hv, h⟩
    · exact ⟨y, hy, by simp, h⟩
theorem gone_all {l ln : List (Ent TB)} {V : List Nat} (h : ∀ y ∈ l, y.2.2 ∈ V) : Gone l ln V ↔ ∃ y ∈ l, findT ln y.1 = none :=
  ⟨fun ⟨y, hy, _, e⟩ => ⟨y, hy, e⟩, fun ⟨y, hy, e⟩ => ⟨y, hy, h y hy, e⟩⟩
theorem gone_nil (l ln : List (Ent TB)) : ¬ Gone l ln [] := by rintro ⟨y, _, h, _⟩; cases h
theorem fill_nil (lo hi m : Int) : fillS lo hi m [] = [] := by
  rw [fillS, if_neg]; rintro ⟨_, h⟩; exact h rfl
theorem BM.places {lo hi m : Int} {B : World} {D : Own} {l : List (Ent TB)} {T : Int → List PL} (b : BM (fillS lo hi m) B D l T) (k : Int) :
    ((findT l k).getD zeroT).2.l = fillS lo hi m (T k) ∧ Src B D ((findT l k).getD zeroT).2.A ((findT l k).getD zeroT).2.l.length 1 (((findT l k).getD zeroT).2.l.map (fun x => Value.int .i64 x)) ∧ ((findT l k).getD zeroT).2.l.length ≤ ((findT l k).getD zeroT).2.cap ∧ ((findT l k).getD zeroT).2.l.length ≤ 251 := by
  have hl := fillS_len lo hi m (T k)
  cases h : findT l k with
  | none =>
    rw [b.none_ k h, fill_nil]
    exact ⟨rfl, ⟨rfl, by simp⟩, Nat.le_refl 0, by simp⟩
  | some t =>
    have o := b.some_ k t h
    exact ⟨o.pl, o.s2, o.cp, by show t.2.l.length ≤ 251; rw [o.pl]; exact hl⟩
theorem BM.empty {F : List PL → List Int} {B B' : World} {D D' : Own} {l : List (Ent TB)} {T : Int → List PL} (b : BM F B D l T) (h : ∀ k, T k = []) : BM F B' D' l T :=
  ⟨fun k t e => absurd (h k) (b.some_ k t e).ne, b.none_⟩
theorem lives_row {i : Int} (h : 0 ≤ i ∧ i < 7) : lget (fillS 0 0 7 [(4, 1)]) i = 4 := by
  obtain ⟨h1, h2, _⟩ := lives_fill
  have h3 : ∀ x ∈ fillS 0 0 7 [(4, 1)], 4 = x := List.count_eq_length.1 (h2.trans h1.symm)
  obtain ⟨h4, e⟩ := lget_at (l := fillS 0 0 7 [(4, 1)]) (i := i) ⟨h.1, by omega⟩
  rw [e]; exact (h3 _ (List.getElem_mem h4)).symm
theorem tab_none (vs : List VpT) (k : Int) : tabV vs [] k = [] := by unfold tabV; split <;> rfl
def twoF (a : Array Field) (t : Nat) : Bool := match a.toList with
  | [f, g] => f.name != "_" && f.type == t && f.offset == 0 && g.name != "_" && g.type == t && g.offset == 1
  | _ => false
theorem twoF_of {a : Array Field} {t : Nat} (h : twoF a t = true) : ∃ f g : Field, a.toList = [f, g] ∧ f.name ≠ "_" ∧ f.type = t ∧ f.offset = 0 ∧ g.name ≠ "_" ∧ g.type = t ∧ g.offset = 1 := by
  unfold twoF at h
  split at h
  · next f g e =>
    simp only [Bool.and_eq_true, bne_iff_ne, beq_iff_eq] at h
    exact ⟨f, g, e, h.1.1.1.1.1, h.1.1.1.1.2, h.1.1.1.2, h.1.1.2, h.1.2, h.2⟩
  · cases h
end Go.Sep.Board
