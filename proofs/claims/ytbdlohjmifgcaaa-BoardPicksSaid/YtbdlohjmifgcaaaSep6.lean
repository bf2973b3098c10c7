/- From what the claim's form says of arguments to what a walk wants; the row's last step. The theorem 'post_of_below' is the kit's page's (extra-small, section 9), turned to this text. No project text. -/
import Derived.Test.YtbdlohjmifgcaaaSep5
import Derived.ProofKit
import Derived.Deep.Slices
set_option linter.unusedSimpArgs false
set_option linter.unusedVariables false
namespace Go.Sep
open Go.RowKit Go.WideShapes Go.ChangeShapes

section
variable {H : Type} {enc : TypeId × Value → H} {P : Program}
theorem post_of_below {f : Func} {s : ChangeSpec} {apart fresh handsOn again : Bool} {W W' : World} {args : Array Value} {v : Value} {ds gs : List (DataW H)} {before pa pv : List MemPlace}
    (hW : DataW.Whole enc P f.params.toList s.vars apart W args.toList ds gs before)
    (hres : ∀ (b : Nat) (sp : Nat → Bool) (hd : Bool), DataW.TrodAll enc P W' b sp hd f.resultTypes.toList (v.resultList f.resultTypes.size) (s.fn H (ds ++ gs)).results [])
    (hargs : ∀ sp : Nat → Bool, (∀ p ∈ before, sp p.block = true) → DataW.TrodAll enc P W' 0 sp true f.params.toList args.toList (s.fn H (ds ++ gs)).args pa)
    (hvars : ∀ sp : Nat → Bool, (∀ p ∈ before, sp p.block = true) → DataW.TrodVars enc P W' sp s.vars (s.fn H (ds ++ gs)).vars pv)
    (hps : before = pa ++ pv) (hb : Below W.heap.size W W')
    (hok : ∀ (j : Nat) (t : TypeId) (r : Value), f.resultTypes[j]? = some t → (v.resultList f.resultTypes.size)[j]? = some r → Value.okWide P W' .any 0 t r) :
    s.post enc P f apart fresh handsOn again W args v W' := by
  have hlt : ∀ p ∈ before, p.block < W.heap.size := fun p hp => hW.lt p hp
  have hold : ∀ p ∈ before, (fun b => decide (b < W.heap.size)) p.block = true := fun p hp => by simpa using hlt p hp
  refine ⟨ds, gs, before, [], pa, pv, hW, hres _ _ _, hargs _ hold, hvars _ hold, World.keptBut_mono (fun p hp => ⟨hp, ?_⟩) (hb.frame (· ∈ before)), fun _ => ?_⟩
  · rw [hps, List.mem_append] at hp
    exact Or.inr hp
  · obtain ⟨_, _, _, _, _, hz, hn⟩ := hW
    refine ⟨hok, _, _, ([] ++ pa) ++ pv, ⟨[] ++ pa, pv, trodAll_append (hargs _ (fun _ _ => rfl)) (hres _ _ _), hvars _ (fun _ _ => rfl), rfl, ?_, ?_⟩, ?_⟩
    · intro b off hp
      have hin : MemPlace.cell b off ∈ before := by rw [hps]; simpa using hp
      rw [hb.frozen (hlt _ hin)]
      exact hz b off hin
    · intro ha
      have := hn ha
      rw [hps] at this
      simpa using this
    · intro p hp _
      rw [hps]
      simpa using hp
end

theorem TAcons {H : Type} {enc : TypeId × Value → H} {P : Program} {w : World} {base : Nat} {spare : Nat → Bool} {held : Bool} {t : TypeId} {ts : List TypeId} {v : Value} {vs : List Value} {d : DataW H} {ds : List (DataW H)} {p p' : List MemPlace}
    (h : DataW.Trod enc P w base spare held t v d p) (hs : DataW.TrodAll enc P w base spare held ts vs ds p') : DataW.TrodAll enc P w base spare held (t :: ts) (v :: vs) (d :: ds) (p ++ p') := ⟨p, p', h, hs, rfl⟩
theorem okBool {P : Program} {w : World} {t : TypeId} {b : Bool} (h : P.underlying t = some .bool) : Value.okWide P w .any 0 t (.bool b) := by simp [Value.okWide, h, Cell.okWide, Cell.ok]

/-- whatever cells read as a value of type t are those of some a with pr -/
def Dec (P : Program) (w : World) (t : TypeId) {α : Type} (enc : α → List Value) (pr : α → Prop) : Prop :=
  ∀ (H : Type) (en : TypeId × Value → H) (base : Nat) (fuel : Nat) (cs : List Value) (x : DataW H × List MemPlace), DataW.trod en P w base (fun _ => true) true fuel t cs = some x → ∃ a, cs = enc a ∧ pr a

section
variable {P : Program} {w : World} {t : TypeId}
theorem Dec.bool [u : UndIs P t .bool] : Dec P w t (fun b : Bool => [.bool b]) (fun _ => True) := fun H en base fuel cs x h => by
  obtain ⟨b, h1, _⟩ := DataW.trod_bool u.eq h
  exact ⟨b, h1, trivial⟩
theorem Dec.int {k : IntKind} [u : UndIs P t (.int k)] : Dec P w t (fun n : Int => [.int k n]) (fun n => k.min ≤ n ∧ n ≤ k.max) := fun H en base fuel cs x h => by
  obtain ⟨n, h1, _, hw⟩ := DataW.trod_int u.eq h
  refine ⟨n, h1, ?_⟩
  simpa only [Lit.wf, Bool.and_eq_true, decide_eq_true_eq] using hw
theorem Dec.string [u : UndIs P t .string] : Dec P w t (fun s : ByteArray => [.string s]) (fun s => s.size ≤ 9223372036854775807) := fun H en base fuel cs x h => by
  obtain ⟨s, h1, _, hs⟩ := DataW.trod_string u.eq h
  exact ⟨s, h1, hs⟩

/-- a slice that came in -/
structure InS (α : Type) where
  A : Option Addr
  cap : Nat
  l : List α

def InS.val {α : Type} (s : InS α) : List Value := [.slice s.A s.l.length s.cap]
def InS.Ok {α : Type} (w : World) (sz : Nat) (enc : α → List Value) (pr : α → Prop) (s : InS α) : Prop :=
  Src w [] s.A s.l.length sz (s.l.flatMap enc) ∧ s.l.length ≤ s.cap ∧ s.cap ≤ 9223372036854775807 ∧ (∀ b ∈ s.l, pr b) ∧ ∀ b ∈ s.l, (enc b).length = sz

theorem InS.Ok.src1 {α : Type} {w : World} {f : α → Value} {pr : α → Prop} {s : InS α} (h : InS.Ok w 1 (fun b => [f b]) pr s) : Src w [] s.A s.l.length 1 (s.l.map f) := by
  have e : s.l.flatMap (fun b => [f b]) = s.l.map f := by
    induction s.l with
    | nil => rfl
    | cons b r ih => simp [ih]
  rw [← e]; exact h.1

theorem cellsOf_eq {e sz : Nat} [hs : SizeIs P e sz] (w : World) : P.cellsOf e = sz := by
  have h := hs.run w
  unfold sizeOf typeInfo at h
  simp only [Sem.run_bind, run_program, Result.andThen_ok] at h
  unfold Program.cellsOf
  cases hi : P.info? e with
  | none => rw [hi] at h; simp [stuck, Sem.run, Result.andThen] at h
  | some i => rw [hi] at h; simpa using h

theorem Dec.slice {e sz : Nat} {α : Type} {enc : α → List Value} {pr : α → Prop} [u : UndIs P t (.slice e)] [us : SizeIs P e sz] (hd : Dec P w e enc pr) (hsz : 0 < sz) :
    Dec P w t (InS.val (α := α)) (InS.Ok w sz enc pr) := fun H en base fuel cs x h => by
  have hce : P.cellsOf e = sz := cellsOf_eq w
  rcases DataW.trod_slice u.eq h with ⟨rfl, _⟩ | ⟨a, len, cap, elems, rest, n, _, rfl, _, hb, hl, hm, hlen, hel, _, _⟩
  · exact ⟨⟨none, 0, []⟩, rfl, ⟨by simp, by simp⟩, by simp, by simp, by simp, by simp⟩
  · have hex : ∀ i, i < len → ∃ b : α, w.cells? base (a.add (i * sz)) sz = some (enc b) ∧ pr b := fun i hi => by
      have h1 := hel i hi
      rw [hce] at h1
      have h2 : i < elems.length := by omega
      rw [List.getElem?_eq_getElem h2] at h1
      obtain ⟨cs', h3, h4⟩ := Option.bind_eq_some_iff.1 h1
      obtain ⟨b, rfl, hp⟩ := hd _ _ _ _ _ _ h4
      exact ⟨b, h3, hp⟩
    have hlist : ∀ k, k ≤ len → ∃ l : List α, l.length = k ∧ ∀ i b, l[i]? = some b → w.cells? base (a.add (i * sz)) sz = some (enc b) ∧ pr b := by
      intro k
      induction k with
      | zero => intro _; exact ⟨[], rfl, by simp⟩
      | succ k ih =>
        intro hk
        obtain ⟨l, h1, h2⟩ := ih (by omega)
        obtain ⟨b, h3⟩ := hex k (by omega)
        refine ⟨l ++ [b], by simp [h1], fun i c hc => ?_⟩
        by_cases hi : i < l.length
        · rw [List.getElem?_append_left hi] at hc; exact h2 i c hc
        · by_cases hi2 : i = l.length
          · subst hi2
            simp at hc
            subst hc
            rw [h1]; exact h3
          · rw [List.getElem?_eq_none (by simp; omega)] at hc; cases hc
    obtain ⟨l, hll, hget⟩ := hlist len (Nat.le_refl _)
    have hlenb : ∀ b ∈ l, (enc b).length = sz := fun b hb' => by
      obtain ⟨i, hi⟩ := List.mem_iff_getElem?.1 hb'
      exact (World.cells?_some (hget i b hi).1).2.1
    have hfl : ∀ l : List α, (∀ b ∈ l, (enc b).length = sz) → (l.flatMap enc).length = l.length * sz := by
      intro l
      induction l with
      | nil => simp
      | cons b r ih => intro h; simp only [List.flatMap_cons, List.length_append, List.length_cons, h b List.mem_cons_self, ih (fun c hc => h c (List.mem_cons_of_mem _ hc)), Nat.add_mul]; omega
    have hflg : ∀ (l : List α), (∀ b ∈ l, (enc b).length = sz) → ∀ k v, (l.flatMap enc)[k]? = some v → ∃ b, l[k / sz]? = some b ∧ (enc b)[k % sz]? = some v := by
      intro l
      induction l with
      | nil => intro _ k v h; simp at h
      | cons b r ih =>
        intro h k v hv
        simp only [List.flatMap_cons] at hv
        have hb1 := h b List.mem_cons_self
        by_cases hk : k < sz
        · rw [List.getElem?_append_left (by omega)] at hv
          exact ⟨b, by rw [Nat.div_eq_of_lt hk]; rfl, by rw [Nat.mod_eq_of_lt hk]; exact hv⟩
        · rw [List.getElem?_append_right (by omega), hb1] at hv
          obtain ⟨c, h1, h2⟩ := ih (fun c hc => h c (List.mem_cons_of_mem _ hc)) _ _ hv
          have e1 : k / sz = (k - sz) / sz + 1 := by
            rw [Nat.div_eq_sub_div hsz (by omega)]
          refine ⟨c, by rw [e1]; simpa using h1, ?_⟩
          rw [Nat.mod_eq_sub_mod (by omega)]
          exact h2
    refine ⟨⟨some a, cap, l⟩, by simp [InS.val, hll], ⟨?_, ?_⟩, by simp only [hll]; exact hl, hm, fun b hb' => ?_, hlenb⟩
    · exact hfl l hlenb
    · intro h0
      refine ⟨a, rfl, fun k v hv => ?_⟩
      obtain ⟨b, h1, h2⟩ := hflg l hlenb k v hv
      have h3 := World.cells?_some (hget _ b h1).1
      have h4 := h3.2.2 (k % sz) (Nat.mod_lt _ hsz)
      rw [h2, add_add] at h4
      rw [show k / sz * sz + k % sz = k by rw [Nat.mul_comm]; exact Nat.div_add_mod k sz] at h4
      exact .base (World.block_lt_of_cell? _ _ h4) h4
    · obtain ⟨i, hi⟩ := List.mem_iff_getElem?.1 hb'
      exact (hget i b hi).2

/-! ### structs: field by field -/
/-- fields from cell off on -/
inductive DecF (P : Program) (w : World) : (off : Nat) → (fs : List Field) → {α : Type} → (α → List Value) → (α → Prop) → (total : Nat) → Prop where
  | nil {off : Nat} : DecF P w off [] (fun _ : Unit => []) (fun _ => True) off
  | cons {off sz total : Nat} {f : Field} {fs : List Field} {α β : Type} {enc : α → List Value} {pr : α → Prop} {enc' : β → List Value} {pr' : β → Prop} (ho : f.offset = off) (hs : P.cellsOf f.type = sz) :
      Dec P w f.type enc pr → DecF P w (off + sz) fs enc' pr' total → DecF P w off (f :: fs) (fun x : α × β => enc x.1 ++ enc' x.2) (fun x => pr x.1 ∧ pr' x.2) total

theorem Dec.struct {fs : List Field} {α : Type} {enc : α → List Value} {pr : α → Prop} {total : Nat} [u : UndIs P t (.struct fs.toArray)] (hd : DecF P w 0 fs enc pr total) (ht : P.cellsOf t = total) : Dec P w t enc pr := fun H en base fuel cs x h => by
  obtain ⟨xs, n, _, _, hl, hxl, hf⟩ := DataW.trod_struct u.eq h
  rw [ht] at hl
  have key : ∀ (off : Nat) (gs : List Field) {β : Type} {en2 : β → List Value} {pr2 : β → Prop} {tot : Nat}, DecF P w off gs en2 pr2 tot → cs.length = tot →
      (∀ f ∈ gs, ∃ y, DataW.trod en P w base (fun _ => true) true n f.type ((cs.drop f.offset).take (P.cellsOf f.type)) = some y) → off ≤ cs.length ∧ ∃ b, cs.drop off = en2 b ∧ pr2 b := by
    intro off gs β en2 pr2 tot hd
    induction hd with
    | nil => intro htot _; exact ⟨by omega, (), by simp [htot], trivial⟩
    | @cons off sz total f fs α β enc pr enc' pr' ho hs h1 h2 ih =>
      intro htot hr
      obtain ⟨y, hy⟩ := hr f List.mem_cons_self
      obtain ⟨a, ha, hpa⟩ := h1 _ _ _ _ _ _ hy
      obtain ⟨hle, b, hb, hpb⟩ := ih htot (fun g hg => hr g (List.mem_cons_of_mem _ hg))
      rw [ho, hs] at ha
      refine ⟨by omega, (a, b), ?_, hpa, hpb⟩
      show cs.drop off = enc a ++ enc' b
      rw [← ha, ← hb, ← List.drop_drop, List.take_append_drop]
  obtain ⟨_, b, hb, hp⟩ := key 0 fs hd hl (fun f hf' => by
    obtain ⟨i, hi⟩ := List.mem_iff_getElem?.1 hf'
    have h1 := hf i f (by simpa using hi)
    have h2 : i < xs.length := by
      rw [hxl]
      rcases Nat.lt_or_ge i fs.length with h | h
      · simpa using h
      · rw [List.getElem?_eq_none h] at hi; cases hi
    rw [List.getElem?_eq_getElem h2] at h1
    exact ⟨_, h1⟩)
  exact ⟨b, by simpa using hb, hp⟩

/-- an argument of a type that is no struct -/
theorem Dec.arg1 {H : Type} {en : TypeId × Value → H} {α : Type} {enc : α → List Value} {pr : α → Prop} {v : Value} {d : DataW H} {ps : List MemPlace} {base : Nat} (hd : Dec P w t enc pr) (ht : DataW.Trod en P w base (fun _ => true) true t v d ps) (hone : ∀ a, ∃ u, enc a = [u]) (hv : v.cells = #[v]) :
    ∃ a, enc a = [v] ∧ pr a := by
  obtain ⟨fuel, h⟩ := ht
  obtain ⟨a, ha, hp⟩ := hd _ _ _ _ _ _ h
  rw [hv] at ha
  exact ⟨a, ha.symm, hp⟩
theorem Dec.argB {H : Type} {en : TypeId × Value → H} {v : Value} {d : DataW H} {ps : List MemPlace} {base b0 : Nat} {r : Reach} [u : UndIs P t .bool] (hval : Value.okWide P w r b0 t v) (_ : DataW.Trod en P w base (fun _ => true) true t v d ps) : ∃ b, v = .bool b := okWide_bool u.eq hval
theorem Dec.argI {H : Type} {en : TypeId × Value → H} {k : IntKind} {v : Value} {d : DataW H} {ps : List MemPlace} {base b0 : Nat} {r : Reach} [u : UndIs P t (.int k)] (hval : Value.okWide P w r b0 t v) (ht : DataW.Trod en P w base (fun _ => true) true t v d ps) : ∃ n, v = .int k n ∧ k.min ≤ n ∧ n ≤ k.max := by
  obtain ⟨n, rfl⟩ := okWide_int u.eq hval
  obtain ⟨fuel, h⟩ := ht
  obtain ⟨m, hm, hp⟩ := (Dec.int (k := k)) _ _ _ _ _ _ h
  simp [Value.cells] at hm
  subst hm
  exact ⟨n, rfl, hp⟩
theorem Dec.argS {H : Type} {en : TypeId × Value → H} {e sz : Nat} {α : Type} {enc : α → List Value} {pr : α → Prop} {v : Value} {d : DataW H} {ps : List MemPlace} {base b0 : Nat} {r : Reach} [u : UndIs P t (.slice e)] [us : SizeIs P e sz] (hval : Value.okWide P w r b0 t v) (ht : DataW.Trod en P w base (fun _ => true) true t v d ps)
    (hd : Dec P w e enc pr) (hsz : 0 < sz) : ∃ s : InS α, v = .slice s.A s.l.length s.cap ∧ InS.Ok w sz enc pr s := by
  obtain ⟨a, len, cap, rfl⟩ := okWide_slice u.eq hval
  obtain ⟨fuel, h⟩ := ht
  obtain ⟨s, hm, hp⟩ := (Dec.slice hd hsz) _ _ _ _ _ _ h
  simp only [Value.cells, InS.val, List.cons.injEq, and_true] at hm
  exact ⟨s, hm, hp⟩
theorem Dec.argA {H : Type} {en : TypeId × Value → H} {fs : List Field} {α : Type} {enc : α → List Value} {pr : α → Prop} {total : Nat} {v : Value} {d : DataW H} {ps : List MemPlace} {base b0 : Nat} {r : Reach} [u : UndIs P t (.struct fs.toArray)]
    (hval : Value.okWide P w r b0 t v) (ht : DataW.Trod en P w base (fun _ => true) true t v d ps) (hd : DecF P w 0 fs enc pr total) (hs : P.cellsOf t = total) : ∃ a, v = .agg (enc a).toArray ∧ pr a := by
  obtain ⟨cs, rfl, _⟩ := okWide_struct u.eq hval
  obtain ⟨fuel, h⟩ := ht
  obtain ⟨a, ha, hp⟩ := (Dec.struct hd hs) _ _ _ _ _ _ h
  refine ⟨a, ?_, hp⟩
  rw [← ha]
  simp [Value.cells]
end
end Go.Sep
