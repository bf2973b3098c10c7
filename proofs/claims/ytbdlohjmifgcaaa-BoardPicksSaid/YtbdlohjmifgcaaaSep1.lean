/- A small logic of memory over the kit's 'Calls': what is known of a world is a list of blocks of the call's own above a base world that is only read. No project text. -/
import Derived.WalkKit
import Derived.OrdersHeld
set_option linter.unusedSimpArgs false
set_option linter.unusedVariables false
namespace Go.Sep
open Go.RowKit

/-- What a block of the call's own holds. -/
inductive Blk where
  | cells (cs : List Value) (t : TypeId) (fz : Nat × Nat)
  | obj (o : Obj)

def Blk.toObj : Blk → Obj
  | .cells cs t fz => .cells cs.toArray t fz
  | .obj o => o

abbrev Own := List (Nat × Blk)
abbrev Env := List (Nat × Value)

/-- World w keeps the base, and holds the blocks h, each at its number. -/
structure Models (B : World) (h : Own) (w : World) : Prop where
  below : Below B.heap.size B w
  nodup : (h.map (·.1)).Nodup
  ge : ∀ p ∈ h, B.heap.size ≤ p.1
  at_ : ∀ p ∈ h, w.heap[p.1]? = some p.2.toObj

theorem Models.start (w : World) : Models w [] w := ⟨Below.refl _ _, by simp, by simp, by simp⟩

theorem Models.lt {B : World} {h : Own} {w : World} (m : Models B h w) {p : Nat × Blk} (hp : p ∈ h) : p.1 < w.heap.size := by
  have := m.at_ p hp
  rcases Nat.lt_or_ge p.1 w.heap.size with h' | h'
  · exact h'
  · rw [Array.getElem?_eq_none h'] at this; cases this

theorem Models.drew {B : World} {h : Own} {w : World} (m : Models B h w) : Models B h w.drew := ⟨m.below.drew, m.nodup, m.ge, m.at_⟩

theorem Models.perm {B : World} {h h' : Own} {w : World} (m : Models B h w) (p : h.Perm h') : Models B h' w :=
  ⟨m.below, (p.map _).nodup_iff.1 m.nodup, fun x hx => m.ge x (p.mem_iff.2 hx), fun x hx => m.at_ x (p.mem_iff.2 hx)⟩

theorem Models.sub {B : World} {h h' : Own} {w : World} (m : Models B h w) (s : h'.Sublist h) : Models B h' w :=
  ⟨m.below, (s.map _).nodup m.nodup, fun x hx => m.ge x (s.mem hx), fun x hx => m.at_ x (s.mem hx)⟩

/-- A number that no block of what is known has. -/
def Fresh (B : World) (h : Own) (b : Nat) : Prop := B.heap.size ≤ b ∧ ∀ p ∈ h, p.1 ≠ b

theorem Models.fresh {B : World} {h : Own} {w : World} (m : Models B h w) : Fresh B h w.heap.size :=
  ⟨m.below.size, fun p hp e => by have := m.lt hp; omega⟩

theorem Models.alloc {B : World} {h : Own} {w : World} (m : Models B h w) (k : Blk) : Models B ((w.heap.size, k) :: h) (w.alloc k.toObj) := by
  refine ⟨m.below.alloc m.below.size _, ?_, ?_, ?_⟩
  · simp only [List.map_cons, List.nodup_cons]
    refine ⟨fun hm => ?_, m.nodup⟩
    obtain ⟨p, hp, e⟩ := List.mem_map.1 hm
    exact (m.fresh.2 p hp) e
  · intro p hp
    rcases List.mem_cons.1 hp with rfl | hp
    · exact m.below.size
    · exact m.ge p hp
  · intro p hp
    rcases List.mem_cons.1 hp with rfl | hp
    · exact heap_alloc_new w _
    · exact (Below.heap_alloc w _ _ (m.lt hp)).trans (m.at_ p hp)

/-- h' is h with block b's content o turned into o'. -/
inductive Upd : Own → Nat → Blk → Blk → Own → Prop where
  | head {b : Nat} {o o' : Blk} {r : Own} : Upd ((b, o) :: r) b o o' ((b, o') :: r)
  | tail {b : Nat} {o o' : Blk} {x : Nat × Blk} {r r' : Own} : Upd r b o o' r' → Upd (x :: r) b o o' (x :: r')

theorem Upd.mem {h h' : Own} {b : Nat} {o o' : Blk} (u : Upd h b o o' h') : (b, o) ∈ h := by
  induction u with
  | head => exact List.mem_cons_self
  | tail _ ih => exact List.mem_cons_of_mem _ ih

theorem Upd.keys {h h' : Own} {b : Nat} {o o' : Blk} (u : Upd h b o o' h') : h'.map (·.1) = h.map (·.1) := by
  induction u with
  | head => rfl
  | tail _ ih => simp [ih]

theorem Upd.mem' {h h' : Own} {b : Nat} {o o' : Blk} (u : Upd h b o o' h') (hn : (h.map (·.1)).Nodup) : ∀ p ∈ h', p = (b, o') ∨ (p ∈ h ∧ p.1 ≠ b) := by
  induction u with
  | head =>
    intro p hp
    rcases List.mem_cons.1 hp with rfl | hp
    · exact .inl rfl
    · refine .inr ⟨List.mem_cons_of_mem _ hp, fun e => ?_⟩
      simp only [List.map_cons, List.nodup_cons] at hn
      exact hn.1 (List.mem_map.2 ⟨p, hp, e⟩)
  | @tail b o o' x r r' u ih =>
    simp only [List.map_cons, List.nodup_cons] at hn
    intro p hp
    rcases List.mem_cons.1 hp with rfl | hp
    · refine .inr ⟨List.mem_cons_self, fun e => hn.1 (List.mem_map.2 ⟨_, u.mem, e.symm⟩)⟩
    · rcases ih hn.2 p hp with h | ⟨h, h2⟩
      · exact .inl h
      · exact .inr ⟨List.mem_cons_of_mem _ h, h2⟩

/-- A world that differs from w in block b alone. -/
theorem Models.upd {B : World} {h h' : Own} {w w' : World} {b : Nat} {o o' : Blk} (m : Models B h w) (u : Upd h b o o' h')
    (hos : w'.os = w.os) (htape : w'.tape = w.tape) (hout : w'.output = w.output) (hsz : w'.heap.size = w.heap.size)
    (hb : w'.heap[b]? = some o'.toObj) (hr : ∀ k, k ≠ b → w'.heap[k]? = w.heap[k]?) : Models B h' w' := by
  have hge := m.ge _ u.mem
  refine ⟨m.below.trans ⟨hos, htape, hout, by omega, fun k hk => hr k (by simp at hge; omega)⟩, by rw [u.keys]; exact m.nodup, ?_, ?_⟩
  · intro p hp
    rcases u.mem' m.nodup p hp with rfl | ⟨h1, _⟩
    · exact hge
    · exact m.ge p h1
  · intro p hp
    rcases u.mem' m.nodup p hp with rfl | ⟨h1, h2⟩
    · exact hb
    · rw [hr _ h2]; exact m.at_ p h1

/-! ### reading -/
def nth : List Value → Nat → Option Value
  | [], _ => none
  | v :: _, 0 => some v
  | _ :: r, n + 1 => nth r n

theorem nth_eq (l : List Value) (n : Nat) : nth l n = l[n]? := by
  induction l generalizing n with
  | nil => simp [nth]
  | cons v r ih => cases n <;> simp [nth, ih]

def setNth : List Value → Nat → Value → List Value
  | [], _, _ => []
  | _ :: r, 0, u => u :: r
  | v :: r, n + 1, u => v :: setNth r n u

theorem setNth_eq (l : List Value) (n : Nat) (u : Value) : setNth l n u = l.set n u := by
  induction l generalizing n with
  | nil => simp [setNth]
  | cons v r ih => cases n <;> simp [setNth, ih]

/-- What is known of the cell at p: it lies in the base, or in a block of the own list. -/
inductive Rd (B : World) (h : Own) : Addr → Value → Prop where
  | base {p : Addr} {v : Value} : p.block < B.heap.size → B.cell? p = some v → Rd B h p v
  | own {b off : Nat} {cs : List Value} {t : TypeId} {fz : Nat × Nat} {v : Value} : (b, .cells cs t fz) ∈ h → nth cs off = some v → Rd B h ⟨b, off, none⟩ v

theorem Models.cell {B : World} {h : Own} {w : World} {p : Addr} {v : Value} (m : Models B h w) (r : Rd B h p v) : w.cell? p = some v := by
  cases r with
  | base hb hc => rw [m.below.cell hb]; exact hc
  | own hm hn =>
    have := m.at_ _ hm
    rw [nth_eq] at hn
    simp [World.cell?, this, Blk.toObj, hn]

theorem Rd.mono {B : World} {h h' : Own} {p : Addr} {v : Value} (r : Rd B h p v) (hs : ∀ x ∈ h, x ∈ h') : Rd B h' p v := by
  cases r with
  | base hb hc => exact .base hb hc
  | own hm hn => exact .own (hs _ hm) hn

/-- what may be relied on while blocks of the list M may turn -/
def Held (B : World) (h : Own) (M : List Nat) (w : World) : Prop :=
  (∀ b, b < B.heap.size → w.heap[b]? = B.heap[b]?) ∧ ∀ x ∈ h, x.1 ∉ M → w.heap[x.1]? = some x.2.toObj

theorem Models.held {B : World} {h : Own} {w : World} (m : Models B h w) (M : List Nat) : Held B h M w := ⟨m.below.block, fun x hx _ => m.at_ x hx⟩

theorem Held.cell {B : World} {h : Own} {M : List Nat} {w : World} {p : Addr} {v : Value} (m : Held B h M w) (r : Rd B h p v) (hp : p.block ∉ M) : w.cell? p = some v := by
  cases r with
  | base hb hc => rw [World.cell?_of_block (w := B) (m.1 _ hb)]; exact hc
  | own hm hn =>
    have := m.2 _ hm hp
    rw [nth_eq] at hn
    simp [World.cell?, this, Blk.toObj, hn]

theorem Held.mono {B : World} {h h' : Own} {M M' : List Nat} {w : World} (m : Held B h' M' w) (hs : ∀ x ∈ h, x.1 ∉ M → x ∈ h' ∧ x.1 ∉ M') : Held B h M w :=
  ⟨m.1, fun x hx hM => m.2 x (hs x hx hM).1 (hs x hx hM).2⟩

/-! ### the state of a walk -/
def lk : Env → Nat → Option Value
  | [], _ => none
  | (t', v) :: r, t => bif Nat.beq t' t then some v else lk r t

def ev (e : Env) : Operand → Option Value
  | .tmp t => lk e t
  | .const v => some v
  | .global g => some (.pointer (some ⟨g, 0, none⟩))
  | .func f => some (.func (.func f) #[] #[])

structure Agree (n : Nat) (e : Env) (a : Act) : Prop where
  defers : a.defers = []
  size : a.tmps.size = n
  at_ : ∀ t v, lk e t = some v → a.tmps[t]? = some v

theorem Agree.eval {n : Nat} {e : Env} {a : Act} (g : Agree n e a) {x : Operand} {v : Value} (h : ev e x = some v) : a.eval x = v := by
  cases x with
  | tmp t => have := g.at_ t v h; simp [Act.eval, this]
  | const c => simpa [ev, Act.eval] using h
  | global c => simpa [ev, Act.eval] using h
  | func c => simpa [ev, Act.eval] using h

/-- the environment with v in slot d -/
def putE (e : Env) : Option Tmp → Value → Env
  | some d, v => (d, v) :: e
  | none, _ => e

def dstOk (n : Nat) : Option Tmp → Bool
  | some d => Nat.blt d n
  | none => true

theorem Agree.put {n : Nat} {e : Env} {a : Act} (g : Agree n e a) {d : Option Tmp} {v : Value} (hd : dstOk n d = true) : Agree n (putE e d v) (a.put d v) := by
  cases d with
  | none => exact g
  | some d =>
    simp only [dstOk] at hd
    have hd : d < n := by simpa using hd
    refine ⟨g.defers, by simpa [Act.put] using g.size, fun t u hu => ?_⟩
    simp only [putE, lk] at hu
    cases hb : Nat.beq d t with
    | true =>
      have : d = t := Nat.eq_of_beq_eq_true hb
      subst this
      simp at hu
      subst hu
      simp [Act.put, g.size, hd]
    | false =>
      have : d ≠ t := fun e => by subst e; simp at hb
      simp [hb] at hu
      simp [Act.put, Array.getElem?_setIfInBounds_ne this, g.at_ t u hu]

/-- E's slots stand in e -/
def SubE : Env → Env → Prop
  | [], _ => True
  | (t, v) :: r, e => lk e t = some v ∧ SubE r e

theorem SubE.nil {e : Env} : SubE [] e := trivial
theorem SubE.cons {t : Nat} {v : Value} {r e : Env} (h1 : Sep.lk e t = some v) (h2 : SubE r e) : SubE ((t, v) :: r) e := ⟨h1, h2⟩

theorem SubE.lk {E e : Env} (s : SubE E e) {t : Nat} {v : Value} (h : Sep.lk E t = some v) : Sep.lk e t = some v := by
  induction E with
  | nil => cases h
  | cons p r ih =>
    obtain ⟨t', u⟩ := p
    simp only [Sep.lk] at h
    cases hb : Nat.beq t' t with
    | true => simp [hb] at h; subst h; have := Nat.eq_of_beq_eq_true hb; subst this; exact s.1
    | false => simp [hb] at h; exact ih s.2 h

theorem Agree.sub {n : Nat} {E e : Env} {a : Act} (g : Agree n e a) (s : SubE E e) : Agree n E a := ⟨g.defers, g.size, fun t v h => g.at_ t v (s.lk h)⟩

/-! ### contracts -/
structure Tri (P : Program) (B : World) (f : FuncId) (args : List Value) (h : Own) (R : Value → Own → Prop) : Prop where
  run : ∀ w, Models B h w → Calls P f args.toArray w fun e w' => ∃ v h', e = .returned v ∧ Models B h' w' ∧ R v h'

theorem Tri.mono {P : Program} {B : World} {f : FuncId} {args : List Value} {h : Own} {R R' : Value → Own → Prop} (t : Tri P B f args h R) (hr : ∀ v h', R v h' → R' v h') : Tri P B f args h R' :=
  ⟨fun w m => (t.run w m).mono fun _ _ ⟨v, h', e, m', r⟩ => ⟨v, h', e, m', hr _ _ r⟩⟩

theorem Tri.perm {P : Program} {B : World} {f : FuncId} {args : List Value} {h h2 : Own} {R : Value → Own → Prop} (p : h.Perm h2) (t : Tri P B f args h2 R) : Tri P B f args h R :=
  ⟨fun w m => t.run w (m.perm p)⟩

def baseFrame (f : FuncId) : Frame := { (default : Frame) with fn := f, kind := .normal }

/-- found by the instances: what block b holds; h with b's content turned; a part of h -/
class AtO (h : Own) (b : Nat) (cs : outParam (List Value)) (t : outParam TypeId) (fz : outParam (Nat × Nat)) : Prop where mem : (b, Blk.cells cs t fz) ∈ h
instance (priority := 2000) AtO.head {b : Nat} {cs : List Value} {t : TypeId} {fz : Nat × Nat} {r : Own} : AtO ((b, .cells cs t fz) :: r) b cs t fz := ⟨List.mem_cons_self⟩
instance (priority := 1000) AtO.tail {b : Nat} {cs : List Value} {t : TypeId} {fz : Nat × Nat} {x : Nat × Blk} {r : Own} [i : AtO r b cs t fz] : AtO (x :: r) b cs t fz := ⟨List.mem_cons_of_mem _ i.mem⟩
instance (priority := 900) AtO.app {b : Nat} {cs : List Value} {t : TypeId} {fz : Nat × Nat} {p r : Own} [i : AtO r b cs t fz] : AtO (p ++ r) b cs t fz := ⟨List.mem_append_right _ i.mem⟩
class UpO (h : Own) (b : Nat) (cs : outParam (List Value)) (t : outParam TypeId) (cs' : List Value) (h' : outParam Own) : Prop where upd : Upd h b (.cells cs t (0, 0)) (.cells cs' t (0, 0)) h'
instance (priority := 2000) UpO.head {b : Nat} {cs cs' : List Value} {t : TypeId} {r : Own} : UpO ((b, .cells cs t (0, 0)) :: r) b cs t cs' ((b, .cells cs' t (0, 0)) :: r) := ⟨.head⟩
instance (priority := 1000) UpO.tail {b : Nat} {cs cs' : List Value} {t : TypeId} {x : Nat × Blk} {r r' : Own} [i : UpO r b cs t cs' r'] : UpO (x :: r) b cs t cs' (x :: r') := ⟨.tail i.upd⟩
theorem Upd.app {b : Nat} {o o' : Blk} {p r r' : Own} (u : Upd r b o o' r') : Upd (p ++ r) b o o' (p ++ r') := by
  induction p with
  | nil => exact u
  | cons x p ih => exact .tail ih
instance (priority := 900) UpO.app {b : Nat} {cs cs' : List Value} {t : TypeId} {p r r' : Own} [i : UpO r b cs t cs' r'] : UpO (p ++ r) b cs t cs' (p ++ r') := ⟨.app i.upd⟩
class SubO (h' h : Own) : Prop where sub : h'.Sublist h
instance (priority := 2000) SubO.refl {h : Own} : SubO h h := ⟨List.Sublist.refl _⟩
instance (priority := 1500) SubO.both {x : Nat × Blk} {h' h : Own} [i : SubO h' h] : SubO (x :: h') (x :: h) := ⟨.cons_cons _ i.sub⟩
instance (priority := 900) SubO.app {p h' h : Own} [i : SubO h' h] : SubO h' (p ++ h) := ⟨i.sub.trans (List.sublist_append_right _ _)⟩
instance (priority := 1000) SubO.cons {x : Nat × Blk} {h' h : Own} [i : SubO h' h] : SubO h' (x :: h) := ⟨.cons _ i.sub⟩

/-- From the middle of a frame: the items k lie ahead; at the end R holds of what is returned. -/
structure AK (P : Program) (B : World) (f n : Nat) (R : Value → Own → Prop) (k : List Item) (e : Env) (h : Own) : Prop where
  run : ∀ a w, Agree n e a → Models B h w → ∀ cs, ∃ en w' fr, (∃ v h', en = .returned v ∧ Models B h' w' ∧ R v h') ∧
    Comes P (lone ((baseFrame f).at a k) cs w) (lone fr cs w') en ∧ fr.fn = f ∧ fr.leaving P w' en

section
variable {P : Program} {B : World} {f n : Nat} {R : Value → Own → Prop} {k : List Item} {e : Env} {h : Own}

theorem AK.step {k' : List Item} (hs : ∀ a w, Agree n e a → ∀ cs, step P (lone ((baseFrame f).at a k) cs w) = .next (lone ((baseFrame f).at a k') cs w)) (hk : AK P B f n R k' e h) : AK P B f n R k e h :=
  ⟨fun a w g m cs => by
    obtain ⟨en, w', fr, r, c, q⟩ := hk.run a w g m cs
    exact ⟨en, w', fr, r, c.of_steps (.one (hs a w g cs)), q⟩⟩

theorem AK.seq {x y : Code} (hk : AK P B f n R (.code x :: .code y :: k) e h) : AK P B f n R (.code (.seq x y) :: k) e h := hk.step fun _ _ _ _ => step_seq
theorem AK.skip (hk : AK P B f n R k e h) : AK P B f n R (.code .skip :: k) e h := hk.step fun _ _ _ _ => step_skip
theorem AK.block {id : Nat} {c : Code} (hk : AK P B f n R (.code c :: .inBlock id :: k) e h) : AK P B f n R (.code (.block id c) :: k) e h := hk.step fun _ _ _ _ => step_block
theorem AK.inBlock {id : Nat} (hk : AK P B f n R k e h) : AK P B f n R (.inBlock id :: k) e h := hk.step fun _ _ _ _ => step_inBlock
theorem AK.loop1 {c : Code} (hk : AK P B f n R (.code c :: .inLoop c :: k) e h) : AK P B f n R (.code (.loop c) :: k) e h := hk.step fun _ _ _ _ => step_loop
theorem AK.inLoop1 {c : Code} (hk : AK P B f n R (.code c :: .inLoop c :: k) e h) : AK P B f n R (.inLoop c :: k) e h := hk.step fun _ _ _ _ => step_inLoop
theorem AK.exit {id : Nat} {k' : List Item} (hx : exitTo id k = some k') (hk : AK P B f n R k' e h) : AK P B f n R (.code (.exit id) :: k) e h := hk.step fun _ _ _ _ => step_exit hx

theorem AK.cond {c : Operand} {x y : Code} {t : Bool} (hc : ev e c = some (.bool t)) (h1 : t = true → AK P B f n R (.code x :: k) e h) (h2 : t = false → AK P B f n R (.code y :: k) e h) :
    AK P B f n R (.code (.cond c x y) :: k) e h := by
  cases t with
  | true => exact (h1 rfl).step fun a w g cs => by rw [step_cond (g.eval hc)]; rfl
  | false => exact (h2 rfl).step fun a w g cs => by rw [step_cond (g.eval hc)]; rfl

theorem AK.condT {c : Operand} {x y : Code} (hc : ev e c = some (.bool true)) (hk : AK P B f n R (.code x :: k) e h) : AK P B f n R (.code (.cond c x y) :: k) e h :=
  hk.step fun a w g cs => by rw [step_cond (g.eval hc)]; rfl
theorem AK.condF {c : Operand} {x y : Code} (hc : ev e c = some (.bool false)) (hk : AK P B f n R (.code y :: k) e h) : AK P B f n R (.code (.cond c x y) :: k) e h :=
  hk.step fun a w g cs => by rw [step_cond (g.eval hc)]; rfl

theorem AK.weak {e' : Env} {h' : Own} (se : SubE e' e) (sh : h'.Sublist h) (hk : AK P B f n R k e' h') : AK P B f n R k e h :=
  ⟨fun a w g m cs => hk.run a w (g.sub se) (m.sub sh) cs⟩

theorem AK.perm {h' : Own} (p : h.Perm h') (hk : AK P B f n R k e h') : AK P B f n R k e h := ⟨fun a w g m cs => hk.run a w g (m.perm p) cs⟩

/-- slot d holds a truth value: part by it -/
theorem AK.case {d : Nat} {t : Bool} (hd : lk e d = some (.bool t)) (h1 : t = true → AK P B f n R k ((d, .bool true) :: e) h) (h2 : t = false → AK P B f n R k ((d, .bool false) :: e) h) : AK P B f n R k e h := by
  have hs : ∀ b, t = b → SubE [] e → ∀ a, Agree n e a → Agree n ((d, .bool b) :: e) a := fun b hb _ a g => ⟨g.defers, g.size, fun u v hu => by
    simp only [lk] at hu
    cases hx : Nat.beq d u with
    | true => simp [hx] at hu; have := Nat.eq_of_beq_eq_true hx; subst this; subst hu; subst hb; exact g.at_ _ _ hd
    | false => simp [hx] at hu; exact g.at_ _ _ hu⟩
  cases t with
  | true => exact ⟨fun a w g m cs => (h1 rfl).run a w (hs true rfl trivial a g) m cs⟩
  | false => exact ⟨fun a w g m cs => (h2 rfl).run a w (hs false rfl trivial a g) m cs⟩

/-- A loop: its rounds begin in states that an index x describes; each round ends in one of smaller measure, or leaves. -/
theorem AK.loop {α : Type} {c : Code} (E : α → Env) (H : α → Own) (Inv : α → Prop) (μ : α → Nat) (x : α) (hi : Inv x) (se : SubE (E x) e) (sh : (H x).Sublist h)
    (hstep : ∀ y, Inv y → (∀ z, Inv z → μ z < μ y → AK P B f n R (.inLoop c :: k) (E z) (H z)) → AK P B f n R (.code c :: .inLoop c :: k) (E y) (H y)) :
    AK P B f n R (.code (.loop c) :: k) e h := by
  have key : ∀ m y, μ y = m → Inv y → AK P B f n R (.code c :: .inLoop c :: k) (E y) (H y) := by
    intro m
    induction m using Nat.strongRecOn with
    | ind m ih =>
      intro y hy hI
      exact hstep y hI fun z hz hlt => AK.inLoop1 (ih (μ z) (by omega) z rfl hz)
  exact AK.loop1 (AK.weak se sh (key _ x rfl hi))

/-- the results, as the frame's slots and memory give them -/
inductive Res (P : Program) (B : World) (h : Own) (e : Env) : List ResultVar → List Value → Prop where
  | nil : Res P B h e [] []
  | tmp {t : Tmp} {v : Value} {r : List ResultVar} {vs : List Value} : lk e t = some v → Res P B h e r vs → Res P B h e (.tmp t :: r) (v :: vs)
  | cell {t : Tmp} {p : Addr} {ty : TypeId} {v : Value} {r : List ResultVar} {vs : List Value} : lk e t = some (.pointer (some p)) →
      (∀ w, Models B h w → (loadVar ty p).run P w = .ok v w) → Res P B h e r vs → Res P B h e (.cell t ty :: r) (v :: vs)

def oneOr : List Value → Value
  | [v] => v
  | vs => .tuple vs.toArray

def resSem (tmps : Array Value) : ResultVar → Sem Value
  | .tmp t => pure (tmps.getD t undef)
  | .cell a t => do loadVar t (← asAddr (tmps.getD a undef))

theorem run_resSem {a : Act} {w : World} (g : Agree n e a) (m : Models B h w) : ∀ (l : List ResultVar) (vs : List Value), Res P B h e l vs → (l.mapM (resSem a.tmps)).run P w = .ok vs w := by
  intro l
  induction l with
  | nil => intro vs r; cases r; simp
  | cons x l ih =>
    intro vs r
    cases r with
    | tmp ht hr => have := g.at_ _ _ ht; simp [List.mapM_cons, ih _ hr, resSem, this]
    | cell ht hl hr => have := g.at_ _ _ ht; simp [List.mapM_cons, ih _ hr, resSem, this, asAddr, hl w m]

theorem results_of {fn : Func} {vs : List Value} {a : Act} {w : World} (g : Agree n e a) (m : Models B h w) (r : Res P B h e fn.results.toList vs) :
    (results fn a.tmps).run P w = .ok (oneOr vs) w := by
  have h1 := run_resSem g m _ _ r
  have h2 : results fn a.tmps = (do let vs ← fn.results.mapM (resSem a.tmps); pure (if h : vs.size = 1 then vs[0] else .tuple vs)) := by
    unfold results
    congr
  rw [h2, Array.mapM_eq_mapM_toList]
  have h3 : (Functor.map List.toArray (fn.results.toList.mapM (resSem a.tmps))).run P w = .ok vs.toArray w := by simp [h1]
  rw [Sem.run_bind, h3]
  match vs with
  | [] => simp [oneOr]
  | [v] => simp [oneOr]
  | v :: u :: r => simp [oneOr]

theorem base_kind (f : FuncId) (a : Act) (k : List Item) : ((baseFrame f).at a k).kind = .normal := rfl

theorem AK.ret {fn : Func} {vs : List Value} {h' : Own} (hf : P.funcs[f]? = some fn) (hr : Res P B h e fn.results.toList vs) (hR : R (oneOr vs) h') (hs : h'.Sublist h) : AK P B f n R (.code .ret :: k) e h :=
  ⟨fun _ w g m _ => ⟨.returned (oneOr vs), w, _, ⟨_, h', rfl, m.sub hs, hR⟩, Steps.one step_ret, rfl, rfl, g.defers, rfl, fn, hf, results_of g m hr⟩⟩

theorem AK.fin {fn : Func} {vs : List Value} {h' : Own} (hf : P.funcs[f]? = some fn) (hr : Res P B h e fn.results.toList vs) (hR : R (oneOr vs) h') (hs : h'.Sublist h) : AK P B f n R [] e h :=
  ⟨fun _ w g m _ => ⟨.returned (oneOr vs), w, _, ⟨_, h', rfl, m.sub hs, hR⟩, Steps.one step_end, rfl, rfl, g.defers, rfl, fn, hf, results_of g m hr⟩⟩

/-- the frame's first slots: the arguments -/
def argsE : Nat → List Value → Env
  | _, [] => []
  | i, v :: r => (i, v) :: argsE (i + 1) r

theorem lk_argsE (i : Nat) (l : List Value) (t : Nat) (v : Value) (hv : lk (argsE i l) t = some v) : i ≤ t ∧ l[t - i]? = some v := by
  induction l generalizing i with
  | nil => cases hv
  | cons u r ih =>
    simp only [argsE, lk] at hv
    cases hb : Nat.beq i t with
    | true => simp [hb] at hv; have := Nat.eq_of_beq_eq_true hb; subst this; simp [hv]
    | false =>
      simp [hb] at hv
      obtain ⟨h1, h2⟩ := ih _ hv
      have : t - i = (t - (i + 1)) + 1 := by omega
      exact ⟨by omega, by rw [this]; simpa using h2⟩

theorem Tri.enter {args : List Value} {fn : Func} {c : Code} (hf : P.funcs[f]? = some fn) (hb : fn.body = some c) (hn : fn.ntmps = n) (hl : Nat.ble args.length n = true) (hk : AK P B f n R [.code c] (argsE 0 args) h) : Tri P B f args h R :=
  ⟨fun w m cs => by
    have henter : Frame.enter P f args.toArray .normal = (baseFrame f).at { tmps := args.toArray ++ Array.replicate (fn.ntmps - args.toArray.size) undef, defers := [] } [.code c] := by
      simp [Frame.enter, Frame.at, hf, hb, baseFrame]
    rw [henter]
    have hl := Nat.le_of_ble_eq_true hl
    refine hk.run _ w ⟨rfl, by simp; omega, fun t v hv => ?_⟩ m cs
    obtain ⟨_, h2⟩ := lk_argsE 0 args t v hv
    simp only [Nat.sub_zero] at h2
    have ht : t < args.length := by
      rcases Nat.lt_or_ge t args.length with h | h
      · exact h
      · rw [List.getElem?_eq_none h] at h2; cases h2
    rw [Array.getElem?_append_left (by simpa using ht)]
    simpa using h2⟩

end
end Go.Sep
