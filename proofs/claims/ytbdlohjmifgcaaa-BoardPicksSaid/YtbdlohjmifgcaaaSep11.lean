/- Bytes as texts; slices of slices. No project text. -/
import Derived.Test.YtbdlohjmifgcaaaSep10
import Derived.Laws.BytesString
import Derived.Laws.Strings
set_option linter.unusedSimpArgs false
set_option linter.unusedVariables false
namespace Go.Sep
open Go.RowKit
instance : Inhabited (InS Int) := ⟨⟨none, 0, []⟩⟩
/-- the text that bytes are -/
def strL (l : List Int) : ByteArray := l.foldl (fun r n => r.push (UInt8.ofNat n.toNat)) ByteArray.empty
theorem foldl_push (l : List Int) : ∀ s : ByteArray, (l.foldl (fun r n => r.push (UInt8.ofNat n.toNat)) s).data.toList = s.data.toList ++ l.map (fun n => UInt8.ofNat n.toNat) := by
  induction l with
  | nil => intro s; simp
  | cons n l ih => intro s; rw [List.foldl_cons, ih]; simp [ByteArray.push]
theorem strL_list (l : List Int) : (strL l).toList = l.map (fun n => UInt8.ofNat n.toNat) := by
  rw [ByteArray.toList_eq]
  have := foldl_push l ByteArray.empty
  simpa [strL] using this
theorem strL_beq (l m : List Int) (hl : ∀ x ∈ l, 0 ≤ x ∧ x ≤ 255) (hm : ∀ x ∈ m, 0 ≤ x ∧ x ≤ 255) : ((strL l).toList == (strL m).toList) = decide (l = m) := by
  rw [strL_list, strL_list]
  by_cases h : l = m
  · subst h; simp
  · rw [decide_eq_false h]
    rw [beq_eq_false_iff_ne]
    intro he
    apply h
    have key : ∀ l m : List Int, (∀ x ∈ l, 0 ≤ x ∧ x ≤ 255) → (∀ x ∈ m, 0 ≤ x ∧ x ≤ 255) → l.map (fun n => UInt8.ofNat n.toNat) = m.map (fun n => UInt8.ofNat n.toNat) → l = m := by
      intro l
      induction l with
      | nil => intro m _ _ h; cases m with | nil => rfl | cons _ _ => cases h
      | cons a l ih =>
        intro m h1 h2 h
        cases m with
        | nil => cases h
        | cons b m =>
          simp only [List.map_cons, List.cons.injEq] at h
          have ha := h1 a List.mem_cons_self
          have hb := h2 b List.mem_cons_self
          have hab : a = b := by
            have := congrArg UInt8.toNat h.1
            simp only [UInt8.toNat_ofNat'] at this
            omega
          rw [hab, ih m (fun x hx => h1 x (List.mem_cons_of_mem _ hx)) (fun x hx => h2 x (List.mem_cons_of_mem _ hx)) h.2]
    exact key l m hl hm he
section
variable {P : Program} {B : World} {h : Own} {M : List Nat} {n : Nat} {e : Env}
variable {d : Option Tmp} {ty : TypeId} {ps : String} {af : Array Edge} {gd : Option (Nat × Bool)}
theorem RV.convBS {h0 : Own} {src dst el : TypeId} {x : Operand} {A : Option Addr} {c : Nat} {l : List Int} [us : UndIs P src (.slice el)] [ue : UndIs P el (.int .u8)] [ud : UndIs P dst .string] (hx : ev e x = some (.slice A l.length c))
    (hs : Src B h0 A l.length 1 (l.map (fun x => Value.int .u8 x))) [s : SubO h0 h] (hM : (adr A 0).block ∉ M) : RV P B h M n e ⟨d, .convert src dst x, ty, ps, af, gd⟩ (.string (strL l)) := ⟨fun a g w hw => by
  have h1 := run_convert_bytes_string w src dst el A l.length c us.eq ue.eq ud.eq
  have h2 : (Conv.bytesToString (.slice A l.length c)).run P w = .ok (.string (strL l)) w := by
    cases A with
    | none =>
      have : l = [] := by
        rcases Nat.eq_zero_or_pos (l.map (fun x => Value.int .u8 x)).length with h0 | h0
        · simpa using h0
        · obtain ⟨ad, he, _⟩ := hs.at_ h0; cases he
      subst this
      simp [Conv.bytesToString, strL, Sem.run_pure]
    | some ad =>
      have hM' : ad.block ∉ M := by simpa [adr, add_block] using hM
      have hr : RdN B h ad l.length (l.map (fun x => Value.int .u8 x)) := by
        have : RdN B h ad (l.map (fun x => Value.int .u8 x)).length (l.map (fun x => Value.int .u8 x)) := .mk fun i v hv => by
          obtain ⟨ad', he, hr⟩ := hs.at_ (by rcases Nat.eq_zero_or_pos (l.map (fun x => Value.int .u8 x)).length with h0 | h0; · rw [List.eq_nil_of_length_eq_zero h0] at hv; cases hv
                                             · exact h0)
          cases he
          exact (hr i v hv).mono fun x hx => s.sub.mem hx
        rwa [List.length_map] at this
      exact run_bytesToString w ad l.length c l (hr.run hw hM')
  simp only [execOp, g.eval hx, Sem.run_bind, h1, h2, Result.andThen_ok]
  rfl⟩
theorem RV.eqlStr {xt yt : TypeId} {x y : Operand} {a b : ByteArray} [u : UndIs P xt .string] (hx : ev e x = some (.string a)) (hy : ev e y = some (.string b)) :
    RV P B h M n e ⟨d, .binOp .eql xt x y yt, ty, ps, af, gd⟩ (.bool (a.toList == b.toList)) := .pure fun a' g w => by
  have _ := u.eq
  simp [execOp, g.eval hx, g.eval hy, eqGuard_at_string, binOp_string_eql]
end
end Go.Sep
