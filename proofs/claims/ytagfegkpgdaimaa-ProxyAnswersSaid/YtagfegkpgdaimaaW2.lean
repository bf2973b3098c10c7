/- Walks through the code: what each function that is named here gives back, from any memory that holds its arguments. Written by a program of the claim's author, out of the program's form in Lean. -/
import Derived.Test.YtagfegkpgdaimaaW1
set_option linter.unusedSimpArgs false
set_option linter.unusedVariables false
namespace Go.Proofs.Ytagfegkpgdaimaa
open Go.Sep Go.Sep.Sip Go.Sep.Cookie Go.Sep.Topt Go.Sep.Proxy
/-- a segment that comes in, of any length -/
structure SegAny (B : World) (h : Own) (s : Seg) : Prop where
  seq : 0 ≤ sq s ∧ sq s ≤ 4294967295
  ack : 0 ≤ ak s ∧ ak s ≤ 4294967295
  flg : 0 ≤ fl s ∧ fl s ≤ 255
  src : Src B h (op s).A (op s).l.length 1 ((op s).l.map (fun x => Value.int .u8 x))
  byt : Bytes (op s).l
  cap : (op s).l.length ≤ (op s).cap
  dsrc : Src B h (da s).A (da s).l.length 1 ((da s).l.map (fun x => Value.int .u8 x))
  dcap : (da s).l.length ≤ (da s).cap
theorem SegAny.sub {B : World} {h0 h : Own} [i : SubO h0 h] {s : Seg} (o : SegAny B h0 s) : SegAny B h s := ⟨o.seq, o.ack, o.flg, o.src.sub, o.byt, o.cap, o.dsrc.sub, o.dcap⟩
def fewG (s : Seg) : Seg := (s.1, s.2.1, s.2.2.1, s.2.2.2.1, s.2.2.2.2.1, s.2.2.2.2.2.1, s.2.2.2.2.2.2.1, s.2.2.2.2.2.2.2.1, ⟨(op s).A, (op s).cap, (op s).l.take 50⟩, ⟨(da s).A, (da s).cap, (da s).l.take 200⟩, ())
theorem src_take {B : World} {h : Own} {A : Option Addr} {l : List Int} (hl : Src B h A l.length 1 (l.map (fun x => Value.int .u8 x))) (n : Nat) : Src B h A (l.take n).length 1 ((l.take n).map (fun x => Value.int .u8 x)) := by
  have := hl.take (min n l.length) (by omega)
  rw [Nat.mul_one, ← List.map_take] at this
  rw [List.length_take]
  rw [List.take_eq_take_min]; exact this
theorem SegAny.few {B : World} {h : Own} {s : Seg} (o : SegAny B h s) : SegIn B h (fewG s) := by
  refine ⟨o.seq, o.ack, o.flg, src_take o.src 50, bytes_take o.byt _, ?_, ?_, src_take o.dsrc 200⟩
  · have := o.cap; show ((op s).l.take 50).length ≤ (op s).cap; rw [List.length_take]; omega
  · show ((op s).l.take 50).length ≤ _; rw [List.length_take]; omega
theorem few_dlen (s : Seg) : (da (fewG s)).l.length ≤ 200 := by show ((da s).l.take 200).length ≤ _; rw [List.length_take]; omega

theorem segfew_spec (B : World) (h : Own) (s : Seg) (hs : SegAny B h s) : Tri Try.prog B 6 [.agg (encG s).toArray] h fun v h' => h = h' ∧ v = .agg (encG (fewG s)).toArray := by
  refine Tri.enter (n := 12) Try.func6 rfl rfl rfl ?_
  simp only [argsE, Nat.reduceAdd]
  try dsimp only [argsE]
  refine AK.seq ?_
  refine AK.region ?_
  refine AO.eff (EF.box rfl rfl) (.none rfl) rfl ?_
  rintro _ _ ⟨b1, hf1, rfl, rfl⟩
  refine AO.eff (EF.alloc) (.none rfl) rfl ?_
  rintro _ _ ⟨b2, hf2, rfl, rfl⟩
  refine AO.nil ?_
  refine AK.seq ?_
  refine AK.region ?_
  refine AO.val (RV.fieldAddr rfl) (.none rfl) rfl ?_
  refine AO.val (by first | exact RV.loadO rfl rfl (by first | simp | assumption) | exact RV.loadS rfl (by assumption) (by omega) (by first | simp | assumption)) (.none rfl) rfl ?_
  refine AO.eff (EF.callF rfl (few_spec B _ (op s).l 50 (by omega) hs.cap)) (.none rfl) rfl ?_
  rintro _ _ ⟨rfl, rfl⟩
  refine AO.val (RV.fieldAddr rfl) (.none rfl) rfl ?_
  refine AO.effN (EF.storeO rfl rfl rfl rfl rfl rfl) (.none rfl) ?_
  rintro _ _ rfl
  refine AO.nil ?_
  refine AK.seq ?_
  refine AK.region ?_
  refine AO.val (RV.fieldAddr rfl) (.none rfl) rfl ?_
  refine AO.val (by first | exact RV.loadO rfl rfl (by first | simp | assumption) | exact RV.loadS rfl (by assumption) (by omega) (by first | simp | assumption)) (.none rfl) rfl ?_
  refine AO.eff (EF.callF rfl (few_spec B _ (da s).l 200 (by omega) hs.dcap)) (.none rfl) rfl ?_
  rintro _ _ ⟨rfl, rfl⟩
  refine AO.val (RV.fieldAddr rfl) (.none rfl) rfl ?_
  refine AO.effN (EF.storeO rfl rfl rfl rfl rfl rfl) (.none rfl) ?_
  rintro _ _ rfl
  refine AO.nil ?_
  refine AK.seq ?_
  refine AK.region ?_
  refine AO.val (by first | exact RV.loadAggO rfl rfl (by first | simp | assumption) | exact RV.loadAggP rfl rfl rfl (by first | simp | assumption)) (.none rfl) rfl ?_
  refine AO.effN (EF.storeO rfl rfl rfl rfl rfl rfl) (.none rfl) ?_
  rintro _ _ rfl
  refine AO.nil ?_
  -- at 
  refine AK.ret (h' := h) Try.func6 (.aggO rfl rfl .nil) ?_ (by first | exact SubO.sub | exact List.Sublist.refl _ | exact .cons _ (List.Sublist.refl _) | exact .cons _ (.cons _ (List.Sublist.refl _)) | exact .cons _ (.cons _ (.cons _ (List.Sublist.refl _))))
  exact ⟨rfl, rfl⟩

theorem segsame_spec (B : World) (h : Own) (a b c d x y w u : Int) {A A2 D D2 : Option Addr} {k k2 q q2 : Nat} (l m : List Int) (h1 : Src B h A l.length 1 (l.map (fun x => Value.int .u8 x))) (h2 : Src B h A2 l.length 1 (l.map (fun x => Value.int .u8 x))) (h3 : Src B h D m.length 1 (m.map (fun x => Value.int .u8 x))) (h4 : Src B h D2 m.length 1 (m.map (fun x => Value.int .u8 x))) (hl : l.length ≤ 100000) (hm : m.length ≤ 100000) : Tri Try.prog B 9 [.agg #[.int .u16 a, .int .u16 b, .int .u32 c, .int .u32 d, .int .u8 x, .int .u8 y, .int .u16 w, .int .u16 u, .slice A l.length k, .slice D m.length q], .agg #[.int .u16 a, .int .u16 b, .int .u32 c, .int .u32 d, .int .u8 x, .int .u8 y, .int .u16 w, .int .u16 u, .slice A2 l.length k2, .slice D2 m.length q2]] h fun v h' => h = h' ∧ v = .bool true := by
  refine Tri.enter (n := 75) Try.func9 rfl rfl rfl ?_
  simp only [argsE, Nat.reduceAdd]
  try dsimp only [argsE]
  refine AK.seq ?_
  refine AK.region ?_
  refine AO.eff (EF.box rfl rfl) (.none rfl) rfl ?_
  rintro _ _ ⟨b2, hf2, rfl, rfl⟩
  refine AO.eff (EF.box rfl rfl) (.none rfl) rfl ?_
  rintro _ _ ⟨b3, hf3, rfl, rfl⟩
  refine AO.val (RV.assign rfl) (.none rfl) rfl ?_
  refine AO.nil ?_
  refine AK.seq ?_
  refine AK.region ?_
  refine AO.val (RV.fieldAddr rfl) (.none rfl) rfl ?_
  refine AO.val (by first | exact RV.loadO rfl rfl (by first | simp | assumption) | exact RV.loadS rfl (by assumption) (by omega) (by first | simp | assumption)) (.none rfl) rfl ?_
  refine AO.val (RV.fieldAddr rfl) (.none rfl) rfl ?_
  refine AO.val (by first | exact RV.loadO rfl rfl (by first | simp | assumption) | exact RV.loadS rfl (by assumption) (by omega) (by first | simp | assumption)) (.none rfl) rfl ?_
  refine AO.val ((RV.eql rfl rfl).to (v' := .bool true) (by simp)) (.none rfl) rfl ?_
  refine AO.val (RV.move rfl) (.none rfl) rfl ?_
  refine AO.val (RV.fieldAddr rfl) (.some rfl rfl rfl rfl) rfl ?_
  refine AO.val (by first | exact RV.loadO rfl rfl (by first | simp | assumption) | exact RV.loadS rfl (by assumption) (by omega) (by first | simp | assumption)) (.some rfl rfl rfl rfl) rfl ?_
  refine AO.val (RV.fieldAddr rfl) (.some rfl rfl rfl rfl) rfl ?_
  refine AO.val (by first | exact RV.loadO rfl rfl (by first | simp | assumption) | exact RV.loadS rfl (by assumption) (by omega) (by first | simp | assumption)) (.some rfl rfl rfl rfl) rfl ?_
  refine AO.val ((RV.eql rfl rfl).to (v' := .bool true) (by simp)) (.some rfl rfl rfl rfl) rfl ?_
  refine AO.val (RV.pickT rfl rfl) (.none rfl) rfl ?_
  refine AO.val (RV.move rfl) (.none rfl) rfl ?_
  refine AO.val (RV.fieldAddr rfl) (.some rfl rfl rfl rfl) rfl ?_
  refine AO.val (by first | exact RV.loadO rfl rfl (by first | simp | assumption) | exact RV.loadS rfl (by assumption) (by omega) (by first | simp | assumption)) (.some rfl rfl rfl rfl) rfl ?_
  refine AO.val (RV.fieldAddr rfl) (.some rfl rfl rfl rfl) rfl ?_
  refine AO.val (by first | exact RV.loadO rfl rfl (by first | simp | assumption) | exact RV.loadS rfl (by assumption) (by omega) (by first | simp | assumption)) (.some rfl rfl rfl rfl) rfl ?_
  refine AO.val ((RV.eql rfl rfl).to (v' := .bool true) (by simp)) (.some rfl rfl rfl rfl) rfl ?_
  refine AO.val (RV.pickT rfl rfl) (.none rfl) rfl ?_
  refine AO.val (RV.move rfl) (.none rfl) rfl ?_
  refine AO.val (RV.fieldAddr rfl) (.some rfl rfl rfl rfl) rfl ?_
  refine AO.val (by first | exact RV.loadO rfl rfl (by first | simp | assumption) | exact RV.loadS rfl (by assumption) (by omega) (by first | simp | assumption)) (.some rfl rfl rfl rfl) rfl ?_
  refine AO.val (RV.fieldAddr rfl) (.some rfl rfl rfl rfl) rfl ?_
  refine AO.val (by first | exact RV.loadO rfl rfl (by first | simp | assumption) | exact RV.loadS rfl (by assumption) (by omega) (by first | simp | assumption)) (.some rfl rfl rfl rfl) rfl ?_
  refine AO.val ((RV.eql rfl rfl).to (v' := .bool true) (by simp)) (.some rfl rfl rfl rfl) rfl ?_
  refine AO.val (RV.pickT rfl rfl) (.none rfl) rfl ?_
  refine AO.val (RV.move rfl) (.none rfl) rfl ?_
  refine AO.val (RV.fieldAddr rfl) (.some rfl rfl rfl rfl) rfl ?_
  refine AO.val (by first | exact RV.loadO rfl rfl (by first | simp | assumption) | exact RV.loadS rfl (by assumption) (by omega) (by first | simp | assumption)) (.some rfl rfl rfl rfl) rfl ?_
  refine AO.val (RV.fieldAddr rfl) (.some rfl rfl rfl rfl) rfl ?_
  refine AO.val (by first | exact RV.loadO rfl rfl (by first | simp | assumption) | exact RV.loadS rfl (by assumption) (by omega) (by first | simp | assumption)) (.some rfl rfl rfl rfl) rfl ?_
  refine AO.val ((RV.eql rfl rfl).to (v' := .bool true) (by simp)) (.some rfl rfl rfl rfl) rfl ?_
  refine AO.val (RV.pickT rfl rfl) (.none rfl) rfl ?_
  refine AO.val (RV.move rfl) (.none rfl) rfl ?_
  refine AO.val (RV.fieldAddr rfl) (.some rfl rfl rfl rfl) rfl ?_
  refine AO.val (by first | exact RV.loadO rfl rfl (by first | simp | assumption) | exact RV.loadS rfl (by assumption) (by omega) (by first | simp | assumption)) (.some rfl rfl rfl rfl) rfl ?_
  refine AO.val (RV.fieldAddr rfl) (.some rfl rfl rfl rfl) rfl ?_
  refine AO.val (by first | exact RV.loadO rfl rfl (by first | simp | assumption) | exact RV.loadS rfl (by assumption) (by omega) (by first | simp | assumption)) (.some rfl rfl rfl rfl) rfl ?_
  refine AO.val ((RV.eql rfl rfl).to (v' := .bool true) (by simp)) (.some rfl rfl rfl rfl) rfl ?_
  refine AO.val (RV.pickT rfl rfl) (.none rfl) rfl ?_
  refine AO.val (RV.move rfl) (.none rfl) rfl ?_
  refine AO.val (RV.fieldAddr rfl) (.some rfl rfl rfl rfl) rfl ?_
  refine AO.val (by first | exact RV.loadO rfl rfl (by first | simp | assumption) | exact RV.loadS rfl (by assumption) (by omega) (by first | simp | assumption)) (.some rfl rfl rfl rfl) rfl ?_
  refine AO.val (RV.fieldAddr rfl) (.some rfl rfl rfl rfl) rfl ?_
  refine AO.val (by first | exact RV.loadO rfl rfl (by first | simp | assumption) | exact RV.loadS rfl (by assumption) (by omega) (by first | simp | assumption)) (.some rfl rfl rfl rfl) rfl ?_
  refine AO.val ((RV.eql rfl rfl).to (v' := .bool true) (by simp)) (.some rfl rfl rfl rfl) rfl ?_
  refine AO.val (RV.pickT rfl rfl) (.none rfl) rfl ?_
  refine AO.val (RV.move rfl) (.none rfl) rfl ?_
  refine AO.val (RV.fieldAddr rfl) (.some rfl rfl rfl rfl) rfl ?_
  refine AO.val (by first | exact RV.loadO rfl rfl (by first | simp | assumption) | exact RV.loadS rfl (by assumption) (by omega) (by first | simp | assumption)) (.some rfl rfl rfl rfl) rfl ?_
  refine AO.val (RV.fieldAddr rfl) (.some rfl rfl rfl rfl) rfl ?_
  refine AO.val (by first | exact RV.loadO rfl rfl (by first | simp | assumption) | exact RV.loadS rfl (by assumption) (by omega) (by first | simp | assumption)) (.some rfl rfl rfl rfl) rfl ?_
  refine AO.val ((RV.eql rfl rfl).to (v' := .bool true) (by simp)) (.some rfl rfl rfl rfl) rfl ?_
  refine AO.val (RV.pickT rfl rfl) (.none rfl) rfl ?_
  refine AO.val (RV.assign rfl) (.none rfl) rfl ?_
  refine AO.nil ?_
  refine AK.seq ?_
  refine AK.region ?_
  refine AO.val (RV.move rfl) (.none rfl) rfl ?_
  refine AO.val (RV.move rfl) (.none rfl) rfl ?_
  refine AO.val (RV.fieldAddr rfl) (.some rfl rfl rfl rfl) rfl ?_
  refine AO.val (by first | exact RV.loadO rfl rfl (by first | simp | assumption) | exact RV.loadS rfl (by assumption) (by omega) (by first | simp | assumption)) (.some rfl rfl rfl rfl) rfl ?_
  refine AO.val (RV.fieldAddr rfl) (.some rfl rfl rfl rfl) rfl ?_
  refine AO.val (by first | exact RV.loadO rfl rfl (by first | simp | assumption) | exact RV.loadS rfl (by assumption) (by omega) (by first | simp | assumption)) (.some rfl rfl rfl rfl) rfl ?_
  refine AO.eff (EF.callF rfl (same_spec (cap := _) (cap2 := _) B _ l l h1.sub h2.sub (by omega))) (.some rfl rfl rfl rfl) rfl ?_
  rintro _ _ ⟨rfl, bS, rfl, hS⟩
  have hS2 := hS.2 rfl
  subst hS2
  refine AO.val (RV.pickT rfl rfl) (.none rfl) rfl ?_
  refine AO.val (RV.move rfl) (.none rfl) rfl ?_
  refine AO.val (RV.fieldAddr rfl) (.some rfl rfl rfl rfl) rfl ?_
  refine AO.val (by first | exact RV.loadO rfl rfl (by first | simp | assumption) | exact RV.loadS rfl (by assumption) (by omega) (by first | simp | assumption)) (.some rfl rfl rfl rfl) rfl ?_
  refine AO.val (RV.fieldAddr rfl) (.some rfl rfl rfl rfl) rfl ?_
  refine AO.val (by first | exact RV.loadO rfl rfl (by first | simp | assumption) | exact RV.loadS rfl (by assumption) (by omega) (by first | simp | assumption)) (.some rfl rfl rfl rfl) rfl ?_
  refine AO.eff (EF.callF rfl (same_spec (cap := _) (cap2 := _) B _ m m h3.sub h4.sub (by omega))) (.some rfl rfl rfl rfl) rfl ?_
  rintro _ _ ⟨rfl, bS, rfl, hS⟩
  have hS2 := hS.2 rfl
  subst hS2
  refine AO.val (RV.pickT rfl rfl) (.none rfl) rfl ?_
  refine AO.val (RV.assign rfl) (.none rfl) rfl ?_
  refine AO.nil ?_
  -- at 
  refine AK.ret (h' := h) Try.func9 (.tmp rfl .nil) ?_ (by first | exact SubO.sub | exact List.Sublist.refl _ | exact .cons _ (List.Sublist.refl _) | exact .cons _ (.cons _ (List.Sublist.refl _)) | exact .cons _ (.cons _ (.cons _ (List.Sublist.refl _))))
  exact ⟨rfl, rfl⟩

theorem open_spec (B : World) (h : Own) (f : Flow) (b po : Int) (s : Seg) (hs : SegIn B h s) : Tri Try.prog B 15 [.agg (encF f).toArray, .int .i64 b, .int .u16 po, .agg (encG s).toArray] h fun v h' => h = h' ∧ v = .agg (encE (f, b, 1, 0, true, false, po, w32 (ak s - 1), w32 (sq s - 1), ())).toArray := by
  refine Tri.enter (n := 19) Try.func15 rfl rfl rfl ?_
  simp only [argsE, Nat.reduceAdd]
  try dsimp only [argsE]
  refine AK.seq ?_
  refine AK.region ?_
  refine AO.eff (EF.box rfl rfl) (.none rfl) rfl ?_
  rintro _ _ ⟨b4, hf4, rfl, rfl⟩
  refine AO.eff (EF.box rfl rfl) (.none rfl) rfl ?_
  rintro _ _ ⟨b7, hf7, rfl, rfl⟩
  refine AO.eff (EF.alloc) (.none rfl) rfl ?_
  rintro _ _ ⟨b8, hf8, rfl, rfl⟩
  refine AO.nil ?_
  refine AK.seq ?_
  refine AK.region ?_
  refine AO.val (by first | exact RV.loadAggO rfl rfl (by first | simp | assumption) | exact RV.loadAggP rfl rfl rfl (by first | simp | assumption)) (.none rfl) rfl ?_
  refine AO.val (RV.move rfl) (.none rfl) rfl ?_
  refine AO.val (RV.move rfl) (.none rfl) rfl ?_
  refine AO.val (RV.fieldAddr rfl) (.none rfl) rfl ?_
  refine AO.val (by first | exact RV.loadO rfl rfl (by first | simp | assumption) | exact RV.loadS rfl (by assumption) (by omega) (by first | simp | assumption)) (.none rfl) rfl ?_
  refine AO.val (by first | exact RV.subK rfl rfl (by simp only [kb]; omega) | exact RV.sub rfl rfl) (.none rfl) rfl ?_
  refine AO.val (RV.fieldAddr rfl) (.none rfl) rfl ?_
  refine AO.val (by first | exact RV.loadO rfl rfl (by first | simp | assumption) | exact RV.loadS rfl (by assumption) (by omega) (by first | simp | assumption)) (.none rfl) rfl ?_
  refine AO.val (by first | exact RV.subK rfl rfl (by simp only [kb]; omega) | exact RV.sub rfl rfl) (.none rfl) rfl ?_
  refine AO.val (RV.build rfl (.cons rfl rfl rfl rfl (.cons rfl rfl rfl rfl (.cons rfl rfl rfl rfl (.cons rfl rfl rfl rfl (.cons rfl rfl rfl rfl (.cons rfl rfl rfl rfl (.cons rfl rfl rfl rfl .nil)))))))) (.none rfl) rfl ?_
  refine AO.effN (EF.storeO rfl rfl rfl rfl rfl rfl) (.none rfl) ?_
  rintro _ _ rfl
  refine AO.nil ?_
  -- at 
  refine AK.ret (h' := h) Try.func15 (.aggO rfl rfl .nil) ?_ (by first | exact SubO.sub | exact List.Sublist.refl _ | exact .cons _ (List.Sublist.refl _) | exact .cons _ (.cons _ (List.Sublist.refl _)) | exact .cons _ (.cons _ (.cons _ (List.Sublist.refl _))))
  exact ⟨rfl, rfl⟩

theorem call_spec (B : World) (h : Own) (e : Ent) (po i : Int) : Tri Try.prog B 16 [.agg (encE e).toArray, .int .u16 po, .int .i64 i] h fun v h' => ∃ A c p, v = .agg #[.int .u16 e.2.2.2.2.2.2.1, .int .u16 po, .int .u32 e.2.2.2.2.2.2.2.2.1, .int .u32 0, .int .u8 0, .int .u8 2, .int .u16 65535, .int .u16 0, .slice A 4 c, .slice none 0 0] ∧ Row 5 1 (.slice A 4 c) 4 ((pmB (sizeS i)).map (fun x => Value.int .u8 x)) p ∧ 4 ≤ c ∧ h' = p ++ h := by
  refine Tri.enter (n := 20) Try.func16 rfl rfl rfl ?_
  simp only [argsE, Nat.reduceAdd]
  try dsimp only [argsE]
  refine AK.seq ?_
  refine AK.region ?_
  refine AO.eff (EF.box rfl rfl) (.none rfl) rfl ?_
  rintro _ _ ⟨b3, hf3, rfl, rfl⟩
  refine AO.eff (EF.alloc) (.none rfl) rfl ?_
  rintro _ _ ⟨b6, hf6, rfl, rfl⟩
  refine AO.nil ?_
  refine AK.seq ?_
  refine AK.region ?_
  refine AO.val (RV.fieldAddr rfl) (.none rfl) rfl ?_
  refine AO.val (by first | exact RV.loadO rfl rfl (by first | simp | assumption) | exact RV.loadS rfl (by assumption) (by omega) (by first | simp | assumption)) (.none rfl) rfl ?_
  refine AO.val (RV.move rfl) (.none rfl) rfl ?_
  refine AO.val (RV.fieldAddr rfl) (.none rfl) rfl ?_
  refine AO.val (by first | exact RV.loadO rfl rfl (by first | simp | assumption) | exact RV.loadS rfl (by assumption) (by omega) (by first | simp | assumption)) (.none rfl) rfl ?_
  refine AO.eff (EF.callF rfl (plain_spec B _ _ _ _ _ _)) (.none rfl) rfl ?_
  rintro _ _ ⟨rfl, rfl⟩
  refine AO.eff (EF.alloc) (.none rfl) rfl ?_
  rintro _ _ ⟨b7, hf7, rfl, rfl⟩
  refine AO.effN (EF.storeO rfl rfl rfl rfl rfl rfl) (.none rfl) ?_
  rintro _ _ rfl
  refine AO.nil ?_
  refine AK.seq ?_
  refine AK.region ?_
  refine AO.val (RV.move rfl) (.none rfl) rfl ?_
  refine AO.eff (EF.callF rfl (size_spec B _ _)) (.none rfl) rfl ?_
  rintro _ _ ⟨rfl, rfl⟩
  refine AO.eff (EF.callF rfl (pmss_spec B _ _ (sizeS_in i))) (.none rfl) rfl ?_
  rintro _ _ ⟨A16, c16, p16, rfl, hr16, hc16, rfl⟩
  refine AO.val (RV.fieldAddr rfl) (.none rfl) rfl ?_
  refine AO.effN (EF.storeO rfl rfl rfl rfl rfl rfl) (.none rfl) ?_
  rintro _ _ rfl
  refine AO.val (RV.fieldAddr rfl) (.none rfl) rfl ?_
  refine AO.effN (EF.storeO rfl rfl rfl rfl rfl rfl) (.none rfl) ?_
  rintro _ _ rfl
  refine AO.nil ?_
  refine AK.seq ?_
  refine AK.region ?_
  refine AO.val (by first | exact RV.loadAggO rfl rfl (by first | simp | assumption) | exact RV.loadAggP rfl rfl rfl (by first | simp | assumption)) (.none rfl) rfl ?_
  refine AO.effN (EF.storeO rfl rfl rfl rfl rfl rfl) (.none rfl) ?_
  rintro _ _ rfl
  refine AO.nil ?_
  -- at 
  refine AK.ret (h' := p16 ++ h) Try.func16 (.aggO rfl rfl .nil) ?_ (by exact SubO.sub)
  exact ⟨A16, c16, p16, rfl, hr16, hc16, rfl⟩

theorem rcall_spec (B : World) (h : Own) (e : Ent) (po i : Int) : Tri Try.prog B 17 [.agg (encE e).toArray, .int .u16 po, .int .i64 i] h fun v h' => ∃ A c p, v = .agg #[.int .u16 e.2.2.2.2.2.2.1, .int .u16 po, .int .u32 e.2.2.2.2.2.2.2.2.1, .int .u32 0, .int .u8 0, .int .u8 2, .int .u16 65535, .int .u16 0, .slice A 4 c, .slice none 0 0] ∧ Row 5 1 (.slice A 4 c) 4 ((pmB (sizeS i)).map (fun x => Value.int .u8 x)) p ∧ 4 ≤ c ∧ h' = p ++ h := by
  refine Tri.enter (n := 19) Try.func17 rfl rfl rfl ?_
  simp only [argsE, Nat.reduceAdd]
  try dsimp only [argsE]
  refine AK.seq ?_
  refine AK.region ?_
  refine AO.eff (EF.box rfl rfl) (.none rfl) rfl ?_
  rintro _ _ ⟨b3, hf3, rfl, rfl⟩
  refine AO.eff (EF.alloc) (.none rfl) rfl ?_
  rintro _ _ ⟨b6, hf6, rfl, rfl⟩
  refine AO.nil ?_
  refine AK.seq ?_
  refine AK.region ?_
  refine AO.val (RV.fieldAddr rfl) (.none rfl) rfl ?_
  refine AO.val (by first | exact RV.loadO rfl rfl (by first | simp | assumption) | exact RV.loadS rfl (by assumption) (by omega) (by first | simp | assumption)) (.none rfl) rfl ?_
  refine AO.val (RV.move rfl) (.none rfl) rfl ?_
  refine AO.val (RV.fieldAddr rfl) (.none rfl) rfl ?_
  refine AO.val (by first | exact RV.loadO rfl rfl (by first | simp | assumption) | exact RV.loadS rfl (by assumption) (by omega) (by first | simp | assumption)) (.none rfl) rfl ?_
  refine AO.eff (EF.callF rfl (rplain_spec B _ _ _ _ _ _)) (.none rfl) rfl ?_
  rintro _ _ ⟨rfl, rfl⟩
  refine AO.eff (EF.alloc) (.none rfl) rfl ?_
  rintro _ _ ⟨b7, hf7, rfl, rfl⟩
  refine AO.effN (EF.storeO rfl rfl rfl rfl rfl rfl) (.none rfl) ?_
  rintro _ _ rfl
  refine AO.nil ?_
  refine AK.seq ?_
  refine AK.region ?_
  refine AO.val (RV.move rfl) (.none rfl) rfl ?_
  refine AO.eff (EF.callF rfl (rsize_spec B _ _)) (.none rfl) rfl ?_
  rintro _ _ ⟨rfl, rfl⟩
  refine AO.eff (EF.callF rfl (rmss38_spec B _ _ (sizeS_in i))) (.none rfl) rfl ?_
  rintro _ _ ⟨A16, c16, p16, rfl, hr16, hc16, rfl⟩
  refine AO.val (RV.fieldAddr rfl) (.none rfl) rfl ?_
  refine AO.effN (EF.storeO rfl rfl rfl rfl rfl rfl) (.none rfl) ?_
  rintro _ _ rfl
  refine AO.nil ?_
  refine AK.seq ?_
  refine AK.region ?_
  refine AO.val (by first | exact RV.loadAggO rfl rfl (by first | simp | assumption) | exact RV.loadAggP rfl rfl rfl (by first | simp | assumption)) (.none rfl) rfl ?_
  refine AO.effN (EF.storeO rfl rfl rfl rfl rfl rfl) (.none rfl) ?_
  rintro _ _ rfl
  refine AO.nil ?_
  -- at 
  refine AK.ret (h' := p16 ++ h) Try.func17 (.aggO rfl rfl .nil) ?_ (by exact SubO.sub)
  exact ⟨A16, c16, p16, rfl, hr16, hc16, rfl⟩

theorem greet_spec (B : World) (h : Own) (e : Ent) (po : Int) (s : Seg) : Tri Try.prog B 18 [.agg (encE e).toArray, .int .u16 po, .agg (encG s).toArray] h fun v h' => h = h' ∧ v = .agg #[.int .u16 e.2.2.2.2.2.2.1, .int .u16 po, .int .u32 (w32 (e.2.2.2.2.2.2.2.2.1 + 1)), .int .u32 (w32 (sq s + 1)), .int .u8 0, .int .u8 16, .int .u16 65535, .int .u16 0, .slice none 0 0, .slice none 0 0] := by
  refine Tri.enter (n := 17) Try.func18 rfl rfl rfl ?_
  simp only [argsE, Nat.reduceAdd]
  try dsimp only [argsE]
  refine AK.seq ?_
  refine AK.region ?_
  refine AO.eff (EF.box rfl rfl) (.none rfl) rfl ?_
  rintro _ _ ⟨b3, hf3, rfl, rfl⟩
  refine AO.eff (EF.box rfl rfl) (.none rfl) rfl ?_
  rintro _ _ ⟨b5, hf5, rfl, rfl⟩
  refine AO.eff (EF.alloc) (.none rfl) rfl ?_
  rintro _ _ ⟨b6, hf6, rfl, rfl⟩
  refine AO.nil ?_
  refine AK.seq ?_
  refine AK.region ?_
  refine AO.val (RV.fieldAddr rfl) (.none rfl) rfl ?_
  refine AO.val (by first | exact RV.loadO rfl rfl (by first | simp | assumption) | exact RV.loadS rfl (by assumption) (by omega) (by first | simp | assumption)) (.none rfl) rfl ?_
  refine AO.val (RV.move rfl) (.none rfl) rfl ?_
  refine AO.val (RV.fieldAddr rfl) (.none rfl) rfl ?_
  refine AO.val (by first | exact RV.loadO rfl rfl (by first | simp | assumption) | exact RV.loadS rfl (by assumption) (by omega) (by first | simp | assumption)) (.none rfl) rfl ?_
  refine AO.val (by first | exact RV.addK rfl rfl (by simp only [kb]; omega) | exact RV.add rfl rfl) (.none rfl) rfl ?_
  refine AO.val (RV.fieldAddr rfl) (.none rfl) rfl ?_
  refine AO.val (by first | exact RV.loadO rfl rfl (by first | simp | assumption) | exact RV.loadS rfl (by assumption) (by omega) (by first | simp | assumption)) (.none rfl) rfl ?_
  refine AO.val (by first | exact RV.addK rfl rfl (by simp only [kb]; omega) | exact RV.add rfl rfl) (.none rfl) rfl ?_
  refine AO.eff (EF.callF rfl (plain_spec B _ _ _ _ _ _)) (.none rfl) rfl ?_
  rintro _ _ ⟨rfl, rfl⟩
  refine AO.effN (EF.storeO rfl rfl rfl rfl rfl rfl) (.none rfl) ?_
  rintro _ _ rfl
  refine AO.nil ?_
  -- at 
  refine AK.ret (h' := h) Try.func18 (.aggO rfl rfl .nil) ?_ (by first | exact SubO.sub | exact List.Sublist.refl _ | exact .cons _ (List.Sublist.refl _) | exact .cons _ (.cons _ (List.Sublist.refl _)) | exact .cons _ (.cons _ (.cons _ (List.Sublist.refl _))))
  exact ⟨rfl, rfl⟩

theorem refuse_spec (B : World) (h : Own) (e : Ent) : Tri Try.prog B 20 [.agg (encE e).toArray] h fun v h' => h = h' ∧ v = .agg #[.int .u16 e.1.2.2.2.1, .int .u16 e.1.2.2.1, .int .u32 (w32 (e.2.2.2.2.2.2.2.1 + 1)), .int .u32 (w32 (e.2.2.2.2.2.2.2.2.1 + 1)), .int .u8 0, .int .u8 20, .int .u16 65535, .int .u16 0, .slice none 0 0, .slice none 0 0] := by
  refine Tri.enter (n := 16) Try.func20 rfl rfl rfl ?_
  simp only [argsE, Nat.reduceAdd]
  try dsimp only [argsE]
  refine AK.seq ?_
  refine AK.region ?_
  refine AO.eff (EF.box rfl rfl) (.none rfl) rfl ?_
  rintro _ _ ⟨b1, hf1, rfl, rfl⟩
  refine AO.eff (EF.alloc) (.none rfl) rfl ?_
  rintro _ _ ⟨b2, hf2, rfl, rfl⟩
  refine AO.nil ?_
  refine AK.seq ?_
  refine AK.region ?_
  refine AO.val (RV.fieldAddr rfl) (.none rfl) rfl ?_
  refine AO.val (RV.fieldAddr rfl) (.none rfl) rfl ?_
  refine AO.val (by first | exact RV.loadO rfl rfl (by first | simp | assumption) | exact RV.loadS rfl (by assumption) (by omega) (by first | simp | assumption)) (.none rfl) rfl ?_
  refine AO.val (RV.fieldAddr rfl) (.none rfl) rfl ?_
  refine AO.val (RV.fieldAddr rfl) (.none rfl) rfl ?_
  refine AO.val (by first | exact RV.loadO rfl rfl (by first | simp | assumption) | exact RV.loadS rfl (by assumption) (by omega) (by first | simp | assumption)) (.none rfl) rfl ?_
  refine AO.val (RV.fieldAddr rfl) (.none rfl) rfl ?_
  refine AO.val (by first | exact RV.loadO rfl rfl (by first | simp | assumption) | exact RV.loadS rfl (by assumption) (by omega) (by first | simp | assumption)) (.none rfl) rfl ?_
  refine AO.val (by first | exact RV.addK rfl rfl (by simp only [kb]; omega) | exact RV.add rfl rfl) (.none rfl) rfl ?_
  refine AO.val (RV.fieldAddr rfl) (.none rfl) rfl ?_
  refine AO.val (by first | exact RV.loadO rfl rfl (by first | simp | assumption) | exact RV.loadS rfl (by assumption) (by omega) (by first | simp | assumption)) (.none rfl) rfl ?_
  refine AO.val (by first | exact RV.addK rfl rfl (by simp only [kb]; omega) | exact RV.add rfl rfl) (.none rfl) rfl ?_
  refine AO.eff (EF.callF rfl (plain_spec B _ _ _ _ _ _)) (.none rfl) rfl ?_
  rintro _ _ ⟨rfl, rfl⟩
  refine AO.effN (EF.storeO rfl rfl rfl rfl rfl rfl) (.none rfl) ?_
  rintro _ _ rfl
  refine AO.nil ?_
  -- at 
  refine AK.ret (h' := h) Try.func20 (.aggO rfl rfl .nil) ?_ (by first | exact SubO.sub | exact List.Sublist.refl _ | exact .cons _ (List.Sublist.refl _) | exact .cons _ (.cons _ (List.Sublist.refl _)) | exact .cons _ (.cons _ (.cons _ (List.Sublist.refl _))))
  exact ⟨rfl, rfl⟩

theorem joins_spec (B : World) (h : Own) (e : Ent) (s : Seg) (hs : SegIn B h s) : Tri Try.prog B 22 [.agg (encE e).toArray, .agg (encG s).toArray] h fun v h' => h = h' ∧ v = .bool (joinsS e s) := by
  refine Tri.enter (n := 32) Try.func22 rfl rfl rfl ?_
  simp only [argsE, Nat.reduceAdd]
  try dsimp only [argsE]
  refine AK.seq ?_
  refine AK.region ?_
  refine AO.eff (EF.box rfl rfl) (.none rfl) rfl ?_
  rintro _ _ ⟨b2, hf2, rfl, rfl⟩
  refine AO.eff (EF.box rfl rfl) (.none rfl) rfl ?_
  rintro _ _ ⟨b3, hf3, rfl, rfl⟩
  refine AO.val (RV.assign rfl) (.none rfl) rfl ?_
  refine AO.nil ?_
  refine AK.seq ?_
  refine AK.region ?_
  refine AO.val (RV.fieldAddr rfl) (.none rfl) rfl ?_
  refine AO.val (by first | exact RV.loadO rfl rfl (by first | simp | assumption) | exact RV.loadS rfl (by assumption) (by omega) (by first | simp | assumption)) (.none rfl) rfl ?_
  refine AO.val (RV.not rfl) (.none rfl) rfl ?_
  refine AO.val (RV.move rfl) (.none rfl) rfl ?_
  refine AO.caseG rfl rfl rfl ?_ ?_
  · intro hg1
    try simp only [decide_eq_true_eq, decide_eq_false_iff_not, Bool.not_eq_true', Bool.not_eq_false', beq_iff_eq] at hg1
    refine AO.val (RV.fieldAddr rfl) (.some rfl rfl rfl rfl) rfl ?_
    refine AO.val (by first | exact RV.loadO rfl rfl (by first | simp | assumption) | exact RV.loadS rfl (by assumption) (by omega) (by first | simp | assumption)) (.some rfl rfl rfl rfl) rfl ?_
    refine AO.eff (EF.callF rfl (bit_spec B _ _ _ hs.flg (by decide))) (.some rfl rfl rfl rfl) rfl ?_
    rintro _ _ ⟨rfl, rfl⟩
    refine AO.val (RV.pickT rfl rfl) (.none rfl) rfl ?_
    refine AO.val (RV.move rfl) (.none rfl) rfl ?_
    refine AO.caseG rfl rfl rfl ?_ ?_
    · intro hg2
      try simp only [decide_eq_true_eq, decide_eq_false_iff_not, Bool.not_eq_true', Bool.not_eq_false', beq_iff_eq] at hg2
      refine AO.val (RV.fieldAddr rfl) (.some rfl rfl rfl rfl) rfl ?_
      refine AO.val (by first | exact RV.loadO rfl rfl (by first | simp | assumption) | exact RV.loadS rfl (by assumption) (by omega) (by first | simp | assumption)) (.some rfl rfl rfl rfl) rfl ?_
      refine AO.eff (EF.callF rfl (bit_spec B _ _ _ hs.flg (by decide))) (.some rfl rfl rfl rfl) rfl ?_
      rintro _ _ ⟨rfl, rfl⟩
      refine AO.val (RV.pickT rfl rfl) (.none rfl) rfl ?_
      refine AO.val (RV.move rfl) (.none rfl) rfl ?_
      refine AO.caseG rfl rfl rfl ?_ ?_
      · intro hg3
        try simp only [decide_eq_true_eq, decide_eq_false_iff_not, Bool.not_eq_true', Bool.not_eq_false', beq_iff_eq] at hg3
        refine AO.val (RV.fieldAddr rfl) (.some rfl rfl rfl rfl) rfl ?_
        refine AO.val (by first | exact RV.loadO rfl rfl (by first | simp | assumption) | exact RV.loadS rfl (by assumption) (by omega) (by first | simp | assumption)) (.some rfl rfl rfl rfl) rfl ?_
        refine AO.eff (EF.callF rfl (bit_spec B _ _ _ hs.flg (by decide))) (.some rfl rfl rfl rfl) rfl ?_
        rintro _ _ ⟨rfl, rfl⟩
        refine AO.val (RV.not rfl) (.some rfl rfl rfl rfl) rfl ?_
        refine AO.val (RV.pickT rfl rfl) (.none rfl) rfl ?_
        refine AO.val (RV.move rfl) (.none rfl) rfl ?_
        refine AO.caseG rfl rfl rfl ?_ ?_
        · intro hg4
          try simp only [decide_eq_true_eq, decide_eq_false_iff_not, Bool.not_eq_true', Bool.not_eq_false', beq_iff_eq] at hg4
          refine AO.val (RV.fieldAddr rfl) (.some rfl rfl rfl rfl) rfl ?_
          refine AO.val (by first | exact RV.loadO rfl rfl (by first | simp | assumption) | exact RV.loadS rfl (by assumption) (by omega) (by first | simp | assumption)) (.some rfl rfl rfl rfl) rfl ?_
          refine AO.val (RV.fieldAddr rfl) (.some rfl rfl rfl rfl) rfl ?_
          refine AO.val (by first | exact RV.loadO rfl rfl (by first | simp | assumption) | exact RV.loadS rfl (by assumption) (by omega) (by first | simp | assumption)) (.some rfl rfl rfl rfl) rfl ?_
          refine AO.val (by first | exact RV.addK rfl rfl (by simp only [kb]; omega) | exact RV.add rfl rfl) (.some rfl rfl rfl rfl) rfl ?_
          refine AO.val (RV.eql rfl rfl) (.some rfl rfl rfl rfl) rfl ?_
          refine AO.val (RV.pickT rfl rfl) (.none rfl) rfl ?_
          refine AO.val (RV.assign rfl) (.none rfl) rfl ?_
          refine AO.nil ?_
          -- at tttt
          refine AK.ret (h' := h) Try.func22 (.tmp rfl .nil) ?_ (by first | exact SubO.sub | exact List.Sublist.refl _ | exact .cons _ (List.Sublist.refl _) | exact .cons _ (.cons _ (List.Sublist.refl _)) | exact .cons _ (.cons _ (.cons _ (List.Sublist.refl _))))
          refine ⟨rfl, ?_⟩
          simp_all [joinsS, oneOr]
        · intro hg4
          try simp only [decide_eq_true_eq, decide_eq_false_iff_not, Bool.not_eq_true', Bool.not_eq_false', beq_iff_eq] at hg4
          refine AO.pass (.some rfl rfl rfl rfl) rfl ?_
          refine AO.pass (.some rfl rfl rfl rfl) rfl ?_
          refine AO.pass (.some rfl rfl rfl rfl) rfl ?_
          refine AO.pass (.some rfl rfl rfl rfl) rfl ?_
          refine AO.pass (.some rfl rfl rfl rfl) rfl ?_
          refine AO.pass (.some rfl rfl rfl rfl) rfl ?_
          refine AO.val (RV.pickF rfl rfl) (.none rfl) rfl ?_
          refine AO.val (RV.assign rfl) (.none rfl) rfl ?_
          refine AO.nil ?_
          -- at tttf
          refine AK.ret (h' := h) Try.func22 (.tmp rfl .nil) ?_ (by first | exact SubO.sub | exact List.Sublist.refl _ | exact .cons _ (List.Sublist.refl _) | exact .cons _ (.cons _ (List.Sublist.refl _)) | exact .cons _ (.cons _ (.cons _ (List.Sublist.refl _))))
          refine ⟨rfl, ?_⟩
          simp_all [joinsS, oneOr]
      · intro hg3
        try simp only [decide_eq_true_eq, decide_eq_false_iff_not, Bool.not_eq_true', Bool.not_eq_false', beq_iff_eq] at hg3
        refine AO.pass (.some rfl rfl rfl rfl) rfl ?_
        refine AO.pass (.some rfl rfl rfl rfl) rfl ?_
        refine AO.pass (.some rfl rfl rfl rfl) rfl ?_
        refine AO.pass (.some rfl rfl rfl rfl) rfl ?_
        refine AO.val (RV.pickF rfl rfl) (.none rfl) rfl ?_
        refine AO.val (RV.move rfl) (.none rfl) rfl ?_
        refine AO.pass (.some rfl rfl rfl rfl) rfl ?_
        refine AO.pass (.some rfl rfl rfl rfl) rfl ?_
        refine AO.pass (.some rfl rfl rfl rfl) rfl ?_
        refine AO.pass (.some rfl rfl rfl rfl) rfl ?_
        refine AO.pass (.some rfl rfl rfl rfl) rfl ?_
        refine AO.pass (.some rfl rfl rfl rfl) rfl ?_
        refine AO.val (RV.pickF rfl rfl) (.none rfl) rfl ?_
        refine AO.val (RV.assign rfl) (.none rfl) rfl ?_
        refine AO.nil ?_
        -- at ttf
        refine AK.ret (h' := h) Try.func22 (.tmp rfl .nil) ?_ (by first | exact SubO.sub | exact List.Sublist.refl _ | exact .cons _ (List.Sublist.refl _) | exact .cons _ (.cons _ (List.Sublist.refl _)) | exact .cons _ (.cons _ (.cons _ (List.Sublist.refl _))))
        refine ⟨rfl, ?_⟩
        simp_all [joinsS, oneOr]
    · intro hg2
      try simp only [decide_eq_true_eq, decide_eq_false_iff_not, Bool.not_eq_true', Bool.not_eq_false', beq_iff_eq] at hg2
      refine AO.pass (.some rfl rfl rfl rfl) rfl ?_
      refine AO.pass (.some rfl rfl rfl rfl) rfl ?_
      refine AO.pass (.some rfl rfl rfl rfl) rfl ?_
      refine AO.val (RV.pickF rfl rfl) (.none rfl) rfl ?_
      refine AO.val (RV.move rfl) (.none rfl) rfl ?_
      refine AO.pass (.some rfl rfl rfl rfl) rfl ?_
      refine AO.pass (.some rfl rfl rfl rfl) rfl ?_
      refine AO.pass (.some rfl rfl rfl rfl) rfl ?_
      refine AO.pass (.some rfl rfl rfl rfl) rfl ?_
      refine AO.val (RV.pickF rfl rfl) (.none rfl) rfl ?_
      refine AO.val (RV.move rfl) (.none rfl) rfl ?_
      refine AO.pass (.some rfl rfl rfl rfl) rfl ?_
      refine AO.pass (.some rfl rfl rfl rfl) rfl ?_
      refine AO.pass (.some rfl rfl rfl rfl) rfl ?_
      refine AO.pass (.some rfl rfl rfl rfl) rfl ?_
      refine AO.pass (.some rfl rfl rfl rfl) rfl ?_
      refine AO.pass (.some rfl rfl rfl rfl) rfl ?_
      refine AO.val (RV.pickF rfl rfl) (.none rfl) rfl ?_
      refine AO.val (RV.assign rfl) (.none rfl) rfl ?_
      refine AO.nil ?_
      -- at tf
      refine AK.ret (h' := h) Try.func22 (.tmp rfl .nil) ?_ (by first | exact SubO.sub | exact List.Sublist.refl _ | exact .cons _ (List.Sublist.refl _) | exact .cons _ (.cons _ (List.Sublist.refl _)) | exact .cons _ (.cons _ (.cons _ (List.Sublist.refl _))))
      refine ⟨rfl, ?_⟩
      simp_all [joinsS, oneOr]
  · intro hg1
    try simp only [decide_eq_true_eq, decide_eq_false_iff_not, Bool.not_eq_true', Bool.not_eq_false', beq_iff_eq] at hg1
    refine AO.pass (.some rfl rfl rfl rfl) rfl ?_
    refine AO.pass (.some rfl rfl rfl rfl) rfl ?_
    refine AO.pass (.some rfl rfl rfl rfl) rfl ?_
    refine AO.val (RV.pickF rfl rfl) (.none rfl) rfl ?_
    refine AO.val (RV.move rfl) (.none rfl) rfl ?_
    refine AO.pass (.some rfl rfl rfl rfl) rfl ?_
    refine AO.pass (.some rfl rfl rfl rfl) rfl ?_
    refine AO.pass (.some rfl rfl rfl rfl) rfl ?_
    refine AO.val (RV.pickF rfl rfl) (.none rfl) rfl ?_
    refine AO.val (RV.move rfl) (.none rfl) rfl ?_
    refine AO.pass (.some rfl rfl rfl rfl) rfl ?_
    refine AO.pass (.some rfl rfl rfl rfl) rfl ?_
    refine AO.pass (.some rfl rfl rfl rfl) rfl ?_
    refine AO.pass (.some rfl rfl rfl rfl) rfl ?_
    refine AO.val (RV.pickF rfl rfl) (.none rfl) rfl ?_
    refine AO.val (RV.move rfl) (.none rfl) rfl ?_
    refine AO.pass (.some rfl rfl rfl rfl) rfl ?_
    refine AO.pass (.some rfl rfl rfl rfl) rfl ?_
    refine AO.pass (.some rfl rfl rfl rfl) rfl ?_
    refine AO.pass (.some rfl rfl rfl rfl) rfl ?_
    refine AO.pass (.some rfl rfl rfl rfl) rfl ?_
    refine AO.pass (.some rfl rfl rfl rfl) rfl ?_
    refine AO.val (RV.pickF rfl rfl) (.none rfl) rfl ?_
    refine AO.val (RV.assign rfl) (.none rfl) rfl ?_
    refine AO.nil ?_
    -- at f
    refine AK.ret (h' := h) Try.func22 (.tmp rfl .nil) ?_ (by first | exact SubO.sub | exact List.Sublist.refl _ | exact .cons _ (List.Sublist.refl _) | exact .cons _ (.cons _ (List.Sublist.refl _)) | exact .cons _ (.cons _ (.cons _ (List.Sublist.refl _))))
    refine ⟨rfl, ?_⟩
    simp_all [joinsS, oneOr]

theorem ejoin_spec (B : World) (h : Own) (e : Ent) (s : Seg) (hs : SegIn B h s) : Tri Try.prog B 21 [.agg (encE e).toArray, .agg (encG s).toArray] h fun v h' => h = h' ∧ v = .tuple #[.agg (encE (joinE e s)).toArray, .bool (joinsS e s)] := by
  have hb16 := (has_bit hs.flg).1
  have hb2 := (has_bit hs.flg).2.1
  have hb4 := (has_bit hs.flg).2.2.1
  have hb18 := (has_bit hs.flg).2.2.2
  refine Tri.enter (n := 35) Try.func21 rfl rfl rfl ?_
  simp only [argsE, Nat.reduceAdd]
  try dsimp only [argsE]
  refine AK.seq ?_
  refine AK.region ?_
  refine AO.eff (EF.box rfl rfl) (.none rfl) rfl ?_
  rintro _ _ ⟨b2, hf2, rfl, rfl⟩
  refine AO.eff (EF.box rfl rfl) (.none rfl) rfl ?_
  rintro _ _ ⟨b3, hf3, rfl, rfl⟩
  refine AO.eff (EF.alloc) (.none rfl) rfl ?_
  rintro _ _ ⟨b4, hf4, rfl, rfl⟩
  refine AO.val (RV.assign rfl) (.none rfl) rfl ?_
  refine AO.nil ?_
  refine AK.seq ?_
  refine AK.seq ?_
  refine AK.region ?_
  refine AO.val (RV.fieldAddr rfl) (.none rfl) rfl ?_
  refine AO.val (by first | exact RV.loadO rfl rfl (by first | simp | assumption) | exact RV.loadS rfl (by assumption) (by omega) (by first | simp | assumption)) (.none rfl) rfl ?_
  refine AO.val (RV.move rfl) (.none rfl) rfl ?_
  refine AO.caseG rfl rfl rfl ?_ ?_
  · intro hg1
    try simp only [decide_eq_true_eq, decide_eq_false_iff_not, Bool.not_eq_true', Bool.not_eq_false', beq_iff_eq] at hg1
    refine AO.pass (.some rfl rfl rfl rfl) rfl ?_
    refine AO.pass (.some rfl rfl rfl rfl) rfl ?_
    refine AO.pass (.some rfl rfl rfl rfl) rfl ?_
    refine AO.val (RV.pickT rfl rfl) (.none rfl) rfl ?_
    refine AO.val (RV.move rfl) (.none rfl) rfl ?_
    refine AO.pass (.some rfl rfl rfl rfl) rfl ?_
    refine AO.pass (.some rfl rfl rfl rfl) rfl ?_
    refine AO.val (RV.pickT rfl rfl) (.none rfl) rfl ?_
    refine AO.val (RV.move rfl) (.none rfl) rfl ?_
    refine AO.pass (.some rfl rfl rfl rfl) rfl ?_
    refine AO.pass (.some rfl rfl rfl rfl) rfl ?_
    refine AO.pass (.some rfl rfl rfl rfl) rfl ?_
    refine AO.pass (.some rfl rfl rfl rfl) rfl ?_
    refine AO.pass (.some rfl rfl rfl rfl) rfl ?_
    refine AO.pass (.some rfl rfl rfl rfl) rfl ?_
    refine AO.val (RV.pickT rfl rfl) (.none rfl) rfl ?_
    refine AO.nil ?_
    refine AK.condT rfl ?_
    refine AK.seq ?_
    refine AK.region ?_
    refine AO.val (by first | exact RV.loadAggO rfl rfl (by first | simp | assumption) | exact RV.loadAggP rfl rfl rfl (by first | simp | assumption)) (.none rfl) rfl ?_
    refine AO.effN (EF.storeO rfl rfl rfl rfl rfl rfl) (.none rfl) ?_
    rintro _ _ rfl
    refine AO.val (RV.assign rfl) (.none rfl) rfl ?_
    refine AO.nil ?_
    -- at t
    refine AK.ret (h' := h) Try.func21 (.aggO rfl rfl (.tmp rfl .nil)) ?_ (by first | exact SubO.sub | exact List.Sublist.refl _ | exact .cons _ (List.Sublist.refl _) | exact .cons _ (.cons _ (List.Sublist.refl _)) | exact .cons _ (.cons _ (.cons _ (List.Sublist.refl _))))
    have hj : joinsS e s = false := by simp_all [joinsS]
    rw [hj, joinE, if_neg (by rw [hj]; decide)]
    exact ⟨rfl, rfl⟩
  · intro hg1
    try simp only [decide_eq_true_eq, decide_eq_false_iff_not, Bool.not_eq_true', Bool.not_eq_false', beq_iff_eq] at hg1
    refine AO.val (by first | exact RV.loadAggO rfl rfl (by first | simp | assumption) | exact RV.loadAggP rfl rfl rfl (by first | simp | assumption)) (.some rfl rfl rfl rfl) rfl ?_
    refine AO.eff (EF.callF rfl (has_spec B _ s _)) (.some rfl rfl rfl rfl) rfl ?_
    rintro _ _ ⟨rfl, rfl⟩
    first | rw [hb16] | rw [hb2] | rw [hb4] | rw [hb18]
    refine AO.val (RV.not rfl) (.some rfl rfl rfl rfl) rfl ?_
    refine AO.val (RV.pickF rfl rfl) (.none rfl) rfl ?_
    refine AO.val (RV.move rfl) (.none rfl) rfl ?_
    refine AO.caseG rfl rfl rfl ?_ ?_
    · intro hg2
      try simp only [decide_eq_true_eq, decide_eq_false_iff_not, Bool.not_eq_true', Bool.not_eq_false', beq_iff_eq] at hg2
      refine AO.pass (.some rfl rfl rfl rfl) rfl ?_
      refine AO.pass (.some rfl rfl rfl rfl) rfl ?_
      refine AO.val (RV.pickT rfl rfl) (.none rfl) rfl ?_
      refine AO.val (RV.move rfl) (.none rfl) rfl ?_
      refine AO.pass (.some rfl rfl rfl rfl) rfl ?_
      refine AO.pass (.some rfl rfl rfl rfl) rfl ?_
      refine AO.pass (.some rfl rfl rfl rfl) rfl ?_
      refine AO.pass (.some rfl rfl rfl rfl) rfl ?_
      refine AO.pass (.some rfl rfl rfl rfl) rfl ?_
      refine AO.pass (.some rfl rfl rfl rfl) rfl ?_
      refine AO.val (RV.pickT rfl rfl) (.none rfl) rfl ?_
      refine AO.nil ?_
      refine AK.condT rfl ?_
      refine AK.seq ?_
      refine AK.region ?_
      refine AO.val (by first | exact RV.loadAggO rfl rfl (by first | simp | assumption) | exact RV.loadAggP rfl rfl rfl (by first | simp | assumption)) (.none rfl) rfl ?_
      refine AO.effN (EF.storeO rfl rfl rfl rfl rfl rfl) (.none rfl) ?_
      rintro _ _ rfl
      refine AO.val (RV.assign rfl) (.none rfl) rfl ?_
      refine AO.nil ?_
      -- at ft
      refine AK.ret (h' := h) Try.func21 (.aggO rfl rfl (.tmp rfl .nil)) ?_ (by first | exact SubO.sub | exact List.Sublist.refl _ | exact .cons _ (List.Sublist.refl _) | exact .cons _ (.cons _ (List.Sublist.refl _)) | exact .cons _ (.cons _ (.cons _ (List.Sublist.refl _))))
      have hj : joinsS e s = false := by simp_all [joinsS]
      rw [hj, joinE, if_neg (by rw [hj]; decide)]
      exact ⟨rfl, rfl⟩
    · intro hg2
      try simp only [decide_eq_true_eq, decide_eq_false_iff_not, Bool.not_eq_true', Bool.not_eq_false', beq_iff_eq] at hg2
      refine AO.val (by first | exact RV.loadAggO rfl rfl (by first | simp | assumption) | exact RV.loadAggP rfl rfl rfl (by first | simp | assumption)) (.some rfl rfl rfl rfl) rfl ?_
      refine AO.eff (EF.callF rfl (has_spec B _ s _)) (.some rfl rfl rfl rfl) rfl ?_
      rintro _ _ ⟨rfl, rfl⟩
      first | rw [hb16] | rw [hb2] | rw [hb4] | rw [hb18]
      refine AO.val (RV.pickF rfl rfl) (.none rfl) rfl ?_
      refine AO.val (RV.move rfl) (.none rfl) rfl ?_
      refine AO.caseG rfl rfl rfl ?_ ?_
      · intro hg3
        try simp only [decide_eq_true_eq, decide_eq_false_iff_not, Bool.not_eq_true', Bool.not_eq_false', beq_iff_eq] at hg3
        refine AO.pass (.some rfl rfl rfl rfl) rfl ?_
        refine AO.pass (.some rfl rfl rfl rfl) rfl ?_
        refine AO.pass (.some rfl rfl rfl rfl) rfl ?_
        refine AO.pass (.some rfl rfl rfl rfl) rfl ?_
        refine AO.pass (.some rfl rfl rfl rfl) rfl ?_
        refine AO.pass (.some rfl rfl rfl rfl) rfl ?_
        refine AO.val (RV.pickT rfl rfl) (.none rfl) rfl ?_
        refine AO.nil ?_
        refine AK.condT rfl ?_
        refine AK.seq ?_
        refine AK.region ?_
        refine AO.val (by first | exact RV.loadAggO rfl rfl (by first | simp | assumption) | exact RV.loadAggP rfl rfl rfl (by first | simp | assumption)) (.none rfl) rfl ?_
        refine AO.effN (EF.storeO rfl rfl rfl rfl rfl rfl) (.none rfl) ?_
        rintro _ _ rfl
        refine AO.val (RV.assign rfl) (.none rfl) rfl ?_
        refine AO.nil ?_
        -- at fft
        refine AK.ret (h' := h) Try.func21 (.aggO rfl rfl (.tmp rfl .nil)) ?_ (by first | exact SubO.sub | exact List.Sublist.refl _ | exact .cons _ (List.Sublist.refl _) | exact .cons _ (.cons _ (List.Sublist.refl _)) | exact .cons _ (.cons _ (.cons _ (List.Sublist.refl _))))
        have hj : joinsS e s = false := by simp_all [joinsS]
        rw [hj, joinE, if_neg (by rw [hj]; decide)]
        exact ⟨rfl, rfl⟩
      · intro hg3
        try simp only [decide_eq_true_eq, decide_eq_false_iff_not, Bool.not_eq_true', Bool.not_eq_false', beq_iff_eq] at hg3
        refine AO.val (RV.fieldAddr rfl) (.some rfl rfl rfl rfl) rfl ?_
        refine AO.val (by first | exact RV.loadO rfl rfl (by first | simp | assumption) | exact RV.loadS rfl (by assumption) (by omega) (by first | simp | assumption)) (.some rfl rfl rfl rfl) rfl ?_
        refine AO.val (RV.fieldAddr rfl) (.some rfl rfl rfl rfl) rfl ?_
        refine AO.val (by first | exact RV.loadO rfl rfl (by first | simp | assumption) | exact RV.loadS rfl (by assumption) (by omega) (by first | simp | assumption)) (.some rfl rfl rfl rfl) rfl ?_
        refine AO.val (by first | exact RV.addK rfl rfl (by simp only [kb]; omega) | exact RV.add rfl rfl) (.some rfl rfl rfl rfl) rfl ?_
        refine AO.val (RV.neq rfl rfl) (.some rfl rfl rfl rfl) rfl ?_
        refine AO.val (RV.pickF rfl rfl) (.none rfl) rfl ?_
        refine AO.nil ?_
        refine AK.cond rfl ?_ ?_
        · intro hc4
          try simp only [decide_eq_true_eq, decide_eq_false_iff_not, Bool.not_eq_true', Bool.not_eq_false', beq_iff_eq] at hc4
          refine AK.seq ?_
          refine AK.region ?_
          refine AO.val (by first | exact RV.loadAggO rfl rfl (by first | simp | assumption) | exact RV.loadAggP rfl rfl rfl (by first | simp | assumption)) (.none rfl) rfl ?_
          refine AO.effN (EF.storeO rfl rfl rfl rfl rfl rfl) (.none rfl) ?_
          rintro _ _ rfl
          refine AO.val (RV.assign rfl) (.none rfl) rfl ?_
          refine AO.nil ?_
          -- at fffT
          refine AK.ret (h' := h) Try.func21 (.aggO rfl rfl (.tmp rfl .nil)) ?_ (by first | exact SubO.sub | exact List.Sublist.refl _ | exact .cons _ (List.Sublist.refl _) | exact .cons _ (.cons _ (List.Sublist.refl _)) | exact .cons _ (.cons _ (.cons _ (List.Sublist.refl _))))
          have hj : joinsS e s = false := by simp_all [joinsS]
          rw [hj, joinE, if_neg (by rw [hj]; decide)]
          exact ⟨rfl, rfl⟩
        · intro hc4
          try simp only [decide_eq_true_eq, decide_eq_false_iff_not, Bool.not_eq_true', Bool.not_eq_false', beq_iff_eq] at hc4
          have hne : b3 ∉ [b2] := fresh_ne hf3 List.mem_cons_self
          refine AK.skip ?_
          refine AK.seq ?_
          refine AK.draw [b2] [10] mixed ?_
          refine AD.takeP 0 rfl (by kernel_rfl) (RV.fieldAddr rfl) (.none rfl) rfl ?_
          refine AD.take 1 rfl (by kernel_rfl) (RV.loadO rfl rfl hne) (.none rfl) rfl ?_
          refine AD.takeP 2 rfl (by kernel_rfl) (RV.fieldAddr rfl) (.none rfl) rfl ?_
          refine AD.one 3 (by kernel_rfl) (AE.eff rfl (EF.of_val (by first | exact RV.loadO rfl rfl (by first | simp | assumption) | exact RV.loadS rfl (by assumption) (by omega) (by first | simp | assumption))) (.none rfl) rfl ?_)
          rintro _ _ ⟨rfl, rfl⟩
          refine ⟨(.inr fun x hx hM => UpO.upd.keep hx hM), ?_⟩
          refine AD.takeP 4 rfl (by kernel_rfl) (by first | exact RV.subK rfl rfl (by simp only [kb]; omega) | exact RV.sub rfl rfl) (.none rfl) rfl ?_
          refine AD.takeP 5 rfl (by kernel_rfl) (RV.fieldAddr rfl) (.none rfl) rfl ?_
          refine AD.one 6 (by kernel_rfl) (AE.effN rfl (EF.storeO rfl rfl rfl rfl rfl rfl) (.none rfl) ?_)
          rintro _ _ rfl
          refine ⟨(.inr fun x hx hM => UpO.upd.keep hx hM), ?_⟩
          refine AD.takeP 7 rfl (by kernel_rfl) (RV.fieldAddr rfl) (.none rfl) rfl ?_
          refine AD.one 8 (by kernel_rfl) (AE.effN rfl (EF.storeO rfl rfl rfl rfl rfl rfl) (.none rfl) ?_)
          rintro _ _ rfl
          refine ⟨(.inr fun x hx hM => UpO.upd.keep hx hM), ?_⟩
          refine AD.takeP 9 rfl (by kernel_rfl) (RV.fieldAddr rfl) (.none rfl) rfl ?_
          refine AD.one 10 (by kernel_rfl) (AE.effN rfl (EF.storeO rfl rfl rfl rfl rfl rfl) (.none rfl) ?_)
          rintro _ _ rfl
          refine ⟨.inl (by kernel_rfl), ?_⟩
          refine AD.done (by kernel_rfl) ?_
          refine AK.seq ?_
          refine AK.region ?_
          refine AO.val (by first | exact RV.loadAggO rfl rfl (by first | simp | assumption) | exact RV.loadAggP rfl rfl rfl (by first | simp | assumption)) (.none rfl) rfl ?_
          refine AO.effN (EF.storeO rfl rfl rfl rfl rfl rfl) (.none rfl) ?_
          rintro _ _ rfl
          refine AO.val (RV.assign rfl) (.none rfl) rfl ?_
          refine AO.nil ?_
          -- at fffF
          refine AK.ret (h' := h) Try.func21 (.aggO rfl rfl (.tmp rfl .nil)) ?_ (by first | exact SubO.sub | exact List.Sublist.refl _ | exact .cons _ (List.Sublist.refl _) | exact .cons _ (.cons _ (List.Sublist.refl _)) | exact .cons _ (.cons _ (.cons _ (List.Sublist.refl _))))
          have hj : joinsS e s = true := by simp_all [joinsS]
          rw [hj, joinE, if_pos hj]
          exact ⟨rfl, rfl⟩

theorem flow_eq (e : Flow) (w : World) : (Op.eqFields 9998 (encF e).toArray (encF e).toArray (Try.prog.fieldsOf 30).toList).run Try.prog w = .ok true w := by
  have e1 : (Try.prog.fieldsOf 30) = #[(Field.mk "Src" 27 0 false "" "" 0), (Field.mk "Dst" 27 1 false "" "" 4), (Field.mk "SrcPort" 28 2 false "" "" 8), (Field.mk "DstPort" 28 3 false "" "" 10), (Field.mk "Proto" 5 4 false "" "" 12)] := by kernel_rfl
  rw [e1]
  have hu5 := UndIs.eq (P := Try.prog) (t := 5)
  have hu27 := UndIs.eq (P := Try.prog) (t := 27)
  have hu28 := UndIs.eq (P := Try.prog) (t := 28)
  simp [Op.eqFields, part, UndIs.run, AggIs.run, SizeIs.run, run_equalIn_int, run_equalIn_bool', hu5, hu27, hu28]

theorem entry_eq (e : Ent) (w : World) : (Op.eqFields 9999 (encE e).toArray (encE e).toArray (Try.prog.fieldsOf 47).toList).run Try.prog w = .ok true w := by
  have e1 : (Try.prog.fieldsOf 47) = #[(Field.mk "Flow" 30 0 false "" "" 0), (Field.mk "Backend" 3 5 false "" "" 16), (Field.mk "Phase" 3 6 false "" "" 24), (Field.mk "At" 3 7 false "" "" 32), (Field.mk "Proxied" 4 8 false "" "" 40), (Field.mk "Joined" 4 9 false "" "" 41), (Field.mk "Port" 28 10 false "" "" 42), (Field.mk "Shift" 27 11 false "" "" 44), (Field.mk "First" 27 12 false "" "" 48)] := by kernel_rfl
  rw [e1]
  have hu3 := UndIs.eq (P := Try.prog) (t := 3)
  have hu4 := UndIs.eq (P := Try.prog) (t := 4)
  have hu27 := UndIs.eq (P := Try.prog) (t := 27)
  have hu28 := UndIs.eq (P := Try.prog) (t := 28)
  have hflow : ∀ w : World, (Op.equalIn 9999 30 (.agg (encF e.1).toArray) (.agg (encF e.1).toArray)).run Try.prog w = .ok true w := fun w => by
    rw [run_equalIn_agg w 9998 30 _ _ (by kernel_rfl) (by kernel_rfl)]; exact flow_eq e.1 w
  simp only [encF] at hflow
  simp [Op.eqFields, part, UndIs.run, AggIs.run, SizeIs.run, run_equalIn_int, run_equalIn_bool', hu3, hu4, hu27, hu28, hflow]

end Go.Proofs.Ytagfegkpgdaimaa
