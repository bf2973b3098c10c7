/- Plain laws of segments that are answered. No program in sight. -/
import Derived.Test.YtagfegkpgdaimaaPlain10
import Derived.Test.YtagfegkpgdaimaaPlain27
import Derived.Test.YtagfegkpgdaimaaSep15
set_option linter.unusedSimpArgs false
set_option linter.unusedVariables false
namespace Go.Sep.Proxy
open Go.Sep Go.Sep.Sip Go.Sep.Cookie Go.Sep.Topt
abbrev Seg := Int × Int × Int × Int × Int × Int × Int × Int × InS Int × InS Int × Unit
abbrev sq (s : Seg) : Int := s.2.2.1
abbrev ak (s : Seg) : Int := s.2.2.2.1
abbrev fl (s : Seg) : Int := s.2.2.2.2.2.1
abbrev op (s : Seg) : InS Int := s.2.2.2.2.2.2.2.2.1
abbrev da (s : Seg) : InS Int := s.2.2.2.2.2.2.2.2.2.1
abbrev encG (s : Seg) : List Value := [.int .u16 s.1, .int .u16 s.2.1, .int .u32 s.2.2.1, .int .u32 s.2.2.2.1, .int .u8 s.2.2.2.2.1, .int .u8 s.2.2.2.2.2.1, .int .u16 s.2.2.2.2.2.2.1, .int .u16 s.2.2.2.2.2.2.2.1,
  .slice (op s).A (op s).l.length (op s).cap, .slice (da s).A (da s).l.length (da s).cap]
abbrev Ent := Flow × Int × Int × Int × Bool × Bool × Int × Int × Int × Unit
abbrev encE (e : Ent) : List Value := [.int .u32 e.1.1, .int .u32 e.1.2.1, .int .u16 e.1.2.2.1, .int .u16 e.1.2.2.2.1, .int .u8 e.1.2.2.2.2.1,
  .int .i64 e.2.1, .int .i64 e.2.2.1, .int .i64 e.2.2.2.1, .bool e.2.2.2.2.1, .bool e.2.2.2.2.2.1, .int .u16 e.2.2.2.2.2.2.1, .int .u32 e.2.2.2.2.2.2.2.1, .int .u32 e.2.2.2.2.2.2.2.2.1]
structure SegIn (B : World) (h : Own) (s : Seg) : Prop where
  seq : 0 ≤ sq s ∧ sq s ≤ 4294967295
  ack : 0 ≤ ak s ∧ ak s ≤ 4294967295
  flg : 0 ≤ fl s ∧ fl s ≤ 255
  src : Src B h (op s).A (op s).l.length 1 ((op s).l.map (fun x => Value.int .u8 x))
  byt : Bytes (op s).l
  cap : (op s).l.length ≤ (op s).cap
  len : (op s).l.length ≤ 100000
  dsrc : Src B h (da s).A (da s).l.length 1 ((da s).l.map (fun x => Value.int .u8 x))
theorem SegIn.sub {B : World} {h0 h : Own} [i : SubO h0 h] {s : Seg} (o : SegIn B h0 s) : SegIn B h s := ⟨o.seq, o.ack, o.flg, o.src.sub, o.byt, o.cap, o.len, o.dsrc.sub⟩
abbrev w32 (x : Int) : Int := IntKind.u32.wrap x
theorem w32_eq (x : Int) : w32 x = x % 4294967296 := by simp [w32, IntKind.wrap, IntKind.bits, IntKind.signed]
theorem w32_in (x : Int) : 0 ≤ w32 x ∧ w32 x ≤ 4294967295 := by rw [w32_eq]; omega
def bitS (f k : Int) : Bool := decide (f / k % 2 = 1)
def hasS (f k : Int) : Bool := decide (bits .and .u8 f k = k)
theorem has_key : ∀ n : Fin 256, hasS ((n.val : Nat) : Int) 16 = bitS ((n.val : Nat) : Int) 16 ∧ hasS ((n.val : Nat) : Int) 2 = bitS ((n.val : Nat) : Int) 2 ∧ hasS ((n.val : Nat) : Int) 4 = bitS ((n.val : Nat) : Int) 4 ∧ hasS ((n.val : Nat) : Int) 18 = (bitS ((n.val : Nat) : Int) 2 && bitS ((n.val : Nat) : Int) 16) := by decide +kernel
theorem has_bit {f : Int} (h : 0 ≤ f ∧ f ≤ 255) : hasS f 16 = bitS f 16 ∧ hasS f 2 = bitS f 2 ∧ hasS f 4 = bitS f 4 ∧ hasS f 18 = (bitS f 2 && bitS f 16) := by
  obtain ⟨n, rfl⟩ := Int.eq_ofNat_of_zero_le h.1
  exact has_key ⟨n, by omega⟩
def mssN (l : List Int) : Int := if (mssS l).2 = true then (mssS l).1 else 536
def offI (l : List Int) : Int := idxTo (mssN l) 8
theorem idx_lt (n : Int) (k : Nat) : idxTo n (k + 1) ≤ k := by
  unfold idxTo
  split
  · omega
  · exact (idxTo_in n k).2
theorem offI_in (l : List Int) : 0 ≤ offI l ∧ offI l ≤ 7 := ⟨(idxTo_in _ 8).1, idx_lt _ 7⟩
def acceptS (lo hi lo2 hi2 ep : Int) (f : Flow) (g seq ack : Int) : Int × Bool :=
  if (bitS g 16 && !bitS g 2 && !bitS g 4 && rightC lo hi lo2 hi2 ep f (w32 (seq - 1)) (w32 (ack - 1))) = true then (w32 (ack - 1) / 16777216 % 8, true) else (0, false)
def joinsS (e : Ent) (s : Seg) : Bool := !e.2.2.2.2.2.1 && bitS (fl s) 2 && bitS (fl s) 16 && !bitS (fl s) 4 && decide (ak s = w32 (e.2.2.2.2.2.2.2.2.1 + 1))
def joinE (e : Ent) (s : Seg) : Ent := if joinsS e s = true then (e.1, e.2.1, 2, e.2.2.2.1, e.2.2.2.2.1, true, e.2.2.2.2.2.2.1, w32 (sq s - e.2.2.2.2.2.2.2.1), e.2.2.2.2.2.2.2.2.1, ()) else e
theorem pmB_size {n : Int} (h : 0 ≤ n ∧ n ≤ 65535) : pmB n = [2, 4, n / 256, n % 256] := by
  unfold pmB
  rw [show n / 256 % 256 = n / 256 by omega]
theorem w_back {x : Int} (h : 0 ≤ x ∧ x ≤ 4294967295) : w32 (w32 (x + 1) - 1) = x := by
  rw [w32_eq, w32_eq]; omega
/-- who answers an offer as it asks is accepted -/
theorem accept_offer (lo hi lo2 hi2 ep : Int) (f : Flow) {seq : Int} (hs : 0 ≤ seq ∧ seq ≤ 4294967295) (l : List Int) :
    acceptS lo hi lo2 hi2 ep f 16 (w32 (seq + 1)) (w32 (makeC lo hi f seq ep (offI l) + 1)) = (offI l, true) := by
  have hm := makeC_in lo hi f seq ep (offI l)
  have hi := offI_in l
  unfold acceptS
  rw [w_back hs, w_back ⟨hm.1, hm.2.1⟩, right_issue, hm.2.2.2]
  rw [if_pos (by decide), show max (offI l) 0 % 8 = offI l by omega]
theorem accept_fresh (lo hi klo khi ep : Int) (h0 : 0 ≤ ep) (f : Flow) {seq : Int} (hs : 0 ≤ seq ∧ seq ≤ 4294967295) (l : List Int) :
    acceptS klo khi lo hi (ep + 1) f 16 (w32 (seq + 1)) (w32 (makeC lo hi f seq ep (offI l) + 1)) = (offI l, true) := by
  have hm := makeC_in lo hi f seq ep (offI l)
  have hi := offI_in l
  unfold acceptS
  rw [w_back hs, w_back ⟨hm.1, hm.2.1⟩, right_next _ _ _ _ _ h0, hm.2.2.2]
  rw [if_pos (by decide), show max (offI l) 0 % 8 = offI l by omega]
end Go.Sep.Proxy
