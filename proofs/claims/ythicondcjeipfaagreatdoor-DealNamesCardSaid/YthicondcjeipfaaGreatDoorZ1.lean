/- What the walks of all texts share: small laws; no function of the program. math/bits.Len64, LeadingZeros64 and Div64, walked. The plain arithmetic of bits.Div64: Knuth's division by two halves. No program in sight. math/bits.Div64, walked. Congruences of integers. No program in sight. math/bits.Div64 over Int. The draws of a tape, as plain functions: the numbers of its state, which of them are taken, and that one always is. tape's own numbers, walked. Words for memory, turned to this claim: a slice that reads as a list of one-cell values; a block that is known whole. tape.New, Of, Next, At, Draws, Copy, walked. Data in memory, told by what it reads as: numbers, pairs, slices of them, however deep. append onto a slice of the call's own, told by what it reads as. Slices that may be written; parts of slices; pieces of lists. A drawn region in the round of a range over a function, at the wide fence, walked by the plain laws. pedersen.pairs, an iterator over two lists, walked. pedersen.pairs over lists of lists, and of lists of lists of lists; pairs itself; walked. The contracts of mod.may, Add, Sub and of bits.Mul64, walked. math/bits.Rem64, mod.Mul and Pow, walked. group.Times, walked; params as data. Inverses modulo m, by Euclid's steps. No program in sight. mod.Inv, walked. The reference's Add, Sub, Mul, Pow (consistoryref01), walked: they answer what mod's do. group.Power, Commit, At, Is, walked. What slices hold. pedersen.Share, turned, RowComs, ColComs, Fits; slices.Equal of numbers; walked. pedersen.pairs' contracts and pedersen.Coms. -/
import Derived.Test.YthicondcjeipfaaGreatDoorProg
import Derived.WalkKit
import Derived.WalkSpells
import Derived.WalkLawsBesides
import Derived.Handy
import Derived.Deep.QuietTactic
import Derived.BigQuiet
import Derived.Lib.Hide
import Derived.Lib.Mul64
import Derived.Laws.Bits64b
import Derived.Lib.Strings
import Derived.Lib.Slices
import Derived.Lib.Small
import Derived.Lib.Walk
import Derived.Lib.BitFns
import Derived.Deep.Light
import Derived.Deep.CutBlock
import Derived.Deep.DeepCutAuto
import Derived.KernelRfl
import Derived.WalkSmall
import Derived.Below
import Derived.Deep.Draws
import Derived.Laws.Rows
import Derived.Laws.OwnMore
import Derived.Maps.AppendAt
import Derived.OwnWalk
import Derived.Deep.LoopGhost
import Derived.Deep.AppendLies
import Derived.RangeFuncOwn
import Derived.RegionTactic
import Derived.RangeFuncNested
import Derived.RangeFuncCalls
import Derived.OwnWalkIn
import Derived.OrdersIn
import Derived.Deep.RegionHeld3
import Derived.RangeFuncBound
import Derived.RangeFuncLeaves
import Derived.Shelf.Abstract
import Derived.Shelf.RegionOpen
import Derived.TacticsInMore
import Derived.LoopNIn
import Derived.LoopIn
import Derived.Stop.RegionWithIn
import Derived.Outline
import Derived.Deep.RegionWith
import Derived.Deep.OwnRows
import Derived.IntWalk
namespace Go.Proofs.YthicondcjeipfaaGreatDoor
open Go.RowKit

theorem quiet_add {P : Program} {f : FuncId} {args : Array Value} {w : World} {a n : Nat} {v : Value}
    (h : Calls P f args (w.drewN (a + n)) fun e w' => e = .returned v ∧ ∃ m, w' = (w.drewN (a + n)).drewN m) :
    Calls P f args (w.drewN (a + n)) fun e w'' => e = .returned v ∧ ∃ m, w'' = w.drewN (a + m) :=
  h.mono fun _ _ ⟨he, m, hm⟩ => ⟨he, n + m, by rw [hm, World.drewN_drewN, Nat.add_assoc]⟩
def U64 (a : Int) : Prop := 0 ≤ a ∧ a < 18446744073709551616
namespace Mul64
theorem maskN (a : Nat) (ha : a < 18446744073709551616) : bits .and .u64 (a : Int) 4294967295 = ((a % 4294967296 : Nat) : Int) := by
  have h := bits_and_u64_nat a 4294967295 ha (by omega)
  have e : a &&& 4294967295 = a % 4294967296 := Nat.and_two_pow_sub_one_eq_mod a 32
  rw [e] at h
  exact h
theorem divN (a : Nat) : (a : Int) / 4294967296 = ((a / 4294967296 : Nat) : Int) := by omega
theorem mulN (a b : Nat) : (a : Int) * (b : Int) = ((a * b : Nat) : Int) := (Int.natCast_mul a b).symm
theorem addN (a b : Nat) : (a : Int) + (b : Int) = ((a + b : Nat) : Int) := (Int.natCast_add a b).symm
theorem wrapN (a : Nat) (ha : a < 18446744073709551616) : IntKind.u64.wrap (a : Int) = (a : Int) := by rw [IntKind.wrap_u64]; omega
theorem wrapM (a : Nat) : IntKind.u64.wrap (a : Int) = ((a % 18446744073709551616 : Nat) : Int) := by rw [IntKind.wrap_u64]; omega
end Mul64

end Go.Proofs.YthicondcjeipfaaGreatDoor

namespace Go.Proofs.YthicondcjeipfaaGreatDoor
open Go.RowKit

set_option maxRecDepth 100000 in
theorem len8tab_size : (Lib.len8tab.size : Int) = 256 := by
  have : Lib.len8tab.size = 256 := by decide
  omega
/-- THE LAST STEP OF EACH OF THE EIGHT WAYS, PROVED ONCE, OUTSIDE: 'omega' on it INSIDE the way's context (a chain of divisions by great numbers) took 25 s a way and gigabytes. -/
theorem wrap_add (k a b : Nat) (hk : k ≤ 56) (ha : a ≤ 8) (hb : b = k + a) : wrap64 ((k : Int) + wrap64 (a : Int)) = (b : Int) := by
  unfold wrap64
  omega
theorem wrap_wrap (a : Nat) (ha : a ≤ 8) : wrap64 (wrap64 (a : Int)) = (a : Int) := by
  unfold wrap64
  omega
theorem wrap_one (a : Nat) (ha : a ≤ 8) : wrap64 (a : Int) = (a : Int) := by
  unfold wrap64
  omega
/-- The table's byte, as an index's plain meaning reads it, IS the shelf's 'Lib.len8'. -/
theorem len8_get (y : Int) (h : y.toNat < Lib.len8tab.size) : ((Lib.len8tab[y.toNat]'h).toNat : Int) = Lib.len8 y := by
  unfold Lib.len8
  rw [getElem?_pos Lib.len8tab y.toNat h]
  rfl

set_option maxHeartbeats 4000000 in
set_option maxRecDepth 1000000 in
theorem len64_any (x : Int) (w : World) (h0 : 0 ≤ x) (h1 : x ≤ 18446744073709551615) :
    Calls Tryz.prog 106 #[.int .u64 x] w fun e w' => e = .returned (.int .i64 (Lib.bitLen x.toNat)) ∧ w' = w := by
  go_enter Tryz.func106, Tryz.ntmps106
  go_wp2
  all_goals first
    | (go_ret; refine ⟨congrArg Ending.returned (congrArg (Value.int IntKind.i64) ?_), rfl⟩; go_light)
    | (exfalso
       go_light
       have hs := len8tab_size
       omega)
  all_goals first
    | (rw [len8_get (x / 4294967296 / 65536 / 256) _, Lib.len8_of (x / 4294967296 / 65536 / 256) (by omega) (by omega)]
       have e : (x / 4294967296 / 65536 / 256).toNat = x.toNat / 72057594037927936 := by omega
       have l := Lib.bitLen_le8' (x / 4294967296 / 65536 / 256) (by omega) (by omega)
       have s := Lib.bitLen_shift56 x.toNat (by omega) (by omega)
       rw [e] at l ⊢
       exact wrap_add 56 _ _ (by decide) l s)
    | (rw [len8_get (x / 4294967296 / 65536) _, Lib.len8_of (x / 4294967296 / 65536) (by omega) (by omega)]
       have e : (x / 4294967296 / 65536).toNat = x.toNat / 281474976710656 := by omega
       have l := Lib.bitLen_le8' (x / 4294967296 / 65536) (by omega) (by omega)
       have s := Lib.bitLen_shift48 x.toNat (by omega) (by omega)
       rw [e] at l ⊢
       exact wrap_add 48 _ _ (by decide) l s)
    | (rw [len8_get (x / 4294967296 / 256) _, Lib.len8_of (x / 4294967296 / 256) (by omega) (by omega)]
       have e : (x / 4294967296 / 256).toNat = x.toNat / 1099511627776 := by omega
       have l := Lib.bitLen_le8' (x / 4294967296 / 256) (by omega) (by omega)
       have s := Lib.bitLen_shift40 x.toNat (by omega) (by omega)
       rw [e] at l ⊢
       exact wrap_add 40 _ _ (by decide) l s)
    | (rw [len8_get (x / 4294967296) _, Lib.len8_of (x / 4294967296) (by omega) (by omega)]
       have e : (x / 4294967296).toNat = x.toNat / 4294967296 := by omega
       have l := Lib.bitLen_le8' (x / 4294967296) (by omega) (by omega)
       have s := Lib.bitLen_shift32 x.toNat (by omega) (by omega)
       rw [e] at l ⊢
       exact wrap_add 32 _ _ (by decide) l s)
    | (rw [len8_get (x / 65536 / 256) _, Lib.len8_of (x / 65536 / 256) (by omega) (by omega)]
       have e : (x / 65536 / 256).toNat = x.toNat / 16777216 := by omega
       have l := Lib.bitLen_le8' (x / 65536 / 256) (by omega) (by omega)
       have s := Lib.bitLen_shift24 x.toNat (by omega) (by omega)
       rw [e] at l ⊢
       exact wrap_add 24 _ _ (by decide) l s)
    | (rw [len8_get (x / 65536) _, Lib.len8_of (x / 65536) (by omega) (by omega)]
       have e : (x / 65536).toNat = x.toNat / 65536 := by omega
       have l := Lib.bitLen_le8' (x / 65536) (by omega) (by omega)
       have s := Lib.bitLen_shift16 x.toNat (by omega) (by omega)
       rw [e] at l ⊢
       exact wrap_add 16 _ _ (by decide) l s)
    | (rw [len8_get (x / 256) _, Lib.len8_of (x / 256) (by omega) (by omega)]
       have e : (x / 256).toNat = x.toNat / 256 := by omega
       have l := Lib.bitLen_le8' (x / 256) (by omega) (by omega)
       have s := Lib.bitLen_shift8 x.toNat (by omega) (by omega)
       rw [e] at l ⊢
       exact wrap_add 8 _ _ (by decide) l s)
    | (rw [len8_get (x) _, Lib.len8_of (x) (by omega) (by omega)]
       have e : (x).toNat = x.toNat := by omega
       have l := Lib.bitLen_le8' (x) (by omega) (by omega)
       rw [e] at l ⊢
       first | exact wrap_wrap _ l | exact wrap_add 0 _ _ (by decide) l (by omega) | exact wrap_one _ l)

theorem lz64_any (x : Int) (w : World) (h0 : 0 ≤ x) (h1 : x ≤ 18446744073709551615) (hb : Lib.bitLen x.toNat ≤ 64) :
    Calls Tryz.prog 104 #[.int .u64 x] w fun e w' => e = .returned (.int .i64 (64 - (Lib.bitLen x.toNat : Int))) ∧ w = w' := by
  go_enter Tryz.func104, Tryz.ntmps104
  go_wp2_with (go_at_call 106; refine (len64_any _ _ h0 h1).mono ?_; rintro e w' ⟨rfl, rfl⟩)
  go_ret
  exact ⟨rfl, rfl⟩

set_option maxHeartbeats 400000 in
theorem div64_low (lo y : Int) (w : World) (hl : U64 lo) (hy : U64 y) (h0 : 0 < y) :
    Calls Tryz.prog 90 #[.int .u64 0, .int .u64 lo, .int .u64 y] w fun e w' => e = .returned (.tuple #[.int .u64 (lo / y), .int .u64 (lo % y)]) ∧ ∃ n, w' = w.drewN n := by
  obtain ⟨l0, l1⟩ := hl
  obtain ⟨y0, y1⟩ := hy
  have c1 : (y == 0) = false := by simp; omega
  have c2 : decide (y ≤ 0) = false := by simp; omega
  go_enter Tryz.func90, Tryz.ntmps90
  go_wp2
  go_quiet (fail)
  go_wp2
  go_ret2
  exact ⟨rfl, _, rfl⟩

end Go.Proofs.YthicondcjeipfaaGreatDoor

namespace Go.Proofs.YthicondcjeipfaaGreatDoor
namespace DivM

theorem bitLen_spec : ∀ (k x : Nat), x ≠ 0 → x < 2 ^ k → k ≤ 64 → 2 ^ (Lib.bitLen x) ≤ 2 * x ∧ x < 2 ^ (Lib.bitLen x)
  | 0, x, h0, h, _ => by simp at h; omega
  | k + 1, x, h0, h, hk => by
    have h64 : x < 2 ^ 64 := Nat.lt_of_lt_of_le h (Nat.pow_le_pow_right (by omega) hk)
    rw [Lib.bitLen_half x h0 h64]
    by_cases hx : x / 2 = 0
    · have : x = 1 := by omega
      subst this
      decide
    · have ih := bitLen_spec k (x / 2) hx (by rw [Nat.pow_succ] at h; omega) (by omega)
      rw [Nat.pow_add]
      omega

theorem bitLen_bounds (x : Nat) (h0 : x ≠ 0) (h : x < 18446744073709551616) : 1 ≤ Lib.bitLen x ∧ Lib.bitLen x ≤ 64 := by
  refine ⟨?_, Lib.bitLen_le x 64 (by omega) h⟩
  have := (bitLen_spec 64 x h0 h (by omega)).2
  by_cases e : Lib.bitLen x = 0
  · rw [e] at this; omega
  · omega

theorem norm (y : Nat) (h0 : y ≠ 0) (h : y < 18446744073709551616) : 9223372036854775808 ≤ y * 2 ^ (64 - Lib.bitLen y) ∧ y * 2 ^ (64 - Lib.bitLen y) < 18446744073709551616 := by
  obtain ⟨b1, b2⟩ := bitLen_bounds y h0 h
  obtain ⟨s1, s2⟩ := bitLen_spec 64 y h0 h (by omega)
  have e : 2 ^ (Lib.bitLen y) * 2 ^ (64 - Lib.bitLen y) = 18446744073709551616 := by
    rw [← Nat.pow_add, show Lib.bitLen y + (64 - Lib.bitLen y) = 64 by omega]
  have p : 0 < 2 ^ (64 - Lib.bitLen y) := Nat.two_pow_pos _
  constructor
  · have := Nat.mul_le_mul_right (2 ^ (64 - Lib.bitLen y)) s1
    rw [e, Nat.mul_assoc] at this
    omega
  · have := (Nat.mul_lt_mul_right p).2 s2
    rw [e] at this
    exact this

theorem pows (s : Nat) (hs : s ≤ 64) : 2 ^ s * 2 ^ (64 - s) = 18446744073709551616 := by
  rw [← Nat.pow_add, show s + (64 - s) = 64 by omega]

theorem low_shift (lo s : Nat) (hs : s ≤ 64) : lo * 2 ^ s / 18446744073709551616 = lo / 2 ^ (64 - s) := by
  rw [← pows s hs, Nat.mul_comm lo, Nat.mul_div_mul_left _ _ (Nat.two_pow_pos s)]

theorem low_lt (lo s : Nat) (hs : s ≤ 64) (h : lo < 18446744073709551616) : lo / 2 ^ (64 - s) < 2 ^ s := by
  rw [Nat.div_lt_iff_lt_mul (Nat.two_pow_pos _), pows s hs]
  exact h

theorem shifted (hi lo s : Nat) (hs : s ≤ 64) : (hi * 18446744073709551616 + lo) * 2 ^ s = (hi * 2 ^ s + lo / 2 ^ (64 - s)) * 18446744073709551616 + lo * 2 ^ s % 18446744073709551616 := by
  have e := low_shift lo s hs
  have d := Nat.div_add_mod (lo * 2 ^ s) 18446744073709551616
  rw [e] at d
  rw [Nat.add_mul, Nat.add_mul, Nat.mul_right_comm]
  omega

theorem high_lt (hi lo y s : Nat) (hs : s ≤ 64) (h : lo < 18446744073709551616) (hy : hi < y) : hi * 2 ^ s + lo / 2 ^ (64 - s) < y * 2 ^ s := by
  have a := low_lt lo s hs h
  have b := Nat.mul_le_mul_right (2 ^ s) (show hi + 1 ≤ y from hy)
  rw [Nat.add_mul] at b
  omega

theorem or_add (hi lo s : Nat) (hs : s ≤ 64) (h : lo < 18446744073709551616) : (hi * 2 ^ s) ||| (lo / 2 ^ (64 - s)) = hi * 2 ^ s + lo / 2 ^ (64 - s) := by
  rw [Nat.mul_comm hi, Nat.two_pow_add_eq_or_of_lt (low_lt lo s hs h)]

/-- The state of an estimate: q stands for a quotient of U by the divisor's upper half, r for what is left. -/
structure Est (U u1 y1 y0 q r : Nat) : Prop where
  sum : q * y1 + r = U
  low : r < 4294967296
  top : q ≤ 4294967297
  over : (U * 4294967296 + u1) / (y1 * 4294967296 + y0) ≤ q

theorem Est.start {U u1 y1 y0 : Nat} (hy1 : 2147483648 ≤ y1) (hy1' : y1 < 4294967296) (hy0 : y0 < 4294967296) (hu1 : u1 < 4294967296) (hU : U < y1 * 4294967296 + y0) : Est U u1 y1 y0 (U / y1) (U % y1) := by
  have m := Nat.div_add_mod U y1
  have l := Nat.mod_lt U (show 0 < y1 by omega)
  refine ⟨by rw [Nat.mul_comm]; exact m, by omega, ?_, ?_⟩
  · have : U / y1 < 4294967298 := by
      rw [Nat.div_lt_iff_lt_mul (by omega)]
      omega
    omega
  · have : (U * 4294967296 + u1) / (y1 * 4294967296 + y0) < U / y1 + 1 := by
      rw [Nat.div_lt_iff_lt_mul (by omega), Nat.mul_add, ← Nat.mul_assoc]
      have c := Nat.mul_comm y1 (U / y1)
      have e : (U / y1 + 1) * y1 = U / y1 * y1 + y1 := by rw [Nat.add_mul, Nat.one_mul]
      rw [e]
      have z := Nat.zero_le ((U / y1 + 1) * y0)
      omega
    omega

theorem mulY (q y1 y0 : Nat) : q * (y1 * 4294967296 + y0) = q * y1 * 4294967296 + q * y0 := by rw [Nat.mul_add, Nat.mul_assoc]

/-- The test says no: the estimate is the quotient. -/
theorem Est.done {U u1 y1 y0 q r : Nat} (h : Est U u1 y1 y0 q r) (hp : 0 < y1) (ht : q * y0 ≤ 4294967296 * r + u1) : q = (U * 4294967296 + u1) / (y1 * 4294967296 + y0) := by
  apply Nat.le_antisymm _ h.over
  rw [Nat.le_div_iff_mul_le (by omega), mulY]
  have := h.sum
  omega

theorem Est.gt {U u1 y1 y0 q r : Nat} (h : Est U u1 y1 y0 q r) (_hp : 0 < y1) (hu1 : u1 < 4294967296) (hU : U < y1 * 4294967296 + y0) (ht : 4294967296 ≤ q ∨ 4294967296 * r + u1 < q * y0) : (U * 4294967296 + u1) / (y1 * 4294967296 + y0) < q := by
  rcases ht with ht | ht
  · refine Nat.lt_of_lt_of_le ?_ ht
    rw [Nat.div_lt_iff_lt_mul (by omega)]
    omega
  · rw [Nat.div_lt_iff_lt_mul (by omega), mulY]
    have := h.sum
    omega

theorem Est.pos {U u1 y1 y0 q r : Nat} (h : Est U u1 y1 y0 q r) (hp : 0 < y1) (hu1 : u1 < 4294967296) (hU : U < y1 * 4294967296 + y0) (ht : 4294967296 ≤ q ∨ 4294967296 * r + u1 < q * y0) : 1 ≤ q := by
  have g := h.gt hp hu1 hU ht
  exact Nat.lt_of_le_of_lt (Nat.zero_le _) g

theorem sum_next {U y1 q r : Nat} (h : q * y1 + r = U) (hq : 1 ≤ q) : (q - 1) * y1 + (r + y1) = U := by
  have e : q * y1 = (q - 1) * y1 + y1 := by
    conv => lhs; rw [show q = (q - 1) + 1 by omega, Nat.add_mul, Nat.one_mul]
  omega

theorem Est.next {U u1 y1 y0 q r : Nat} (h : Est U u1 y1 y0 q r) (hp : 0 < y1) (hu1 : u1 < 4294967296) (hU : U < y1 * 4294967296 + y0) (ht : 4294967296 ≤ q ∨ 4294967296 * r + u1 < q * y0) (hr : r + y1 < 4294967296) : Est U u1 y1 y0 (q - 1) (r + y1) := by
  have g := h.gt hp hu1 hU ht
  have p := h.pos hp hu1 hU ht
  refine ⟨sum_next h.sum p, hr, by have := h.top; omega, ?_⟩
  generalize (U * 4294967296 + u1) / (y1 * 4294967296 + y0) = t at *
  omega

/-- The remainder has grown past a half: the estimate is the quotient. -/
theorem Est.broke {U u1 y1 y0 q r : Nat} (h : Est U u1 y1 y0 q r) (hp : 0 < y1) (hy0 : y0 < 4294967296) (hu1 : u1 < 4294967296) (hU : U < y1 * 4294967296 + y0) (ht : 4294967296 ≤ q ∨ 4294967296 * r + u1 < q * y0) (hr : 4294967296 ≤ r + y1) : q - 1 = (U * 4294967296 + u1) / (y1 * 4294967296 + y0) := by
  have g := h.gt hp hu1 hU ht
  have s := sum_next h.sum (h.pos hp hu1 hU ht)
  have t := h.top
  apply Nat.le_antisymm _ (Nat.le_sub_one_of_lt g)
  rw [Nat.le_div_iff_mul_le (by omega), mulY]
  have b : (q - 1) * y0 ≤ 4294967296 * 4294967296 := Nat.mul_le_mul (by omega) (by omega)
  omega

theorem split0 (_V Y T W B v q r : Nat) (hT : T = W * B + v) (hd : Y * q + r = W) (_hq : q = W / Y) (_hr : r = W % Y) (hY : 0 < Y) :
    T / Y = q * B + (r * B + v) / Y ∧ T % Y = (r * B + v) % Y := by
  have e : T = (r * B + v) + Y * (q * B) := by
    rw [hT, ← hd, Nat.add_mul, Nat.mul_assoc, Nat.add_comm (Y * (q * B)), Nat.add_assoc, Nat.add_assoc, Nat.add_comm v]
  rw [e]
  exact ⟨(Nat.add_mul_div_left _ _ hY).trans (Nat.add_comm _ _), Nat.add_mul_mod_self_left _ _ _⟩

theorem joinedI (U V W T : Int) (hT : T = U * 18446744073709551616 + V) (hW : W = U * 4294967296 + V / 4294967296) : T = W * 4294967296 + V % 4294967296 := by
  omega
theorem joined (U V W T : Nat) (hT : T = U * 18446744073709551616 + V) (hW : W = U * 4294967296 + V / 4294967296) : T = W * 4294967296 + V % 4294967296 := by
  have h := joinedI U V W T (by rw [hT, Int.natCast_add, Int.natCast_mul]; rfl) (by rw [hW, Int.natCast_add, Int.natCast_mul, Int.natCast_ediv]; rfl)
  apply Int.ofNat.inj
  show (T : Int) = ((W * 4294967296 + V % 4294967296 : Nat) : Int)
  rw [Int.natCast_add, Int.natCast_mul, Int.natCast_emod]
  exact h

theorem whole0 (U V Y T W : Nat) (hY : 0 < Y) (hT : T = U * 18446744073709551616 + V) (hW : W = U * 4294967296 + V / 4294967296) :
    T / Y = W / Y * 4294967296 + (W % Y * 4294967296 + V % 4294967296) / Y ∧ T % Y = (W % Y * 4294967296 + V % 4294967296) % Y :=
  split0 V Y T W 4294967296 (V % 4294967296) (W / Y) (W % Y) (joined U V W T hT hW) (Nat.div_add_mod W Y) rfl rfl hY

theorem whole (N y s U V T W : Nat) (hy : 0 < y) (hN : N * 2 ^ s = T) (hT : T = U * 18446744073709551616 + V) (hW : W = U * 4294967296 + V / 4294967296) :
    N / y = W / (y * 2 ^ s) * 4294967296 + (W % (y * 2 ^ s) * 4294967296 + V % 4294967296) / (y * 2 ^ s) ∧
    N % y * 2 ^ s = (W % (y * 2 ^ s) * 4294967296 + V % 4294967296) % (y * 2 ^ s) := by
  have hp : 0 < 2 ^ s := Nat.two_pow_pos s
  obtain ⟨a, b⟩ := whole0 U V (y * 2 ^ s) T W (Nat.mul_pos hy hp) hT hW
  have e1 : N / y = N * 2 ^ s / (y * 2 ^ s) := (Nat.mul_div_mul_right _ _ hp).symm
  have e2 : N % y * 2 ^ s = N * 2 ^ s % (y * 2 ^ s) := (Nat.mul_mod_mul_right _ _ _).symm
  rw [hN] at e1 e2
  exact ⟨e1.trans a, e2.trans b⟩

theorem rem_wrap (U u1 Y : Nat) (hY : 0 < Y) (hY' : Y < 18446744073709551616) :
    ((((U : Int) * 4294967296) % 18446744073709551616 + u1) % 18446744073709551616 - ((((U * 4294967296 + u1) / Y : Nat) : Int) * Y) % 18446744073709551616) % 18446744073709551616 = (((U * 4294967296 + u1) % Y : Nat) : Int) := by
  have d := Nat.div_add_mod (U * 4294967296 + u1) Y
  have l := Nat.mod_lt (U * 4294967296 + u1) hY
  rw [← Int.natCast_mul, Nat.mul_comm _ Y]
  generalize Y * ((U * 4294967296 + u1) / Y) = Z at *
  generalize (U * 4294967296 + u1) % Y = R at *
  omega
end DivM
end Go.Proofs.YthicondcjeipfaaGreatDoor

namespace Go.Proofs.YthicondcjeipfaaGreatDoor
open Go.RowKit

theorem lz64_nat (y s : Nat) (w : World) (h0 : y ≠ 0) (h1 : y < 18446744073709551616) (hs : s = 64 - Lib.bitLen y) :
    Calls Tryz.prog 104 #[.int .u64 y] w fun e w' => e = .returned (.int .i64 s) ∧ w = w' := by
  obtain ⟨b1, b2⟩ := DivM.bitLen_bounds y h0 h1
  refine (lz64_any y w (by omega) (by omega) (by simpa using b2)).mono ?_
  rintro e w' ⟨rfl, rfl⟩
  refine ⟨?_, rfl⟩
  congr 2
  simp
  omega

theorem wrapMul (a s M : Nat) (h : a * 2 ^ s % 18446744073709551616 = M) : IntKind.u64.wrap ((a : Int) * 2 ^ s) = (M : Int) := by
  rw [IntKind.wrap_u64, ← h]
  rw [Int.natCast_emod, Int.natCast_mul, Int.natCast_pow]
  rfl
theorem divPow (a k M : Nat) (h : a / 2 ^ k = M) : (a : Int) / 2 ^ k = (M : Int) := by
  rw [← h, Int.natCast_ediv, Int.natCast_pow]
  rfl
theorem orN (a b M : Nat) (ha : a < 18446744073709551616) (hb : b < 18446744073709551616) (h : a ||| b = M) : bits .or .u64 (a : Int) (b : Int) = (M : Int) := by
  rw [bits_or_u64_nat a b ha hb, h]
theorem divNN (a b : Nat) : (a : Int) / (b : Int) = ((a / b : Nat) : Int) := by rw [Int.natCast_ediv]
theorem tdivNN (a b : Nat) : (a : Int).tdiv (b : Int) = ((a / b : Nat) : Int) := by rw [Int.tdiv_eq_ediv_of_nonneg (by omega), Int.natCast_ediv]

theorem wrapSub (U q y1 R : Nat) (h : q * y1 + R = U) (hR : R < 18446744073709551616) : IntKind.u64.wrap ((U : Int) - ((q * y1 : Nat) : Int)) = (R : Int) := by
  rw [IntKind.wrap_u64, ← h]
  omega
theorem remWrap (U u1 Y q R : Nat) (hY : 0 < Y) (hY' : Y < 18446744073709551616) (hq : q = (U * 4294967296 + u1) / Y) (hR : R = (U * 4294967296 + u1) % Y) :
    IntKind.u64.wrap (IntKind.u64.wrap (IntKind.u64.wrap ((U : Int) * 4294967296) + u1) - IntKind.u64.wrap ((q * Y : Nat) : Int)) = (R : Int) := by
  simp only [IntKind.wrap_u64]
  rw [hq, hR, Int.natCast_mul]
  exact DivM.rem_wrap U u1 Y hY hY'

theorem ret_two {k l : IntKind} {a b c d : Int} (h1 : a = c) (h2 : b = d) : Ending.returned (.tuple #[.int k a, .int l b]) = .returned (.tuple #[.int k c, .int l d]) := by rw [h1, h2]
theorem quoLt (hi lo y : Nat) (hl : lo < 18446744073709551616) (h1 : hi < y) : (hi * 18446744073709551616 + lo) / y < 18446744073709551616 := by
  rw [Nat.div_lt_iff_lt_mul (by omega)]
  have := Nat.mul_le_mul_left 18446744073709551616 (show hi + 1 ≤ y from h1)
  omega
theorem quoWrapI (a b c : Int) (hc : c = a * 4294967296 + b) (h0 : 0 ≤ c) (hl : c < 18446744073709551616) : ((a * 4294967296) % 18446744073709551616 + b) % 18446744073709551616 = c := by omega
theorem quoWrap (q a b : Nat) (h : q = a * 4294967296 + b) (hl : q < 18446744073709551616) : IntKind.u64.wrap (IntKind.u64.wrap ((a : Int) * 4294967296) + (b : Int)) = (q : Int) := by
  simp only [IntKind.wrap_u64]
  exact quoWrapI a b q (by rw [h, Int.natCast_add, Int.natCast_mul]; rfl) (by omega) (by omega)
theorem remShift (m s R : Nat) (h : m * 2 ^ s = R) : (R : Int) / 2 ^ s = (m : Int) := by
  apply divPow
  rw [← h]
  exact Nat.mul_div_cancel _ (Nat.two_pow_pos s)

set_option maxHeartbeats 1000000 in
theorem div64_high (hi lo y : Nat) (w : World) (hl : lo < 18446744073709551616) (hy : y < 18446744073709551616) (h0 : 0 < hi) (h1 : hi < y) :
    Calls Tryz.prog 90 #[.int .u64 hi, .int .u64 lo, .int .u64 y] w fun e w' => e = .returned (.tuple #[.int .u64 (((hi * 18446744073709551616 + lo) / y : Nat) : Int), .int .u64 (((hi * 18446744073709551616 + lo) % y : Nat) : Int)]) ∧ ∃ n, w' = w.drewN n := by
  obtain ⟨s, hs⟩ : ∃ s, s = 64 - Lib.bitLen y := ⟨_, rfl⟩
  have hz := fun w => lz64_nat y s w (by omega) hy hs
  have nm := DivM.norm y (by omega) hy
  rw [← hs] at nm
  have hs64 : s ≤ 64 := by omega
  have hs63 : (s : Int) ≤ 63 := by have := (DivM.bitLen_bounds y (by omega) hy).1; omega
  have c1 : ((y : Int) == 0) = false := by simp; omega
  have c2 : decide ((y : Int) ≤ hi) = false := by simp; omega
  have c3 : ((hi : Int) == 0) = false := by simp; omega
  clear hs
  have HZ := Lib.hid hz
  clear hz
  -- the numbers, by name
  obtain ⟨Y, hY⟩ : ∃ Y, Y = y * 2 ^ s := ⟨_, rfl⟩
  obtain ⟨U, hU⟩ : ∃ U, U = hi * 2 ^ s + lo / 2 ^ (64 - s) := ⟨_, rfl⟩
  obtain ⟨V, hV⟩ : ∃ V, V = lo * 2 ^ s % 18446744073709551616 := ⟨_, rfl⟩
  rw [← hY] at nm
  obtain ⟨nm1, nm2⟩ := nm
  have hUY : U < Y := by rw [hU, hY]; exact DivM.high_lt hi lo y s hs64 hl h1
  have hVl : V < 18446744073709551616 := by rw [hV]; exact Nat.mod_lt _ (by omega)
  have hX := DivM.shifted hi lo s hs64
  rw [← hU, ← hV] at hX
  have hhs : hi * 2 ^ s < 18446744073709551616 := by have := Nat.le_add_right (hi * 2 ^ s) (lo / 2 ^ (64 - s)); omega
  have hls : lo / 2 ^ (64 - s) < 18446744073709551616 := by have := Nat.le_add_left (lo / 2 ^ (64 - s)) (hi * 2 ^ s); omega
  have f1 := wrapMul y s Y (by rw [← hY]; exact Nat.mod_eq_of_lt nm2)
  have f2 := wrapMul hi s (hi * 2 ^ s) (Nat.mod_eq_of_lt hhs)
  have f3 := divPow lo (64 - s) (lo / 2 ^ (64 - s)) rfl
  have f4 := orN (hi * 2 ^ s) (lo / 2 ^ (64 - s)) U hhs hls (by rw [hU]; exact DivM.or_add hi lo s hs64 hl)
  have f5 := wrapMul lo s V hV.symm
  have f6 := Mul64.maskN Y nm2
  have f7 := Mul64.maskN V hVl
  obtain ⟨y1, hy1⟩ : ∃ y1, y1 = Y / 4294967296 := ⟨_, rfl⟩
  obtain ⟨y0, hy0⟩ : ∃ y0, y0 = Y % 4294967296 := ⟨_, rfl⟩
  obtain ⟨u1, hu1⟩ : ∃ u1, u1 = V / 4294967296 := ⟨_, rfl⟩
  obtain ⟨u0, hu0⟩ : ∃ u0, u0 = V % 4294967296 := ⟨_, rfl⟩
  have hYy : Y = y1 * 4294967296 + y0 := by omega
  have by1 : 2147483648 ≤ y1 := by omega
  have by1' : y1 < 4294967296 := by omega
  have by0 : y0 < 4294967296 := by omega
  have bu1 : u1 < 4294967296 := by omega
  have bu0 : u0 < 4294967296 := by omega
  have f8 : (Y : Int) / 4294967296 = (y1 : Int) := by omega
  have f9 : (V : Int) / 4294967296 = (u1 : Int) := by omega
  rw [← hy0] at f6
  rw [← hu0] at f7
  have hUy : U < y1 * 4294967296 + y0 := by rw [← hYy]; exact hUY
  have st := DivM.Est.start by1 by1' by0 bu1 hUy
  have bq : U / y1 < 18446744073709551616 := by have := st.top; omega
  have f10 := tdivNN U y1
  have f11 := Mul64.wrapN (U / y1) bq
  have f12 := Mul64.mulN (U / y1) y1
  have bm : U / y1 * y1 < 18446744073709551616 := by have := st.sum; omega
  have f13 := Mul64.wrapN (U / y1 * y1) bm
  have f14 := wrapSub U (U / y1) y1 (U % y1) st.sum (by have := st.low; omega)
  obtain ⟨q1, hq1⟩ : ∃ q1, q1 = (U * 4294967296 + u1) / Y := ⟨_, rfl⟩
  obtain ⟨W, hW⟩ : ∃ W, W = (U * 4294967296 + u1) % Y := ⟨_, rfl⟩
  have HW := Lib.hid hW
  have hWY : W < Y := by rw [hW]; exact Nat.mod_lt _ (by omega)
  have hWy : W < y1 * 4294967296 + y0 := by rw [← hYy]; exact hWY
  have g1 := Mul64.mulN q1 Y
  have g2 := remWrap U u1 Y q1 W (by omega) nm2 hq1 hW
  have HFW := Lib.hid (And.intro g1 g2)
  have st0 := DivM.Est.start by1 by1' by0 bu0 hWy
  have bq0 : W / y1 < 18446744073709551616 := by have := st0.top; omega
  have bm0 : W / y1 * y1 < 18446744073709551616 := by have := st0.sum; omega
  have HG := Lib.hid (And.intro (divNN W y1) (And.intro (Mul64.wrapN (W / y1) bq0) (And.intro (Mul64.mulN (W / y1) y1) (And.intro (Mul64.wrapN (W / y1 * y1) bm0) (wrapSub W (W / y1) y1 (W % y1) st0.sum (by have := st0.low; omega))))))
  have HT := Lib.hid st0
  clear st0
  obtain ⟨q0, hq0⟩ : ∃ q0, q0 = (W * 4294967296 + u0) / Y := ⟨_, rfl⟩
  obtain ⟨R, hR⟩ : ∃ R, R = (W * 4294967296 + u0) % Y := ⟨_, rfl⟩
  have Hq0 := Lib.hid hq0
  have HN := Lib.hid (DivM.whole (hi * 18446744073709551616 + lo) y s U V _ _ (by omega) rfl hX rfl)
  rw [← hY, ← hu1, ← hu0, ← hq1, ← hW, ← hq0, ← hR] at HN
  have g3 := remWrap W u0 Y q0 R (by omega) nm2 hq0 hR
  have HE := Lib.hid (And.intro (Mul64.mulN q0 Y) g3)
  clear g3 hq0 hR
  clear g1 g2
  have Hq1 := Lib.hid hq1
  have HX := Lib.hid hX
  have HYy := Lib.hid hYy
  have HY := Lib.hid hY
  have HV : Hid (u1 = V / 4294967296 ∧ u0 = V % 4294967296) := Lib.hid ⟨hu1, hu0⟩
  have HF : Hid _ := Lib.hid (And.intro f1 (And.intro f2 (And.intro f3 (And.intro f4 (And.intro f5 (And.intro f6 (And.intro f7 (And.intro f8 (And.intro f9 (And.intro f10 (And.intro f11 (And.intro f12 (And.intro f13 f14)))))))))))))
  have HS := Lib.hid st
  have F1 := Lib.hid f1
  clear f1 f2 f3 f4 f5 f6 f7 f8 f9 f10 f11 f12 f13 f14 hY hU hV hX hy1 hy0 hu1 hu0 hYy hq1 hW st
  go_enter Tryz.func90, Tryz.ntmps90
  go_wp2_with fail
  refine (HZ.out _).mono ?_
  rintro e w' ⟨rfl, rfl⟩
  go_upto_region 9 with fail
  simp only [F1.out]
  clear F1
  go_upto_block 0 with fail
  have HF' := HF.out
  obtain ⟨f1, f2, f3, f4, f5, f6, f7, f8, f9, f10, f11, f12, f13, f14⟩ := HF'
  simp only [f2, f3, f4, f5, f6, f7, f8, f9, f10, f11, f12, f13, f14]
  clear f1 f2 f3 f4 f5 f6 f7 f8 f9 f10 f11 f12 f13 f14
  go_cut [15] (fun s15 wx => s15 = .int .u64 q1 ∧ wx = w)
  case first =>
    go_wp2_with fail
    go_loop [15, 16] (fun q r => ∃ a b : Nat, q = .int .u64 a ∧ r = .int .u64 b ∧ DivM.Est U u1 y1 y0 a b) (fun q _ => (intOf q).toNat)
    case atStart => exact ⟨_, _, rfl, rfl, HS.out⟩
    case round =>
      obtain ⟨a, b, rfl, rfl, he⟩ := hrel
      have hlow := he.low
      have htop := he.top
      have hp : 0 < y1 := by omega
      by_cases hA : 4294967296 ≤ a
      · have hg : 4294967296 ≤ a ∨ 4294967296 * b + u1 < a * y0 := .inl hA
        have hA' : decide ((4294967296 : Int) ≤ (a : Int)) = true := by simp; omega
        by_cases hB : 4294967296 ≤ b + y1
        · have hr := he.broke hp by0 bu1 hUy hg hB
          have HR : Hid (a - 1 = q1) := Lib.hid (by rw [Hq1.out, HYy.out]; exact hr)
          have hB' : decide ((4294967296 : Int) ≤ (b : Int) + (y1 : Int)) = true := by simp; omega
          clear hr
          go_wp2
          go_meet
          exact ⟨congrArg (Value.int .u64) (by have := HR.out; omega), rfl⟩
        · have HN := Lib.hid (he.next hp bu1 hUy hg (by omega))
          have hB' : decide ((4294967296 : Int) ≤ (b : Int) + (y1 : Int)) = false := by simp; omega
          go_wp2
          go_round
          case rel => exact ⟨a - 1, b + y1, congrArg (Value.int .u64) (by omega), congrArg (Value.int .u64) (by omega), HN.out⟩
          case measure => simp [intOf]; omega
      · have hA' : decide ((4294967296 : Int) ≤ (a : Int)) = false := by simp; omega
        have hm : a * y0 < 18446744073709551616 := Nat.lt_of_le_of_lt (Nat.mul_le_mul (show a ≤ 4294967295 by omega) (show y0 ≤ 4294967295 by omega)) (by decide)
        obtain ⟨z, hz⟩ : ∃ z, z = a * y0 := ⟨_, rfl⟩
        have hzI : (a : Int) * (y0 : Int) = (z : Int) := by rw [hz, Int.natCast_mul]
        rw [← hz] at hm
        by_cases hC : 4294967296 * b + u1 < z
        · have hg : 4294967296 ≤ a ∨ 4294967296 * b + u1 < a * y0 := .inr (by rw [← hz]; exact hC)
          have hC' : decide (4294967296 * (b : Int) + (u1 : Int) < (z : Int)) = true := by simp; omega
          by_cases hB : 4294967296 ≤ b + y1
          · have hr := he.broke hp by0 bu1 hUy hg hB
            have hpos := he.pos hp bu1 hUy hg
            have HR : Hid (a - 1 = q1) := Lib.hid (by rw [Hq1.out, HYy.out]; exact hr)
            have hB' : decide ((4294967296 : Int) ≤ (b : Int) + (y1 : Int)) = true := by simp; omega
            clear hr hz
            go_wp2
            go_meet
            exact ⟨congrArg (Value.int .u64) (by have := HR.out; omega), rfl⟩
          · have HN := Lib.hid (he.next hp bu1 hUy hg (by omega))
            have hpos := he.pos hp bu1 hUy hg
            have hB' : decide ((4294967296 : Int) ≤ (b : Int) + (y1 : Int)) = false := by simp; omega
            clear hz
            go_wp2
            go_round
            case rel => exact ⟨a - 1, b + y1, congrArg (Value.int .u64) (by omega), congrArg (Value.int .u64) (by omega), HN.out⟩
            case measure => simp [intOf]; omega
        · have hr := he.done hp (by rw [← hz]; omega)
          have HR : Hid (a = q1) := Lib.hid (by rw [Hq1.out, HYy.out]; exact hr)
          have hC' : decide (4294967296 * (b : Int) + (u1 : Int) < (z : Int)) = false := by simp; omega
          clear hr hz
          go_wp2
          go_meet
          exact ⟨congrArg (Value.int .u64) (by have := HR.out; omega), rfl⟩
  case rest =>
    obtain ⟨rfl, rfl⟩ := hcut
    go_upto_region 22 with fail
    have FW := HFW.out
    obtain ⟨g1, g2⟩ := FW
    simp only [g1, g2]
    clear g1 g2
    go_upto_block 2 with fail
    have GF := HG.out
    obtain ⟨f10, f11, f12, f13, f14⟩ := GF
    simp only [f10, f11, f12, f13, f14]
    clear f10 f11 f12 f13 f14
    go_cut [18] (fun s18 wx => s18 = .int .u64 q0 ∧ wx = wc)
    case first =>
      go_wp2_with fail
      go_loop [18, 16] (fun q r => ∃ a b : Nat, q = .int .u64 a ∧ r = .int .u64 b ∧ DivM.Est W u0 y1 y0 a b) (fun q _ => (intOf q).toNat)
      case atStart => exact ⟨_, _, rfl, rfl, HT.out⟩
      case round =>
        obtain ⟨a, b, rfl, rfl, he⟩ := hrel
        have hlow := he.low
        have htop := he.top
        have hp : 0 < y1 := by omega
        by_cases hA : 4294967296 ≤ a
        · have hg : 4294967296 ≤ a ∨ 4294967296 * b + u0 < a * y0 := .inl hA
          have hA' : decide ((4294967296 : Int) ≤ (a : Int)) = true := by simp; omega
          by_cases hB : 4294967296 ≤ b + y1
          · have hr := he.broke hp by0 bu0 hWy hg hB
            have HR : Hid (a - 1 = q0) := Lib.hid (by rw [Hq0.out, HYy.out]; exact hr)
            have hB' : decide ((4294967296 : Int) ≤ (b : Int) + (y1 : Int)) = true := by simp; omega
            clear hr
            go_wp2
            go_meet
            exact ⟨congrArg (Value.int .u64) (by have := HR.out; omega), rfl⟩
          · have HN := Lib.hid (he.next hp bu0 hWy hg (by omega))
            have hB' : decide ((4294967296 : Int) ≤ (b : Int) + (y1 : Int)) = false := by simp; omega
            go_wp2
            go_round
            case rel => exact ⟨a - 1, b + y1, congrArg (Value.int .u64) (by omega), congrArg (Value.int .u64) (by omega), HN.out⟩
            case measure => simp [intOf]; omega
        · have hA' : decide ((4294967296 : Int) ≤ (a : Int)) = false := by simp; omega
          have hm : a * y0 < 18446744073709551616 := Nat.lt_of_le_of_lt (Nat.mul_le_mul (show a ≤ 4294967295 by omega) (show y0 ≤ 4294967295 by omega)) (by decide)
          obtain ⟨z, hz⟩ : ∃ z, z = a * y0 := ⟨_, rfl⟩
          have hzI : (a : Int) * (y0 : Int) = (z : Int) := by rw [hz, Int.natCast_mul]
          rw [← hz] at hm
          by_cases hC : 4294967296 * b + u0 < z
          · have hg : 4294967296 ≤ a ∨ 4294967296 * b + u0 < a * y0 := .inr (by rw [← hz]; exact hC)
            have hC' : decide (4294967296 * (b : Int) + (u0 : Int) < (z : Int)) = true := by simp; omega
            by_cases hB : 4294967296 ≤ b + y1
            · have hr := he.broke hp by0 bu0 hWy hg hB
              have hpos := he.pos hp bu0 hWy hg
              have HR : Hid (a - 1 = q0) := Lib.hid (by rw [Hq0.out, HYy.out]; exact hr)
              have hB' : decide ((4294967296 : Int) ≤ (b : Int) + (y1 : Int)) = true := by simp; omega
              clear hr hz
              go_wp2
              go_meet
              exact ⟨congrArg (Value.int .u64) (by have := HR.out; omega), rfl⟩
            · have HN := Lib.hid (he.next hp bu0 hWy hg (by omega))
              have hpos := he.pos hp bu0 hWy hg
              have hB' : decide ((4294967296 : Int) ≤ (b : Int) + (y1 : Int)) = false := by simp; omega
              clear hz
              go_wp2
              go_round
              case rel => exact ⟨a - 1, b + y1, congrArg (Value.int .u64) (by omega), congrArg (Value.int .u64) (by omega), HN.out⟩
              case measure => simp [intOf]; omega
          · have hr := he.done hp (by rw [← hz]; omega)
            have HR : Hid (a = q0) := Lib.hid (by rw [Hq0.out, HYy.out]; exact hr)
            have hC' : decide (4294967296 * (b : Int) + (u0 : Int) < (z : Int)) = false := by simp; omega
            clear hr hz
            go_wp2
            go_meet
            exact ⟨congrArg (Value.int .u64) (by have := HR.out; omega), rfl⟩
    case rest =>
      obtain ⟨rfl, rfl⟩ := hcut
      go_wp2
      go_ret2
      obtain ⟨g1, g2⟩ := HE.out
      obtain ⟨n1, n2⟩ := HN.out
      refine ⟨?_, 0, rfl⟩
      exact ret_two (quoWrap _ _ _ n1 (quoLt hi lo y hl h1)) (by rw [g1, g2]; exact remShift _ _ _ n2)
end Go.Proofs.YthicondcjeipfaaGreatDoor

namespace Go.Proofs.YthicondcjeipfaaGreatDoor
/-- a and b leave the same rest by m. -/
def Cg (m a b : Int) : Prop := a % m = b % m
namespace Cg
variable {m a b c d : Int}
theorem refl (m a : Int) : Cg m a a := rfl
theorem symm (h : Cg m a b) : Cg m b a := Eq.symm h
theorem trans (h : Cg m a b) (k : Cg m b c) : Cg m a c := Eq.trans h k
theorem mod (m a : Int) : Cg m (a % m) a := Int.emod_emod_of_dvd a (Int.dvd_refl m)
theorem mul (h : Cg m a b) (k : Cg m c d) : Cg m (a * c) (b * d) := by
  unfold Cg at *
  rw [Int.mul_emod, h, k, ← Int.mul_emod]
theorem add (h : Cg m a b) (k : Cg m c d) : Cg m (a + c) (b + d) := by
  unfold Cg at *
  rw [Int.add_emod, h, k, ← Int.add_emod]
theorem sub (h : Cg m a b) (k : Cg m c d) : Cg m (a - c) (b - d) := by
  unfold Cg at *
  rw [Int.sub_emod, h, k, ← Int.sub_emod]
theorem pow (h : Cg m a b) : ∀ n : Nat, Cg m (a ^ n) (b ^ n)
  | 0 => by rw [Int.pow_zero, Int.pow_zero]; exact refl _ _
  | n + 1 => by rw [Int.pow_succ, Int.pow_succ]; exact mul (pow h n) h
theorem mul_right (h : Cg m a b) (c : Int) : Cg m (a * c) (b * c) := mul h (refl _ _)
theorem mul_left (h : Cg m a b) (c : Int) : Cg m (c * a) (c * b) := mul (refl _ _) h
theorem of_eq (h : a = b) : Cg m a b := h ▸ refl _ _
theorem eq (h : Cg m a b) (a0 : 0 ≤ a) (a1 : a < m) (b0 : 0 ≤ b) (b1 : b < m) : a = b := by
  unfold Cg at h
  rwa [Int.emod_eq_of_lt a0 a1, Int.emod_eq_of_lt b0 b1] at h
theorem dvd (h : Cg m a b) : m ∣ a - b := Int.dvd_of_emod_eq_zero (by unfold Cg at h; rw [Int.sub_emod, h, Int.sub_self]; rfl)
theorem of_dvd (h : m ∣ a - b) : Cg m a b := by
  obtain ⟨k, hk⟩ := h
  have e : a = b + m * k := by omega
  unfold Cg
  rw [e, Int.add_mul_emod_self_left]
end Cg
theorem pow_sq (x : Int) (n : Nat) : (x * x) ^ n = x ^ (2 * n) := by
  rw [Int.pow_mul, show x ^ 2 = x * x from by rw [Int.pow_succ, Int.pow_succ, Int.pow_zero, Int.one_mul]]
theorem toNat_even (k : Int) (h : 0 ≤ k) (h2 : k % 2 = 0) : k.toNat = 2 * (k / 2).toNat := by omega
theorem toNat_odd (k : Int) (h : 0 ≤ k) (h2 : k % 2 = 1) : k.toNat = 2 * (k / 2).toNat + 1 := by omega
end Go.Proofs.YthicondcjeipfaaGreatDoor

namespace Go.Proofs.YthicondcjeipfaaGreatDoor
open Go.RowKit

/-- Div64 at any hi below y. -/
theorem div64_any (hi lo y : Nat) (w : World) (hl : lo < 18446744073709551616) (hy : y < 18446744073709551616) (h1 : hi < y) :
    Calls Tryz.prog 90 #[.int .u64 hi, .int .u64 lo, .int .u64 y] w fun e w' => e = .returned (.tuple #[.int .u64 (((hi * 18446744073709551616 + lo) / y : Nat) : Int), .int .u64 (((hi * 18446744073709551616 + lo) % y : Nat) : Int)]) ∧ ∃ n, w' = w.drewN n := by
  by_cases h0 : hi = 0
  · subst h0
    refine (div64_low lo y w ⟨by omega, by omega⟩ ⟨by omega, by omega⟩ (by omega)).mono ?_
    rintro e w' ⟨rfl, hn⟩
    refine ⟨?_, hn⟩
    rw [Nat.zero_mul, Nat.zero_add, Int.natCast_ediv, Int.natCast_emod]
  · exact div64_high hi lo y w hl hy (by omega) h1

/-- The same, over Int. -/
def quo128 (hi lo y : Int) : Int := (hi * 18446744073709551616 + lo) / y
def rem128 (hi lo y : Int) : Int := (hi * 18446744073709551616 + lo) % y
theorem div64_int (hi lo y : Int) (w : World) (h0 : 0 ≤ hi) (hl0 : 0 ≤ lo) (hl : lo < 18446744073709551616) (hy : y < 18446744073709551616) (h1 : hi < y) :
    Calls Tryz.prog 90 #[.int .u64 hi, .int .u64 lo, .int .u64 y] w fun e w' => e = .returned (.tuple #[.int .u64 (quo128 hi lo y), .int .u64 (rem128 hi lo y)]) ∧ ∃ n, w' = w.drewN n := by
  obtain ⟨a, rfl⟩ := Int.eq_ofNat_of_zero_le h0
  obtain ⟨b, rfl⟩ := Int.eq_ofNat_of_zero_le hl0
  obtain ⟨c, rfl⟩ := Int.eq_ofNat_of_zero_le (show 0 ≤ y by omega)
  refine (div64_any a b c w (by omega) (by omega) (by omega)).mono ?_
  rintro e w' ⟨rfl, hn⟩
  refine ⟨?_, hn⟩
  unfold quo128 rem128
  rw [Int.natCast_ediv, Int.natCast_emod, Int.natCast_add, Int.natCast_mul]
  rfl

theorem emod_bd (a m : Int) (hm : 0 < m) : 0 ≤ a % m ∧ a % m < m := ⟨Int.emod_nonneg a (by omega), Int.emod_lt_of_pos a hm⟩

end Go.Proofs.YthicondcjeipfaaGreatDoor

namespace Go.Proofs.YthicondcjeipfaaGreatDoor
open Go.RowKit
def nextS (s : Int) : Int := IntKind.u64.wrap (s + 11400714819323198485)
def mixI (z : Int) : Int :=
  let a := IntKind.u64.wrap (bits .xor .u64 z (z / 1073741824) * 13787848793156543929)
  let b := IntKind.u64.wrap (bits .xor .u64 a (a / 134217728) * 10723151780598845931)
  bits .xor .u64 b (b / 2147483648)

def belowI (x q : Int) : Int := if q = 0 then x else x % q
theorem belowI_U64 (x q : Int) (hx : U64 x) (hq : U64 q) : U64 (belowI x q) := by
  unfold belowI U64 at *
  split
  · exact hx
  · have := emod_bd x q (by omega)
    omega

/-- How many numbers stand above the greatest multiple of q. -/
def tOverI (q : Int) : Int := if q = 0 then 0 else 18446744073709551616 % q

theorem wrap64u (a : Int) : IntKind.u64.wrap a = a % 18446744073709551616 := IntKind.wrap_u64 a
theorem nextS_U64 (s : Int) : U64 (nextS s) := by
  unfold nextS
  rw [wrap64u]
  exact emod_bd _ _ (by decide)
theorem bitsU64 (o : BinOp) (a b : Int) : U64 (bits o .u64 a b) := by
  have h : ∃ x, bits o .u64 a b = IntKind.u64.wrap x := by
    unfold bits
    exact ⟨_, rfl⟩
  obtain ⟨x, h⟩ := h
  rw [h, wrap64u]
  exact emod_bd _ _ (by decide)
theorem mixI_U64 (z : Int) : U64 (mixI z) := by
  unfold mixI
  exact bitsU64 _ _ _
theorem mix_zero : mixI 0 = 0 := by kernel_rfl

/-- Is the number of this state taken, of those below q? -/
def accB (q s : Int) : Bool := decide (tOverI q ≤ bits BinOp.xor IntKind.u64 IntKind.u64.max (mixI s))
theorem notU (x : Int) (hx : U64 x) : bits BinOp.xor IntKind.u64 IntKind.u64.max x = 18446744073709551615 - x := by
  obtain ⟨x0, x1⟩ := hx
  obtain ⟨n, rfl⟩ := Int.eq_ofNat_of_zero_le x0
  have h1 : (BitVec.ofInt 64 (n : Int)).toNat = n := by
    rw [BitVec.ofInt_natCast, BitVec.toNat_ofNat]; exact Nat.mod_eq_of_lt (by omega)
  have h2 : BitVec.ofInt 64 IntKind.u64.max = BitVec.allOnes 64 := by decide
  show IntKind.u64.wrap ((BitVec.ofInt 64 IntKind.u64.max ^^^ BitVec.ofInt 64 (n : Int)).toNat : Int) = _
  rw [h2, BitVec.allOnes_xor, BitVec.toNat_not, h1, IntKind.wrap_u64]
  omega
theorem acc_iff (q s : Int) : accB q s = decide (tOverI q ≤ 18446744073709551615 - mixI s) := by
  unfold accB
  rw [notU _ (mixI_U64 _)]
theorem tOverI_le (q : Int) (h : 0 ≤ q) (h1 : q < 18446744073709551616) : tOverI q ≤ 18446744073709551615 := by
  unfold tOverI
  split
  · decide
  · have := emod_bd 18446744073709551616 q (by omega)
    omega
theorem acc_zero (q : Int) (h : U64 q) : accB q 0 = true := by
  have := tOverI_le q h.1 h.2
  rw [acc_iff, mix_zero]
  simpa using this

theorem dvd_part (M a b c : Int) (h : M ∣ a) (e : a = b + M * c) : M ∣ b := by
  obtain ⟨k, hk⟩ := h
  exact ⟨k - c, by rw [Int.mul_sub]; omega⟩
theorem inv_gen (M s v st k : Int) (hv : v * st = 1 + M * k) (h0 : 0 < s) (h1 : s < M) : ((M - s) * v) % M ≠ 0 := by
  intro hz
  have d := Int.dvd_of_emod_eq_zero hz
  have d2 : M ∣ (M - s) * v * st := Int.dvd_trans d (Int.dvd_mul_right _ _)
  have e : (M - s) * v * st = (M - s) + M * ((M - s) * k) := by
    rw [Int.mul_assoc, hv, Int.mul_add, Int.mul_one, ← Int.mul_assoc, Int.mul_comm (M - s) M, Int.mul_assoc]
  have d3 := dvd_part _ _ _ _ d2 e
  have := Int.le_of_dvd (by omega) d3
  omega
theorem step_gen (M s n v st k a b : Int) (hM : 1 < M) (hv : v * st = 1 + M * k) (hn : n = (s + st) % M) (ha : a = ((M - s) * v) % M) (hb : b = ((M - n) * v) % M) : b = (a - 1) % M := by
  have e : Cg M b (a - 1) := by
    rw [hb, ha, hn]
    refine (Cg.mod _ _).trans ?_
    refine Cg.trans ((((Cg.refl M M).sub (Cg.mod M (s + st))).mul_right v)) ?_
    refine Cg.trans ?_ ((Cg.mod M ((M - s) * v)).symm.sub (Cg.refl M 1))
    refine Cg.of_dvd ⟨-k, ?_⟩
    have h1 : (M - (s + st)) * v = (M - s) * v - v * st := by
      rw [show M - (s + st) = (M - s) - st by omega, Int.sub_mul, Int.mul_comm st v]
    rw [h1, hv, Int.mul_neg]
    omega
  have hb0 : 0 ≤ b ∧ b < M := by rw [hb]; exact emod_bd _ _ (by omega)
  unfold Cg at e
  rwa [Int.emod_eq_of_lt hb0.1 hb0.2] at e
theorem zero_gen (M A B : Int) (hM : 1 < M) (hA : A = 0) (hB : B = (A - 1) % M) : M = B + 1 := by
  subst hA
  have : (0 - 1 : Int) % M = M - 1 := by
    rw [show (0 - 1 : Int) = (M - 1) + M * (-1) by omega, Int.add_mul_emod_self_left, Int.emod_eq_of_lt (by omega) (by omega)]
  omega
theorem toNat_succ (B : Int) (h : 0 ≤ B) (x : Int) (hx : x = B + 1) : x.toNat = B.toNat + 1 := by omega
theorem pred_gen (M A B : Int) (hA0 : 0 ≤ A) (hA1 : A < M) (hA : A ≠ 0) (hB : B = (A - 1) % M) : A = B + 1 := by
  rw [hB, Int.emod_eq_of_lt (by omega) (by omega)]
  omega
/-- How many steps it is from a state to 0, over whatever modulus M, where v is the step's inverse. -/
def kkG (M v s : Int) : Nat := if s = 0 then M.toNat else (((M - s) * v) % M).toNat
theorem kkG_step (M v st k s n : Int) (hM : 1 < M) (hv : v * st = 1 + M * k) (s0 : 0 ≤ s) (s1 : s < M) (hn : n = (s + st) % M) (h : n ≠ 0) : kkG M v s = kkG M v n + 1 := by
  have key := step_gen M s n v st k _ _ hM hv hn rfl rfl
  have b1 := emod_bd ((M - n) * v) M (by omega)
  unfold kkG
  rw [if_neg h]
  by_cases hz : s = 0
  · subst hz
    rw [if_pos rfl]
    exact toNat_succ _ b1.1 _ (zero_gen M _ _ hM (by rw [Int.sub_zero, Int.mul_comm]; exact Int.mul_emod_left v M) key)
  · rw [if_neg hz]
    have b2 := emod_bd ((M - s) * v) M (by omega)
    exact toNat_succ _ b1.1 _ (pred_gen M _ _ b2.1 b2.2 (inv_gen M s v st k hv (by omega) s1) key)
theorem kkG_pos (M v st k s : Int) (hM : 1 < M) (hv : v * st = 1 + M * k) (s0 : 0 ≤ s) (s1 : s < M) : ∃ f, kkG M v s = f + 1 := by
  have h : kkG M v s ≠ 0 := by
    unfold kkG
    by_cases hz : s = 0
    · rw [if_pos hz]; omega
    · rw [if_neg hz]
      have b2 := emod_bd ((M - s) * v) M (by omega)
      have := inv_gen M s v st k hv (by omega) s1
      omega
  exact ⟨kkG M v s - 1, by omega⟩
theorem inv_step : (17428512612931826493 : Int) * 11400714819323198485 = 1 + 18446744073709551616 * 10771413168148108919 := by decide
def kk (s : Int) : Nat := kkG 18446744073709551616 17428512612931826493 s
theorem kk_step (s : Int) (hs : U64 s) (h : nextS s ≠ 0) : kk s = kk (nextS s) + 1 :=
  kkG_step _ _ _ _ _ _ (by decide) inv_step hs.1 hs.2 (wrap64u _) h
theorem kk_pos (s : Int) (hs : U64 s) : ∃ f, kk s = f + 1 := kkG_pos _ _ _ _ _ (by decide) inv_step hs.1 hs.2

/-- The state behind the number that is taken. -/
def findS (q : Int) : Nat → Int → Int
  | 0, s => s
  | f + 1, s => if accB q (nextS s) then nextS s else findS q f (nextS s)
def drawS (q s : Int) : Int := findS q (kk s) s
def drawX (q s : Int) : Int := belowI (mixI (drawS q s)) q
theorem draw_yes (q s : Int) (hs : U64 s) (h : accB q (nextS s) = true) : drawS q s = nextS s := by
  obtain ⟨f, hf⟩ := kk_pos s hs
  simp [drawS, hf, findS, h]
theorem draw_no (q s : Int) (hq : U64 q) (hs : U64 s) (h : accB q (nextS s) = false) : drawS q s = drawS q (nextS s) ∧ kk s = kk (nextS s) + 1 := by
  have hz : nextS s ≠ 0 := by
    intro h0
    rw [h0, acc_zero q hq] at h
    cases h
  have hk := kk_step s hs hz
  exact ⟨by simp [drawS, hk, findS, h], hk⟩
theorem findS_U64 (q : Int) : ∀ (f : Nat) (s : Int), U64 s → U64 (findS q f s)
  | 0, _, h => h
  | f + 1, s, _ => by
    unfold findS
    split
    · exact nextS_U64 s
    · exact findS_U64 q f _ (nextS_U64 s)
theorem drawS_U64 (q s : Int) (h : U64 s) : U64 (drawS q s) := findS_U64 q _ s h
theorem drawX_U64 (q s : Int) (hq : U64 q) : U64 (drawX q s) := belowI_U64 _ _ (mixI_U64 _) hq
end Go.Proofs.YthicondcjeipfaaGreatDoor

namespace Go.Proofs.YthicondcjeipfaaGreatDoor
open Go.RowKit
set_option maxHeartbeats 400000 in
theorem number_any (b : Nat) (s : Int) (w : World) (hs : U64 s) (hc : w.cell? ⟨b, 0, none⟩ = some (.int .u64 s)) (hf : w.frozen? ⟨b, 0, none⟩ = false) :
    Calls Tryz.prog 70 #[.pointer (some ⟨b, 0, none⟩)] w fun e w' => e = .returned (.int .u64 (mixI (nextS s))) ∧ ∃ n, w' = (w.setCell ⟨b, 0, none⟩ (.int .u64 (nextS s))).drewN n := by
  obtain ⟨s0, s1⟩ := hs
  go_enter Tryz.func70, Tryz.ntmps70
  go_wp2_with fail
  go_ret
  exact ⟨rfl, 0, rfl⟩

theorem below_any (x q : Int) (w : World) (hx : U64 x) (hq : U64 q) :
    Calls Tryz.prog 69 #[.int .u64 x, .int .u64 q] w fun e w' => e = .returned (.int .u64 (belowI x q)) ∧ ∃ n, w' = w.drewN n := by
  obtain ⟨x0, x1⟩ := hx
  obtain ⟨q0, q1⟩ := hq
  by_cases h : q = 0
  · subst h
    have hr : belowI x 0 = x := by simp [belowI]
    rw [hr]
    clear hr
    go_enter Tryz.func69, Tryz.ntmps69
    go_wp2
    go_ret
    exact ⟨rfl, 0, rfl⟩
  · have hr : belowI x q = x % q := by simp [belowI, h]
    have h' : (q == 0) = false := by simpa using h
    have hp : 0 < q := by omega
    rw [hr]
    clear hr h
    go_enter Tryz.func69, Tryz.ntmps69
    go_wp2
    go_ret
    exact ⟨rfl, 0, rfl⟩
theorem rem_over (q : Int) (_h : 0 < q) : rem128 (1 % q) 0 q = 18446744073709551616 % q := by
  unfold rem128
  rw [Int.add_zero]
  exact ((Cg.mod q 1).mul_right _).trans (Cg.of_eq (Int.one_mul _))
set_option maxHeartbeats 400000 in
theorem over_any (q : Int) (w : World) (hq : U64 q) :
    Calls Tryz.prog 71 #[.int .u64 q] w fun e w' => e = .returned (.int .u64 (tOverI q)) ∧ ∃ n, w' = w.drewN n := by
  obtain ⟨q0, q1⟩ := hq
  by_cases h : q = 0
  · subst h
    have hr : tOverI 0 = 0 := by simp [tOverI]
    rw [hr]
    clear hr
    go_enter Tryz.func71, Tryz.ntmps71
    go_wp2
    go_ret
    exact ⟨rfl, 0, rfl⟩
  · have h' : (q == 0) = false := by simpa using h
    have hp : 0 < q := by omega
    have hr : tOverI q = rem128 (1 % q) 0 q := by rw [rem_over q hp]; simp [tOverI, h]
    rw [hr]
    obtain ⟨e0, e1⟩ := emod_bd 1 q hp
    clear hr h
    go_enter Tryz.func71, Tryz.ntmps71
    go_wp2_with fail
    refine (div64_int _ _ _ _ e0 (by decide) (by decide) q1 e1).mono ?_
    rintro e w' ⟨rfl, n, rfl⟩
    go_wp2
    go_ret
    exact ⟨rfl, _, rfl⟩
end Go.Proofs.YthicondcjeipfaaGreatDoor

namespace Go.Proofs.YthicondcjeipfaaGreatDoor
open Go.RowKit

/-- The slice's address A leads to the cells xs. -/
def Rd (w : World) (A : Option Addr) (xs : List Value) : Prop :=
  xs ≠ [] → ∃ g o, A = some ⟨g, o, none⟩ ∧ g < w.heap.size ∧ ∀ j u, xs[j]? = some u → w.cell? ⟨g, o + j, none⟩ = some u
theorem Rd.nil (w : World) (A : Option Addr) : Rd w A [] := fun h => absurd rfl h
theorem Rd.keep {w w' : World} {A : Option Addr} {xs : List Value} (h : Rd w A xs) (hs : w.heap.size ≤ w'.heap.size) (hk : ∀ g o, A = some ⟨g, o, none⟩ → g < w.heap.size → w'.heap[g]? = w.heap[g]?) : Rd w' A xs := fun hn => by
  obtain ⟨g, o, e, hg, hc⟩ := h hn
  refine ⟨g, o, e, by omega, fun j u hu => ?_⟩
  rw [World.cell?_of_block (w := w) (hk g o e hg)]
  exact hc j u hu
theorem Rd.at {w : World} {A : Option Addr} {xs : List Value} (h : Rd w A xs) {k : Nat} (hk : k < xs.length) : ∃ g o, A = some ⟨g, o, none⟩ ∧ g < w.heap.size ∧ w.cell? ⟨g, o + k, none⟩ = some xs[k] := by
  obtain ⟨g, o, e, hg, hc⟩ := h (by intro h0; rw [h0] at hk; exact absurd hk (by simp))
  exact ⟨g, o, e, hg, hc k _ (List.getElem?_eq_getElem hk)⟩
theorem Rd.tail {w : World} {g o : Nat} {x : Value} {xs : List Value} (h : Rd w (some ⟨g, o, none⟩) (x :: xs)) : Rd w (some ⟨g, o + 1, none⟩) xs := fun _ => by
  obtain ⟨g', o', e, hg, hc⟩ := h (by simp)
  simp only [Option.some.injEq, Addr.mk.injEq] at e
  obtain ⟨rfl, rfl, _⟩ := e
  exact ⟨_, _, rfl, hg, fun j u hu => by rw [show o + 1 + j = o + (j + 1) by omega]; exact hc (j + 1) u (by simpa using hu)⟩
theorem Rd.drop {w : World} {g o : Nat} {xs : List Value} (h : Rd w (some ⟨g, o, none⟩) xs) (k : Nat) : Rd w (some ⟨g, o + k, none⟩) (xs.drop k) := fun hn => by
  obtain ⟨g', o', e, hg, hc⟩ := h (by intro h0; rw [h0] at hn; simp at hn)
  simp only [Option.some.injEq, Addr.mk.injEq] at e
  obtain ⟨rfl, rfl, _⟩ := e
  exact ⟨_, _, rfl, hg, fun j u hu => by rw [show o + k + j = o + (k + j) by omega]; exact hc (k + j) u (by simpa using hu)⟩
theorem Rd.take {w : World} {A : Option Addr} {xs : List Value} (h : Rd w A xs) (k : Nat) : Rd w A (xs.take k) := fun hn => by
  obtain ⟨g, o, e, hg, hc⟩ := h (by intro h0; rw [h0] at hn; simp at hn)
  exact ⟨g, o, e, hg, fun j u hu => hc j u (by rw [List.getElem?_take] at hu; split at hu; exact hu; cases hu)⟩
theorem Rd.grown {w w' : World} {row : Option Nat} {A : Option Addr} {xs : List Value} (h : Rd w A xs) (hg : w.grownBy w' row) (hr : ∀ g o, A = some ⟨g, o, none⟩ → some g ≠ row) : Rd w' A xs :=
  h.keep hg.size fun g o e hlt => hg.block g hlt (hr g o e)
theorem Rd.own {w : World} {base n c : Nat} {e : TypeId} {A : Option Addr} {xs : List Value} (h : w.ownsRow base e 1 (.slice A n c) n xs) : Rd w A xs := fun hn => by
  have hl := h.1
  rcases h.2 with ⟨_, h0⟩ | ⟨g, cap, cur, hv, _, hh, _, _, _, hx⟩
  · subst h0
    exact absurd (List.eq_nil_of_length_eq_zero (by simpa using hl)) hn
  · have hA : A = some ⟨g, 0, none⟩ := by injection hv
    subst hA
    refine ⟨g, 0, rfl, ?_, fun j u hu => ?_⟩
    · rcases Nat.lt_or_ge g w.heap.size with hlt | hge
      · exact hlt
      · rw [Array.getElem?_eq_none hge] at hh; cases hh
    · rw [Nat.zero_add, cell_of_row w g j cur e (0, 0) hh, ← Array.getElem?_toList]
      rw [← hx, List.getElem?_take] at hu
      split at hu
      · exact hu
      · cases hu

/-- Block g holds just the cells cs, of type t; none is frozen. -/
def Bk (w : World) (g : Nat) (t : TypeId) (cs : Array Value) : Prop := w.heap[g]? = some (.cells cs t (0, 0))
theorem Bk.lt {w : World} {g : Nat} {t : TypeId} {cs : Array Value} (h : Bk w g t cs) : g < w.heap.size := by
  rcases Nat.lt_or_ge g w.heap.size with hlt | hge
  · exact hlt
  · unfold Bk at h; rw [Array.getElem?_eq_none hge] at h; cases h
theorem Bk.cell {w : World} {g : Nat} {t : TypeId} {cs : Array Value} (h : Bk w g t cs) (i : Nat) : w.cell? ⟨g, i, none⟩ = cs[i]? := cell_of_row w g i cs t (0, 0) h
theorem Bk.free {w : World} {g : Nat} {t : TypeId} {cs : Array Value} (h : Bk w g t cs) (i : Nat) : w.frozen? ⟨g, i, none⟩ = false := by
  unfold Bk at h
  simp [World.frozen?, h]
theorem Bk.new (w : World) (t : TypeId) (cs : Array Value) : Bk (w.alloc (.cells cs t)) w.heap.size t cs := heap_alloc_new w _
theorem Bk.alloc {w : World} {g : Nat} {t : TypeId} {cs : Array Value} (h : Bk w g t cs) (o : Obj) : Bk (w.alloc o) g t cs := (Below.heap_alloc w o g h.lt).trans h
theorem Bk.set {w : World} {g : Nat} {t : TypeId} {cs : Array Value} (h : Bk w g t cs) (i : Nat) (u : Value) : Bk (w.setCell ⟨g, i, none⟩ u) g t (cs.setIfInBounds i u) := by
  unfold Bk at h ⊢
  simp [World.setCell, Array.getElem?_modify, h]
theorem Bk.far {w : World} {g : Nat} {t : TypeId} {cs : Array Value} (h : Bk w g t cs) {p : Addr} (hp : g ≠ p.block) (u : Value) : Bk (w.setCell p u) g t cs := (Below.heap_setCell w p u g hp).trans h
theorem Bk.drewN {w : World} {g : Nat} {t : TypeId} {cs : Array Value} (h : Bk w g t cs) (n : Nat) : Bk (w.drewN n) g t cs := h
theorem Bk.grown {w w' : World} {g : Nat} {t : TypeId} {cs : Array Value} {row : Option Nat} (h : Bk w g t cs) (hb : w.grownBy w' row) (hg : some g ≠ row) : Bk w' g t cs := (hb.block g h.lt hg).trans h

theorem grownBy_drewN {w w' : World} {row : Option Nat} (h : w.grownBy w' row) (n : Nat) : w.grownBy (w'.drewN n) row := ⟨h.os, h.tape, h.output, h.size, h.block⟩
theorem grownBy_set {w w' : World} {g : Nat} (h : w.grownBy w' (some g)) (i : Nat) (u : Value) : w.grownBy (w'.setCell ⟨g, i, none⟩ u) (some g) :=
  ⟨h.os, h.tape, h.output, by simpa [World.setCell] using h.size, fun k hk hne => (Below.heap_setCell w' ⟨g, i, none⟩ u k (fun e => hne (by rw [e]))).trans (h.block k hk hne)⟩
theorem Bk.of_eq {w : World} {g : Nat} {t : TypeId} {cs cs' : Array Value} (h : Bk w g t cs) (e : cs = cs') : Bk w g t cs' := e ▸ h
def nums (l : List Int) : List Value := l.map (Value.int .u64)
theorem u64_info : (Tryz.prog.info? 22).map (fun i => (i.zero, i.size, i.bytes)) = some (some (.int .u64 0), 1, 8) := by kernel_rfl
theorem nums_one (l : List Int) : ∀ u ∈ nums l, u.oneCell' = true := by
  intro u hu
  obtain ⟨x, _, rfl⟩ := List.mem_map.1 hu
  rfl
theorem Rd.addr {w : World} {x : Addr} {xs : List Value} (h : Rd w (some x) xs) : ∀ j u, xs[j]? = some u → w.cell? (x.add j) = some u := by
  intro j u hu
  obtain ⟨g, o, e, hg, hc⟩ := h (by intro h0; rw [h0] at hu; simp at hu)
  simp only [Option.some.injEq] at e
  subst e
  have hj := hc j u hu
  unfold Addr.add
  split
  · rename_i h0
    have : j = 0 := by simpa using h0
    subst this
    exact hj
  · exact hj

theorem grown_up {w w0 w1 : World} {row : Option Nat} (h : w.grownBy w0 none) (k : w0.grownBy w1 row) (hr : ∀ g, row = some g → w.heap.size ≤ g) : w.grownBy w1 none :=
  ⟨k.os.trans h.os, k.tape.trans h.tape, k.output.trans h.output, Nat.le_trans h.size k.size, fun i hi _ => (k.block i (Nat.lt_of_lt_of_le hi h.size) (fun e => by have := hr i e.symm; omega)).trans (h.block i hi (by simp))⟩
/-- What a call leaves that writes nothing that was there. -/
theorem below_grown {w w' : World} (h : w.grownBy w' none) : Below w.heap.size w w' := ⟨h.os, h.tape, h.output, h.size, fun k hk => h.block k hk (by simp)⟩
end Go.Proofs.YthicondcjeipfaaGreatDoor

namespace Go.Proofs.YthicondcjeipfaaGreatDoor
open Go.RowKit

/-- What a tape holds: the numbers told ahead, the state, how many draws were made. -/
structure TS where
  ahead : List Int
  s : Int
  d : Int
def TS.ok (T : TS) : Prop := (∀ x ∈ T.ahead, U64 x) ∧ U64 T.s ∧ 0 ≤ T.d ∧ T.d < 4611686018427387904
def TS.next (q : Int) (T : TS) : TS := match T.ahead with
  | _ :: r => ⟨r, T.s, T.d + 1⟩
  | [] => ⟨[], drawS q T.s, T.d + 1⟩
def TS.val (q : Int) (T : TS) : Int := match T.ahead with
  | x :: _ => belowI x q
  | [] => drawX q T.s
/-- The tape that lies in block b; what is told ahead, if anything is left, lies in block ga. -/
def TapeIs (w : World) (b ga : Nat) (T : TS) : Prop :=
  ∃ A c, Bk w b 64 #[.int .u64 T.s, .slice A T.ahead.length c, .int .i64 T.d] ∧ T.ahead.length ≤ c ∧ c ≤ 9223372036854775807 ∧
    (T.ahead ≠ [] → ga ≠ b ∧ ga < w.heap.size ∧ ∃ o, A = some ⟨ga, o, none⟩ ∧ ∀ j u, (nums T.ahead)[j]? = some u → w.cell? ⟨ga, o + j, none⟩ = some u)

set_option maxHeartbeats 400000 in
theorem next_own (b : Nat) (A : Option Addr) (c : Nat) (s d q : Int) (w : World) (hs : U64 s) (hq : U64 q) (hd0 : 0 ≤ d) (hd : d < 4611686018427387904)
    (hb : Bk w b 64 #[.int .u64 s, .slice A 0 c, .int .i64 d]) :
    Calls Tryz.prog 27 #[.pointer (some ⟨b, 0, none⟩), .int .u64 q] w fun e w' => e = .returned (.int .u64 (drawX q s)) ∧ Bk w' b 64 #[.int .u64 (drawS q s), .slice A 0 c, .int .i64 (d + 1)] ∧ w.grownBy w' (some b) := by
  have c0 : w.cell? ⟨b, 0, none⟩ = some (.int .u64 s) := hb.cell 0
  have c1 : w.cell? ⟨b, 1, none⟩ = some (.slice A 0 c) := hb.cell 1
  have c2 : w.cell? ⟨b, 2, none⟩ = some (.int .i64 d) := hb.cell 2
  have f0 : w.frozen? ⟨b, 0, none⟩ = false := hb.free 0
  have f2 : w.frozen? ⟨b, 2, none⟩ = false := hb.free 2
  have HB := Lib.hid hb
  have HS := Lib.hid hs
  have HQ := Lib.hid hq
  clear hb hs hq
  go_enter Tryz.func27, Tryz.ntmps27
  go_wp2_with fail
  have hb1 : Bk (w.setCell ⟨b, 2, none⟩ (.int .i64 (d + 1))) b 64 #[.int .u64 s, .slice A 0 c, .int .i64 (d + 1)] := (HB.out.set 2 _).of_eq rfl
  have hg1 : w.grownBy (w.setCell ⟨b, 2, none⟩ (.int .i64 (d + 1))) (some b) := grownBy_set (World.grownBy.refl w _) 2 _
  clear c0 c1 c2 f0 f2
  generalize w.setCell ⟨b, 2, none⟩ (.int .i64 (d + 1)) = w1 at *
  go_loopg [6] (kk s) (fun g s6 wx => ∃ s' : Int, kk s' = g ∧ Hid (U64 s') ∧ Hid (drawS q s' = drawS q s) ∧ Hid (Bk wx b 64 #[.int .u64 s', .slice A 0 c, .int .i64 (d + 1)] ∧ w.grownBy wx (some b)))
  case atStart => exact ⟨s, rfl, HS, Lib.hid rfl, Lib.hid ⟨hb1, hg1⟩⟩
  case round =>
    clear hb1 hg1
    obtain ⟨s', hk, hs', HD, HX⟩ := hrel
    have d0 : wr.cell? ⟨b, 0, none⟩ = some (.int .u64 s') := HX.out.1.cell 0
    have g0 : wr.frozen? ⟨b, 0, none⟩ = false := HX.out.1.free 0
    have HN := Lib.hid (number_any b s' wr hs'.out d0 g0)
    have HL := Lib.hid (fun w => below_any (mixI (nextS s')) q w (mixI_U64 _) HQ.out)
    have HO := Lib.hid (fun w => over_any q w HQ.out)
    have HX2 : Hid (Bk (wr.setCell ⟨b, 0, none⟩ (.int .u64 (nextS s'))) b 64 #[.int .u64 (nextS s'), .slice A 0 c, .int .i64 (d + 1)] ∧ w.grownBy (wr.setCell ⟨b, 0, none⟩ (.int .u64 (nextS s'))) (some b)) := Lib.hid ⟨(HX.out.1.set 0 _).of_eq rfl, grownBy_set HX.out.2 0 _⟩
    have hkk := Lib.hid hk
    clear d0 g0 hk
    go_wp2_with fail
    refine HN.out.mono ?_
    rintro e w' ⟨rfl, n1, rfl⟩
    go_wp2_with fail
    refine (HO.out _).mono ?_
    rintro e w' ⟨rfl, n2, rfl⟩
    cases hacc : accB q (nextS s') with
    | true =>
      have hA : decide (tOverI q ≤ bits BinOp.xor IntKind.u64 IntKind.u64.max (mixI (nextS s'))) = true := hacc
      have HE := Lib.hid (draw_yes q s' hs'.out hacc)
      clear hacc
      go_wp2_with fail
      refine (HL.out _).mono ?_
      rintro e w' ⟨rfl, n3, rfl⟩
      go_wp2
      go_ret
      have e1 : drawS q s = nextS s' := HD.out.symm.trans HE.out
      refine ⟨?_, ?_, ?_⟩
      · unfold drawX
        rw [e1]
        rfl
      · rw [e1]
        exact HX2.out.1
      · exact grownBy_drewN HX2.out.2 _
    | false =>
      have hA : decide (tOverI q ≤ bits BinOp.xor IntKind.u64 IntKind.u64.max (mixI (nextS s'))) = false := hacc
      obtain ⟨e1, e2⟩ := draw_no q s' HQ.out hs'.out hacc
      have HE := Lib.hid e1
      have HK := Lib.hid e2
      clear hacc e1 e2
      go_wp2
      go_roundg (kk (nextS s'))
      case measure => rw [← hkk.out, HK.out]; omega
      case rel => exact ⟨nextS s', rfl, Lib.hid (nextS_U64 _), Lib.hid (HE.out.symm.trans HD.out), Lib.hid ⟨HX2.out.1, grownBy_drewN HX2.out.2 _⟩⟩
end Go.Proofs.YthicondcjeipfaaGreatDoor

namespace Go.Proofs.YthicondcjeipfaaGreatDoor
open Go.RowKit

def I64 (a : Int) : Prop := -9223372036854775808 ≤ a ∧ a ≤ 9223372036854775807

/-- How a thing of a kind lies in cells; X: in which blocks what it leads to may lie. -/
structure Enc (α : Type) where
  size : Nat
  pos : 0 < size
  rep : (Nat → Prop) → World → List Value → α → Prop
  len : ∀ {X w cs x}, rep X w cs x → cs.length = size
  ones : ∀ {X w cs x}, rep X w cs x → ∀ u ∈ cs, u.oneCell' = true
  keep : ∀ {X w w' row cs x}, rep X w cs x → w.grownBy w' row → (∀ g, X g → some g ≠ row) → rep X w' cs x
  more : ∀ {X Y w cs x}, rep X w cs x → (∀ g, g < w.heap.size → X g → Y g) → rep Y w cs x
  keepc : ∀ {X w w' row cs x}, rep X w cs x → w.grownBy w' row → (∀ r, row = some r → ∃ o : Obj, w.heap[r]? = some o ∧ o.isCells = false) → rep X w' cs x

/-- A number of 64 bits. -/
def encU : Enc Int where
  size := 1
  pos := by decide
  rep := fun _ _ cs n => cs = [.int .u64 n] ∧ U64 n
  len := fun h => by rw [h.1]; rfl
  ones := fun h u hu => by rw [h.1] at hu; simp at hu; subst hu; rfl
  keep := fun h _ _ => h
  more := fun h _ => h
  keepc := fun h _ _ => h
/-- A number with a sign. -/
def encI : Enc Int where
  size := 1
  pos := by decide
  rep := fun _ _ cs n => cs = [.int .i64 n] ∧ I64 n
  len := fun h => by rw [h.1]; rfl
  ones := fun h u hu => by rw [h.1] at hu; simp at hu; subst hu; rfl
  keep := fun h _ _ => h
  more := fun h _ => h
  keepc := fun h _ _ => h
/-- A pair of numbers. -/
def encP : Enc (Int × Int) where
  size := 2
  pos := by decide
  rep := fun _ _ cs x => cs = [.int .u64 x.1, .int .u64 x.2] ∧ U64 x.1 ∧ U64 x.2
  len := fun h => by rw [h.1]; rfl
  ones := fun h u hu => by rw [h.1] at hu; simp at hu; rcases hu with rfl | rfl <;> rfl
  keep := fun h _ _ => h
  more := fun h _ => h
  keepc := fun h _ _ => h

/-- The slice value v reads as the things xs. -/
def Sl {α : Type} (E : Enc α) (X : Nat → Prop) (w : World) (v : Value) (xs : List α) : Prop :=
  ∃ A c, v = .slice A xs.length c ∧ xs.length ≤ c ∧ c ≤ 9223372036854775807 ∧
    (xs ≠ [] → ∃ g o, A = some ⟨g, o, none⟩ ∧ g < w.heap.size ∧ X g ∧
      ∀ i (h : i < xs.length), ∃ cs, E.rep X w cs xs[i] ∧ ∀ j u, cs[j]? = some u → w.cell? ⟨g, o + i * E.size + j, none⟩ = some u)

section
variable {α : Type} {E : Enc α} {X Y : Nat → Prop} {w w' : World} {v : Value} {xs : List α}
theorem Sl.nil (E : Enc α) (X : Nat → Prop) (w : World) : Sl E X w (.slice none 0 0) [] := ⟨none, 0, rfl, Nat.le_refl _, by omega, fun h => absurd rfl h⟩
theorem Sl.keep (h : Sl E X w v xs) {row : Option Nat} (hg : w.grownBy w' row) (hX : ∀ g, X g → some g ≠ row) : Sl E X w' v xs := by
  obtain ⟨A, c, e, h1, h2, h3⟩ := h
  refine ⟨A, c, e, h1, h2, fun hn => ?_⟩
  obtain ⟨g, o, eA, hgl, hXg, hc⟩ := h3 hn
  refine ⟨g, o, eA, Nat.lt_of_lt_of_le hgl hg.size, hXg, fun i hi => ?_⟩
  obtain ⟨cs, hr, hcell⟩ := hc i hi
  exact ⟨cs, E.keep hr hg hX, fun j u hu => by rw [World.cell?_of_block (w := w) (hg.block g hgl (hX g hXg))]; exact hcell j u hu⟩
/-- A block of cells is none that is no cells. -/
theorem cell_ne {g o : Nat} {u : Value} {row : Option Nat} (hc : w.cell? ⟨g, o, none⟩ = some u) (hr : ∀ r, row = some r → ∃ o : Obj, w.heap[r]? = some o ∧ o.isCells = false) : some g ≠ row := fun e => by
  obtain ⟨ob, ho, hn⟩ := hr g e.symm
  unfold World.cell? at hc
  simp only [ho] at hc
  cases ob with
  | cells => cases hn
  | _ => simp at hc
theorem Sl.keepc (h : Sl E X w v xs) {row : Option Nat} (hg : w.grownBy w' row) (hr : ∀ r, row = some r → ∃ o : Obj, w.heap[r]? = some o ∧ o.isCells = false) : Sl E X w' v xs := by
  obtain ⟨A, c, e, h1, h2, h3⟩ := h
  refine ⟨A, c, e, h1, h2, fun hn => ?_⟩
  obtain ⟨g, o, eA, hgl, hXg, hc⟩ := h3 hn
  have hpos : 0 < xs.length := List.length_pos_iff.2 hn
  obtain ⟨cs0, hr0, hc0⟩ := hc 0 hpos
  have hl0 := E.len hr0
  have hne : some g ≠ row := cell_ne (hc0 0 _ (List.getElem?_eq_getElem (by rw [hl0]; exact E.pos))) hr
  refine ⟨g, o, eA, Nat.lt_of_lt_of_le hgl hg.size, hXg, fun i hi => ?_⟩
  obtain ⟨cs, hrp, hcell⟩ := hc i hi
  exact ⟨cs, E.keepc hrp hg hr, fun j u hu => by rw [World.cell?_of_block (w := w) (hg.block g hgl hne)]; exact hcell j u hu⟩
theorem Sl.kept (h : Sl E X w v xs) (hg : w.grownBy w' none) : Sl E X w' v xs := h.keep hg (by simp)
theorem Sl.more (h : Sl E X w v xs) (hX : ∀ g, g < w.heap.size → X g → Y g) : Sl E Y w v xs := by
  obtain ⟨A, c, e, h1, h2, h3⟩ := h
  refine ⟨A, c, e, h1, h2, fun hn => ?_⟩
  obtain ⟨g, o, eA, hgl, hXg, hc⟩ := h3 hn
  refine ⟨g, o, eA, hgl, hX g hgl hXg, fun i hi => ?_⟩
  obtain ⟨cs, hr, hcell⟩ := hc i hi
  exact ⟨cs, E.more hr hX, hcell⟩
theorem Sl.form (h : Sl E X w v xs) : ∃ A c, v = .slice A xs.length c ∧ xs.length ≤ c ∧ c ≤ 9223372036854775807 := by
  obtain ⟨A, c, e, h1, h2, _⟩ := h
  exact ⟨A, c, e, h1, h2⟩
theorem Sl.bound (h : Sl E X w v xs) : xs.length ≤ 9223372036854775807 := by
  obtain ⟨A, c, e, h1, h2, _⟩ := h
  omega
theorem Sl.at (h : Sl E X w v xs) {k : Nat} (hk : k < xs.length) : ∃ g o c cs, v = .slice (some ⟨g, o, none⟩) xs.length c ∧ g < w.heap.size ∧ X g ∧ E.rep X w cs xs[k] ∧ ∀ j u, cs[j]? = some u → w.cell? ⟨g, o + k * E.size + j, none⟩ = some u := by
  obtain ⟨A, c, e, h1, h2, h3⟩ := h
  obtain ⟨g, o, rfl, hgl, hXg, hc⟩ := h3 (by intro h0; rw [h0] at hk; exact absurd hk (by simp))
  obtain ⟨cs, hr, hcell⟩ := hc k hk
  exact ⟨g, o, c, cs, e, hgl, hXg, hr, hcell⟩
end
theorem Sl.atU {X : Nat → Prop} {w : World} {v : Value} {xs : List Int} (h : Sl encU X w v xs) {k : Nat} (hk : k < xs.length) :
    ∃ g o c, v = .slice (some ⟨g, o, none⟩) xs.length c ∧ g < w.heap.size ∧ X g ∧ w.cell? ⟨g, o + k, none⟩ = some (.int .u64 xs[k]) ∧ U64 xs[k] := by
  obtain ⟨g, o, c, cs, e, hg, hX, ⟨rfl, hu⟩, hc⟩ := h.at hk
  have h0 := hc 0 _ rfl
  rw [show encU.size = 1 from rfl, Nat.mul_one] at h0
  exact ⟨g, o, c, e, hg, hX, h0, hu⟩
theorem Sl.atI {X : Nat → Prop} {w : World} {v : Value} {xs : List Int} (h : Sl encI X w v xs) {k : Nat} (hk : k < xs.length) :
    ∃ g o c, v = .slice (some ⟨g, o, none⟩) xs.length c ∧ g < w.heap.size ∧ X g ∧ w.cell? ⟨g, o + k, none⟩ = some (.int .i64 xs[k]) ∧ I64 xs[k] := by
  obtain ⟨g, o, c, cs, e, hg, hX, ⟨rfl, hu⟩, hc⟩ := h.at hk
  have h0 := hc 0 _ rfl
  rw [show encI.size = 1 from rfl, Nat.mul_one] at h0
  exact ⟨g, o, c, e, hg, hX, h0, hu⟩
theorem Sl.atP {X : Nat → Prop} {w : World} {v : Value} {xs : List (Int × Int)} (h : Sl encP X w v xs) {k : Nat} (hk : k < xs.length) :
    ∃ g o c, v = .slice (some ⟨g, o, none⟩) xs.length c ∧ g < w.heap.size ∧ X g ∧ w.cell? ⟨g, o + k * 2, none⟩ = some (.int .u64 xs[k].1) ∧ w.cell? ⟨g, o + k * 2 + 1, none⟩ = some (.int .u64 xs[k].2) ∧ U64 xs[k].1 ∧ U64 xs[k].2 := by
  obtain ⟨g, o, c, cs, e, hg, hX, ⟨rfl, hu⟩, hc⟩ := h.at hk
  exact ⟨g, o, c, e, hg, hX, hc 0 _ rfl, hc 1 _ rfl, hu⟩

/-- A slice of things, as a thing. -/
def encS {α : Type} (E : Enc α) : Enc (List α) where
  size := 1
  pos := by decide
  rep := fun X w cs xs => ∃ v, cs = [v] ∧ Sl E X w v xs
  len := fun h => by obtain ⟨v, rfl, _⟩ := h; rfl
  ones := fun h u hu => by
    obtain ⟨v, rfl, A, c, rfl, _⟩ := h
    simp at hu
    subst hu
    rfl
  keep := fun h hg hX => by obtain ⟨v, e, h⟩ := h; exact ⟨v, e, h.keep hg hX⟩
  more := fun h hX => by obtain ⟨v, e, h⟩ := h; exact ⟨v, e, h.more hX⟩
  keepc := fun h hg hr => by obtain ⟨v, e, h⟩ := h; exact ⟨v, e, h.keepc hg hr⟩
theorem Sl.atS {α : Type} {E : Enc α} {X : Nat → Prop} {w : World} {v : Value} {xs : List (List α)} (h : Sl (encS E) X w v xs) {k : Nat} (hk : k < xs.length) :
    ∃ g o c u, v = .slice (some ⟨g, o, none⟩) xs.length c ∧ g < w.heap.size ∧ X g ∧ w.cell? ⟨g, o + k, none⟩ = some u ∧ Sl E X w u xs[k] := by
  obtain ⟨g, o, c, cs, e, hg, hX, ⟨u, rfl, hu⟩, hc⟩ := h.at hk
  have h0 := hc 0 _ rfl
  rw [show (encS E).size = 1 from rfl, Nat.mul_one] at h0
  exact ⟨g, o, c, u, e, hg, hX, h0, hu⟩

theorem flatten_at {css : List (List Value)} {m : Nat} (hl : ∀ i (h : i < css.length), css[i].length = m) : ∀ {i : Nat} (hi : i < css.length) {j : Nat} {u : Value}, css[i][j]? = some u → css.flatten[i * m + j]? = some u := by
  induction css with
  | nil => intro i hi; exact absurd hi (by simp)
  | cons c css ih =>
    intro i hi j u hu
    have hc : c.length = m := hl 0 (by simp)
    cases i with
    | zero =>
      simp only [List.getElem_cons_zero] at hu
      have hj : j < c.length := (List.getElem?_eq_some_iff.1 hu).1
      rw [List.flatten_cons, Nat.zero_mul, Nat.zero_add, List.getElem?_append_left hj]
      exact hu
    | succ i =>
      simp only [List.getElem_cons_succ] at hu
      have h := ih (fun i h => hl (i + 1) (by simpa using h)) (by simpa using hi) hu
      rw [List.flatten_cons, List.getElem?_append_right (by rw [hc, Nat.add_mul]; omega), hc]
      rw [show (i + 1) * m + j - m = i * m + j by rw [Nat.add_mul]; omega]
      exact h

/-- The slice value v is one of the call's own, from block base on, and reads as the things xs, which do not lie in its row. -/
def Acc {α : Type} (E : Enc α) (base : Nat) (e : TypeId) (X : Nat → Prop) (w : World) (v : Value) (xs : List α) : Prop :=
  (∀ g, v.ownBlock = some g → X g) ∧ ∃ css : List (List Value), css.length = xs.length ∧ (∀ i (h : i < xs.length) (h' : i < css.length), E.rep (fun g => X g ∧ some g ≠ v.ownBlock) w css[i] xs[i]) ∧ w.ownsRow base e E.size v xs.length css.flatten
section
variable {α : Type} {E : Enc α} {base : Nat} {e : TypeId} {X Y : Nat → Prop} {w w' : World} {v : Value} {xs : List α}
theorem Acc.nil (E : Enc α) (base : Nat) (e : TypeId) (X : Nat → Prop) (w : World) : Acc E base e X w (.slice none 0 0) [] := ⟨by simp [Value.ownBlock], [], rfl, fun i h => absurd h (by simp), World.ownsRow_nil _ _ _ _⟩
theorem Acc.keep (h : Acc E base e X w v xs) {row : Option Nat} (hg : w.grownBy w' row) (hX : ∀ g, X g → some g ≠ row) : Acc E base e X w' v xs := by
  obtain ⟨hb, css, h1, h2, h3⟩ := h
  refine ⟨hb, css, h1, fun i hi hi' => E.keep (h2 i hi hi') hg fun g hg => hX g hg.1, h3.kept hg ?_⟩
  rcases hv : v.ownBlock with _ | g
  · exact .inl rfl
  · exact .inr (hX g (hb g hv))
theorem Acc.keepc (h : Acc E base e X w v xs) {row : Option Nat} (hg : w.grownBy w' row) (hr : ∀ r, row = some r → ∃ o : Obj, w.heap[r]? = some o ∧ o.isCells = false) : Acc E base e X w' v xs := by
  obtain ⟨hb, css, h1, h2, h3⟩ := h
  refine ⟨hb, css, h1, fun i hi hi' => E.keepc (h2 i hi hi') hg hr, h3.kept hg ?_⟩
  rcases h3.2 with ⟨rfl, _⟩ | ⟨g, cap, cur, rfl, _, hh, _⟩
  · exact .inl rfl
  · refine .inr fun hr' => ?_
    obtain ⟨ob, ho, hn⟩ := hr g hr'.symm
    rw [hh] at ho
    injection ho with ho
    subst ho
    cases hn
theorem Acc.kept (h : Acc E base e X w v xs) (hg : w.grownBy w' none) : Acc E base e X w' v xs := h.keep hg (by simp)
theorem Acc.more (h : Acc E base e X w v xs) (hX : ∀ g, g < w.heap.size → X g → Y g) : Acc E base e Y w v xs := by
  obtain ⟨hb, css, h1, h2, h3⟩ := h
  exact ⟨fun g hv => hX g (h3.lt g hv).2 (hb g hv), css, h1, fun i hi hi' => E.more (h2 i hi hi') fun g hl hg => ⟨hX g hl hg.1, hg.2⟩, h3⟩
theorem Acc.sl (h : Acc E base e X w v xs) : Sl E X w v xs := by
  obtain ⟨hb, css, h1, h2, h3⟩ := h
  have hlen : ∀ i (h : i < css.length), css[i].length = E.size := fun i h => E.len (h2 i (by omega) h)
  rcases h3.2 with ⟨hv, h0⟩ | ⟨g, cap, cur, hv, _, hh, hnc, hcm, _, hx⟩
  · refine ⟨none, 0, by rw [hv, h0], by omega, by omega, fun hn => absurd (List.eq_nil_of_length_eq_zero h0) hn⟩
  · refine ⟨some ⟨g, 0, none⟩, cap, hv, hnc, hcm, fun _ => ⟨g, 0, rfl, (h3.lt g (by rw [hv]; rfl)).2, hb g (by rw [hv]; rfl), fun i hi => ?_⟩⟩
    refine ⟨css[i]'(by omega), E.more (h2 i hi (by omega)) fun g _ hg => hg.1, fun j u hu => ?_⟩
    have hf := flatten_at hlen (i := i) (by omega) hu
    rw [Nat.zero_add, cell_of_row w g _ cur e (0, 0) hh, ← Array.getElem?_toList]
    rw [← hx, List.getElem?_take] at hf
    split at hf
    · exact hf
    · cases hf
theorem Acc.own (h : Acc E base e X w v xs) : ∃ cs, cs.length = xs.length * E.size ∧ w.ownsRow base e E.size v xs.length cs := by
  obtain ⟨_, css, _, _, h3⟩ := h
  exact ⟨_, h3.1, h3⟩
theorem Acc.lt (h : Acc E base e X w v xs) : ∀ g, v.ownBlock = some g → base ≤ g ∧ g < w.heap.size := by
  obtain ⟨_, css, _, _, h3⟩ := h
  exact h3.lt
end
end Go.Proofs.YthicondcjeipfaaGreatDoor

namespace Go.Proofs.YthicondcjeipfaaGreatDoor
open Go.RowKit

/-- Slice type t has elements of type e, of so many cells and bytes. -/
def ElemOk (P : Program) (t e : TypeId) (size bytes : Nat) : Prop :=
  0 < bytes ∧ P.underlying t = some (.slice e) ∧ ∃ i z, P.info? e = some i ∧ i.zero = some z ∧ i.size = size ∧ i.bytes = bytes ∧ z.cells.size = size
theorem ElemOk.mk' {P : Program} {t e : TypeId} {size bytes : Nat} {z : Value} (hb : 0 < bytes) (ht : P.underlying t = some (.slice e)) (h : (P.info? e).map (fun i => (i.zero, i.size, i.bytes)) = some (some z, size, bytes)) (hz : z.cells.size = size) : ElemOk P t e size bytes := by
  obtain ⟨i, hi, h0, h1, h2⟩ := info_parts h
  exact ⟨hb, ht, i, z, hi, h0, h1, h2, hz⟩

section
variable {α : Type} {P : Program} {E : Enc α} {base : Nat} {e : TypeId} {X Z : Nat → Prop} {w : World} {v : Value} {xs : List α}

theorem run_app {t ty : TypeId} {size bytes : Nat} (hE : ElemOk P t e size bytes) (hsz : 0 < size) {n : Nat} {cs : List Value} (hown : w.ownsRow base e size v n cs)
    (A : Option Addr) (m c : Nat) (news : List Value) (hl : news.length = m * size) (h0 : A = none → m = 0) (hc : ∀ ad, A = some ad → ∀ j u, news[j]? = some u → w.cell? (ad.add j) = some u)
    (h1 : ∀ u ∈ news, u.oneCell' = true) (hbytes : (n + m) * bytes ≤ 140737488355328) (hbase : base ≤ w.heap.size) :
    ∃ v' w', (Builtin.append_ #[t, t] ty #[v, .slice A m c]).run P w = .ok v' w' ∧ w'.ownsRow base e size v' (n + m) (cs ++ news) ∧ w.grownBy w' v.ownBlock ∧ (v'.ownBlock = v.ownBlock ∨ v'.ownBlock = some w.heap.size) := by
  obtain ⟨hb, ht, i, z, hi, hz, hz1, hz2, hz3⟩ := hE
  have h63 : n + m ≤ maxLen := by
    have : (n + m) * 1 ≤ (n + m) * bytes := Nat.mul_le_mul_left _ hb
    unfold maxLen
    omega
  cases A with
  | none =>
    have hm := h0 rfl
    subst hm
    have hn : news = [] := List.eq_nil_of_length_eq_zero (by simpa using hl)
    subst hn
    refine ⟨v, w, ?_, by simpa using hown, World.grownBy.refl w _, .inl rfl⟩
    rcases hown.2 with ⟨rfl, rfl⟩ | ⟨g, cap, cur, rfl, _, _, hnc, _⟩
    · simp [Builtin.append_, run_underlying ht, sizeOf, typeInfo, hi, Builtin.lenOf, Builtin.firstCells]
    · simp [Builtin.append_, run_underlying ht, sizeOf, typeInfo, hi, Builtin.lenOf, Builtin.firstCells, hnc, storeCells]
  | some ad =>
    obtain ⟨v', w', hr, h2, h3, _, h5⟩ := run_append_own_at (P := P) w base t ty e i z size bytes ht hi hz hz1 hz2 hz3 hsz v n cs hown ad m c news hl (hc ad rfl) h1 h63 hbytes hbase
    exact ⟨v', w', hr, h2, h3, h5⟩

theorem wp_app {o : Oper} {a : Act} {K : Act → World → Prop} {Q : Exit → Act → World → Prop} (s x : Operand) (t : TypeId)
    (ho : o.op = .call { callee := .builtin .append, args := #[s, x], argTypes := #[t, t] }) {size bytes : Nat} (hE : ElemOk P t e size bytes) (hsz : 0 < size) {n : Nat} {cs : List Value} (hs : a.eval s = v) (hown : w.ownsRow base e size v n cs)
    (A : Option Addr) (m c : Nat) (news : List Value) (hx : a.eval x = .slice A m c) (hl : news.length = m * size) (h0 : A = none → m = 0) (hc : ∀ ad, A = some ad → ∀ j u, news[j]? = some u → w.cell? (ad.add j) = some u)
    (h1 : ∀ u ∈ news, u.oneCell' = true) (hbytes : (n + m) * bytes ≤ 140737488355328) (hbase : base ≤ w.heap.size)
    (h : ∀ v' w', w'.ownsRow base e size v' (n + m) (cs ++ news) → w.grownBy w' v.ownBlock → (v'.ownBlock = v.ownBlock ∨ v'.ownBlock = some w.heap.size) → K (a.put o.dst v') w') : o.wp P a w K Q := by
  obtain ⟨v', w', hr, h2, h3, h4⟩ := run_app (P := P) (ty := o.type) hE hsz hown A m c news hl h0 hc h1 hbytes hbase
  unfold Oper.wp execOp
  simp only [ho, resolve, invoke, builtin, Sem.run_bind, Sem.run_pure, Result.andThen_ok, List.map_toArray, List.map_cons, List.map_nil, hs, hx, hr]
  exact h v' w' h2 h3 h4

/-- Things more. -/
theorem Acc.app {w' : World} {v' : Value} (h : Acc E base e X w v xs) {ys : List α} {cs2 : List (List Value)} (hlen : cs2.length = ys.length) (hx : ∀ i (h : i < ys.length) (h' : i < cs2.length), E.rep (fun g => X g ∧ some g ≠ v.ownBlock) w cs2[i] ys[i])
    (hown : ∀ css, w.ownsRow base e E.size v xs.length css → w'.ownsRow base e E.size v' (xs.length + ys.length) (css ++ cs2.flatten)) (hg : w.grownBy w' v.ownBlock) (hat : v'.ownBlock = v.ownBlock ∨ ∃ n, w.heap.size ≤ n ∧ v'.ownBlock = some n)
    (hN : ∀ g, w.heap.size ≤ g → X g) : Acc E base e X w' v' (xs ++ ys) := by
  obtain ⟨hb, css, h1, h2, h3⟩ := h
  have lift : ∀ {cs' : List Value} {y : α}, E.rep (fun g => X g ∧ some g ≠ v.ownBlock) w cs' y → E.rep (fun g => X g ∧ some g ≠ v'.ownBlock) w' cs' y := fun hr => by
    have a1 := E.more (Y := fun g => g < w.heap.size ∧ X g ∧ some g ≠ v.ownBlock) hr fun g hl hg => ⟨hl, hg⟩
    have a2 := E.keep a1 hg fun g hg => hg.2.2
    refine E.more a2 fun g _ hg => ⟨hg.2.1, ?_⟩
    rcases hat with hat | ⟨n, hn, hat⟩ <;> rw [hat]
    · exact hg.2.2
    · intro he
      injection he with he
      have := hg.1
      omega
  refine ⟨fun g hv => ?_, css ++ cs2, by simp [h1, hlen], fun i hi hi' => ?_, ?_⟩
  · rcases hat with hat | ⟨n, hn, hat⟩ <;> rw [hat] at hv
    · exact hb g hv
    · injection hv with hv; subst hv; exact hN _ hn
  · refine lift ?_
    rcases Nat.lt_or_ge i css.length with hlt | hge
    · have e1 : (css ++ cs2)[i] = css[i] := List.getElem_append_left hlt
      have e2 : (xs ++ ys)[i] = xs[i]'(by omega) := List.getElem_append_left (by omega)
      rw [e1, e2]
      exact h2 i (by omega) hlt
    · have e1 : (css ++ cs2)[i] = cs2[i - css.length]'(by simp at hi'; omega) := List.getElem_append_right hge
      have e2 : (xs ++ ys)[i] = ys[i - xs.length]'(by simp at hi; omega) := List.getElem_append_right (by omega)
      rw [e1, e2]
      simp only [h1]
      exact hx _ _ _
  · have := hown _ h3
    simpa using this

/-- Where the new slice lies. -/
def Moved (w : World) (v v' : Value) : Prop := v'.ownBlock = v.ownBlock ∨ ∃ n, w.heap.size ≤ n ∧ v'.ownBlock = some n
theorem Moved.ne {w : World} {v v' : Value} (h : Moved w v v') {g : Nat} (hg : g < w.heap.size) (hne : v.ownBlock ≠ some g) : v'.ownBlock ≠ some g := by
  rcases h with h | ⟨n, hn, h⟩ <;> rw [h]
  · exact hne
  · intro he; injection he with he; omega

theorem own_same {size n : Nat} {cs cs' : List Value} (h : w.ownsRow base e size v n cs) (k : w.ownsRow base e size v n cs') : cs = cs' := by
  rcases h.2 with ⟨r1, r2⟩ | ⟨g, cap, cur, r1, _, r3, _, _, _, r7⟩
  · have l1 := h.1
    have l2 := k.1
    rw [r2, Nat.zero_mul] at l1 l2
    have a1 : cs = [] := List.eq_nil_of_length_eq_zero l1
    have a2 : cs' = [] := List.eq_nil_of_length_eq_zero l2
    rw [a1, a2]
  · rcases k.2 with ⟨q1, _⟩ | ⟨g', cap', cur', q1, _, q3, _, _, _, q7⟩
    · rw [r1] at q1; cases q1
    · rw [r1] at q1
      injection q1 with q1 _ _
      injection q1 with q1
      injection q1 with q1
      subst q1
      rw [r3] at q3
      injection q3 with q3
      injection q3 with q3
      subst q3
      rw [← q7, ← r7]
/-- append(out, y): the thing y lies in a block of its own, just laid. -/
theorem push_core {cs : List Value} {y : α} {t : TypeId} {bytes : Nat} (hE : ElemOk P t e E.size bytes) (hacc : Acc E base e X w v xs) (hrep : E.rep (fun g => X g ∧ some g ≠ v.ownBlock) w cs y)
    (hlen : (xs.length + 1) * bytes ≤ 140737488355328) (hb : base ≤ w.heap.size) (hN : ∀ g, w.heap.size ≤ g → X g)
    {o : Oper} {a : Act} {K : Act → World → Prop} {Q : Exit → Act → World → Prop} (s x : Operand)
    (ho : o.op = .call { callee := .builtin .append, args := #[s, x], argTypes := #[t, t] }) (hs : a.eval s = v) (hx : a.eval x = .slice (some ⟨w.heap.size, 0, none⟩) 1 1)
    (h : ∀ v' w', Acc E base e X w' v' (xs ++ [y]) → w.grownBy w' v.ownBlock → Moved w v v' → K (a.put o.dst v') w') : o.wp P a (w.alloc (.cells cs.toArray e)) K Q := by
  obtain ⟨_, css, h1, _, h3⟩ := id hacc
  have hcl := E.len hrep
  have hbk : Bk (w.alloc (.cells cs.toArray e)) w.heap.size e cs.toArray := Bk.new w _ _
  have hga : w.grownBy (w.alloc (.cells cs.toArray e)) v.ownBlock := World.grownBy_alloc w _ _
  refine wp_app s x t ho (size := E.size) hE E.pos hs (h3.alloc _) (some ⟨w.heap.size, 0, none⟩) 1 1 cs hx (by rw [hcl, Nat.one_mul]) (by simp) ?_ (E.ones hrep) hlen (by simp; omega) ?_
  · intro ad e' j u hu
    injection e' with e'
    subst e'
    have := hbk.cell j
    rw [List.getElem?_toArray, hu] at this
    rw [← this]
    unfold Addr.add
    split
    · rename_i h0
      have : j = 0 := by simpa using h0
      subst this
      rfl
    · simp
  · intro v' w' hown hg hat
    have hgg := hga.trans hg
    have hat' : Moved w v v' := hat.imp id fun e => ⟨_, by simp, e⟩
    refine h v' w' (hacc.app (cs2 := [cs]) (ys := [y]) rfl (fun i hi hi' => ?_) (fun css' hc' => ?_) hgg hat' hN) hgg hat'
    · have : i = 0 := by simp at hi; omega
      subst this
      exact hrep
    · have e1 : css' = css.flatten := own_same hc' h3
      rw [e1]
      simpa using hown
theorem wpList_push {cs : List Value} {y : α} {t : TypeId} {bytes : Nat} {ops : Array Oper} {rest : List Oper} {o : Oper} {a : Act} {Q : Exit → Act → World → Prop} (hgd : o.guard = none) (s x : Operand)
    (ho : o.op = .call { callee := .builtin .append, args := #[s, x], argTypes := #[t, t] }) (hE : ElemOk P t e E.size bytes) (hacc : Acc E base e X w v xs) (hs : a.eval s = v) (hx : a.eval x = .slice (some ⟨w.heap.size, 0, none⟩) 1 1) (hrep : E.rep (fun g => X g ∧ some g ≠ v.ownBlock) w cs y)
    (hlen : (xs.length + 1) * bytes ≤ 140737488355328) (hb : base ≤ w.heap.size) (hN : ∀ g, w.heap.size ≤ g → X g)
    (h : ∀ v' w', Acc E base e X w' v' (xs ++ [y]) → w.grownBy w' v.ownBlock → Moved w v v' → wpList P ops Q rest (a.put o.dst v') w') : wpList P ops Q (o :: rest) a (w.alloc (.cells cs.toArray e)) :=
  wpList_plain hgd fun _ hK => push_core hE hacc hrep hlen hb hN s x ho hs hx fun v' w' h1 h2 h3 => hK _ _ (h v' w' h1 h2 h3)
theorem step_push {cs : List Value} {y : α} {t : TypeId} {bytes : Nat} {ops : Array Oper} {o : Oper} {a : Act} {K : Act → World → Prop} {Q : Exit → Act → World → Prop} {F : Prop} (hgd : o.guard = none) (s x : Operand)
    (ho : o.op = .call { callee := .builtin .append, args := #[s, x], argTypes := #[t, t] }) (hE : ElemOk P t e E.size bytes) (hacc : Acc E base e X w v xs) (hs : a.eval s = v) (hx : a.eval x = .slice (some ⟨w.heap.size, 0, none⟩) 1 1) (hrep : E.rep (fun g => X g ∧ some g ≠ v.ownBlock) w cs y)
    (hlen : (xs.length + 1) * bytes ≤ 140737488355328) (hb : base ≤ w.heap.size) (hN : ∀ g, w.heap.size ≤ g → X g)
    (h : ∀ v' w', Acc E base e X w' v' (xs ++ [y]) → w.grownBy w' v.ownBlock → Moved w v v' → K (a.put o.dst v') w') : if Region.wanted o (yielded ops a.tmps) = true then Oper.wp P o a (w.alloc (.cells cs.toArray e)) K Q else F := by
  have hw : Region.wanted o (yielded ops a.tmps) = true := by simp [Region.wanted, hgd]
  rw [if_pos hw]
  exact push_core hE hacc hrep hlen hb hN s x ho hs hx h

/-- append(out, ys...): the things lie in a slice that reads so. -/
theorem apps_core {ys : List α} {A : Option Addr} {m c : Nat} {t : TypeId} {bytes : Nat} (hE : ElemOk P t e E.size bytes) (hacc : Acc E base e X w v xs) (hys : Sl E Z w (.slice A m c) ys) (hZ : ∀ cs y, E.rep Z w cs y → E.rep (fun g => X g ∧ some g ≠ v.ownBlock) w cs y)
    (hlen : (xs.length + ys.length) * bytes ≤ 140737488355328) (hb : base ≤ w.heap.size) (hN : ∀ g, w.heap.size ≤ g → X g)
    {o : Oper} {a : Act} {K : Act → World → Prop} {Q : Exit → Act → World → Prop} (s x : Operand)
    (ho : o.op = .call { callee := .builtin .append, args := #[s, x], argTypes := #[t, t] }) (hs : a.eval s = v) (hx : a.eval x = .slice A m c)
    (h : ∀ v' w', Acc E base e X w' v' (xs ++ ys) → w.grownBy w' v.ownBlock → Moved w v v' → K (a.put o.dst v') w') : o.wp P a w K Q := by
  obtain ⟨_, css, h1, _, h3⟩ := id hacc
  obtain ⟨A', c', e', hl1, hl2, hc⟩ := hys
  injection e' with e1 e2 e3
  subst e1 e2 e3
  have key : ∀ i, ∃ cs, ∀ (hi : i < ys.length), E.rep Z w cs ys[i] ∧ ∀ g o, A = some ⟨g, o, none⟩ → ∀ j u, cs[j]? = some u → w.cell? ⟨g, o + i * E.size + j, none⟩ = some u := by
    intro i
    by_cases hi : i < ys.length
    · obtain ⟨g, o, eA, _, _, hcc⟩ := hc (by intro h0; rw [h0] at hi; exact absurd hi (by simp))
      obtain ⟨cs, hr, hcell⟩ := hcc i hi
      refine ⟨cs, fun _ => ⟨hr, fun g' o' eA' => ?_⟩⟩
      rw [eA] at eA'
      injection eA' with eA'
      injection eA' with e1 e2
      subst e1 e2
      exact hcell
    · exact ⟨[], fun h => absurd h hi⟩
  obtain ⟨f, hf⟩ : ∃ f : Nat → List Value, ∀ i (hi : i < ys.length), E.rep Z w (f i) ys[i] ∧ ∀ g o, A = some ⟨g, o, none⟩ → ∀ j u, (f i)[j]? = some u → w.cell? ⟨g, o + i * E.size + j, none⟩ = some u :=
    ⟨fun i => Classical.choose (key i), fun i => Classical.choose_spec (key i)⟩
  have hcs2 : ((List.range ys.length).map f).length = ys.length := by simp
  have hat2 : ∀ i (hi : i < ((List.range ys.length).map f).length), ((List.range ys.length).map f)[i] = f i := fun i hi => by simp
  have hlens : ∀ i (hi : i < ((List.range ys.length).map f).length), ((List.range ys.length).map f)[i].length = E.size := fun i hi => by
    rw [hat2]
    exact E.len (hf i (by simpa using hi)).1
  have hfl : ((List.range ys.length).map f).flatten.length = ys.length * E.size := by
    rw [List.length_flatten]
    have : ((List.range ys.length).map f).map List.length = List.replicate ys.length E.size := by
      apply List.ext_getElem
      · simp
      · intro i hi hi'
        have := hlens i (by simpa using hi)
        simp at this ⊢
        exact this
    rw [this]
    simp
  refine wp_app s x t ho (size := E.size) hE E.pos hs h3 A ys.length c ((List.range ys.length).map f).flatten hx hfl ?_ ?_ ?_ hlen hb ?_
  · intro hA
    rcases Nat.eq_zero_or_pos ys.length with h0 | h0
    · exact h0
    · obtain ⟨g, o, eA, _⟩ := hc (by intro h; rw [h] at h0; simp at h0)
      rw [hA] at eA
      cases eA
  · intro ad hA j u hu
    have hj : j < ys.length * E.size := by rw [← hfl]; exact (List.getElem?_eq_some_iff.1 hu).1
    have hpos : 0 < ys.length := by
      rcases Nat.eq_zero_or_pos ys.length with h0 | h0
      · rw [h0] at hj; omega
      · exact h0
    obtain ⟨g, o, eA, _⟩ := hc (by intro h; rw [h] at hpos; simp at hpos)
    have hi : j / E.size < ys.length := Nat.div_lt_of_lt_mul (by rw [Nat.mul_comm]; exact hj)
    have hr : j % E.size < E.size := Nat.mod_lt _ E.pos
    have hfi := hf _ hi
    have hu2 : (f (j / E.size))[j % E.size]? = some ((f (j / E.size))[j % E.size]'(by rw [E.len hfi.1]; exact hr)) := List.getElem?_eq_getElem _
    have hfa := flatten_at hlens (i := j / E.size) (by simpa using hi) (j := j % E.size) (u := (f (j / E.size))[j % E.size]'(by rw [E.len hfi.1]; exact hr)) (by rw [hat2]; exact hu2)
    rw [show j / E.size * E.size + j % E.size = j by rw [Nat.mul_comm]; exact Nat.div_add_mod j E.size] at hfa
    rw [hu] at hfa
    injection hfa with hfa
    have hcell := hfi.2 g o eA (j % E.size) _ hu2
    rw [show o + j / E.size * E.size + j % E.size = o + j by have := Nat.div_add_mod j E.size; rw [Nat.mul_comm] at this; omega] at hcell
    rw [hA] at eA
    injection eA with eA
    subst eA
    rw [hfa, ← hcell]
    unfold Addr.add
    split
    · rename_i h0
      have : j = 0 := by simpa using h0
      subst this
      rfl
    · rfl
  · intro u hu
    obtain ⟨l, hl, hul⟩ := List.mem_flatten.1 hu
    obtain ⟨i, hi, rfl⟩ := List.mem_map.1 hl
    exact E.ones (hf i (by simpa using hi)).1 u hul
  · intro v' w' hown hg hat
    have hat' : Moved w v v' := hat.imp id fun e => ⟨_, Nat.le_refl _, e⟩
    refine h v' w' (hacc.app hcs2 (fun i hi hi' => ?_) (fun css' hc' => ?_) hg hat' hN) hg hat'
    · rw [hat2]
      exact hZ _ _ (hf i hi).1
    · rw [own_same hc' h3]
      exact hown
theorem wpList_apps {ys : List α} {A : Option Addr} {m c : Nat} {t : TypeId} {bytes : Nat} {ops : Array Oper} {rest : List Oper} {o : Oper} {a : Act} {Q : Exit → Act → World → Prop} (hgd : o.guard = none) (s x : Operand)
    (ho : o.op = .call { callee := .builtin .append, args := #[s, x], argTypes := #[t, t] }) (hE : ElemOk P t e E.size bytes) (hacc : Acc E base e X w v xs) (hs : a.eval s = v) (hx : a.eval x = .slice A m c) (hys : Sl E Z w (.slice A m c) ys) (hZ : ∀ cs y, E.rep Z w cs y → E.rep (fun g => X g ∧ some g ≠ v.ownBlock) w cs y)
    (hlen : (xs.length + ys.length) * bytes ≤ 140737488355328) (hb : base ≤ w.heap.size) (hN : ∀ g, w.heap.size ≤ g → X g)
    (h : ∀ v' w', Acc E base e X w' v' (xs ++ ys) → w.grownBy w' v.ownBlock → Moved w v v' → wpList P ops Q rest (a.put o.dst v') w') : wpList P ops Q (o :: rest) a w :=
  wpList_plain hgd fun _ hK => apps_core hE hacc hys hZ hlen hb hN s x ho hs hx fun v' w' h1 h2 h3 => hK _ _ (h v' w' h1 h2 h3)
theorem Acc.made (E : Enc α) (w : World) (e : TypeId) {B : Nat} (hB : B ≤ w.heap.size) (X : Nat → Prop) (hX : X w.heap.size) : Acc E B e X (w.alloc (.cells #[] e)) (.slice (some ⟨w.heap.size, 0, none⟩) 0 0) [] :=
  ⟨fun g hg => by simp [Value.ownBlock] at hg; subst hg; exact hX, [], rfl, fun i hi => absurd hi (by simp), World.ownsRow_made w #[] 0 hB (Nat.zero_le _) (by simp)⟩
theorem Acc.ne_bk (h : Acc E base e X w v xs) {g : Nat} {t : TypeId} {cs : Array Value} (hb : Bk w g t cs) (hne : e ≠ t) : v.ownBlock ≠ some g := by
  obtain ⟨_, css, _, _, h3⟩ := h
  rcases h3.2 with ⟨rfl, _⟩ | ⟨g', cap, cur, rfl, _, hh, _⟩
  · simp [Value.ownBlock]
  · intro he
    have : g' = g := by simpa [Value.ownBlock] using he
    subst this
    unfold Bk at hb
    rw [hb] at hh
    injection hh with hh
    injection hh with _ ht
    exact hne ht.symm
end
end Go.Proofs.YthicondcjeipfaaGreatDoor

namespace Go.Proofs.YthicondcjeipfaaGreatDoor
open Go.RowKit

section
variable {α : Type} {E : Enc α} {X Y : Nat → Prop} {w w' : World} {v : Value} {xs : List α}
/-- What a slice's first cells are. -/
theorem Sl.take {A : Option Addr} {n c : Nat} (h : Sl E X w (.slice A n c) xs) (k : Nat) (hk : k ≤ xs.length) : Sl E X w (.slice A k c) (xs.take k) := by
  obtain ⟨A', c', e, h1, h2, h3⟩ := h
  injection e with e1 e2 e3
  subst e1 e2 e3
  refine ⟨A, c, by rw [List.length_take, Nat.min_eq_left hk], by rw [List.length_take]; omega, h2, fun hn => ?_⟩
  obtain ⟨g, o, eA, hg, hX, hc⟩ := h3 (by intro h0; rw [h0] at hn; simp at hn)
  refine ⟨g, o, eA, hg, hX, fun i hi => ?_⟩
  obtain ⟨cs, hr, hcell⟩ := hc i (by rw [List.length_take] at hi; omega)
  exact ⟨cs, by rw [List.getElem_take]; exact hr, hcell⟩
/-- .. its last ones. -/
theorem Sl.drop {g o n c : Nat} (h : Sl E X w (.slice (some ⟨g, o, none⟩) n c) xs) (k : Nat) (hk : k ≤ xs.length) : Sl E X w (.slice (some ⟨g, o + k * E.size, none⟩) (n - k) (c - k)) (xs.drop k) := by
  obtain ⟨A', c', e, h1, h2, h3⟩ := h
  injection e with e1 e2 e3
  subst e1 e2 e3
  refine ⟨_, _, by rw [List.length_drop], by rw [List.length_drop]; omega, by omega, fun hn => ?_⟩
  obtain ⟨g', o', eA, hg, hX, hc⟩ := h3 (by intro h0; rw [h0] at hn; simp at hn)
  injection eA with eA
  injection eA with eg eo
  subst eg eo
  refine ⟨g, _, rfl, hg, hX, fun i hi => ?_⟩
  obtain ⟨cs, hr, hcell⟩ := hc (k + i) (by rw [List.length_drop] at hi; omega)
  refine ⟨cs, by rw [List.getElem_drop]; exact hr, fun j u hu => ?_⟩
  have := hcell j u hu
  rwa [show o + (k + i) * E.size + j = o + k * E.size + i * E.size + j by rw [Nat.add_mul]; omega] at this
theorem Sl.empty (E : Enc α) (X : Nat → Prop) (w : World) (A : Option Addr) (c : Nat) (hc : c ≤ 9223372036854775807) : Sl E X w (.slice A 0 c) [] := ⟨A, c, rfl, Nat.zero_le _, hc, fun h => absurd rfl h⟩
theorem Sl.bounded (h : Sl E X w v xs) : Sl E (fun g => X g ∧ g < w.heap.size) w v xs := h.more fun _ hg hX => ⟨hX, hg⟩
theorem Sl.addr {A : Option Addr} {n c : Nat} (h : Sl E X w (.slice A n c) xs) (hn : 0 < xs.length) : ∃ g o, A = some ⟨g, o, none⟩ ∧ g < w.heap.size ∧ X g := by
  obtain ⟨A', c', e, h1, h2, h3⟩ := h
  injection e with e1 e2 e3
  subst e1 e2 e3
  obtain ⟨g, o, eA, hg, hX, _⟩ := h3 (by intro h0; rw [h0] at hn; simp at hn)
  exact ⟨g, o, eA, hg, hX⟩
/-- A slice's cells may be written, and lie where X says. -/
def Wr (X : Nat → Prop) (w : World) (v : Value) : Prop := ∃ g o n c, v = .slice (some ⟨g, o, none⟩) n c ∧ g < w.heap.size ∧ X g ∧ (∀ i, w.frozen? ⟨g, i, none⟩ = false) ∧ ∃ ob : Obj, w.heap[g]? = some ob ∧ ob.isCells = true
theorem frozen_of_block {g i : Nat} (h : w'.heap[g]? = w.heap[g]?) : w'.frozen? ⟨g, i, none⟩ = w.frozen? ⟨g, i, none⟩ := by simp [World.frozen?, h]
theorem Wr.keep (h : Wr X w v) {row : Option Nat} (hg : w.grownBy w' row) (hX : ∀ g, X g → some g ≠ row) : Wr X w' v := by
  obtain ⟨g, o, n, c, e, hl, hXg, hf, ob, ho, hn⟩ := h
  exact ⟨g, o, n, c, e, Nat.lt_of_lt_of_le hl hg.size, hXg, fun i => (frozen_of_block (hg.block g hl (hX g hXg))).trans (hf i), ob, (hg.block g hl (hX g hXg)).trans ho, hn⟩
theorem Wr.more (h : Wr X w v) (hX : ∀ g, g < w.heap.size → X g → Y g) : Wr Y w v := by
  obtain ⟨g, o, n, c, e, hl, hXg, hf⟩ := h
  exact ⟨g, o, n, c, e, hl, hX g hl hXg, hf⟩
end
theorem Wr.keepc {X : Nat → Prop} {w w' : World} {v : Value} (h : Wr X w v) {row : Option Nat} (hg : w.grownBy w' row) (hr : ∀ r, row = some r → ∃ o : Obj, w.heap[r]? = some o ∧ o.isCells = false) : Wr X w' v := by
  obtain ⟨g, o, n, c, e, hl, hXg, hf, hcl⟩ := h
  have hne : some g ≠ row := fun e => by
    obtain ⟨ob, ho, hn⟩ := hr g e.symm
    obtain ⟨ob', ho', hn'⟩ := hcl
    rw [ho] at ho'
    injection ho' with ho'
    rw [ho', hn'] at hn
    cases hn
  exact ⟨g, o, n, c, e, Nat.lt_of_lt_of_le hl hg.size, hXg, fun i => (frozen_of_block (hg.block g hl hne)).trans (hf i), by obtain ⟨ob, ho, hn⟩ := hcl; exact ⟨ob, (hg.block g hl hne).trans ho, hn⟩⟩
/-- A slice of things that may be written, as a thing. -/
def encW {α : Type} (E : Enc α) : Enc (List α) where
  size := 1
  pos := by decide
  rep := fun X w cs xs => ∃ v, cs = [v] ∧ Sl E X w v xs ∧ Wr X w v
  len := fun h => by obtain ⟨v, rfl, _⟩ := h; rfl
  ones := fun h u hu => by
    obtain ⟨v, rfl, ⟨A, c, rfl, _⟩, _⟩ := h
    simp at hu
    subst hu
    rfl
  keep := fun h hg hX => by obtain ⟨v, e, h, h2⟩ := h; exact ⟨v, e, h.keep hg hX, h2.keep hg hX⟩
  more := fun h hX => by obtain ⟨v, e, h, h2⟩ := h; exact ⟨v, e, h.more hX, h2.more hX⟩
  keepc := fun h hg hr => by obtain ⟨v, e, h, h2⟩ := h; exact ⟨v, e, h.keepc hg hr, h2.keepc hg hr⟩
section
variable {α : Type} {E : Enc α} {X Y : Nat → Prop} {w w' : World} {v : Value} {xs : List α}
theorem Acc.wr {base : Nat} {e : TypeId} (h : Acc E base e X w v xs) (hn : 0 < xs.length) : Wr X w v := by
  have hlt := h.lt
  obtain ⟨hb, css, h1, h2, h3⟩ := h
  rcases h3.2 with ⟨hv, h0⟩ | ⟨g, cap, cur, hv, _, hh, _⟩
  · omega
  · refine ⟨g, 0, xs.length, cap, hv, (hlt g (by rw [hv]; rfl)).2, hb g (by rw [hv]; rfl), fun i => ?_, _, hh, rfl⟩
    simp [World.frozen?, hh]
/-- What reads as slices that may be written reads as slices. -/
theorem Sl.plain {X : Nat → Prop} {w : World} {v : Value} {xs : List (List α)} (h : Sl (encW E) X w v xs) : Sl (encS E) X w v xs := by
  obtain ⟨A, c, e, h1, h2, h3⟩ := h
  refine ⟨A, c, e, h1, h2, fun hn => ?_⟩
  obtain ⟨g, o, eA, hg, hX, hc⟩ := h3 hn
  refine ⟨g, o, eA, hg, hX, fun i hi => ?_⟩
  obtain ⟨cs, ⟨v, e, hs, _⟩, hcell⟩ := hc i hi
  exact ⟨cs, ⟨v, e, hs⟩, hcell⟩
/-- From one way of laying a thing to another. -/
theorem Sl.via {F : Enc α} (hs : E.size = F.size) (hv : ∀ cs y, E.rep X w cs y → F.rep X w cs y) (h : Sl E X w v xs) : Sl F X w v xs := by
  obtain ⟨A, c, e, h1, h2, h3⟩ := h
  refine ⟨A, c, e, h1, h2, fun hn => ?_⟩
  obtain ⟨g, o, eA, hg, hX, hc⟩ := h3 hn
  refine ⟨g, o, eA, hg, hX, fun i hi => ?_⟩
  obtain ⟨cs, hr, hcell⟩ := hc i hi
  exact ⟨cs, hv _ _ hr, by rw [← hs]; exact hcell⟩
theorem Sl.plain2 {X : Nat → Prop} {w : World} {v : Value} {xs : List (List (List α))} (h : Sl (encW (encW E)) X w v xs) : Sl (encS (encS E)) X w v xs :=
  Sl.via (E := encS (encW E)) rfl (fun _ _ ⟨v, e, hs⟩ => ⟨v, e, hs.plain⟩) h.plain
end
/-- A block that is known whole, as a slice. -/
theorem Sl.block {α : Type} {E : Enc α} {X : Nat → Prop} {w : World} {g c : Nat} {t : TypeId} {cs : Array Value} {xs : List α} (h : Bk w g t cs) (hX : X g) (css : List (List Value)) (hl : css.length = xs.length)
    (hr : ∀ i (hi : i < xs.length) (hi' : i < css.length), E.rep X w css[i] xs[i]) (hc : cs.toList = css.flatten) (hn : xs.length ≤ c) (hc2 : c ≤ 9223372036854775807) : Sl E X w (.slice (some ⟨g, 0, none⟩) xs.length c) xs := by
  refine ⟨_, c, rfl, hn, hc2, fun _ => ⟨g, 0, rfl, h.lt, hX, fun i hi => ⟨css[i]'(by omega), hr i hi (by omega), fun j u hu => ?_⟩⟩⟩
  have hf := flatten_at (m := E.size) (fun i hi => E.len (hr i (by omega) hi)) (i := i) (by omega) hu
  rw [Nat.zero_add, h.cell, ← Array.getElem?_toList, hc]
  exact hf
theorem Sl.nils {α : Type} (E : Enc α) (X : Nat → Prop) {w : World} {g n : Nat} {t : TypeId} (h : Bk w g t (madeCells #[.slice none 0 0] n)) (hX : X g) (hn : n ≤ 9223372036854775807) : Sl (encS E) X w (.slice (some ⟨g, 0, none⟩) n n) (List.replicate n []) := by
  have := Sl.block (E := encS E) (xs := List.replicate n ([] : List α)) (c := n) h hX (List.replicate n [.slice none 0 0]) (by simp) (fun i hi hi' => ⟨_, by simp; rfl, by simp; exact Sl.nil E X w⟩) (by rw [toList_madeCells_one]; simp) (by simp) hn
  simpa using this
theorem grown_weak {w w' : World} {row : Option Nat} (h : w.grownBy w' none) : w.grownBy w' row := ⟨h.os, h.tape, h.output, h.size, fun k hk _ => h.block k hk (by simp)⟩
section
variable {α : Type} {P : Program} {E : Enc α} {base : Nat} {e : TypeId} {X Y Z : Nat → Prop} {w w0 : World} {v : Value} {xs : List α}
/-- append(out, y), the call having begun at w0. -/
theorem pushG_core {cs : List Value} {y : α} {t : TypeId} {bytes : Nat} (hE : ElemOk P t e E.size bytes) (hG : w0.grownBy w none) (hacc : Acc E w0.heap.size e Y w v xs) (hY : ∀ g, w0.heap.size ≤ g → Y g) (hrep : E.rep (fun g => Y g ∧ some g ≠ v.ownBlock) w cs y)
    (hlen : (xs.length + 1) * bytes ≤ 140737488355328)
    {o : Oper} {a : Act} {K : Act → World → Prop} {Q : Exit → Act → World → Prop} (s x : Operand)
    (ho : o.op = .call { callee := .builtin .append, args := #[s, x], argTypes := #[t, t] }) (hs : a.eval s = v) (hx : a.eval x = .slice (some ⟨w.heap.size, 0, none⟩) 1 1)
    (h : ∀ v' w', Acc E w0.heap.size e Y w' v' (xs ++ [y]) → w0.grownBy w' none → w.grownBy w' v.ownBlock → K (a.put o.dst v') w') : o.wp P a (w.alloc (.cells cs.toArray e)) K Q :=
  push_core hE hacc hrep hlen hG.size (fun g hg => hY g (Nat.le_trans hG.size hg)) s x ho hs hx fun v' w' h1 h2 _ => h v' w' h1 (grown_up hG h2 fun g he => (hacc.lt g he).1) h2
theorem wpList_pushG {cs : List Value} {y : α} {t : TypeId} {bytes : Nat} {ops : Array Oper} {rest : List Oper} {o : Oper} {a : Act} {Q : Exit → Act → World → Prop} (hgd : o.guard = none) (s x : Operand)
    (ho : o.op = .call { callee := .builtin .append, args := #[s, x], argTypes := #[t, t] }) (hE : ElemOk P t e E.size bytes) (hG : w0.grownBy w none) (hacc : Acc E w0.heap.size e Y w v xs) (hY : ∀ g, w0.heap.size ≤ g → Y g) (hrep : E.rep (fun g => Y g ∧ some g ≠ v.ownBlock) w cs y)
    (hlen : (xs.length + 1) * bytes ≤ 140737488355328) (hs : a.eval s = v) (hx : a.eval x = .slice (some ⟨w.heap.size, 0, none⟩) 1 1)
    (h : ∀ v' w', Acc E w0.heap.size e Y w' v' (xs ++ [y]) → w0.grownBy w' none → w.grownBy w' v.ownBlock → wpList P ops Q rest (a.put o.dst v') w') : wpList P ops Q (o :: rest) a (w.alloc (.cells cs.toArray e)) :=
  wpList_plain hgd fun _ hK => pushG_core hE hG hacc hY hrep hlen s x ho hs hx fun v' w' h1 h2 h3 => hK _ _ (h v' w' h1 h2 h3)
theorem step_pushG {cs : List Value} {y : α} {t : TypeId} {bytes : Nat} {ops : Array Oper} {o : Oper} {a : Act} {K : Act → World → Prop} {Q : Exit → Act → World → Prop} {F : Prop} (hgd : o.guard = none) (s x : Operand)
    (ho : o.op = .call { callee := .builtin .append, args := #[s, x], argTypes := #[t, t] }) (hE : ElemOk P t e E.size bytes) (hG : w0.grownBy w none) (hacc : Acc E w0.heap.size e Y w v xs) (hY : ∀ g, w0.heap.size ≤ g → Y g) (hrep : E.rep (fun g => Y g ∧ some g ≠ v.ownBlock) w cs y)
    (hlen : (xs.length + 1) * bytes ≤ 140737488355328) (hs : a.eval s = v) (hx : a.eval x = .slice (some ⟨w.heap.size, 0, none⟩) 1 1)
    (h : ∀ v' w', Acc E w0.heap.size e Y w' v' (xs ++ [y]) → w0.grownBy w' none → w.grownBy w' v.ownBlock → K (a.put o.dst v') w') : if Region.wanted o (yielded ops a.tmps) = true then Oper.wp P o a (w.alloc (.cells cs.toArray e)) K Q else F := by
  have hw : Region.wanted o (yielded ops a.tmps) = true := by simp [Region.wanted, hgd]
  rw [if_pos hw]
  exact pushG_core hE hG hacc hY hrep hlen s x ho hs hx h
end
/-- k pieces of n each. -/
def chk {α : Type} (n : Nat) (l : List α) (k : Nat) : List (List α) := (List.range k).map fun j => (l.drop (j * n)).take n
theorem chk_succ {α : Type} (n : Nat) (l : List α) (k : Nat) : chk n l (k + 1) = chk n l k ++ [(l.drop (k * n)).take n] := by
  unfold chk
  rw [List.range_succ, List.map_append]
  rfl
theorem chk_length {α : Type} (n : Nat) (l : List α) (k : Nat) : (chk n l k).length = k := by simp [chk]
/-- A call that told a slice xs, and an error's number. -/
def GivesE {α : Type} (E : Enc α) (Y : Nat → Prop) (w : World) (xs : List α) (n : Int) (e : Ending) (w' : World) : Prop := ∃ v, e = .returned (.tuple #[v, .int .i64 n]) ∧ Sl E Y w' v xs ∧ w.grownBy w' none
/-- A call that told a slice xs; what lay there stands. -/
def Gives {α : Type} (E : Enc α) (Y : Nat → Prop) (w : World) (xs : List α) (e : Ending) (w' : World) : Prop := ∃ v, e = .returned v ∧ Sl E Y w' v xs ∧ w.grownBy w' none
end Go.Proofs.YthicondcjeipfaaGreatDoor

namespace Go.Proofs.YthicondcjeipfaaGreatDoor
open Go Go.RowKit

section
variable {P : Program} {ops : Array Oper} {md : Region.Mode} {R : Act → World → Prop} {Q : Exit → Act → World → Prop} {l0 n : Nat}
/-- What is said of the way that goes on alone. -/
def Only (R : Act → World → Prop) : Exit → Act → World → Prop := fun e a w => e = .normal ∧ R a w
theorem only_letsOut : ¬ LetsOut (Only R) := by
  rintro ⟨a, w, e, _⟩
  cases e
theorem operIn_of_wp {o : Oper} {a : Act} {w : World} {K K' : Act → World → Prop} (hd : ∀ c, o.op ≠ .defer c) (hK : ∀ a w, K a w → K' a w) (h : o.wp P a w K (Only R)) : o.wpIn (Fence.wide.inRound l0) n P a w K' Q := by
  refine ⟨fun _ _ => trivial, ?_⟩
  rw [Oper.semAt_plain _ _ _ hd]
  unfold Oper.wp at h
  generalize (execOp a.eval o).run P w = r at *
  cases r with
  | ok x w' =>
    cases x with
    | value v => exact hK _ _ h
    | skip => exact hK _ _ h
    | defer d => exact hK _ _ h
    | enter f args =>
      refine ⟨fun h => by simp [Fence.wide] at h, CallsIn.inRound l0 (callsIn_wide.2 ?_)⟩
      refine Calls.mono h ?_
      intro e w'' he
      cases e with
      | returned v => exact hK _ _ he
      | panicked c => exact absurd he.1 (by simp)
      | outgrown => exact absurd he only_letsOut
    | row row args =>
      refine ⟨fun h => by simp [Fence.wide] at h, fun c cs _ => ?_⟩
      obtain ⟨v, w'', r, s⟩ := h c cs
      exact ⟨v, w'', hK _ _ r, stepsIn_wide.2 s⟩
    | round l f ts c1 c2 => exact h.elim
    | _ => exact h.elim
  | halt x w' =>
    cases x with
    | panic v => exact absurd h.1 (by simp)
    | _ => exact h.elim
theorem wpAnyIn_of_any (hd : ∀ (i : Nat) (o : Oper) c, ops[i]? = some o → o.op ≠ .defer c) (hR : ∀ a w, R a w → Q .normal a w) :
    ∀ (f : Nat) (listed : Array Bool) (a : Act) (w : World), wpAny P md ops (Only R) f listed a w → wpAnyIn (Fence.wide.inRound l0) n P md ops Q f listed a w := by
  intro f
  induction f with
  | zero => intro listed a w h; exact ⟨h.1, hR _ _ h.2.2⟩
  | succ f ih =>
    intro listed a w h
    refine ⟨fun e => hR _ _ (h.1 e).2, fun i hi => ?_⟩
    have h2 := h.2 i hi
    unfold wpOp at h2
    unfold wpOpIn
    cases ho : ops[i]? with
    | none => simp only [ho] at h2 ⊢; exact ih _ _ _ h2
    | some o =>
      simp only [ho] at h2 ⊢
      split
      · rename_i hw
        rw [if_pos hw] at h2
        rcases h2 with h2 | h2
        · exact operIn_of_wp (fun c => hd i o c ho) (fun a w k => ih _ _ _ k) h2
        · exact absurd h2.2 only_letsOut
      · rename_i hw
        rw [if_neg hw] at h2
        exact ⟨fun _ _ => trivial, ih _ _ _ h2⟩
def noDefer (ops : Array Oper) : Bool := ops.all fun o => match o.op with | .defer _ => false | _ => true
theorem noDefer_spec (h : noDefer ops = true) : ∀ (i : Nat) (o : Oper) c, ops[i]? = some o → o.op ≠ .defer c := by
  intro i o c hi e
  obtain ⟨hlt, hk⟩ := Array.getElem?_eq_some_iff.1 hi
  have := Array.all_eq_true.1 h i hlt
  rw [hk, e] at this
  exact absurd this (by simp)
end
end Go.Proofs.YthicondcjeipfaaGreatDoor

namespace Go.Proofs.YthicondcjeipfaaGreatDoor
open Go Go.RowKit Go.Shelf

attribute [local go_sem] Oper.semAt_some
set_option maxHeartbeats 400000 in
theorem atU_any (v : Value) (l : List Int) (i : Nat) (X : Nat → Prop) (w : World) (h : Sl encU X w v l) (hi : (i : Int) ≤ 9223372036854775807) :
    Calls Tryz.prog 103 #[v, .int .i64 i] w fun e w' => e = .returned (.int .u64 (l[i]?.getD 0)) ∧ w' = w := by
  obtain ⟨A, c, rfl, hc1, hc2⟩ := h.form
  have hi0 : (0 : Int) ≤ (i : Int) := by omega
  by_cases hl : i < l.length
  · obtain ⟨g, o, c', e, _, _, hcu, _⟩ := h.atU hl
    injection e with e1 e2 e3
    subst e1 e3
    have hli : (i : Int) < (l.length : Int) := by omega
    rw [show l[i]?.getD 0 = l[i] by rw [List.getElem?_eq_getElem hl]; rfl]
    clear h e2
    go_enter Tryz.func103, Tryz.ntmps103
    go_wp2
    go_ret
    exact ⟨rfl, rfl⟩
  · have hli : ¬ (i : Int) < (l.length : Int) := by omega
    have hli2 : (l.length : Int) ≤ (i : Int) := by omega
    rw [show l[i]?.getD 0 = 0 by rw [List.getElem?_eq_none (by omega)]; rfl]
    clear h
    go_enter Tryz.func103, Tryz.ntmps103
    go_wp2
    go_ret
    exact ⟨rfl, rfl⟩
/-- What two lists give, place by place. -/
def zipU (a b : List Int) : List (Int × Int) := (List.range (max a.length b.length)).map fun i => (a[i]?.getD 0, b[i]?.getD 0)
abbrev UU := { x : Int × Int // U64 x.1 ∧ U64 x.2 }
/-- What a round of the iterator keeps: what lay below n₀, and the two boxes. -/
def KpAB (n₀ Ba Bb : Nat) (A B : World) : Prop := Below n₀ A B ∧ B.heap[Ba]? = A.heap[Ba]? ∧ B.heap[Bb]? = A.heap[Bb]?
theorem KpAB.refl (n₀ Ba Bb : Nat) (A : World) : KpAB n₀ Ba Bb A A := ⟨Below.refl _ _, rfl, rfl⟩
theorem KpAB.drew (n₀ Ba Bb : Nat) (A : World) : KpAB n₀ Ba Bb A A.drew := ⟨⟨rfl, rfl, rfl, Nat.le_refl _, fun _ _ => rfl⟩, rfl, rfl⟩
theorem KpAB.trans {n₀ Ba Bb : Nat} {A B C : World} (h : KpAB n₀ Ba Bb A B) (k : KpAB n₀ Ba Bb B C) : KpAB n₀ Ba Bb A C := ⟨h.1.trans k.1, k.2.1.trans h.2.1, k.2.2.trans h.2.2⟩
theorem grown_of_below {w w' : World} (h : Below w.heap.size w w') : w.grownBy w' none := ⟨h.1, h.2, h.3, h.4, fun k hk _ => h.5 k hk⟩
theorem getD_U64 {X : Nat → Prop} {w : World} {v : Value} {l : List Int} (k : Nat) (h : Sl encU X w v l) : U64 (l[k]?.getD 0) := by
  by_cases hk : k < l.length
  · obtain ⟨_, _, _, _, _, _, _, u⟩ := h.atU hk
    rw [List.getElem?_eq_getElem hk]
    exact u
  · rw [List.getElem?_eq_none (by omega)]
    exact ⟨by decide, by decide⟩
set_option maxRecDepth 100000 in
set_option maxHeartbeats 2000000 in
theorem pairsU_in (n : Nat) (hn : 1 ≤ n) (l Ba Bb : Nat) (va vb : Value) (a b : List Int) (X : Nat → Prop) (J Jx : List UU → World → Prop) (w₀ : World)
    (hY : ∀ pre x W, J pre W → pre.length < (zipU a b).length → YieldAt Fence.wide (n - 1) Tryz.prog l #[.int .u64 x.1.1, .int .u64 x.1.2] W fun e W' =>
      (e = .returned (.bool true) ∧ J (pre ++ [x]) W' ∧ KpAB w₀.heap.size Ba Bb W W') ∨ (e = .returned (.bool false) ∧ Jx (pre ++ [x]) W'))
    (W : World) (hJ : AbidesFrom W.heap.size J) (hW0 : Below w₀.heap.size w₀ W) (hBa : Boxed W Ba 29 va) (hBb : Boxed W Bb 29 vb) (hA : Sl encU X w₀ va a) (hB : Sl encU X w₀ vb b) (h0 : J [] W) :
    CallsIn Fence.wide n Tryz.prog 102 #[.func (.yield l) #[] #[], .pointer (some ⟨Ba, 0, none⟩), .pointer (some ⟨Bb, 0, none⟩)] W fun e W' => (∃ v, e = .returned v) ∧
      ((∃ ys, ys.map Subtype.val = zipU a b ∧ J ys W') ∨ (∃ pre, True ∧ Jx pre W')) := by
  refine callsIn_of_wp Tryz.func102 rfl trivial ?_ rfl
  simp only [Tryz.ntmps102, List.size_toArray, List.length_cons, List.length_nil, Nat.reduceAdd, Nat.reduceSub, Array.replicate_succ, Array.replicate_zero, List.push_toArray, List.append_toArray, List.nil_append, List.cons_append]
  obtain ⟨A1, c1, rfl, _, _⟩ := hA.form
  obtain ⟨A2, c2, rfl, _, _⟩ := hB.form
  have ca := hBa.cell
  have cb := hBb.cell
  have HA := Lib.hid hA
  have HB := Lib.hid hB
  have HL : Hid ((zipU a b).length = max a.length b.length) := Lib.hid (by simp [zipU])
  have HAT : Hid (∀ k (h : k < (zipU a b).length), (zipU a b)[k] = (a[k]?.getD 0, b[k]?.getD 0)) := Lib.hid (fun k h => by simp [zipU])
  have hba : a.length ≤ 9223372036854775807 := hA.bound
  have hbb : b.length ≤ 9223372036854775807 := hB.bound
  have HBA := Lib.hid hBa
  have HBB := Lib.hid hBb
  have HH0 := Lib.hid h0
  clear hA hB hBa hBb h0
  by_cases hle : a.length < b.length
  · have HN : Hid (b.length = (zipU a b).length) := Lib.hid (by rw [HL.out]; omega)
    gi_wp2
    gi_loopw [10] (fun s10 wr => ∃ (k : Nat) (pre : List UU), k ≤ b.length ∧ s10 = .int .i64 k ∧ Hid (pre.map Subtype.val = (zipU a b).take k ∧ J pre wr ∧ KpAB w₀.heap.size Ba Bb W wr)) (fun s10 _ => b.length - (intOf s10).toNat)
    case atStart => exact ⟨0, [], by omega, rfl, Lib.hid ⟨rfl, HH0.out, KpAB.refl _ _ _ _⟩⟩
    case round =>
      obtain ⟨k, pre, hk, rfl, HX⟩ := hrel
      by_cases hlt : k < b.length
      · have hki : (k : Int) < (b.length : Int) := by omega
        have hkz : k < (zipU a b).length := by rw [← HN.out]; exact hlt
        have hkb : (k : Int) ≤ 9223372036854775807 := by omega
        have hpl : pre.length = k := by have := congrArg List.length HX.out.1; simpa [Nat.min_eq_left (Nat.le_of_lt hkz)] using this
        have hca : wr.cell? ⟨Ba, 0, none⟩ = some (.slice A1 a.length c1) := (World.cell?_of_block (w := W) HX.out.2.2.2.1).trans HBA.out.cell
        have hcb : wr.cell? ⟨Bb, 0, none⟩ = some (.slice A2 b.length c2) := (World.cell?_of_block (w := W) HX.out.2.2.2.2).trans HBB.out.cell
        have hJk : J pre wr.drew := hJ _ wr wr.drew none HX.out.2.1 (grownBy_drewN (World.grownBy.refl wr none) 1) (by simp)
        have HGW : Hid (w₀.grownBy wr none) := Lib.hid (grown_of_below (hW0.trans HX.out.2.2.1))
        have HSA : Hid (∀ w', wr.grownBy w' none → Sl encU X w' (.slice A1 a.length c1) a) := Lib.hid (fun w' hw => HA.out.kept (HGW.out.trans hw))
        have HSB : Hid (∀ w', wr.grownBy w' none → Sl encU X w' (.slice A2 b.length c2) b) := Lib.hid (fun w' hw => HB.out.kept (HGW.out.trans hw))
        obtain ⟨xa, hxa⟩ : ∃ x, x = a[k]?.getD 0 := ⟨_, rfl⟩
        obtain ⟨xb, hxb⟩ : ∃ x, x = b[k]?.getD 0 := ⟨_, rfl⟩
        have HUA : U64 xa := by rw [hxa]; exact getD_U64 k (HSA.out wr (World.grownBy.refl _ _))
        have HUB : U64 xb := by rw [hxb]; exact getD_U64 k (HSB.out wr (World.grownBy.refl _ _))
        obtain ⟨fn, tmps, assign, body, hy, hR⟩ := hY _ (⟨(xa, xb), HUA, HUB⟩ : UU) wr.drew hJk (by rw [hpl]; exact hkz)
        dsimp only at hy
        have HR := Lib.hid (hR.mono (R' := fun e W' => ∃ bb : Bool, e = .returned (.bool bb) ∧ Hid ((bb = true ∧ J (pre ++ [(⟨(xa, xb), HUA, HUB⟩ : UU)]) W' ∧ KpAB w₀.heap.size Ba Bb wr.drew W') ∨ (bb = false ∧ Jx (pre ++ [(⟨(xa, xb), HUA, HUB⟩ : UU)]) W'))) (fun e W' h => by
          rcases h with ⟨h1, h2, h3⟩ | ⟨h1, h2⟩
          · exact ⟨true, h1, Lib.hid (.inl ⟨rfl, h2, h3⟩)⟩
          · exact ⟨false, h1, Lib.hid (.inr ⟨rfl, h2⟩)⟩))
        have HC1 : Hid (∀ w', wr.grownBy w' none → Calls Tryz.prog 103 #[.slice A1 a.length c1, .int .i64 k] w' fun e w'' => e = .returned (.int .u64 xa) ∧ w'' = w') := Lib.hid (fun w' hw => by rw [hxa]; exact atU_any _ a k X w' (HSA.out w' hw) hkb)
        have HC2 : Hid (∀ w', wr.grownBy w' none → Calls Tryz.prog 103 #[.slice A2 b.length c2, .int .i64 k] w' fun e w'' => e = .returned (.int .u64 xb) ∧ w'' = w') := Lib.hid (fun w' hw => by rw [hxb]; exact atU_any _ b k X w' (HSB.out w' hw) hkb)
        have HPN : Hid ((pre ++ [(⟨(xa, xb), HUA, HUB⟩ : UU)]).map Subtype.val = (zipU a b).take (k + 1)) := Lib.hid (by
          rw [List.map_append, HX.out.1, List.take_succ_eq_append_getElem hkz, HAT.out k hkz, ← hxa, ← hxb]
          rfl)
        have HGD : Hid (wr.grownBy wr.drew none) := Lib.hid (grownBy_drewN (World.grownBy.refl wr none) 1)
        clear hR hJk ca cb hxa hxb
        gi_wp2
        gi_region_with (first
          | (refine ⟨trivial, ?_⟩; gi_at_call 103; (with_reducible refine (callsIn_wide.2 (HC1.out _ HGD.out)).mono ?_); rintro e w' ⟨rfl, rfl⟩)
          | (refine ⟨trivial, ?_⟩; gi_at_call 103; (with_reducible refine (callsIn_wide.2 (HC2.out _ HGD.out)).mono ?_); rintro e w' ⟨rfl, rfl⟩)
          | ((with_reducible refine HR.out.mono ?_); rintro e W' ⟨bb, rfl, hout⟩))
        all_goals (cases bb with
          | true =>
            gi_wp2
            rcases hout.out with ⟨_, hJ2, hK2⟩ | ⟨h, _⟩
            · exact ⟨⟨k + 1, _, by omega, by go_num, Lib.hid ⟨HPN.out, hJ2, HX.out.2.2.trans ((KpAB.drew _ _ _ wr).trans hK2)⟩⟩, by simp [intOf]; omega⟩
            · cases h
          | false =>
            gi_wp2
            rcases hout.out with ⟨h, _⟩ | ⟨_, hJx2⟩
            · cases h
            · refine bodyPost_ret (results_none rfl _ _ _) rfl ?_
              exact ⟨⟨_, rfl⟩, .inr ⟨_, hJx2⟩⟩)
      · obtain rfl : k = b.length := by omega
        gi_wp2
        go_end0
        exact ⟨⟨_, rfl⟩, .inl ⟨pre, by rw [HX.out.1, HN.out, List.take_length], HX.out.2.1⟩⟩
  · have HN : Hid (a.length = (zipU a b).length) := Lib.hid (by rw [HL.out]; omega)
    gi_wp2
    gi_loopw [10] (fun s10 wr => ∃ (k : Nat) (pre : List UU), k ≤ a.length ∧ s10 = .int .i64 k ∧ Hid (pre.map Subtype.val = (zipU a b).take k ∧ J pre wr ∧ KpAB w₀.heap.size Ba Bb W wr)) (fun s10 _ => a.length - (intOf s10).toNat)
    case atStart => exact ⟨0, [], by omega, rfl, Lib.hid ⟨rfl, HH0.out, KpAB.refl _ _ _ _⟩⟩
    case round =>
      obtain ⟨k, pre, hk, rfl, HX⟩ := hrel
      by_cases hlt : k < a.length
      · have hki : (k : Int) < (a.length : Int) := by omega
        have hkz : k < (zipU a b).length := by rw [← HN.out]; exact hlt
        have hkb : (k : Int) ≤ 9223372036854775807 := by omega
        have hpl : pre.length = k := by have := congrArg List.length HX.out.1; simpa [Nat.min_eq_left (Nat.le_of_lt hkz)] using this
        have hca : wr.cell? ⟨Ba, 0, none⟩ = some (.slice A1 a.length c1) := (World.cell?_of_block (w := W) HX.out.2.2.2.1).trans HBA.out.cell
        have hcb : wr.cell? ⟨Bb, 0, none⟩ = some (.slice A2 b.length c2) := (World.cell?_of_block (w := W) HX.out.2.2.2.2).trans HBB.out.cell
        have hJk : J pre wr.drew := hJ _ wr wr.drew none HX.out.2.1 (grownBy_drewN (World.grownBy.refl wr none) 1) (by simp)
        have HGW : Hid (w₀.grownBy wr none) := Lib.hid (grown_of_below (hW0.trans HX.out.2.2.1))
        have HSA : Hid (∀ w', wr.grownBy w' none → Sl encU X w' (.slice A1 a.length c1) a) := Lib.hid (fun w' hw => HA.out.kept (HGW.out.trans hw))
        have HSB : Hid (∀ w', wr.grownBy w' none → Sl encU X w' (.slice A2 b.length c2) b) := Lib.hid (fun w' hw => HB.out.kept (HGW.out.trans hw))
        obtain ⟨xa, hxa⟩ : ∃ x, x = a[k]?.getD 0 := ⟨_, rfl⟩
        obtain ⟨xb, hxb⟩ : ∃ x, x = b[k]?.getD 0 := ⟨_, rfl⟩
        have HUA : U64 xa := by rw [hxa]; exact getD_U64 k (HSA.out wr (World.grownBy.refl _ _))
        have HUB : U64 xb := by rw [hxb]; exact getD_U64 k (HSB.out wr (World.grownBy.refl _ _))
        obtain ⟨fn, tmps, assign, body, hy, hR⟩ := hY _ (⟨(xa, xb), HUA, HUB⟩ : UU) wr.drew hJk (by rw [hpl]; exact hkz)
        dsimp only at hy
        have HR := Lib.hid (hR.mono (R' := fun e W' => ∃ bb : Bool, e = .returned (.bool bb) ∧ Hid ((bb = true ∧ J (pre ++ [(⟨(xa, xb), HUA, HUB⟩ : UU)]) W' ∧ KpAB w₀.heap.size Ba Bb wr.drew W') ∨ (bb = false ∧ Jx (pre ++ [(⟨(xa, xb), HUA, HUB⟩ : UU)]) W'))) (fun e W' h => by
          rcases h with ⟨h1, h2, h3⟩ | ⟨h1, h2⟩
          · exact ⟨true, h1, Lib.hid (.inl ⟨rfl, h2, h3⟩)⟩
          · exact ⟨false, h1, Lib.hid (.inr ⟨rfl, h2⟩)⟩))
        have HC1 : Hid (∀ w', wr.grownBy w' none → Calls Tryz.prog 103 #[.slice A1 a.length c1, .int .i64 k] w' fun e w'' => e = .returned (.int .u64 xa) ∧ w'' = w') := Lib.hid (fun w' hw => by rw [hxa]; exact atU_any _ a k X w' (HSA.out w' hw) hkb)
        have HC2 : Hid (∀ w', wr.grownBy w' none → Calls Tryz.prog 103 #[.slice A2 b.length c2, .int .i64 k] w' fun e w'' => e = .returned (.int .u64 xb) ∧ w'' = w') := Lib.hid (fun w' hw => by rw [hxb]; exact atU_any _ b k X w' (HSB.out w' hw) hkb)
        have HPN : Hid ((pre ++ [(⟨(xa, xb), HUA, HUB⟩ : UU)]).map Subtype.val = (zipU a b).take (k + 1)) := Lib.hid (by
          rw [List.map_append, HX.out.1, List.take_succ_eq_append_getElem hkz, HAT.out k hkz, ← hxa, ← hxb]
          rfl)
        have HGD : Hid (wr.grownBy wr.drew none) := Lib.hid (grownBy_drewN (World.grownBy.refl wr none) 1)
        clear hR hJk ca cb hxa hxb
        gi_wp2
        gi_region_with (first
          | (refine ⟨trivial, ?_⟩; gi_at_call 103; (with_reducible refine (callsIn_wide.2 (HC1.out _ HGD.out)).mono ?_); rintro e w' ⟨rfl, rfl⟩)
          | (refine ⟨trivial, ?_⟩; gi_at_call 103; (with_reducible refine (callsIn_wide.2 (HC2.out _ HGD.out)).mono ?_); rintro e w' ⟨rfl, rfl⟩)
          | ((with_reducible refine HR.out.mono ?_); rintro e W' ⟨bb, rfl, hout⟩))
        all_goals (cases bb with
          | true =>
            gi_wp2
            rcases hout.out with ⟨_, hJ2, hK2⟩ | ⟨h, _⟩
            · exact ⟨⟨k + 1, _, by omega, by go_num, Lib.hid ⟨HPN.out, hJ2, HX.out.2.2.trans ((KpAB.drew _ _ _ wr).trans hK2)⟩⟩, by simp [intOf]; omega⟩
            · cases h
          | false =>
            gi_wp2
            rcases hout.out with ⟨h, _⟩ | ⟨_, hJx2⟩
            · cases h
            · refine bodyPost_ret (results_none rfl _ _ _) rfl ?_
              exact ⟨⟨_, rfl⟩, .inr ⟨_, hJx2⟩⟩)
      · obtain rfl : k = a.length := by omega
        gi_wp2
        go_end0
        exact ⟨⟨_, rfl⟩, .inl ⟨pre, by rw [HX.out.1, HN.out, List.take_length], HX.out.2.1⟩⟩
end Go.Proofs.YthicondcjeipfaaGreatDoor

namespace Go.Proofs.YthicondcjeipfaaGreatDoor
open Go Go.RowKit Go.Shelf

attribute [local go_sem] Oper.semAt_some
def zipS {α : Type} (a b : List (List α)) : List (List α × List α) := (List.range (max a.length b.length)).map fun i => (a[i]?.getD [], b[i]?.getD [])
abbrev SS {α : Type} (E : Enc α) (X : Nat → Prop) (w₀ : World) (G : List α → Prop) := { x : (Value × List α) × (Value × List α) // (Sl E X w₀ x.1.1 x.1.2 ∧ G x.1.2) ∧ (Sl E X w₀ x.2.1 x.2.2 ∧ G x.2.2) }
def SS.lists {α : Type} {E : Enc α} {X : Nat → Prop} {w₀ : World} {G : List α → Prop} (x : SS E X w₀ G) : List α × List α := (x.1.1.2, x.1.2.2)
theorem getD_G {α : Type} {G : List α → Prop} (h0 : G []) {l : List (List α)} (h : ∀ c ∈ l, G c) (k : Nat) : G (l[k]?.getD []) := by
  by_cases hk : k < l.length
  · rw [List.getElem?_eq_getElem hk]
    exact h _ (List.getElem_mem hk)
  · rw [List.getElem?_eq_none (by omega)]
    exact h0
set_option maxHeartbeats 400000 in
theorem atS_any (v : Value) (l : List (List Int)) (i : Nat) (X : Nat → Prop) (w₀ : World) (h : Sl (encS encU) X w₀ v l) (hi : (i : Int) ≤ 9223372036854775807) :
    ∃ u, Sl encU X w₀ u (l[i]?.getD []) ∧ ∀ w, w₀.grownBy w none → Calls Tryz.prog 101 #[v, .int .i64 i] w fun e w' => e = .returned u ∧ w' = w := by
  have H := Lib.hid h
  obtain ⟨A, c, rfl, hc1, hc2⟩ := h.form
  have hi0 : (0 : Int) ≤ (i : Int) := by omega
  by_cases hl : i < l.length
  · obtain ⟨g, o, c', u, e, _, _, hcu, hsu⟩ := h.atS hl
    injection e with e1 e2 e3
    subst e1 e3
    refine ⟨u, by rw [show l[i]?.getD [] = l[i] by rw [List.getElem?_eq_getElem hl]; rfl]; exact hsu, fun w hw => ?_⟩
    have hcw : w.cell? ⟨g, o + i, none⟩ = some u := by
      obtain ⟨g', o', c'', u', e', hg', _, hcu', _⟩ := h.atS hl
      injection e' with e1 e2 e3
      injection e1 with e1
      injection e1 with e1 e4
      subst e1 e4
      rw [World.cell?_of_block (w := w₀) (hw.block _ hg' (by simp))]
      exact hcu
    obtain ⟨A1, c1, rfl, _, _⟩ := hsu.form
    have hli : (i : Int) < (l.length : Int) := by omega
    clear h e2 hsu hcu
    go_enter Tryz.func101, Tryz.ntmps101
    go_wp2
    go_ret
    exact ⟨rfl, rfl⟩
  · have hli : ¬ (i : Int) < (l.length : Int) := by omega
    have hli2 : (l.length : Int) ≤ (i : Int) := by omega
    refine ⟨.slice none 0 0, by rw [show l[i]?.getD [] = [] by rw [List.getElem?_eq_none (by omega)]; rfl]; exact Sl.nil _ _ _, fun w hw => ?_⟩
    clear h
    go_enter Tryz.func101, Tryz.ntmps101
    go_wp2
    go_ret
    exact ⟨rfl, rfl⟩
set_option maxRecDepth 100000 in
set_option maxHeartbeats 2000000 in
theorem pairsS_in (n : Nat) (hn : 1 ≤ n) (l Ba Bb : Nat) (va vb : Value) (a b : List (List Int)) (X : Nat → Prop) (w₀ : World) (G : List Int → Prop) (hG0 : G []) (hGa : ∀ c ∈ a, G c) (hGb : ∀ c ∈ b, G c) (J Jx : List (SS encU X w₀ G) → World → Prop)
    (hY : ∀ pre x W, J pre W → pre.length < (zipS a b).length → YieldAt Fence.wide (n - 1) Tryz.prog l #[x.1.1.1, x.1.2.1] W fun e W' =>
      (e = .returned (.bool true) ∧ J (pre ++ [x]) W' ∧ KpAB w₀.heap.size Ba Bb W W') ∨ (e = .returned (.bool false) ∧ Jx (pre ++ [x]) W'))
    (W : World) (hJ : AbidesFrom W.heap.size J) (hW0 : Below w₀.heap.size w₀ W) (hBa : Boxed W Ba 47 va) (hBb : Boxed W Bb 47 vb) (hA : Sl (encS encU) X w₀ va a) (hB : Sl (encS encU) X w₀ vb b) (h0 : J [] W) :
    CallsIn Fence.wide n Tryz.prog 100 #[.func (.yield l) #[] #[], .pointer (some ⟨Ba, 0, none⟩), .pointer (some ⟨Bb, 0, none⟩)] W fun e W' => (∃ v, e = .returned v) ∧
      ((∃ ys, ys.map SS.lists = zipS a b ∧ J ys W') ∨ (∃ pre, True ∧ Jx pre W')) := by
  refine callsIn_of_wp Tryz.func100 rfl trivial ?_ rfl
  simp only [Tryz.ntmps100, List.size_toArray, List.length_cons, List.length_nil, Nat.reduceAdd, Nat.reduceSub, Array.replicate_succ, Array.replicate_zero, List.push_toArray, List.append_toArray, List.nil_append, List.cons_append]
  obtain ⟨A1, c1, rfl, _, _⟩ := hA.form
  obtain ⟨A2, c2, rfl, _, _⟩ := hB.form
  have ca := hBa.cell
  have cb := hBb.cell
  have HA := Lib.hid hA
  have HB := Lib.hid hB
  have HL : Hid ((zipS a b).length = max a.length b.length) := Lib.hid (by simp [zipS])
  have HAT : Hid (∀ k (h : k < (zipS a b).length), (zipS a b)[k] = (a[k]?.getD [], b[k]?.getD [])) := Lib.hid (fun k h => by simp [zipS])
  have hba : a.length ≤ 9223372036854775807 := hA.bound
  have hbb : b.length ≤ 9223372036854775807 := hB.bound
  have HBA := Lib.hid hBa
  have HBB := Lib.hid hBb
  have HH0 := Lib.hid h0
  clear hA hB hBa hBb h0
  by_cases hle : a.length < b.length
  · have HN : Hid (b.length = (zipS a b).length) := Lib.hid (by rw [HL.out]; omega)
    gi_wp2
    gi_loopw [10] (fun s10 wr => ∃ (k : Nat) (pre : List (SS encU X w₀ G)), k ≤ b.length ∧ s10 = .int .i64 k ∧ Hid (pre.map SS.lists = (zipS a b).take k ∧ J pre wr ∧ KpAB w₀.heap.size Ba Bb W wr)) (fun s10 _ => b.length - (intOf s10).toNat)
    case atStart => exact ⟨0, [], by omega, rfl, Lib.hid ⟨rfl, HH0.out, KpAB.refl _ _ _ _⟩⟩
    case round =>
      obtain ⟨k, pre, hk, rfl, HX⟩ := hrel
      by_cases hlt : k < b.length
      · have hki : (k : Int) < (b.length : Int) := by omega
        have hkz : k < (zipS a b).length := by rw [← HN.out]; exact hlt
        have hkb : (k : Int) ≤ 9223372036854775807 := by omega
        have hpl : pre.length = k := by have := congrArg List.length HX.out.1; simpa [Nat.min_eq_left (Nat.le_of_lt hkz)] using this
        have hca : wr.cell? ⟨Ba, 0, none⟩ = some (.slice A1 a.length c1) := (World.cell?_of_block (w := W) HX.out.2.2.2.1).trans HBA.out.cell
        have hcb : wr.cell? ⟨Bb, 0, none⟩ = some (.slice A2 b.length c2) := (World.cell?_of_block (w := W) HX.out.2.2.2.2).trans HBB.out.cell
        have hJk : J pre wr.drew := hJ _ wr wr.drew none HX.out.2.1 (grownBy_drewN (World.grownBy.refl wr none) 1) (by simp)
        have HGW : Hid (w₀.grownBy wr none) := Lib.hid (grown_of_below (hW0.trans HX.out.2.2.1))
        obtain ⟨va', HUA, HC1'⟩ := atS_any _ a k X w₀ HA.out hkb
        obtain ⟨vb', HUB, HC2'⟩ := atS_any _ b k X w₀ HB.out hkb
        obtain ⟨xa, hxa⟩ : ∃ x, x = a[k]?.getD [] := ⟨_, rfl⟩
        obtain ⟨xb, hxb⟩ : ∃ x, x = b[k]?.getD [] := ⟨_, rfl⟩
        rw [← hxa] at HUA
        rw [← hxb] at HUB
        have HGA : G xa := by rw [hxa]; exact getD_G hG0 hGa k
        have HGB : G xb := by rw [hxb]; exact getD_G hG0 hGb k
        obtain ⟨fn, tmps, assign, body, hy, hR⟩ := hY _ (⟨((va', xa), (vb', xb)), ⟨HUA, HGA⟩, ⟨HUB, HGB⟩⟩ : SS encU X w₀ G) wr.drew hJk (by rw [hpl]; exact hkz)
        dsimp only at hy
        have HR := Lib.hid (hR.mono (R' := fun e W' => ∃ bb : Bool, e = .returned (.bool bb) ∧ Hid ((bb = true ∧ J (pre ++ [(⟨((va', xa), (vb', xb)), ⟨HUA, HGA⟩, ⟨HUB, HGB⟩⟩ : SS encU X w₀ G)]) W' ∧ KpAB w₀.heap.size Ba Bb wr.drew W') ∨ (bb = false ∧ Jx (pre ++ [(⟨((va', xa), (vb', xb)), ⟨HUA, HGA⟩, ⟨HUB, HGB⟩⟩ : SS encU X w₀ G)]) W'))) (fun e W' h => by
          rcases h with ⟨h1, h2, h3⟩ | ⟨h1, h2⟩
          · exact ⟨true, h1, Lib.hid (.inl ⟨rfl, h2, h3⟩)⟩
          · exact ⟨false, h1, Lib.hid (.inr ⟨rfl, h2⟩)⟩))
        have HC1 := Lib.hid HC1'
        have HC2 := Lib.hid HC2'
        have HPN : Hid ((pre ++ [(⟨((va', xa), (vb', xb)), ⟨HUA, HGA⟩, ⟨HUB, HGB⟩⟩ : SS encU X w₀ G)]).map SS.lists = (zipS a b).take (k + 1)) := Lib.hid (by
          rw [List.map_append, HX.out.1, List.take_succ_eq_append_getElem hkz, HAT.out k hkz, ← hxa, ← hxb]
          rfl)
        have HGD : Hid (w₀.grownBy wr.drew none) := Lib.hid (grownBy_drewN HGW.out 1)
        clear hR hJk ca cb hxa hxb HC1' HC2'
        gi_wp2
        gi_region_with (first
          | (refine ⟨trivial, ?_⟩; gi_at_call 101; (with_reducible refine (callsIn_wide.2 (HC1.out _ HGD.out)).mono ?_); rintro e w' ⟨rfl, rfl⟩)
          | (refine ⟨trivial, ?_⟩; gi_at_call 101; (with_reducible refine (callsIn_wide.2 (HC2.out _ HGD.out)).mono ?_); rintro e w' ⟨rfl, rfl⟩)
          | ((with_reducible refine HR.out.mono ?_); rintro e W' ⟨bb, rfl, hout⟩))
        all_goals (cases bb with
          | true =>
            gi_wp2
            rcases hout.out with ⟨_, hJ2, hK2⟩ | ⟨h, _⟩
            · exact ⟨⟨k + 1, _, by omega, by go_num, Lib.hid ⟨HPN.out, hJ2, HX.out.2.2.trans ((KpAB.drew _ _ _ wr).trans hK2)⟩⟩, by simp [intOf]; omega⟩
            · cases h
          | false =>
            gi_wp2
            rcases hout.out with ⟨h, _⟩ | ⟨_, hJx2⟩
            · cases h
            · refine bodyPost_ret (results_none rfl _ _ _) rfl ?_
              exact ⟨⟨_, rfl⟩, .inr ⟨_, hJx2⟩⟩)
      · obtain rfl : k = b.length := by omega
        gi_wp2
        go_end0
        exact ⟨⟨_, rfl⟩, .inl ⟨pre, by rw [HX.out.1, HN.out, List.take_length], HX.out.2.1⟩⟩
  · have HN : Hid (a.length = (zipS a b).length) := Lib.hid (by rw [HL.out]; omega)
    gi_wp2
    gi_loopw [10] (fun s10 wr => ∃ (k : Nat) (pre : List (SS encU X w₀ G)), k ≤ a.length ∧ s10 = .int .i64 k ∧ Hid (pre.map SS.lists = (zipS a b).take k ∧ J pre wr ∧ KpAB w₀.heap.size Ba Bb W wr)) (fun s10 _ => a.length - (intOf s10).toNat)
    case atStart => exact ⟨0, [], by omega, rfl, Lib.hid ⟨rfl, HH0.out, KpAB.refl _ _ _ _⟩⟩
    case round =>
      obtain ⟨k, pre, hk, rfl, HX⟩ := hrel
      by_cases hlt : k < a.length
      · have hki : (k : Int) < (a.length : Int) := by omega
        have hkz : k < (zipS a b).length := by rw [← HN.out]; exact hlt
        have hkb : (k : Int) ≤ 9223372036854775807 := by omega
        have hpl : pre.length = k := by have := congrArg List.length HX.out.1; simpa [Nat.min_eq_left (Nat.le_of_lt hkz)] using this
        have hca : wr.cell? ⟨Ba, 0, none⟩ = some (.slice A1 a.length c1) := (World.cell?_of_block (w := W) HX.out.2.2.2.1).trans HBA.out.cell
        have hcb : wr.cell? ⟨Bb, 0, none⟩ = some (.slice A2 b.length c2) := (World.cell?_of_block (w := W) HX.out.2.2.2.2).trans HBB.out.cell
        have hJk : J pre wr.drew := hJ _ wr wr.drew none HX.out.2.1 (grownBy_drewN (World.grownBy.refl wr none) 1) (by simp)
        have HGW : Hid (w₀.grownBy wr none) := Lib.hid (grown_of_below (hW0.trans HX.out.2.2.1))
        obtain ⟨va', HUA, HC1'⟩ := atS_any _ a k X w₀ HA.out hkb
        obtain ⟨vb', HUB, HC2'⟩ := atS_any _ b k X w₀ HB.out hkb
        obtain ⟨xa, hxa⟩ : ∃ x, x = a[k]?.getD [] := ⟨_, rfl⟩
        obtain ⟨xb, hxb⟩ : ∃ x, x = b[k]?.getD [] := ⟨_, rfl⟩
        rw [← hxa] at HUA
        rw [← hxb] at HUB
        have HGA : G xa := by rw [hxa]; exact getD_G hG0 hGa k
        have HGB : G xb := by rw [hxb]; exact getD_G hG0 hGb k
        obtain ⟨fn, tmps, assign, body, hy, hR⟩ := hY _ (⟨((va', xa), (vb', xb)), ⟨HUA, HGA⟩, ⟨HUB, HGB⟩⟩ : SS encU X w₀ G) wr.drew hJk (by rw [hpl]; exact hkz)
        dsimp only at hy
        have HR := Lib.hid (hR.mono (R' := fun e W' => ∃ bb : Bool, e = .returned (.bool bb) ∧ Hid ((bb = true ∧ J (pre ++ [(⟨((va', xa), (vb', xb)), ⟨HUA, HGA⟩, ⟨HUB, HGB⟩⟩ : SS encU X w₀ G)]) W' ∧ KpAB w₀.heap.size Ba Bb wr.drew W') ∨ (bb = false ∧ Jx (pre ++ [(⟨((va', xa), (vb', xb)), ⟨HUA, HGA⟩, ⟨HUB, HGB⟩⟩ : SS encU X w₀ G)]) W'))) (fun e W' h => by
          rcases h with ⟨h1, h2, h3⟩ | ⟨h1, h2⟩
          · exact ⟨true, h1, Lib.hid (.inl ⟨rfl, h2, h3⟩)⟩
          · exact ⟨false, h1, Lib.hid (.inr ⟨rfl, h2⟩)⟩))
        have HC1 := Lib.hid HC1'
        have HC2 := Lib.hid HC2'
        have HPN : Hid ((pre ++ [(⟨((va', xa), (vb', xb)), ⟨HUA, HGA⟩, ⟨HUB, HGB⟩⟩ : SS encU X w₀ G)]).map SS.lists = (zipS a b).take (k + 1)) := Lib.hid (by
          rw [List.map_append, HX.out.1, List.take_succ_eq_append_getElem hkz, HAT.out k hkz, ← hxa, ← hxb]
          rfl)
        have HGD : Hid (w₀.grownBy wr.drew none) := Lib.hid (grownBy_drewN HGW.out 1)
        clear hR hJk ca cb hxa hxb HC1' HC2'
        gi_wp2
        gi_region_with (first
          | (refine ⟨trivial, ?_⟩; gi_at_call 101; (with_reducible refine (callsIn_wide.2 (HC1.out _ HGD.out)).mono ?_); rintro e w' ⟨rfl, rfl⟩)
          | (refine ⟨trivial, ?_⟩; gi_at_call 101; (with_reducible refine (callsIn_wide.2 (HC2.out _ HGD.out)).mono ?_); rintro e w' ⟨rfl, rfl⟩)
          | ((with_reducible refine HR.out.mono ?_); rintro e W' ⟨bb, rfl, hout⟩))
        all_goals (cases bb with
          | true =>
            gi_wp2
            rcases hout.out with ⟨_, hJ2, hK2⟩ | ⟨h, _⟩
            · exact ⟨⟨k + 1, _, by omega, by go_num, Lib.hid ⟨HPN.out, hJ2, HX.out.2.2.trans ((KpAB.drew _ _ _ wr).trans hK2)⟩⟩, by simp [intOf]; omega⟩
            · cases h
          | false =>
            gi_wp2
            rcases hout.out with ⟨h, _⟩ | ⟨_, hJx2⟩
            · cases h
            · refine bodyPost_ret (results_none rfl _ _ _) rfl ?_
              exact ⟨⟨_, rfl⟩, .inr ⟨_, hJx2⟩⟩)
      · obtain rfl : k = a.length := by omega
        gi_wp2
        go_end0
        exact ⟨⟨_, rfl⟩, .inl ⟨pre, by rw [HX.out.1, HN.out, List.take_length], HX.out.2.1⟩⟩
set_option maxHeartbeats 400000 in
theorem atM_any (v : Value) (l : List (List (List Int))) (i : Nat) (X : Nat → Prop) (w₀ : World) (h : Sl (encS (encS encU)) X w₀ v l) (hi : (i : Int) ≤ 9223372036854775807) :
    ∃ u, Sl (encS encU) X w₀ u (l[i]?.getD []) ∧ ∀ w, w₀.grownBy w none → Calls Tryz.prog 92 #[v, .int .i64 i] w fun e w' => e = .returned u ∧ w' = w := by
  have H := Lib.hid h
  obtain ⟨A, c, rfl, hc1, hc2⟩ := h.form
  have hi0 : (0 : Int) ≤ (i : Int) := by omega
  by_cases hl : i < l.length
  · obtain ⟨g, o, c', u, e, _, _, hcu, hsu⟩ := h.atS hl
    injection e with e1 e2 e3
    subst e1 e3
    refine ⟨u, by rw [show l[i]?.getD [] = l[i] by rw [List.getElem?_eq_getElem hl]; rfl]; exact hsu, fun w hw => ?_⟩
    have hcw : w.cell? ⟨g, o + i, none⟩ = some u := by
      obtain ⟨g', o', c'', u', e', hg', _, hcu', _⟩ := h.atS hl
      injection e' with e1 e2 e3
      injection e1 with e1
      injection e1 with e1 e4
      subst e1 e4
      rw [World.cell?_of_block (w := w₀) (hw.block _ hg' (by simp))]
      exact hcu
    obtain ⟨A1, c1, rfl, _, _⟩ := hsu.form
    have hli : (i : Int) < (l.length : Int) := by omega
    clear h e2 hsu hcu
    go_enter Tryz.func92, Tryz.ntmps92
    go_wp2
    go_ret
    exact ⟨rfl, rfl⟩
  · have hli : ¬ (i : Int) < (l.length : Int) := by omega
    have hli2 : (l.length : Int) ≤ (i : Int) := by omega
    refine ⟨.slice none 0 0, by rw [show l[i]?.getD [] = [] by rw [List.getElem?_eq_none (by omega)]; rfl]; exact Sl.nil _ _ _, fun w hw => ?_⟩
    clear h
    go_enter Tryz.func92, Tryz.ntmps92
    go_wp2
    go_ret
    exact ⟨rfl, rfl⟩
set_option maxRecDepth 100000 in
set_option maxHeartbeats 2000000 in
theorem pairsM_in (n : Nat) (hn : 1 ≤ n) (l Ba Bb : Nat) (va vb : Value) (a b : List (List (List Int))) (X : Nat → Prop) (w₀ : World) (G : List (List Int) → Prop) (hG0 : G []) (hGa : ∀ c ∈ a, G c) (hGb : ∀ c ∈ b, G c) (J Jx : List (SS (encS encU) X w₀ G) → World → Prop)
    (hY : ∀ pre x W, J pre W → pre.length < (zipS a b).length → YieldAt Fence.wide (n - 1) Tryz.prog l #[x.1.1.1, x.1.2.1] W fun e W' =>
      (e = .returned (.bool true) ∧ J (pre ++ [x]) W' ∧ KpAB w₀.heap.size Ba Bb W W') ∨ (e = .returned (.bool false) ∧ Jx (pre ++ [x]) W'))
    (W : World) (hJ : AbidesFrom W.heap.size J) (hW0 : Below w₀.heap.size w₀ W) (hBa : Boxed W Ba 30 va) (hBb : Boxed W Bb 30 vb) (hA : Sl (encS (encS encU)) X w₀ va a) (hB : Sl (encS (encS encU)) X w₀ vb b) (h0 : J [] W) :
    CallsIn Fence.wide n Tryz.prog 91 #[.func (.yield l) #[] #[], .pointer (some ⟨Ba, 0, none⟩), .pointer (some ⟨Bb, 0, none⟩)] W fun e W' => (∃ v, e = .returned v) ∧
      ((∃ ys, ys.map SS.lists = zipS a b ∧ J ys W') ∨ (∃ pre, True ∧ Jx pre W')) := by
  refine callsIn_of_wp Tryz.func91 rfl trivial ?_ rfl
  simp only [Tryz.ntmps91, List.size_toArray, List.length_cons, List.length_nil, Nat.reduceAdd, Nat.reduceSub, Array.replicate_succ, Array.replicate_zero, List.push_toArray, List.append_toArray, List.nil_append, List.cons_append]
  obtain ⟨A1, c1, rfl, _, _⟩ := hA.form
  obtain ⟨A2, c2, rfl, _, _⟩ := hB.form
  have ca := hBa.cell
  have cb := hBb.cell
  have HA := Lib.hid hA
  have HB := Lib.hid hB
  have HL : Hid ((zipS a b).length = max a.length b.length) := Lib.hid (by simp [zipS])
  have HAT : Hid (∀ k (h : k < (zipS a b).length), (zipS a b)[k] = (a[k]?.getD [], b[k]?.getD [])) := Lib.hid (fun k h => by simp [zipS])
  have hba : a.length ≤ 9223372036854775807 := hA.bound
  have hbb : b.length ≤ 9223372036854775807 := hB.bound
  have HBA := Lib.hid hBa
  have HBB := Lib.hid hBb
  have HH0 := Lib.hid h0
  clear hA hB hBa hBb h0
  by_cases hle : a.length < b.length
  · have HN : Hid (b.length = (zipS a b).length) := Lib.hid (by rw [HL.out]; omega)
    gi_wp2
    gi_loopw [10] (fun s10 wr => ∃ (k : Nat) (pre : List (SS (encS encU) X w₀ G)), k ≤ b.length ∧ s10 = .int .i64 k ∧ Hid (pre.map SS.lists = (zipS a b).take k ∧ J pre wr ∧ KpAB w₀.heap.size Ba Bb W wr)) (fun s10 _ => b.length - (intOf s10).toNat)
    case atStart => exact ⟨0, [], by omega, rfl, Lib.hid ⟨rfl, HH0.out, KpAB.refl _ _ _ _⟩⟩
    case round =>
      obtain ⟨k, pre, hk, rfl, HX⟩ := hrel
      by_cases hlt : k < b.length
      · have hki : (k : Int) < (b.length : Int) := by omega
        have hkz : k < (zipS a b).length := by rw [← HN.out]; exact hlt
        have hkb : (k : Int) ≤ 9223372036854775807 := by omega
        have hpl : pre.length = k := by have := congrArg List.length HX.out.1; simpa [Nat.min_eq_left (Nat.le_of_lt hkz)] using this
        have hca : wr.cell? ⟨Ba, 0, none⟩ = some (.slice A1 a.length c1) := (World.cell?_of_block (w := W) HX.out.2.2.2.1).trans HBA.out.cell
        have hcb : wr.cell? ⟨Bb, 0, none⟩ = some (.slice A2 b.length c2) := (World.cell?_of_block (w := W) HX.out.2.2.2.2).trans HBB.out.cell
        have hJk : J pre wr.drew := hJ _ wr wr.drew none HX.out.2.1 (grownBy_drewN (World.grownBy.refl wr none) 1) (by simp)
        have HGW : Hid (w₀.grownBy wr none) := Lib.hid (grown_of_below (hW0.trans HX.out.2.2.1))
        obtain ⟨va', HUA, HC1'⟩ := atM_any _ a k X w₀ HA.out hkb
        obtain ⟨vb', HUB, HC2'⟩ := atM_any _ b k X w₀ HB.out hkb
        obtain ⟨xa, hxa⟩ : ∃ x, x = a[k]?.getD [] := ⟨_, rfl⟩
        obtain ⟨xb, hxb⟩ : ∃ x, x = b[k]?.getD [] := ⟨_, rfl⟩
        rw [← hxa] at HUA
        rw [← hxb] at HUB
        have HGA : G xa := by rw [hxa]; exact getD_G hG0 hGa k
        have HGB : G xb := by rw [hxb]; exact getD_G hG0 hGb k
        obtain ⟨fn, tmps, assign, body, hy, hR⟩ := hY _ (⟨((va', xa), (vb', xb)), ⟨HUA, HGA⟩, ⟨HUB, HGB⟩⟩ : SS (encS encU) X w₀ G) wr.drew hJk (by rw [hpl]; exact hkz)
        dsimp only at hy
        have HR := Lib.hid (hR.mono (R' := fun e W' => ∃ bb : Bool, e = .returned (.bool bb) ∧ Hid ((bb = true ∧ J (pre ++ [(⟨((va', xa), (vb', xb)), ⟨HUA, HGA⟩, ⟨HUB, HGB⟩⟩ : SS (encS encU) X w₀ G)]) W' ∧ KpAB w₀.heap.size Ba Bb wr.drew W') ∨ (bb = false ∧ Jx (pre ++ [(⟨((va', xa), (vb', xb)), ⟨HUA, HGA⟩, ⟨HUB, HGB⟩⟩ : SS (encS encU) X w₀ G)]) W'))) (fun e W' h => by
          rcases h with ⟨h1, h2, h3⟩ | ⟨h1, h2⟩
          · exact ⟨true, h1, Lib.hid (.inl ⟨rfl, h2, h3⟩)⟩
          · exact ⟨false, h1, Lib.hid (.inr ⟨rfl, h2⟩)⟩))
        have HC1 := Lib.hid HC1'
        have HC2 := Lib.hid HC2'
        have HPN : Hid ((pre ++ [(⟨((va', xa), (vb', xb)), ⟨HUA, HGA⟩, ⟨HUB, HGB⟩⟩ : SS (encS encU) X w₀ G)]).map SS.lists = (zipS a b).take (k + 1)) := Lib.hid (by
          rw [List.map_append, HX.out.1, List.take_succ_eq_append_getElem hkz, HAT.out k hkz, ← hxa, ← hxb]
          rfl)
        have HGD : Hid (w₀.grownBy wr.drew none) := Lib.hid (grownBy_drewN HGW.out 1)
        clear hR hJk ca cb hxa hxb HC1' HC2'
        gi_wp2
        gi_region_with (first
          | (refine ⟨trivial, ?_⟩; gi_at_call 92; (with_reducible refine (callsIn_wide.2 (HC1.out _ HGD.out)).mono ?_); rintro e w' ⟨rfl, rfl⟩)
          | (refine ⟨trivial, ?_⟩; gi_at_call 92; (with_reducible refine (callsIn_wide.2 (HC2.out _ HGD.out)).mono ?_); rintro e w' ⟨rfl, rfl⟩)
          | ((with_reducible refine HR.out.mono ?_); rintro e W' ⟨bb, rfl, hout⟩))
        all_goals (cases bb with
          | true =>
            gi_wp2
            rcases hout.out with ⟨_, hJ2, hK2⟩ | ⟨h, _⟩
            · exact ⟨⟨k + 1, _, by omega, by go_num, Lib.hid ⟨HPN.out, hJ2, HX.out.2.2.trans ((KpAB.drew _ _ _ wr).trans hK2)⟩⟩, by simp [intOf]; omega⟩
            · cases h
          | false =>
            gi_wp2
            rcases hout.out with ⟨h, _⟩ | ⟨_, hJx2⟩
            · cases h
            · refine bodyPost_ret (results_none rfl _ _ _) rfl ?_
              exact ⟨⟨_, rfl⟩, .inr ⟨_, hJx2⟩⟩)
      · obtain rfl : k = b.length := by omega
        gi_wp2
        go_end0
        exact ⟨⟨_, rfl⟩, .inl ⟨pre, by rw [HX.out.1, HN.out, List.take_length], HX.out.2.1⟩⟩
  · have HN : Hid (a.length = (zipS a b).length) := Lib.hid (by rw [HL.out]; omega)
    gi_wp2
    gi_loopw [10] (fun s10 wr => ∃ (k : Nat) (pre : List (SS (encS encU) X w₀ G)), k ≤ a.length ∧ s10 = .int .i64 k ∧ Hid (pre.map SS.lists = (zipS a b).take k ∧ J pre wr ∧ KpAB w₀.heap.size Ba Bb W wr)) (fun s10 _ => a.length - (intOf s10).toNat)
    case atStart => exact ⟨0, [], by omega, rfl, Lib.hid ⟨rfl, HH0.out, KpAB.refl _ _ _ _⟩⟩
    case round =>
      obtain ⟨k, pre, hk, rfl, HX⟩ := hrel
      by_cases hlt : k < a.length
      · have hki : (k : Int) < (a.length : Int) := by omega
        have hkz : k < (zipS a b).length := by rw [← HN.out]; exact hlt
        have hkb : (k : Int) ≤ 9223372036854775807 := by omega
        have hpl : pre.length = k := by have := congrArg List.length HX.out.1; simpa [Nat.min_eq_left (Nat.le_of_lt hkz)] using this
        have hca : wr.cell? ⟨Ba, 0, none⟩ = some (.slice A1 a.length c1) := (World.cell?_of_block (w := W) HX.out.2.2.2.1).trans HBA.out.cell
        have hcb : wr.cell? ⟨Bb, 0, none⟩ = some (.slice A2 b.length c2) := (World.cell?_of_block (w := W) HX.out.2.2.2.2).trans HBB.out.cell
        have hJk : J pre wr.drew := hJ _ wr wr.drew none HX.out.2.1 (grownBy_drewN (World.grownBy.refl wr none) 1) (by simp)
        have HGW : Hid (w₀.grownBy wr none) := Lib.hid (grown_of_below (hW0.trans HX.out.2.2.1))
        obtain ⟨va', HUA, HC1'⟩ := atM_any _ a k X w₀ HA.out hkb
        obtain ⟨vb', HUB, HC2'⟩ := atM_any _ b k X w₀ HB.out hkb
        obtain ⟨xa, hxa⟩ : ∃ x, x = a[k]?.getD [] := ⟨_, rfl⟩
        obtain ⟨xb, hxb⟩ : ∃ x, x = b[k]?.getD [] := ⟨_, rfl⟩
        rw [← hxa] at HUA
        rw [← hxb] at HUB
        have HGA : G xa := by rw [hxa]; exact getD_G hG0 hGa k
        have HGB : G xb := by rw [hxb]; exact getD_G hG0 hGb k
        obtain ⟨fn, tmps, assign, body, hy, hR⟩ := hY _ (⟨((va', xa), (vb', xb)), ⟨HUA, HGA⟩, ⟨HUB, HGB⟩⟩ : SS (encS encU) X w₀ G) wr.drew hJk (by rw [hpl]; exact hkz)
        dsimp only at hy
        have HR := Lib.hid (hR.mono (R' := fun e W' => ∃ bb : Bool, e = .returned (.bool bb) ∧ Hid ((bb = true ∧ J (pre ++ [(⟨((va', xa), (vb', xb)), ⟨HUA, HGA⟩, ⟨HUB, HGB⟩⟩ : SS (encS encU) X w₀ G)]) W' ∧ KpAB w₀.heap.size Ba Bb wr.drew W') ∨ (bb = false ∧ Jx (pre ++ [(⟨((va', xa), (vb', xb)), ⟨HUA, HGA⟩, ⟨HUB, HGB⟩⟩ : SS (encS encU) X w₀ G)]) W'))) (fun e W' h => by
          rcases h with ⟨h1, h2, h3⟩ | ⟨h1, h2⟩
          · exact ⟨true, h1, Lib.hid (.inl ⟨rfl, h2, h3⟩)⟩
          · exact ⟨false, h1, Lib.hid (.inr ⟨rfl, h2⟩)⟩))
        have HC1 := Lib.hid HC1'
        have HC2 := Lib.hid HC2'
        have HPN : Hid ((pre ++ [(⟨((va', xa), (vb', xb)), ⟨HUA, HGA⟩, ⟨HUB, HGB⟩⟩ : SS (encS encU) X w₀ G)]).map SS.lists = (zipS a b).take (k + 1)) := Lib.hid (by
          rw [List.map_append, HX.out.1, List.take_succ_eq_append_getElem hkz, HAT.out k hkz, ← hxa, ← hxb]
          rfl)
        have HGD : Hid (w₀.grownBy wr.drew none) := Lib.hid (grownBy_drewN HGW.out 1)
        clear hR hJk ca cb hxa hxb HC1' HC2'
        gi_wp2
        gi_region_with (first
          | (refine ⟨trivial, ?_⟩; gi_at_call 92; (with_reducible refine (callsIn_wide.2 (HC1.out _ HGD.out)).mono ?_); rintro e w' ⟨rfl, rfl⟩)
          | (refine ⟨trivial, ?_⟩; gi_at_call 92; (with_reducible refine (callsIn_wide.2 (HC2.out _ HGD.out)).mono ?_); rintro e w' ⟨rfl, rfl⟩)
          | ((with_reducible refine HR.out.mono ?_); rintro e W' ⟨bb, rfl, hout⟩))
        all_goals (cases bb with
          | true =>
            gi_wp2
            rcases hout.out with ⟨_, hJ2, hK2⟩ | ⟨h, _⟩
            · exact ⟨⟨k + 1, _, by omega, by go_num, Lib.hid ⟨HPN.out, hJ2, HX.out.2.2.trans ((KpAB.drew _ _ _ wr).trans hK2)⟩⟩, by simp [intOf]; omega⟩
            · cases h
          | false =>
            gi_wp2
            rcases hout.out with ⟨h, _⟩ | ⟨_, hJx2⟩
            · cases h
            · refine bodyPost_ret (results_none rfl _ _ _) rfl ?_
              exact ⟨⟨_, rfl⟩, .inr ⟨_, hJx2⟩⟩)
      · obtain rfl : k = a.length := by omega
        gi_wp2
        go_end0
        exact ⟨⟨_, rfl⟩, .inl ⟨pre, by rw [HX.out.1, HN.out, List.take_length], HX.out.2.1⟩⟩
end Go.Proofs.YthicondcjeipfaaGreatDoor

namespace Go.Proofs.YthicondcjeipfaaGreatDoor
open Go.RowKit

def mayB (m : Int) : Bool := decide (0 < m) && decide (m ≤ 2305843009213693952)
def addI (a b m : Int) : Int := if mayB m then (a % m + b % m) % m else 0
theorem may_yes (m : Int) (w : World) (h : mayB m = true) :
    Calls Tryz.prog 97 #[.int .u64 m] w fun e w' => e = .returned (.bool true) ∧ w = w' := by
  simp [mayB] at h
  obtain ⟨h1, h2⟩ := h
  go_enter Tryz.func97, Tryz.ntmps97
  go_wp2
  go_ret
  exact ⟨rfl, rfl⟩
theorem may_no (m : Int) (w : World) (h : mayB m = false) :
    Calls Tryz.prog 97 #[.int .u64 m] w fun e w' => e = .returned (.bool false) ∧ w = w' := by
  simp [mayB] at h
  by_cases h0 : 0 < m
  · have h1 := h h0
    have h2 : decide (m ≤ 2305843009213693952) = false := by simp; omega
    go_enter Tryz.func97, Tryz.ntmps97
    go_wp2
    go_ret
    exact ⟨by simp, rfl⟩
  · clear h
    go_enter Tryz.func97, Tryz.ntmps97
    go_wp2
    go_ret
    exact ⟨rfl, rfl⟩

set_option maxHeartbeats 400000 in
theorem add_any (a b m : Int) (w : World) (ha : U64 a) (hb : U64 b) :
    Calls Tryz.prog 78 #[.int .u64 a, .int .u64 b, .int .u64 m] w fun e w' => e = .returned (.int .u64 (addI a b m)) ∧ ∃ n, w' = w.drewN n := by
  unfold U64 at ha hb
  obtain ⟨ha0, ha1⟩ := ha
  obtain ⟨hb0, hb1⟩ := hb
  cases hm : mayB m with
  | false =>
    have H := Lib.hid hm
    have hr : addI a b m = 0 := by simp [addI, hm]
    rw [hr]
    clear hm hr
    go_enter Tryz.func78, Tryz.ntmps78
    go_wp2_with (go_at_call 97; refine (may_no _ _ H.out).mono ?_; rintro e w' ⟨rfl, rfl⟩)
    go_ret
    exact ⟨rfl, 0, rfl⟩
  | true =>
    have H := Lib.hid hm
    have hr : addI a b m = (a % m + b % m) % m := by simp [addI, hm]
    rw [hr]
    simp [mayB] at hm
    obtain ⟨hm0, hm1⟩ := hm
    have e1 := Int.emod_nonneg a (show m ≠ 0 by omega)
    have e2 := Int.emod_lt_of_pos a hm0
    have e3 := Int.emod_nonneg b (show m ≠ 0 by omega)
    have e4 := Int.emod_lt_of_pos b hm0
    clear hr
    go_enter Tryz.func78, Tryz.ntmps78
    go_wp2_with (go_at_call 97; refine (may_yes _ _ H.out).mono ?_; rintro e w' ⟨rfl, rfl⟩)
    go_quiet (fail)
    go_wp2
    go_ret
    exact ⟨rfl, _, rfl⟩

set_option maxHeartbeats 1000000 in
theorem mul64_nat (x y : Nat) (hx : x < 18446744073709551616) (hy : y < 18446744073709551616) (w : World) :
    Calls Tryz.prog 98 #[.int .u64 x, .int .u64 y] w fun e w' => e = .returned (.tuple #[.int .u64 ((x * y / 18446744073709551616 : Nat) : Int), .int .u64 ((x * y % 18446744073709551616 : Nat) : Int)]) ∧ w = w' := by
  obtain ⟨bd, bt, bw, hhi⟩ := Lib.mul64_hi x y hx hy
  have ba := Lib.half_mul_le (a := x / 4294967296) (b := y / 4294967296) (by omega) (by omega)
  have bb := Lib.half_mul_le (a := x / 4294967296) (b := y % 4294967296) (by omega) (by omega)
  have bc := Lib.half_mul_le (a := x % 4294967296) (b := y / 4294967296) (by omega) (by omega)
  have ba' : x / 4294967296 * (y / 4294967296) < 18446744073709551616 := by omega
  have bb' : x / 4294967296 * (y % 4294967296) < 18446744073709551616 := by omega
  have bc' : x % 4294967296 * (y / 4294967296) < 18446744073709551616 := by omega
  have bh1 : x / 4294967296 * (y / 4294967296) + (x / 4294967296 * (y % 4294967296) + x % 4294967296 * (y % 4294967296) / 4294967296) / 4294967296 < 18446744073709551616 := by omega
  have bh : x / 4294967296 * (y / 4294967296) + (x / 4294967296 * (y % 4294967296) + x % 4294967296 * (y % 4294967296) / 4294967296) / 4294967296 + ((x / 4294967296 * (y % 4294967296) + x % 4294967296 * (y % 4294967296) / 4294967296) % 4294967296 + x % 4294967296 * (y / 4294967296)) / 4294967296 < 18446744073709551616 := by omega
  go_enter Tryz.func98, Tryz.ntmps98
  go_wp2
  simp only [Mul64.maskN x hx, Mul64.maskN y hy, Mul64.divN, Mul64.mulN, Mul64.addN, Mul64.wrapN _ bd, Mul64.wrapN _ bb', Mul64.wrapN _ bt, Mul64.maskN _ bt, Mul64.wrapN _ bc', Mul64.wrapN _ bw, Mul64.wrapN _ ba', Mul64.wrapN _ bh1, Mul64.wrapN _ bh, Mul64.wrapM (x * y)]
  rw [hhi]
  go_ret2
  exact ⟨rfl, rfl⟩

end Go.Proofs.YthicondcjeipfaaGreatDoor

namespace Go.Proofs.YthicondcjeipfaaGreatDoor
open Go.RowKit

set_option maxHeartbeats 400000 in
theorem rem64_any (hi lo y : Int) (w : World) (h0 : 0 ≤ hi) (hl0 : 0 ≤ lo) (hl : lo < 18446744073709551616) (hy : y < 18446744073709551616) (h1 : hi < y) :
    Calls Tryz.prog 99 #[.int .u64 hi, .int .u64 lo, .int .u64 y] w fun e w' => e = .returned (.int .u64 (rem128 hi lo y)) ∧ ∃ n, w' = w.drewN n := by
  have e1 : hi % y = hi := Int.emod_eq_of_lt h0 h1
  go_enter Tryz.func99, Tryz.ntmps99
  go_wp2_with (go_at_call 90; refine (div64_int _ _ _ _ h0 hl0 hl hy h1).mono ?_; rintro e w' ⟨rfl, n, rfl⟩)
  go_ret
  exact ⟨rfl, _, rfl⟩

def mulI (a b m : Int) : Int := if mayB m then (a % m * (b % m)) % m else 0
def hi64 (x y : Int) : Int := x * y / 18446744073709551616
def lo64 (x y : Int) : Int := x * y % 18446744073709551616
theorem mul64_int (x y : Int) (w : World) (hx0 : 0 ≤ x) (hx : x < 18446744073709551616) (hy0 : 0 ≤ y) (hy : y < 18446744073709551616) :
    Calls Tryz.prog 98 #[.int .u64 x, .int .u64 y] w fun e w' => e = .returned (.tuple #[.int .u64 (hi64 x y), .int .u64 (lo64 x y)]) ∧ w' = w := by
  obtain ⟨a, rfl⟩ := Int.eq_ofNat_of_zero_le hx0
  obtain ⟨b, rfl⟩ := Int.eq_ofNat_of_zero_le hy0
  refine (mul64_nat a b (by omega) (by omega) w).mono ?_
  rintro e w' ⟨rfl, hn⟩
  refine ⟨?_, hn.symm⟩
  unfold hi64 lo64
  rw [Int.natCast_ediv, Int.natCast_emod, Int.natCast_mul]
  rfl
theorem lo64_bd (x y : Int) : 0 ≤ lo64 x y ∧ lo64 x y < 18446744073709551616 := emod_bd _ _ (by decide)
theorem hi64_bd (x y m : Int) (hx0 : 0 ≤ x) (hx : x < m) (hy0 : 0 ≤ y) (hy : y < m) (hm : m ≤ 18446744073709551616) : 0 ≤ hi64 x y ∧ hi64 x y < m := by
  unfold hi64
  have h0 := Int.mul_nonneg hx0 hy0
  have h1 : x * y < m * 18446744073709551616 := Int.lt_of_le_of_lt (Int.mul_le_mul_of_nonneg_left (show y ≤ 18446744073709551616 by omega) hx0) (by omega)
  exact ⟨by omega, by omega⟩
theorem hilo (x y : Int) : hi64 x y * 18446744073709551616 + lo64 x y = x * y := by unfold hi64 lo64; omega
theorem rem_hilo (x y m : Int) : rem128 (hi64 x y) (lo64 x y) m = x * y % m := by unfold rem128; rw [hilo]

set_option maxHeartbeats 400000 in
theorem mul_any (a b m : Int) (w : World) (ha : U64 a) (hb : U64 b) :
    Calls Tryz.prog 79 #[.int .u64 a, .int .u64 b, .int .u64 m] w fun e w' => e = .returned (.int .u64 (mulI a b m)) ∧ ∃ n, w' = w.drewN n := by
  unfold U64 at ha hb
  obtain ⟨ha0, ha1⟩ := ha
  obtain ⟨hb0, hb1⟩ := hb
  cases hm : mayB m with
  | false =>
    have H := Lib.hid hm
    have hr : mulI a b m = 0 := by simp [mulI, hm]
    rw [hr]
    clear hm hr
    go_enter Tryz.func79, Tryz.ntmps79
    go_wp2_with (go_at_call 97; refine (may_no _ _ H.out).mono ?_; rintro e w' ⟨rfl, rfl⟩)
    go_ret
    exact ⟨rfl, 0, rfl⟩
  | true =>
    have H := Lib.hid hm
    have hr : mulI a b m = a % m * (b % m) % m := by simp [mulI, hm]
    rw [hr]
    simp [mayB] at hm
    obtain ⟨hm0, hm1⟩ := hm
    obtain ⟨e1, e2⟩ := emod_bd a m hm0
    obtain ⟨e3, e4⟩ := emod_bd b m hm0
    have HR := Lib.hid (rem_hilo (a % m) (b % m) m)
    obtain ⟨l0, l1⟩ := lo64_bd (a % m) (b % m)
    obtain ⟨h0, h1⟩ := hi64_bd (a % m) (b % m) m e1 e2 e3 e4 (by omega)
    clear hr
    go_enter Tryz.func79, Tryz.ntmps79
    go_wp2_with (go_at_call 97; refine (may_yes _ _ H.out).mono ?_; rintro e w' ⟨rfl, rfl⟩)
    go_quiet ((go_at_call 98; exact Calls.quiet_of_same (mul64_int _ _ _ e1 (by omega) e3 (by omega))))
    go_wp2_with (go_at_call 99; refine (rem64_any _ _ _ _ h0 l0 l1 (by omega) h1).mono ?_; rintro e w' ⟨rfl, n, rfl⟩)
    go_ret
    refine ⟨?_, _, rfl⟩
    exact congrArg Ending.returned (congrArg (Value.int .u64) HR.out)

def powI (a e m : Int) : Int := if mayB m then a ^ e.toNat % m else 0

theorem mulI_yes (a b m : Int) (hm : mayB m = true) : mulI a b m = a * b % m := by
  simp [mulI, hm, Int.mul_emod]
theorem mulI_bd (a b m : Int) (hm : mayB m = true) : 0 ≤ mulI a b m ∧ mulI a b m < m := by
  rw [mulI_yes a b m hm]
  simp [mayB] at hm
  exact emod_bd _ _ hm.1
theorem mulI_U64 (a b m : Int) : U64 (mulI a b m) := by
  cases hm : mayB m with
  | false => simp [mulI, hm, U64]
  | true =>
    have := mulI_bd a b m hm
    simp [mayB] at hm
    unfold U64
    omega

/-- What the loop of Pow keeps: out times a to e is what is asked for. -/
def PowRel (a0 e0 m o x k : Int) : Prop := Cg m (o * x ^ k.toNat) (a0 ^ e0.toNat)
theorem PowRel.start (a e m : Int) : PowRel a e m (1 % m) a e := ((Cg.mod m 1).mul_right _).trans (Cg.of_eq (Int.one_mul _))
theorem mulI_cg (a b m : Int) (hm : mayB m = true) : Cg m (mulI a b m) (a * b) := by
  rw [mulI_yes a b m hm]
  exact Cg.mod _ _
theorem PowRel.even {a e m o x k : Int} (hm : mayB m = true) (h : PowRel a e m o x k) (hk : 0 ≤ k) (h2 : k % 2 = 0) : PowRel a e m o (mulI x x m) (k / 2) := by
  refine Cg.trans ?_ h
  rw [toNat_even k hk h2, ← pow_sq]
  exact ((mulI_cg x x m hm).pow _).mul_left _
theorem PowRel.odd {a e m o x k : Int} (hm : mayB m = true) (h : PowRel a e m o x k) (hk : 0 ≤ k) (h2 : k % 2 = 1) : PowRel a e m (mulI o x m) (mulI x x m) (k / 2) := by
  refine Cg.trans ?_ h
  rw [toNat_odd k hk h2, Int.pow_succ, ← pow_sq]
  refine ((mulI_cg o x m hm).mul ((mulI_cg x x m hm).pow _)).trans (Cg.of_eq ?_)
  rw [Int.mul_assoc, Int.mul_comm x]
theorem PowRel.done {a e m o x k : Int} (h : PowRel a e m o x k) (hk : k = 0) (h0 : 0 ≤ o) (h1 : o < m) : o = a ^ e.toNat % m := by
  subst hk
  unfold PowRel Cg at h
  rw [← h]
  simp [Int.emod_eq_of_lt h0 h1]

set_option maxHeartbeats 400000 in
theorem pow_any (a e m : Int) (w : World) (ha : U64 a) (he : U64 e) :
    Calls Tryz.prog 87 #[.int .u64 a, .int .u64 e, .int .u64 m] w fun e' w' => e' = .returned (.int .u64 (powI a e m)) ∧ ∃ n, w' = w.drewN n := by
  cases hm : mayB m with
  | false =>
    have H := Lib.hid hm
    have hr : powI a e m = 0 := by simp [powI, hm]
    rw [hr]
    clear hm hr
    go_enter Tryz.func87, Tryz.ntmps87
    go_wp2_with (go_at_call 97; refine (may_no _ _ H.out).mono ?_; rintro e w' ⟨rfl, rfl⟩)
    go_ret
    exact ⟨rfl, 0, rfl⟩
  | true =>
    have H := Lib.hid hm
    have hr : powI a e m = a ^ e.toNat % m := by simp [powI, hm]
    rw [hr]
    simp [mayB] at hm
    obtain ⟨hm0, hm1⟩ := hm
    obtain ⟨e1, e2⟩ := emod_bd 1 m hm0
    have HP := Lib.hid (PowRel.start a e m)
    clear hr
    have HA := Lib.hid ha
    obtain ⟨he0, he1⟩ := he
    clear ha
    go_enter Tryz.func87, Tryz.ntmps87
    go_wp2_with (go_at_call 97; refine (may_yes _ _ H.out).mono ?_; rintro e w' ⟨rfl, rfl⟩)
    go_loopw [0, 1, 7] (fun sa se so wr => ∃ o x k : Int, so = .int .u64 o ∧ sa = .int .u64 x ∧ se = .int .u64 k ∧ Hid (U64 x) ∧ 0 ≤ o ∧ o < m ∧ 0 ≤ k ∧ k < 18446744073709551616 ∧ Hid (PowRel a e m o x k) ∧ ∃ n, wr = w.drewN n) (fun _ se _ _ => (intOf se).toNat)
    case atStart => exact ⟨_, _, _, rfl, rfl, rfl, HA, e1, e2, he0, he1, HP, 0, rfl⟩
    case round =>
      obtain ⟨o, x, k, rfl, rfl, rfl, hx, ho0, ho1, hk0, hk1, hp, n, rfl⟩ := hrel
      have hb : bits BinOp.and IntKind.u64 k 1 = k % 2 := and_one_u64 k hk0 (by omega)
      by_cases h0 : 0 < k
      · by_cases h2 : k % 2 = 1
        · have h2' : (bits BinOp.and IntKind.u64 k 1 == 1) = true := by rw [hb, h2]; rfl
          have HP2 := Lib.hid (hp.out.odd H.out hk0 h2)
          have hbd := mulI_bd o x m H.out
          obtain ⟨b0, b1⟩ := hbd
          have HO : Hid (U64 o) := Lib.hid ⟨ho0, by omega⟩
          have HX := Lib.hid (mulI_U64 x x m)
          clear hb h2
          go_wp2_with fail
          refine (mul_any o x m _ HO.out hx.out).mono ?_
          rintro e w' ⟨rfl, n1, rfl⟩
          go_wp2_with fail
          refine (mul_any x x m _ hx.out hx.out).mono ?_
          rintro e w' ⟨rfl, n2, rfl⟩
          go_wp2
          go_roundw
          case rel => exact ⟨_, _, _, rfl, rfl, rfl, HX, b0, b1, by omega, by omega, HP2, _, rfl⟩
          case measure => simp [intOf]; omega
        · have h2' : (bits BinOp.and IntKind.u64 k 1 == 1) = false := by rw [hb]; simpa using h2
          have HP2 := Lib.hid (hp.out.even H.out hk0 (by omega))
          have HX := Lib.hid (mulI_U64 x x m)
          clear hb h2
          go_wp2_with fail
          refine (mul_any x x m _ hx.out hx.out).mono ?_
          rintro e w' ⟨rfl, n2, rfl⟩
          go_wp2
          go_roundw
          case rel => exact ⟨_, _, _, rfl, rfl, rfl, HX, ho0, ho1, by omega, by omega, HP2, _, rfl⟩
          case measure => simp [intOf]; omega
      · have HD := Lib.hid (hp.out.done (by omega) ho0 ho1)
        go_wp2
        go_ret
        exact ⟨congrArg Ending.returned (congrArg (Value.int .u64) HD.out), _, rfl⟩
end Go.Proofs.YthicondcjeipfaaGreatDoor

namespace Go.Proofs.YthicondcjeipfaaGreatDoor
open Go.RowKit

instance (a : Int) : Decidable (U64 a) := by unfold U64; infer_instance
theorem ret_u64 {a b : Int} (h : a = b) : Ending.returned (.int .u64 a) = .returned (.int .u64 b) := by rw [h]
theorem ret_bool {a b : Bool} (h : a = b) : Ending.returned (.bool a) = .returned (.bool b) := by rw [h]
theorem grown_drewN' (w : World) (n : Nat) : w.grownBy (w.drewN n) none := grownBy_drewN (World.grownBy.refl w none) n
/-- What all nodes know. -/
structure Par where
  P : Int
  Q : Int
  G : Int
  H : Int
  Nodes : Int
  N : Int
  T : Int
  K : Int
  D : Int
  R : Int
  M : Int
  X : Int
structure Par.ok (p : Par) : Prop where
  P : U64 p.P
  Q : U64 p.Q
  G : U64 p.G
  H : U64 p.H
  Nodes : I64 p.Nodes
  N : I64 p.N
  T : I64 p.T
  K : I64 p.K
  D : I64 p.D
  R : I64 p.R
  M : I64 p.M
  X : I64 p.X
abbrev Par.cells (p : Par) : Array Value := #[.int .u64 p.P, .int .u64 p.Q, .int .u64 p.G, .int .u64 p.H, .int .i64 p.Nodes, .int .i64 p.N, .int .i64 p.T, .int .i64 p.K, .int .i64 p.D, .int .i64 p.R, .int .i64 p.M, .int .i64 p.X]
abbrev Par.v (p : Par) : Value := .agg p.cells
theorem Bk.prule {w : World} {g : Nat} {t : TypeId} {p : Par} (h : Bk w g t p.cells) : ∀ o, w.cell? ⟨g, o, none⟩ = (#[.int .u64 p.P, .int .u64 p.Q, .int .u64 p.G, .int .u64 p.H, .int .i64 p.Nodes, .int .i64 p.N, .int .i64 p.T, .int .i64 p.K, .int .i64 p.D, .int .i64 p.R, .int .i64 p.M, .int .i64 p.X] : Array Value)[o]? := fun o => h.cell o
theorem rule_alloc {w : World} {g : Nat} {cs : Array Value} (h : ∀ o, w.cell? ⟨g, o, none⟩ = cs[o]?) (hg : g < w.heap.size) (ob : Obj) : ∀ o, (w.alloc ob).cell? ⟨g, o, none⟩ = cs[o]? := fun o => (World.cell?_alloc_lt w ob ⟨g, o, none⟩ hg).trans (h o)
theorem hidTrans {w a b : World} (hg : a.grownBy b none) (h : Hid (w.grownBy a none)) : Hid (w.grownBy b none) := h.out.trans hg
theorem bkGrown {a b : World} {g : Nat} {t : TypeId} {cs : Array Value} (hg : a.grownBy b none) (h : Hid (Bk a g t cs)) : Hid (Bk b g t cs) := h.out.grown hg (by simp)
def timesI (P : Int) (l : List Int) : Int := l.foldl (fun x y => mulI x y P) (mulI 1 1 P)
theorem timesI_snoc (P : Int) (l : List Int) (k : Nat) (h : k < l.length) : timesI P (l.take (k + 1)) = mulI (timesI P (l.take k)) l[k] P := by
  unfold timesI
  rw [List.take_succ_eq_append_getElem h, List.foldl_append]
  rfl

theorem timesI_U64 (P : Int) (l : List Int) : U64 (timesI P l) := by
  unfold timesI
  rcases List.eq_nil_or_concat l with rfl | ⟨l', x, rfl⟩
  · exact mulI_U64 _ _ _
  · rw [List.concat_eq_append, List.foldl_append]
    exact mulI_U64 _ _ _

set_option maxHeartbeats 400000 in
theorem times_any (p : Par) (v : Value) (l : List Int) (X : Nat → Prop) (w : World) (h : Sl encU X w v l) :
    Calls Tryz.prog 95 #[p.v, v] w fun e w' => e = .returned (.int .u64 (timesI p.P l)) ∧ w.grownBy w' none := by
  have H := Lib.hid h
  obtain ⟨A, c, rfl, h1, h2⟩ := h.form
  clear h
  go_enter Tryz.func95, Tryz.ntmps95
  go_wp2_with fail
  refine (mul_any 1 1 p.P _ (by decide) (by decide)).mono ?_
  rintro e w' ⟨rfl, n, rfl⟩
  go_wp2_with fail
  have HB : Hid (w.grownBy ((w.alloc (Obj.cells p.cells 24)).drewN n) none ∧ Bk ((w.alloc (Obj.cells p.cells 24)).drewN n) w.heap.size 24 p.cells) := Lib.hid ⟨grownBy_drewN (World.grownBy_alloc w _ none) n, (Bk.new w _ _).drewN n⟩
  go_loopg [5, 13] l.length (fun g s5 s13 wx => ∃ j : Nat, j + g = l.length ∧ s13 = .int .i64 j ∧ s5 = .int .u64 (timesI p.P (l.take j)) ∧ Hid (w.grownBy wx none ∧ Bk wx w.heap.size 24 p.cells))
  case atStart => exact ⟨0, by omega, rfl, rfl, HB⟩
  case round =>
    obtain ⟨j, hj, rfl, rfl, HX⟩ := hrel
    cases gk with
    | zero =>
      obtain rfl : j = l.length := by omega
      have HE : Hid (timesI p.P (l.take l.length) = timesI p.P l) := Lib.hid (by rw [List.take_length])
      go_wp2
      go_ret
      exact ⟨ret_u64 HE.out, HX.out.1⟩
    | succ k =>
      have hjn : (j : Int) < (l.length : Int) := by omega
      have hjN : j < l.length := by omega
      obtain ⟨g, o, c', e, _, _, hc, hu⟩ := (H.out.kept HX.out.1).atU hjN
      injection e with e1 e2 e3
      subst e1 e3
      have cP : wr.cell? ⟨w.heap.size, 0, none⟩ = some (.int .u64 p.P) := HX.out.2.cell 0
      have HS := Lib.hid (timesI_snoc p.P l j hjN)
      have HM := Lib.hid (timesI_U64 p.P (l.take j))
      have HU := Lib.hid hu
      generalize l[j] = y at *
      generalize timesI p.P (l.take j) = t at *
      clear hu e2
      go_wp2_with fail
      refine (mul_any t y p.P _ HM.out HU.out).mono ?_
      rintro e w' ⟨rfl, n, rfl⟩
      go_wp2
      go_roundg k
      case measure => omega
      case rel => exact ⟨j + 1, by omega, by go_num, by rw [HS.out], Lib.hid ⟨grownBy_drewN HX.out.1 n, HX.out.2.drewN n⟩⟩
end Go.Proofs.YthicondcjeipfaaGreatDoor

namespace Go.Proofs.YthicondcjeipfaaGreatDoor
def HasInv (a m : Int) : Prop := ∃ x, 0 ≤ x ∧ x < m ∧ Cg m (a * x) 1
/-- What the loop of Inv keeps. -/
structure InvRel (a m r s x y : Int) : Prop where
  fst : Cg m (a * x) r
  snd : Cg m (a * y) s
  dvd : ∀ d : Int, (d ∣ r ∧ d ∣ s) → (d ∣ a ∧ d ∣ m)

theorem dvd_of_mod {d a m : Int} (h : d ∣ a % m) (k : d ∣ m) : d ∣ a := by
  rw [← Int.mul_ediv_add_emod a m]
  exact Int.dvd_add (Int.dvd_trans k (Int.dvd_mul_right _ _)) h

theorem InvRel.start (a m : Int) : InvRel a m m (a % m) 0 (1 % m) := by
  refine ⟨?_, ?_, fun d h => ⟨dvd_of_mod h.2 h.1, h.1⟩⟩
  · rw [Int.mul_zero]
    exact (Cg.of_dvd (by rw [Int.sub_zero]; exact Int.dvd_refl m)).symm
  · exact (((Cg.mod m 1).mul_left a).trans (Cg.of_eq (Int.mul_one a))).trans (Cg.mod m a).symm

theorem InvRel.next {a m r s x y z : Int} (h : InvRel a m r s x y) (hz : Cg m z (x - r / s * y)) : InvRel a m s (r % s) y z := by
  refine ⟨h.snd, ?_, fun d k => h.dvd d ⟨dvd_of_mod k.2 k.1, k.1⟩⟩
  have e := Int.mul_ediv_add_emod r s
  have e1 : r % s = r - r / s * s := by rw [Int.mul_comm (r / s)]; omega
  rw [e1]
  refine (hz.mul_left a).trans ?_
  rw [Int.mul_sub]
  refine h.fst.sub ?_
  rw [← Int.mul_assoc, Int.mul_comm a, Int.mul_assoc]
  exact h.snd.mul_left _

theorem InvRel.no {a m r x y : Int} (h : InvRel a m r 0 x y) (h0 : 0 < r) (h1 : r ≠ 1) : ¬ HasInv a m := by
  rintro ⟨z, _, _, hz⟩
  obtain ⟨d1, d2⟩ := h.dvd r ⟨Int.dvd_refl r, Int.dvd_zero r⟩
  have k := Int.dvd_trans d2 hz.dvd
  have k1 : r ∣ a * z := Int.dvd_trans d1 (Int.dvd_mul_right a z)
  have k2 : r ∣ 1 := by
    have := Int.dvd_sub k1 k
    rwa [show a * z - (a * z - 1) = 1 by omega] at this
  have := Int.le_of_dvd (by decide) k2
  omega
end Go.Proofs.YthicondcjeipfaaGreatDoor

namespace Go.Proofs.YthicondcjeipfaaGreatDoor
open Go.RowKit
theorem addI_yes (a b m : Int) (hm : mayB m = true) : addI a b m = (a + b) % m := by
  simp only [addI, hm, if_true]
  exact (Cg.mod m a).add (Cg.mod m b)
theorem addI_bd (a b m : Int) (hm : mayB m = true) : 0 ≤ addI a b m ∧ addI a b m < m := by
  rw [addI_yes a b m hm]
  simp [mayB] at hm
  exact emod_bd _ _ hm.1
theorem addI_U64 (a b m : Int) : U64 (addI a b m) := by
  cases hm : mayB m with
  | false => simp [addI, hm, U64]
  | true =>
    have := addI_bd a b m hm
    simp [mayB] at hm
    unfold U64
    omega
end Go.Proofs.YthicondcjeipfaaGreatDoor

namespace Go.Proofs.YthicondcjeipfaaGreatDoor
open Go.RowKit

/-- What the loop of the reference's Mul keeps. -/
def RMul (m a0 b0 o a b : Int) : Prop := Cg m (o + a * b) (a0 * b0)
theorem RMul.odd {m a0 b0 o a b : Int} (hm : mayB m = true) (h : RMul m a0 b0 o a b) (h2 : b % 2 = 1) : RMul m a0 b0 (addI o a m) (addI a a m) (b / 2) := by
  unfold RMul at *
  have e1 : Cg m (addI o a m) (o + a) := by rw [addI_yes _ _ _ hm]; exact Cg.mod _ _
  have e2 : Cg m (addI a a m) (a + a) := by rw [addI_yes _ _ _ hm]; exact Cg.mod _ _
  refine ((e1.add (e2.mul_right _)).trans (Cg.of_eq ?_)).trans h
  have hb : b = 2 * (b / 2) + 1 := by omega
  generalize b / 2 = k at *
  subst hb
  rw [Int.mul_add, Int.mul_one, Int.add_mul, ← Int.mul_assoc, Int.mul_comm a 2, Int.mul_assoc]
  omega
theorem RMul.even {m a0 b0 o a b : Int} (hm : mayB m = true) (h : RMul m a0 b0 o a b) (h2 : b % 2 = 0) : RMul m a0 b0 o (addI a a m) (b / 2) := by
  unfold RMul at *
  have e2 : Cg m (addI a a m) (a + a) := by rw [addI_yes _ _ _ hm]; exact Cg.mod _ _
  refine (((Cg.refl m o).add (e2.mul_right _)).trans (Cg.of_eq ?_)).trans h
  have hb : b = 2 * (b / 2) := by omega
  generalize b / 2 = k at *
  subst hb
  rw [Int.add_mul, ← Int.mul_assoc, Int.mul_comm a 2, Int.mul_assoc]
  omega
theorem RMul.done {m a0 b0 o a : Int} (hm : mayB m = true) (h : RMul m a0 b0 o a 0) (h0 : 0 ≤ o) (h1 : o < m) : o = mulI a0 b0 m := by
  unfold RMul Cg at h
  rw [Int.mul_zero, Int.add_zero, Int.emod_eq_of_lt h0 h1] at h
  rw [mulI_yes _ _ _ hm, h]

theorem powI_U64' (a e m : Int) : U64 (powI a e m) := by
  cases hm : mayB m with
  | false => simp [powI, hm, U64]
  | true =>
    simp only [powI, hm, if_true]
    simp [mayB] at hm
    have := emod_bd (a ^ e.toNat) m hm.1
    unfold U64
    omega
end Go.Proofs.YthicondcjeipfaaGreatDoor

namespace Go.Proofs.YthicondcjeipfaaGreatDoor
open Go.RowKit

theorem Sl.ofBk {w : World} {g : Nat} {t : TypeId} {l : List Int} (h : Bk w g t (nums l).toArray) (hu : ∀ x ∈ l, U64 x) (hl : l.length ≤ 9223372036854775807) : Sl encU (fun _ => True) w (.slice (some ⟨g, 0, none⟩) l.length l.length) l := by
  refine ⟨_, _, rfl, Nat.le_refl _, hl, fun _ => ⟨g, 0, rfl, h.lt, trivial, fun i hi => ⟨_, ⟨rfl, hu _ (List.getElem_mem hi)⟩, fun j u hj => ?_⟩⟩⟩
  have hj0 : j = 0 := by
    have := (List.getElem?_eq_some_iff.1 hj).1
    simp at this
    exact this
  subst hj0
  simp at hj
  subst hj
  rw [h.cell]
  simp [nums, encU, hi]
theorem cells_of {w w' : World} (hg : w.grownBy w' none) {n : Nat} (hn : n ≤ w.heap.size) : ∀ b o, b < n → w'.cell? ⟨b, o, none⟩ = w.cell? ⟨b, o, none⟩ := fun b o h => World.cell?_of_block (hg.block b (by omega) (by simp))
theorem cells_alloc {w' W : World} {n : Nat} (h : ∀ b o, b < n → w'.cell? ⟨b, o, none⟩ = W.cell? ⟨b, o, none⟩) (hn : n ≤ w'.heap.size) (ob : Obj) : ∀ b o, b < n → (w'.alloc ob).cell? ⟨b, o, none⟩ = W.cell? ⟨b, o, none⟩ := fun b o hb => (World.cell?_alloc_lt w' ob ⟨b, o, none⟩ (by simp; omega)).trans (h b o hb)
theorem times_two (p : Par) (a b : Int) (w : World) (ha : U64 a) (hb : U64 b) :
    Calls Tryz.prog 95 #[p.v, .slice (some ⟨w.heap.size, 0, none⟩) 2 2] (w.alloc (Obj.cells #[.int .u64 a, .int .u64 b] 22)) fun e w' => e = .returned (.int .u64 (timesI p.P [a, b])) ∧ w.grownBy w' none :=
  (times_any p _ [a, b] (fun _ => True) _ (Sl.ofBk (t := 22) (Bk.new w 22 (nums [a, b]).toArray) (by intro y hy; simp at hy; rcases hy with rfl | rfl <;> assumption) (by simp))).mono fun _ _ ⟨he, hg⟩ => ⟨he, (World.grownBy_alloc w _ none).trans hg⟩
theorem times_nil (p : Par) (w : World) :
    Calls Tryz.prog 95 #[p.v, .slice none 0 0] w fun e w' => e = .returned (.int .u64 (timesI p.P [])) ∧ w.grownBy w' none :=
  times_any p _ [] (fun _ => True) w (Sl.nil _ _ _)
set_option maxHeartbeats 400000 in
theorem power_any (p : Par) (x e : Int) (w : World) (hx : U64 x) (he : U64 e) :
    Calls Tryz.prog 88 #[p.v, .int .u64 x, .int .u64 e] w fun e' w' => e' = .returned (.int .u64 (powI x e p.P)) ∧ w.grownBy w' none := by
  go_enter Tryz.func88, Tryz.ntmps88
  go_wp2_with fail
  refine (pow_any x e p.P _ hx he).mono ?_
  rintro e w' ⟨rfl, n, rfl⟩
  go_wp2
  go_ret
  exact ⟨rfl, grownBy_drewN (World.grownBy_alloc w _ none) n⟩
def commitI (p : Par) (x : Int × Int) : Int := timesI p.P [powI p.G x.1 p.P, powI p.H x.2 p.P]
set_option maxHeartbeats 400000 in
theorem commit_any (p : Par) (x : Int × Int) (w : World) (hp : p.ok) (h1 : U64 x.1) (h2 : U64 x.2) :
    Calls Tryz.prog 75 #[p.v, .agg #[.int .u64 x.1, .int .u64 x.2]] w fun e' w' => e' = .returned (.int .u64 (commitI p x)) ∧ w.grownBy w' none := by
  have HG : Hid (U64 p.G) := Lib.hid hp.G
  have HH : Hid (U64 p.H) := Lib.hid hp.H
  have H1 := Lib.hid h1
  have H2 := Lib.hid h2
  have HU := Lib.hid (powI_U64' p.G x.1 p.P)
  have HL := Lib.hid (powI_U64' p.H x.2 p.P)
  clear hp h1 h2
  go_enter Tryz.func75, Tryz.ntmps75
  go_wp2_with fail
  go_region_held3 (fun w' => ∀ b o, b < w.heap.size + 2 → w'.cell? ⟨b, o, none⟩ = ((w.alloc (Obj.cells p.cells 24)).alloc (Obj.cells #[.int .u64 x.1, .int .u64 x.2] 38)).cell? ⟨b, o, none⟩) (first | assumption | exact cells_alloc (by assumption) (by assumption) _ | go_keep)
    (first
    | (go_at_call 88; (with_reducible refine (power_any p p.G x.1 _ HG.out H1.out).mono ?_); rintro e w1 ⟨rfl, hg⟩; have HG1 := Lib.hid hg; have hc1 := cells_of (n := w.heap.size + 2) hg (by simp); clear hg)
    | (go_at_call 88; (with_reducible refine (power_any p p.H x.2 _ HH.out H2.out).mono ?_); rintro e w2 ⟨rfl, hg⟩; have HG2 := Lib.hid (HG1.out.trans hg); have hc2 := cells_of (n := w.heap.size + 2) HG2.out (by simp); have hs2 : w.heap.size + 2 ≤ w2.heap.size := Nat.le_trans (by simp) HG2.out.size; clear hg)
    | (go_at_call 95; (with_reducible refine (times_two p _ _ w2 HU.out HL.out).mono ?_); rintro e w3 ⟨rfl, hg⟩; have HG3 := Lib.hid (HG2.out.trans hg); have hc3 := cells_of (n := w.heap.size + 2) HG3.out (by simp); clear hg))
  go_wp2
  go_ret
  exact ⟨rfl, ((World.grownBy_alloc w _ none).trans (World.grownBy_alloc _ _ none)).trans (grownBy_drewN (World.grownBy.refl _ none) 1 |>.trans HG3.out)⟩
def isB (p : Par) (x : Int) : Bool := decide (1 ≤ x) && decide (x < p.P) && powI x p.Q p.P == 1
set_option maxHeartbeats 400000 in
theorem is_any (p : Par) (x : Int) (w : World) (hp : p.ok) (h1 : U64 x) :
    Calls Tryz.prog 66 #[p.v, .int .u64 x] w fun e' w' => e' = .returned (.bool (isB p x)) ∧ w.grownBy w' none := by
  have HQ : Hid (U64 p.Q) := Lib.hid hp.Q
  have H1 := Lib.hid h1
  clear hp h1
  by_cases ha : 1 ≤ x
  · by_cases hb : x < p.P
    · have HE : Hid (isB p x = (powI x p.Q p.P == 1)) := Lib.hid (by simp [isB, ha, hb])
      go_enter Tryz.func66, Tryz.ntmps66
      go_wp2_with fail
      refine (power_any p x p.Q _ H1.out HQ.out).mono ?_
      rintro e w1 ⟨rfl, hg⟩
      have HG := Lib.hid hg
      clear hg
      go_wp2
      go_ret
      exact ⟨ret_bool HE.out.symm, (World.grownBy_alloc w _ none).trans HG.out⟩
    · have HE : Hid (isB p x = false) := Lib.hid (by simp [isB, hb])
      have hb' : decide (x < p.P) = false := by simpa using hb
      clear hb
      go_enter Tryz.func66, Tryz.ntmps66
      go_wp2_with fail
      go_ret
      exact ⟨ret_bool HE.out.symm, World.grownBy_alloc w _ none⟩
  · have HE : Hid (isB p x = false) := Lib.hid (by simp [isB, ha])
    go_enter Tryz.func66, Tryz.ntmps66
    go_wp2_with fail
    go_ret
    exact ⟨ret_bool HE.out.symm, World.grownBy_alloc w _ none⟩
def atGo (p : Par) (i : Int) : List Int → Int → Int → Int
  | [], x, _ => x
  | y :: l, x, e => atGo p i l (timesI p.P [x, powI y e p.P]) (mulI e i p.Q)
def atI (p : Par) (l : List Int) (i : Int) : Int := atGo p i l (timesI p.P []) (mulI 1 1 p.Q)
theorem atGo_step (p : Par) (i : Int) (l : List Int) (j : Nat) (h : j < l.length) (x e : Int) : atGo p i (l.drop j) x e = atGo p i (l.drop (j + 1)) (timesI p.P [x, powI l[j] e p.P]) (mulI e i p.Q) := by
  rw [List.drop_eq_getElem_cons h]
  rfl
set_option maxHeartbeats 400000 in
theorem at_all (p : Par) (v : Value) (l : List Int) (i : Int) (X : Nat → Prop) (w : World) (h : Sl encU X w v l) (hi : U64 i) :
    Calls Tryz.prog 96 #[p.v, v, .int .u64 i] w fun e' w' => e' = .returned (.int .u64 (atI p l i)) ∧ w.grownBy w' none := by
  have H := Lib.hid h
  have HI := Lib.hid hi
  obtain ⟨A, c, rfl, h1, h2⟩ := h.form
  clear h hi
  go_enter Tryz.func96, Tryz.ntmps96
  go_wp2_with fail
  refine (times_nil p _).mono ?_
  rintro e w1 ⟨rfl, hg⟩
  have HG := Lib.hid hg
  have HB : Hid (Bk w1 w.heap.size 24 p.cells) := Lib.hid ((Bk.new w _ _).grown hg (by simp))
  have hc1 := HB.out.prule
  clear hg
  go_wp2_with fail
  refine (mul_any 1 1 p.Q _ (by decide) (by decide)).mono ?_
  rintro e w' ⟨rfl, n, rfl⟩
  have HS : Hid (U64 (timesI p.P []) ∧ U64 (mulI 1 1 p.Q) ∧ w.grownBy (w1.drewN n) none ∧ Bk (w1.drewN n) w.heap.size 24 p.cells ∧ atGo p i (l.drop 0) (timesI p.P []) (mulI 1 1 p.Q) = atI p l i) :=
    Lib.hid ⟨timesI_U64 _ _, mulI_U64 _ _ _, grownBy_drewN ((World.grownBy_alloc w _ none).trans HG.out) n, HB.out.drewN n, rfl⟩
  clear HB HG hc1
  go_wp2_with fail
  go_loopg [7, 8, 18] l.length (fun g sx se si wx => ∃ (j : Nat) (x e : Int), j + g = l.length ∧ si = .int .i64 j ∧ sx = .int .u64 x ∧ se = .int .u64 e ∧ Hid (U64 x ∧ U64 e ∧ w.grownBy wx none ∧ Bk wx w.heap.size 24 p.cells ∧ atGo p i (l.drop j) x e = atI p l i))
  case atStart => exact ⟨0, _, _, by omega, rfl, rfl, rfl, HS⟩
  case round =>
    obtain ⟨j, x, e, hj, rfl, rfl, rfl, HX⟩ := hrel
    cases gk with
    | zero =>
      obtain rfl : j = l.length := by omega
      have HE : Hid (x = atI p l i) := Lib.hid (by have := HX.out.2.2.2.2; rwa [List.drop_length] at this)
      have HGG := Lib.hid HX.out.2.2.1
      clear HX
      go_wp2
      go_ret
      exact ⟨ret_u64 HE.out, HGG.out⟩
    | succ k =>
      have hjn : (j : Int) < (l.length : Int) := by omega
      have hjN : j < l.length := by omega
      obtain ⟨hx, he, hg, hb, hs⟩ := HX.out
      obtain ⟨g, o, c', e', _, _, hc, hu⟩ := (H.out.kept hg).atU hjN
      injection e' with e1 e2 e3
      subst e1 e3
      have hp := hb.prule
      rw [atGo_step p i l j hjN] at hs
      have HS := Lib.hid hs
      have HXu := Lib.hid hx
      have HEu := Lib.hid he
      have HU := Lib.hid hu
      have HGr := Lib.hid hg
      have HBk := Lib.hid hb
      generalize l[j] = y at *
      clear hx he hg hb hs hu e2 HX
      go_wp2_with fail
      go_region_held3 (fun w' => ∀ o, w'.cell? ⟨w.heap.size, o, none⟩ = (#[.int .u64 p.P, .int .u64 p.Q, .int .u64 p.G, .int .u64 p.H, .int .i64 p.Nodes, .int .i64 p.N, .int .i64 p.T, .int .i64 p.K, .int .i64 p.D, .int .i64 p.R, .int .i64 p.M, .int .i64 p.X] : Array Value)[o]?) (first | assumption | exact rule_alloc (by assumption) (by assumption) _ | go_keep)
        (first
        | (go_at_call 88; (with_reducible refine (power_any p y e _ HU.out HEu.out).mono ?_); rintro e' w2 ⟨rfl, hg⟩; have HG2 := Lib.hid hg; have HB2 := Lib.hid ((HBk.out.drewN 1).grown hg (by simp)); have hp2 := HB2.out.prule; have hs2 := HB2.out.lt; clear hg)
        | (go_at_call 95; (with_reducible refine (times_two p x (powI y e p.P) w2 HXu.out (powI_U64' y e p.P)).mono ?_); rintro e' w3 ⟨rfl, hg⟩; have HG3 := Lib.hid hg; have HB3 := Lib.hid (HB2.out.grown hg (by simp)); have hp3 := HB3.out.prule; clear hg))
      go_wp2_with fail
      refine (mul_any e i p.Q _ HEu.out HI.out).mono ?_
      rintro e' w' ⟨rfl, n', rfl⟩
      go_wp2
      go_roundg k
      case measure => omega
      case rel => exact ⟨j + 1, _, _, by omega, by go_num, rfl, rfl, Lib.hid ⟨timesI_U64 _ _, mulI_U64 _ _ _, grownBy_drewN ((HGr.out.trans (grownBy_drewN (World.grownBy.refl wr none) 1)).trans (HG2.out.trans HG3.out)) n', HB3.out.drewN n', HS.out⟩⟩
end Go.Proofs.YthicondcjeipfaaGreatDoor

namespace Go.Proofs.YthicondcjeipfaaGreatDoor
open Go.RowKit

theorem info_u64 : (Tryz.prog.info? 22).map (fun i => (i.zero, i.size, i.bytes)) = some (some (.int .u64 0), 1, 8) := by kernel_rfl
theorem info_nums : (Tryz.prog.info? 29).map (fun i => (i.zero, i.size, i.bytes)) = some (some (.slice none 0 0), 1, 24) := by kernel_rfl
theorem info_rows : (Tryz.prog.info? 47).map (fun i => (i.zero, i.size, i.bytes)) = some (some (.slice none 0 0), 1, 24) := by kernel_rfl
theorem info_pair : (Tryz.prog.info? 38).map (fun i => (i.zero, i.size, i.bytes)) = some (some (.agg #[.int .u64 0, .int .u64 0]), 2, 16) := by kernel_rfl
theorem info_pairs : (Tryz.prog.info? 39).map (fun i => (i.zero, i.size, i.bytes)) = some (some (.slice none 0 0), 1, 24) := by kernel_rfl
theorem el_u64 : ElemOk Tryz.prog 29 22 1 8 := ElemOk.mk' (by decide) Tryz.underlying29 info_u64 rfl
theorem el_nums : ElemOk Tryz.prog 47 29 1 24 := ElemOk.mk' (by decide) Tryz.underlying47 info_nums rfl
theorem el_rows : ElemOk Tryz.prog 30 47 1 24 := ElemOk.mk' (by decide) Tryz.underlying30 info_rows rfl
theorem el_pair : ElemOk Tryz.prog 39 38 2 16 := ElemOk.mk' (by decide) Tryz.underlying39 info_pair rfl
theorem el_pairs : ElemOk Tryz.prog 41 39 1 24 := ElemOk.mk' (by decide) Tryz.underlying41 info_pairs rfl
end Go.Proofs.YthicondcjeipfaaGreatDoor

namespace Go.Proofs.YthicondcjeipfaaGreatDoor
open Go.RowKit

theorem atGo_U64 (p : Par) (i : Int) : ∀ (l : List Int) (x e : Int), U64 x → U64 (atGo p i l x e)
  | [], _, _, h => h
  | _ :: l, _, _, _ => atGo_U64 p i l _ _ (timesI_U64 _ _)
theorem atI_U64 (p : Par) (l : List Int) (i : Int) : U64 (atI p l i) := atGo_U64 p i l _ _ (timesI_U64 _ _)
def shareI (p : Par) (coms : List (List Int)) (i : Int) : List Int := coms.map fun l => atI p l i
def wideI (l : List (List Int)) : Nat := l.foldl (fun n c => max n c.length) 0
def colI (p : Par) (l : List (List Int)) (j : Nat) : List Int := l.map fun c => c[j]?.getD (timesI p.P [])
def turnedI (p : Par) (l : List (List Int)) : List (List Int) := (List.range (wideI l)).map (colI p l)
def rowComsI (p : Par) (m : List (List (List Int))) (x : Int) : List (List Int) := m.map fun l => shareI p (turnedI p l) x
def colComsI (p : Par) (m : List (List (List Int))) (y : Int) : List (List Int) := m.map fun l => shareI p l y
theorem map_take_snoc' {α β : Type} (f : α → β) (l : List α) (j : Nat) (h : j < l.length) : (l.take (j + 1)).map f = (l.take j).map f ++ [f l[j]] := by
  rw [List.take_succ_eq_append_getElem h, List.map_append]
  rfl

set_option maxRecDepth 100000 in
set_option maxHeartbeats 400000 in
theorem share_any (p : Par) (v : Value) (ls : List (List Int)) (i : Int) (X : Nat → Prop) (w : World) (h : Sl (encS encU) X w v ls) (hi : U64 i) (hb : ls.length ≤ 100000) :
    Calls Tryz.prog 76 #[p.v, v, .int .u64 i] w (Gives encU (fun g => w.heap.size ≤ g) w (shareI p ls i)) := by
  have H := Lib.hid h
  have HI := Lib.hid hi
  obtain ⟨A, c, rfl, hc1, hc2⟩ := h.form
  have HST : Hid (Acc encU w.heap.size 22 (fun g => w.heap.size ≤ g) (w.alloc (Obj.cells p.cells 24)) (.slice none 0 0) ((ls.take 0).map fun l => atI p l i) ∧ w.grownBy (w.alloc (Obj.cells p.cells 24)) none ∧ Bk (w.alloc (Obj.cells p.cells 24)) w.heap.size 24 p.cells) := Lib.hid ⟨Acc.nil _ _ _ _ _, World.grownBy_alloc w _ none, Bk.new w _ _⟩
  clear h hi
  go_enter Tryz.func76, Tryz.ntmps76
  go_wp2_with fail
  go_loopg [7, 12] ls.length (fun g s7 s12 wx => ∃ j : Nat, j + g = ls.length ∧ s12 = .int .i64 j ∧ Hid (Acc encU w.heap.size 22 (fun g => w.heap.size ≤ g) wx s7 ((ls.take j).map fun l => atI p l i) ∧ w.grownBy wx none ∧ Bk wx w.heap.size 24 p.cells))
  case atStart => exact ⟨0, by omega, rfl, HST⟩
  case round =>
    obtain ⟨j, hj, rfl, HX⟩ := hrel
    cases gk with
    | zero =>
      obtain rfl : j = ls.length := by omega
      have HR : Hid (Sl encU (fun g => w.heap.size ≤ g) wr u7 (shareI p ls i) ∧ w.grownBy wr none) := Lib.hid ⟨by have := HX.out.1.sl; rwa [List.take_length] at this, HX.out.2.1⟩
      clear HX HST
      go_wp2
      go_ret
      exact ⟨_, rfl, HR.out.1, HR.out.2⟩
    | succ m =>
      have hjn : (j : Int) < (ls.length : Int) := by omega
      have hjN : j < ls.length := by omega
      obtain ⟨hacc, hg, hbp⟩ := HX.out
      obtain ⟨g, o, c', u, e, _, _, hcu, hsu⟩ := (H.out.kept hg).atS hjN
      injection e with e1 e2 e3
      subst e1 e3
      obtain ⟨A1, c1, e1, _, _⟩ := hsu.form
      subst e1
      have HSN := Lib.hid (map_take_snoc' (fun l => atI p l i) ls j hjN)
      have HF := Lib.hid (at_all p _ ls[j] i X wr hsu HI.out)
      have HU := Lib.hid (atI_U64 p ls[j] i)
      have HAC := Lib.hid hacc
      have HG := Lib.hid hg
      have HBp := Lib.hid hbp
      have hp := hbp.prule
      have HLB : Hid ((((ls.take j).map fun l => atI p l i).length + 1) * 8 ≤ 140737488355328) := Lib.hid (by simp; omega)
      clear hacc hg hbp hsu e2 HX HST
      generalize hy : ls[j] = y at HSN HF HU hcu
      clear hy
      generalize y.length = n1 at *
      go_wp2_with fail
      refine HF.out.mono ?_
      rintro e' w1 ⟨rfl, hg1⟩
      have HG2 := Lib.hid (HG.out.trans hg1)
      have HA1 := Lib.hid (HAC.out.kept hg1)
      have HBp1 := Lib.hid (HBp.out.grown hg1 (by simp))
      clear hg1 hp
      go_wp2_with (at_builtin; refine wpList_pushG rfl (.tmp 16) (.tmp 21) rfl (E := encU) el_u64 HG2.out HA1.out (fun _ h => h) ⟨rfl, HU.out⟩ HLB.out rfl rfl ?_)
      intro v2 w2 hacc2 hg2 hgo
      have HFIN : Hid (Acc encU w.heap.size 22 (fun g => w.heap.size ≤ g) w2 v2 ((ls.take (j + 1)).map fun l => atI p l i) ∧ w.grownBy w2 none ∧ Bk w2 w.heap.size 24 p.cells) := Lib.hid ⟨by rw [HSN.out]; simpa using hacc2, hg2, HBp1.out.grown hgo (fun e => HA1.out.ne_bk HBp1.out (by decide) e.symm)⟩
      clear hacc2 hg2 hgo
      go_wp2_with fail
      go_roundg m
      case measure => omega
      case rel => exact ⟨j + 1, by omega, by go_num, HFIN⟩
/-- What a call told lies beyond what was there. -/
theorem Sl.fresh {α : Type} {E : Enc α} {w0 w w' : World} {v u : Value} {xs : List α} {base : Nat} {e : TypeId} {β : Type} {F : Enc β} {Y : Nat → Prop} {ys : List β} (h : Sl E (fun g => w.heap.size ≤ g) w' v xs) (hg : w0.grownBy w none) (ha : Acc F base e Y w u ys) :
    Sl E (fun g => w0.heap.size ≤ g ∧ some g ≠ u.ownBlock) w' v xs :=
  h.more fun g _ h => ⟨Nat.le_trans hg.size h, fun e => by have := (ha.lt g e.symm).2; omega⟩
set_option maxRecDepth 100000 in
set_option maxHeartbeats 400000 in
theorem colComs_any (p : Par) (v : Value) (m : List (List (List Int))) (y : Int) (X : Nat → Prop) (w : World) (h : Sl (encS (encS encU)) X w v m) (hy : U64 y) (hb : m.length ≤ 100000) (hb2 : ∀ l ∈ m, l.length ≤ 100000) :
    Calls Tryz.prog 34 #[p.v, v, .int .u64 y] w (Gives (encS encU) (fun g => w.heap.size ≤ g) w (colComsI p m y)) := by
  have H := Lib.hid h
  have HI := Lib.hid hy
  have HB2 := Lib.hid hb2
  obtain ⟨A, c, rfl, hc1, hc2⟩ := h.form
  have HST : Hid (Acc (encS encU) w.heap.size 29 (fun g => w.heap.size ≤ g) (w.alloc (Obj.cells p.cells 24)) (.slice none 0 0) ((m.take 0).map fun l => shareI p l y) ∧ w.grownBy (w.alloc (Obj.cells p.cells 24)) none ∧ Bk (w.alloc (Obj.cells p.cells 24)) w.heap.size 24 p.cells) := Lib.hid ⟨Acc.nil _ _ _ _ _, World.grownBy_alloc w _ none, Bk.new w _ _⟩
  clear h hy hb2
  go_enter Tryz.func34, Tryz.ntmps34
  go_wp2_with fail
  go_loopg [7, 12] m.length (fun g s7 s12 wx => ∃ j : Nat, j + g = m.length ∧ s12 = .int .i64 j ∧ Hid (Acc (encS encU) w.heap.size 29 (fun g => w.heap.size ≤ g) wx s7 ((m.take j).map fun l => shareI p l y) ∧ w.grownBy wx none ∧ Bk wx w.heap.size 24 p.cells))
  case atStart => exact ⟨0, by omega, rfl, HST⟩
  case round =>
    obtain ⟨j, hj, rfl, HX⟩ := hrel
    cases gk with
    | zero =>
      obtain rfl : j = m.length := by omega
      have HR : Hid (Sl (encS encU) (fun g => w.heap.size ≤ g) wr u7 (colComsI p m y) ∧ w.grownBy wr none) := Lib.hid ⟨by have := HX.out.1.sl; rwa [List.take_length] at this, HX.out.2.1⟩
      clear HX HST
      go_wp2
      go_ret
      exact ⟨_, rfl, HR.out.1, HR.out.2⟩
    | succ n =>
      have hjn : (j : Int) < (m.length : Int) := by omega
      have hjN : j < m.length := by omega
      obtain ⟨hacc, hg, hbp⟩ := HX.out
      obtain ⟨g, o, c', u, e, _, _, hcu, hsu⟩ := (H.out.kept hg).atS hjN
      injection e with e1 e2 e3
      subst e1 e3
      obtain ⟨A1, c1, e1, _, _⟩ := hsu.form
      subst e1
      have HSN := Lib.hid (map_take_snoc' (fun l => shareI p l y) m j hjN)
      have HF := Lib.hid (share_any p _ m[j] y X wr hsu HI.out (HB2.out _ (List.getElem_mem hjN)))
      have HSL : Hid ((shareI p m[j] y).length = m[j].length) := Lib.hid (by simp [shareI])
      have HAC := Lib.hid hacc
      have HG := Lib.hid hg
      have HBp := Lib.hid hbp
      have hp := hbp.prule
      have HLB : Hid ((((m.take j).map fun l => shareI p l y).length + 1) * 24 ≤ 140737488355328) := Lib.hid (by simp; omega)
      clear hacc hg hbp hsu e2 HX HST
      generalize hy : m[j] = z at HSN HF hcu HSL
      clear hy
      generalize z.length = n1 at *
      go_wp2_with fail
      refine HF.out.mono ?_
      rintro e' w1 ⟨v1, rfl, hs1, hg1⟩
      obtain ⟨A2, c2, e2, _, _⟩ := hs1.form
      rw [HSL.out] at e2
      subst e2
      have HG2 := Lib.hid (HG.out.trans hg1)
      have HA1 := Lib.hid (HAC.out.kept hg1)
      have HBp1 := Lib.hid (HBp.out.grown hg1 (by simp))
      have HREP : Hid (Enc.rep (encS encU) (fun g => w.heap.size ≤ g ∧ some g ≠ u7.ownBlock) w1 [.slice A2 n1 c2] (shareI p z y)) := Lib.hid ⟨_, rfl, hs1.fresh HG.out HAC.out⟩
      clear hg1 hp hs1
      go_wp2_with (at_builtin; refine wpList_pushG rfl (.tmp 16) (.tmp 21) rfl (E := encS encU) el_nums HG2.out HA1.out (fun _ h => h) HREP.out HLB.out rfl rfl ?_)
      intro v2 w2 hacc2 hg2 hgo
      have HFIN : Hid (Acc (encS encU) w.heap.size 29 (fun g => w.heap.size ≤ g) w2 v2 ((m.take (j + 1)).map fun l => shareI p l y) ∧ w.grownBy w2 none ∧ Bk w2 w.heap.size 24 p.cells) := Lib.hid ⟨by rw [HSN.out]; simpa using hacc2, hg2, HBp1.out.grown hgo (fun e => HA1.out.ne_bk HBp1.out (by decide) e.symm)⟩
      clear hacc2 hg2 hgo
      go_wp2_with fail
      go_roundg n
      case measure => omega
      case rel => exact ⟨j + 1, by omega, by go_num, HFIN⟩
theorem flatten_singles : ∀ (hs : List Value), (hs.map fun v => [v]).flatten = hs
  | [] => rfl
  | a :: l => by simpa using flatten_singles l
theorem wide_le (l : List (List Int)) (B : Nat) (h : ∀ c ∈ l, c.length ≤ B) : wideI l ≤ B := by
  have key : ∀ (l : List (List Int)) (n : Nat), n ≤ B → (∀ c ∈ l, c.length ≤ B) → l.foldl (fun n c => max n c.length) n ≤ B := by
    intro l
    induction l with
    | nil => intro n hn _; exact hn
    | cons c l ih => intro n hn h; exact ih _ (Nat.max_le.2 ⟨hn, h c (by simp)⟩) (fun d hd => h d (by simp [hd]))
  exact key l 0 (Nat.zero_le _) h
theorem wide_snoc (l : List (List Int)) (j : Nat) (h : j < l.length) : wideI (l.take (j + 1)) = max (wideI (l.take j)) l[j].length := by
  unfold wideI
  rw [List.take_succ_eq_append_getElem h, List.foldl_append]
  rfl
theorem colI_snoc (p : Par) (l : List (List Int)) (i j : Nat) (h : i < l.length) : colI p (l.take (i + 1)) j = colI p (l.take i) j ++ [l[i][j]?.getD (timesI p.P [])] := map_take_snoc' _ l i h
theorem colI_U64 (p : Par) (c : List Int) (j : Nat) (X : Nat → Prop) (w : World) (v : Value) (h : Sl encU X w v c) : U64 (c[j]?.getD (timesI p.P [])) := by
  by_cases hj : j < c.length
  · rw [List.getElem?_eq_getElem hj]
    obtain ⟨_, _, _, _, _, _, _, u⟩ := h.atU hj
    exact u
  · rw [List.getElem?_eq_none (by omega)]
    exact timesI_U64 _ _
set_option maxRecDepth 100000 in
set_option maxHeartbeats 1000000 in
theorem turned_any (p : Par) (v : Value) (l : List (List Int)) (X : Nat → Prop) (w : World) (h : Sl (encS encU) X w v l) (hb : l.length ≤ 100000) (hb2 : ∀ c ∈ l, c.length ≤ 100000) :
    Calls Tryz.prog 77 #[p.v, v] w (Gives (encS encU) (fun g => w.heap.size ≤ g) w (turnedI p l)) := by
  have H := Lib.hid h
  have HB2 := Lib.hid hb2
  obtain ⟨A, c, rfl, hc1, hc2⟩ := h.form
  have HB0 : Hid (Bk (w.alloc (Obj.cells p.cells 24)) w.heap.size 24 p.cells) := Lib.hid (Bk.new w _ _)
  have HG0 : Hid (w.grownBy (w.alloc (Obj.cells p.cells 24)) none) := Lib.hid (World.grownBy_alloc w _ none)
  have HWB : Hid (wideI l ≤ 100000) := Lib.hid (wide_le l _ hb2)
  have HW0 : Hid (wideI (l.take 0) = 0) := Lib.hid rfl
  clear h hb2
  go_enter Tryz.func77, Tryz.ntmps77
  go_wp2_with fail
  have HS0 : Hid ((w.alloc (Obj.cells p.cells 24)) = (w.alloc (Obj.cells p.cells 24))) := Lib.hid rfl
  go_loopg [5, 15] l.length (fun g s5 s15 wx => ∃ j n : Nat, j + g = l.length ∧ s15 = .int .i64 j ∧ s5 = .int .i64 n ∧ Hid (n = wideI (l.take j)) ∧ Hid (wx = (w.alloc (Obj.cells p.cells 24))))
  case atStart => exact ⟨0, 0, by omega, rfl, rfl, Lib.hid HW0.out.symm, HS0⟩
  case round =>
    obtain ⟨j, n, hj, rfl, rfl, HN, HX⟩ := hrel
    cases gk with
    | zero =>
      obtain rfl : j = l.length := by omega
      have HNW : Hid (n = wideI l) := Lib.hid (by have := HN.out; rwa [List.take_length] at this)
      obtain rfl : wr = (w.alloc (Obj.cells p.cells 24)) := HX.out
      have hn5 : n ≤ 100000 := by rw [HNW.out]; exact HWB.out
      have hmk := run_make_row' (P := Tryz.prog) 47 29 (.slice none 0 0) 24 Tryz.underlying47 info_nums rfl .i64 .i64 n (by omega) (by omega)
      have HBO : Hid (Bk ((w.alloc (Obj.cells p.cells 24)).alloc (.cells (madeCells #[.slice none 0 0] n) 29)) (w.heap.size + 1) 29 (List.replicate n (.slice none 0 0)).toArray) := Lib.hid (by
        have := Bk.new (w.alloc (Obj.cells p.cells 24)) 29 (madeCells #[.slice none 0 0] n)
        rw [World.size_alloc] at this
        exact this.of_eq (Array.toList_inj.1 (by rw [toList_madeCells_one])))
      have HST : Hid (Bk ((w.alloc (Obj.cells p.cells 24)).alloc (.cells (madeCells #[.slice none 0 0] n) 29)) (w.heap.size + 1) 29 (List.replicate n (Value.slice none 0 0)).toArray ∧
          (∀ i (hi : i < (List.replicate n (Value.slice none 0 0)).length), i < 0 → Sl encU (fun g => w.heap.size + 1 < g) ((w.alloc (Obj.cells p.cells 24)).alloc (.cells (madeCells #[.slice none 0 0] n) 29)) (List.replicate n (Value.slice none 0 0))[i] (colI p l i)) ∧
          (∀ i (hi : i < (List.replicate n (Value.slice none 0 0)).length), 0 ≤ i → (List.replicate n (Value.slice none 0 0))[i] = .slice none 0 0) ∧ w.grownBy ((w.alloc (Obj.cells p.cells 24)).alloc (.cells (madeCells #[.slice none 0 0] n) 29)) none ∧
          Bk ((w.alloc (Obj.cells p.cells 24)).alloc (.cells (madeCells #[.slice none 0 0] n) 29)) w.heap.size 24 p.cells) :=
        Lib.hid ⟨HBO.out, fun i hi h => absurd h (Nat.not_lt_zero _), fun i hi _ => by simp, HG0.out.trans (World.grownBy_alloc _ _ none), HB0.out.alloc _⟩
      have HLL : Hid ((List.replicate n (Value.slice none 0 0)).length = n) := Lib.hid (by simp)
      clear HX HS0 HBO HB0
      go_wp2_with fail
      go_loopg [28] n (fun g s28 wx => ∃ (j : Nat) (hs : List Value), j + g = n ∧ s28 = .int .i64 j ∧ Hid (hs.length = n) ∧ Hid (Bk wx (w.heap.size + 1) 29 hs.toArray ∧
          (∀ i (hi : i < hs.length), i < j → Sl encU (fun g => w.heap.size + 1 < g) wx hs[i] (colI p l i)) ∧ (∀ i (hi : i < hs.length), j ≤ i → hs[i] = .slice none 0 0) ∧ w.grownBy wx none ∧ Bk wx w.heap.size 24 p.cells))
      case atStart => exact ⟨0, _, by omega, rfl, HLL, HST⟩
      case round =>
        rename World => wj
        obtain ⟨j, hs, hj, rfl, HLH, HX⟩ := hrel
        cases gk with
        | zero =>
          obtain rfl : j = n := by omega
          have HR : Hid (Sl (encS encU) (fun g => w.heap.size ≤ g) wj (.slice (some ⟨w.heap.size + 1, 0, none⟩) j j) (turnedI p l) ∧ w.grownBy wj none) := Lib.hid (by
            obtain ⟨h1, h2, _, h4, _⟩ := HX.out
            have hTL : (turnedI p l).length = j := by simp [turnedI, HNW.out]
            have := Sl.block (E := encS encU) (X := fun g => w.heap.size ≤ g) (xs := turnedI p l) (c := j) h1 (by omega) (hs.map fun v => [v]) (by rw [List.length_map, HLH.out, hTL]) (fun i hi hi' => ⟨hs[i]'(by rw [HLH.out]; omega), by simp, by
              have hc := (h2 i (by rw [HLH.out]; omega) (by omega)).more (Y := fun g => w.heap.size ≤ g) (fun g _ hg => by omega)
              have he : (turnedI p l)[i] = colI p l i := by simp [turnedI]
              rw [he]
              exact hc⟩) (by
                rw [flatten_singles]) (by rw [hTL]; exact Nat.le_refl _) (by omega)
            rw [hTL] at this
            exact ⟨this, h4⟩)
          clear HX HST HLH
          go_wp2
          go_ret
          exact ⟨_, rfl, HR.out.1, HR.out.2⟩
        | succ m =>
          have hjn : (j : Int) < (n : Int) := by omega
          have hjh : j < hs.length := by rw [HLH.out]; omega
          have hlo : w.heap.size + 1 < wj.heap.size := HX.out.1.lt
          have HIN : Hid (Acc encU wj.heap.size 22 (fun g => wj.heap.size ≤ g) wj (.slice none 0 0) (colI p (l.take 0) j) ∧ Bk wj (w.heap.size + 1) 29 (hs.set j (.slice none 0 0)).toArray ∧ wj.grownBy wj (some (w.heap.size + 1)) ∧ Bk wj w.heap.size 24 p.cells) := Lib.hid ⟨Acc.nil _ _ _ _ _, by
            have := HX.out.2.2.1 j hjh (Nat.le_refl _)
            rw [← this, List.set_getElem_self]
            exact HX.out.1, World.grownBy.refl _ _, HX.out.2.2.2.2⟩
          have HGJ := Lib.hid HX.out.2.2.2.1
          have HLO := Lib.hid hlo
          clear hlo
          go_wp2_with fail
          go_loopg [33] l.length (fun g s33 wx => ∃ (i : Nat) (v : Value), i + g = l.length ∧ s33 = .int .i64 i ∧ Hid (Acc encU wj.heap.size 22 (fun g => wj.heap.size ≤ g) wx v (colI p (l.take i) j) ∧ Bk wx (w.heap.size + 1) 29 (hs.set j v).toArray ∧ wj.grownBy wx (some (w.heap.size + 1)) ∧ Bk wx w.heap.size 24 p.cells))
          case atStart => exact ⟨0, _, by omega, rfl, HIN⟩
          case round =>
            rename World => wi
            obtain ⟨i, v, hi, rfl, HY⟩ := hrel
            cases gk with
            | zero =>
              obtain rfl : i = l.length := by omega
              have HFIN : Hid (Bk wi (w.heap.size + 1) 29 (hs.set j v).toArray ∧ (∀ i (hi : i < (hs.set j v).length), i < j + 1 → Sl encU (fun g => w.heap.size + 1 < g) wi (hs.set j v)[i] (colI p l i)) ∧ (∀ i (hi : i < (hs.set j v).length), j + 1 ≤ i → (hs.set j v)[i] = .slice none 0 0) ∧ w.grownBy wi none ∧ Bk wi w.heap.size 24 p.cells) := Lib.hid (by
                obtain ⟨h1, h2, h3, h4⟩ := HY.out
                obtain ⟨_, k2, k3, k4, _⟩ := HX.out
                rw [List.take_length] at h1
                refine ⟨h2, fun i hi hij => ?_, fun i hi hij => ?_, grown_up k4 h3 (fun g e => by injection e with e; subst e; omega), h4⟩
                · rcases Nat.lt_or_ge i j with hlt | hge
                  · rw [List.getElem_set_ne (by omega)]
                    exact ((k2 i (by simpa using hi) hlt).bounded.keep h3 (fun g hg e => by injection e with e; have := hg.1; omega)).more (fun g _ hg => hg.1)
                  · obtain rfl : i = j := by omega
                    rw [List.getElem_set_self]
                    exact h1.sl.more (fun g _ hg => Nat.lt_of_lt_of_le HLO.out hg)
                · rw [List.getElem_set_ne (by omega)]
                  exact k3 i (by simpa using hi) (by omega))
              have HLH2 : Hid ((hs.set j v).length = n) := Lib.hid (by rw [List.length_set]; exact HLH.out)
              clear HX HY HST HIN
              go_wp2_with fail
              go_roundg m
              case measure => omega
              case rel => exact ⟨j + 1, _, by omega, by go_num, HLH2, HFIN⟩
            | succ q =>
              have hin : (i : Int) < (l.length : Int) := by omega
              have hiN : i < l.length := by omega
              obtain ⟨hacc, hbo, hgj, hbp⟩ := HY.out
              have hgw : w.grownBy wi none := grown_up HGJ.out hgj (fun g e => by injection e with e; subst e; omega)
              obtain ⟨g, o, c', u, e, _, _, hcu, hsu⟩ := (H.out.kept hgw).atS hiN
              injection e with e1 e2 e3
              subst e1 e3
              obtain ⟨A1, c1, e1, _, _⟩ := hsu.form
              subst e1
              have HCV := Lib.hid hsu
              have HSN := Lib.hid (colI_snoc p l i j hiN)
              have HUX := Lib.hid (colI_U64 p l[i] j _ _ _ hsu)
              obtain ⟨A2, c2, e4, _, _⟩ := hacc.sl.form
              have hcl : (colI p (l.take i) j).length = i := by simp [colI]; omega
              rw [hcl] at e4
              subst e4
              have HAC := Lib.hid hacc
              have HBO := Lib.hid hbo
              have HGW := Lib.hid hgw
              have HGI := Lib.hid hgj
              have HBp := Lib.hid hbp
              have hp := hbp.prule
              have hlc1 : l[i].length ≤ 100000 := HB2.out _ (List.getElem_mem hiN)
              have HJH := Lib.hid hjh
              have HLB : Hid (((colI p (l.take i) j).length + 1) * 8 ≤ 140737488355328) := Lib.hid (by rw [hcl]; omega)
              clear hacc hbo hgj hbp hgw hsu e2 hcl HY HIN HST hjh
              obtain ⟨L, hL⟩ : ∃ L, L = l[i] := ⟨_, rfl⟩
              rw [← hL] at hcu hlc1
              rw [← hL] at HCV HSN HUX
              clear hL
              have hjL0 : (0 : Int) ≤ (j : Int) := by omega
              by_cases hjL : j < L.length
              · have hjLi : (j : Int) < (L.length : Int) := by omega
                rw [show L[j]?.getD (timesI p.P []) = L[j] by rw [List.getElem?_eq_getElem hjL]; rfl] at HSN HUX
                go_wp2_with fail
                refine (times_nil p _).mono ?_
                rintro e' w1 ⟨rfl, hg1⟩
                have HG1 : Hid (wi.grownBy w1 none) := Lib.hid hg1
                have HA1 := Lib.hid (HAC.out.kept hg1)
                have HBO1 := Lib.hid (HBO.out.grown hg1 (by simp))
                have HBp1 := Lib.hid (HBp.out.grown hg1 (by simp))
                have HGJ1 : Hid (wj.grownBy w1 (some (w.heap.size + 1))) := Lib.hid (HGI.out.trans (grown_weak hg1))
                have co : w1.cell? ⟨w.heap.size + 1, j, none⟩ = some (.slice A2 i c2) := by rw [HBO1.out.cell j]; simp [HJH.out]
                have lo := HBO1.out.lt
                have cx := (HCV.out.kept hg1)
                obtain ⟨gq, oq, cq, eq1, _, _, cq0, _⟩ := cx.atU hjL
                injection eq1 with eq1
                subst eq1
                clear hg1 hp
                go_wp2_with (at_builtin; refine wpList_push rfl (.tmp 52) (.tmp 54) rfl (E := encU) (X := fun g => wj.heap.size ≤ g) el_u64 HA1.out rfl rfl ⟨rfl, HUX.out⟩ HLB.out HGJ1.out.size (fun g h => Nat.le_trans HGJ1.out.size h) ?_)
                intro v2 w2 hacc2 hg2 hm2
                have hne : ∀ g, (Value.slice A2 i c2).ownBlock = some g → wj.heap.size ≤ g := fun g e => (HA1.out.lt g e).1
                obtain ⟨A3, c3, e5, _, _⟩ := hacc2.sl.form
                have hl3 : (colI p (l.take i) j ++ [L[j]]).length = i + 1 := by simp [colI]; omega
                rw [hl3] at e5
                subst e5
                have HBO2 : Hid (Bk w2 (w.heap.size + 1) 29 (hs.set j (.slice A2 i c2)).toArray) := Lib.hid (HBO1.out.grown hg2 (fun e => by have := hne _ e.symm; have := HLO.out; omega))
                have HBp2 : Hid (Bk w2 w.heap.size 24 p.cells) := Lib.hid (HBp1.out.grown hg2 (fun e => by have := hne _ e.symm; have := HLO.out; omega))
                have HGJ2 : Hid (wj.grownBy w2 (some (w.heap.size + 1))) := Lib.hid ⟨hg2.os.trans HGJ1.out.os, hg2.tape.trans HGJ1.out.tape, hg2.output.trans HGJ1.out.output, Nat.le_trans HGJ1.out.size hg2.size, fun k hk hkn => (hg2.block k (Nat.lt_of_lt_of_le hk HGJ1.out.size) (fun e => by have := hne _ e.symm; omega)).trans (HGJ1.out.block k hk hkn)⟩
                have co2 : w2.cell? ⟨w.heap.size + 1, j, none⟩ = some (.slice A2 i c2) := by rw [HBO2.out.cell j]; simp [HJH.out]
                have fo2 := HBO2.out.free j
                have HFIN : Hid (Acc encU wj.heap.size 22 (fun g => wj.heap.size ≤ g) (w2.setCell ⟨w.heap.size + 1, j, none⟩ (.slice A3 (i + 1) c3)) (.slice A3 (i + 1) c3) (colI p (l.take (i + 1)) j) ∧ Bk (w2.setCell ⟨w.heap.size + 1, j, none⟩ (.slice A3 (i + 1) c3)) (w.heap.size + 1) 29 (hs.set j (.slice A3 (i + 1) c3)).toArray ∧ wj.grownBy (w2.setCell ⟨w.heap.size + 1, j, none⟩ (.slice A3 (i + 1) c3)) (some (w.heap.size + 1)) ∧ Bk (w2.setCell ⟨w.heap.size + 1, j, none⟩ (.slice A3 (i + 1) c3)) w.heap.size 24 p.cells) := Lib.hid ⟨by
                    rw [HSN.out]
                    exact hacc2.keep (grownBy_set (World.grownBy.refl _ (some (w.heap.size + 1))) j _) (fun g hg e => by injection e with e; have := HLO.out; omega), (HBO2.out.set j _).of_eq (by simp), grownBy_set HGJ2.out j _, HBp2.out.far (by simp) _⟩
                clear hacc2 hg2 hm2 hne co lo cx
                go_wp2_with fail
                go_roundg q
                case measure => omega
                case rel => exact ⟨i + 1, _, by omega, by go_num, HFIN⟩
              · have hjLi : ¬ (j : Int) < (L.length : Int) := by omega
                rw [show L[j]?.getD (timesI p.P []) = timesI p.P [] by rw [List.getElem?_eq_none (by omega)]; rfl] at HSN HUX
                go_wp2_with fail
                refine (times_nil p _).mono ?_
                rintro e' w1 ⟨rfl, hg1⟩
                have HG1 : Hid (wi.grownBy w1 none) := Lib.hid hg1
                have HA1 := Lib.hid (HAC.out.kept hg1)
                have HBO1 := Lib.hid (HBO.out.grown hg1 (by simp))
                have HBp1 := Lib.hid (HBp.out.grown hg1 (by simp))
                have HGJ1 : Hid (wj.grownBy w1 (some (w.heap.size + 1))) := Lib.hid (HGI.out.trans (grown_weak hg1))
                have co : w1.cell? ⟨w.heap.size + 1, j, none⟩ = some (.slice A2 i c2) := by rw [HBO1.out.cell j]; simp [HJH.out]
                have lo := HBO1.out.lt
                have cx := (HCV.out.kept hg1)
                clear hg1 hp
                go_wp2_with (at_builtin; refine wpList_push rfl (.tmp 52) (.tmp 54) rfl (E := encU) (X := fun g => wj.heap.size ≤ g) el_u64 HA1.out rfl rfl ⟨rfl, HUX.out⟩ HLB.out HGJ1.out.size (fun g h => Nat.le_trans HGJ1.out.size h) ?_)
                intro v2 w2 hacc2 hg2 hm2
                have hne : ∀ g, (Value.slice A2 i c2).ownBlock = some g → wj.heap.size ≤ g := fun g e => (HA1.out.lt g e).1
                obtain ⟨A3, c3, e5, _, _⟩ := hacc2.sl.form
                have hl3 : (colI p (l.take i) j ++ [timesI p.P []]).length = i + 1 := by simp [colI]; omega
                rw [hl3] at e5
                subst e5
                have HBO2 : Hid (Bk w2 (w.heap.size + 1) 29 (hs.set j (.slice A2 i c2)).toArray) := Lib.hid (HBO1.out.grown hg2 (fun e => by have := hne _ e.symm; have := HLO.out; omega))
                have HBp2 : Hid (Bk w2 w.heap.size 24 p.cells) := Lib.hid (HBp1.out.grown hg2 (fun e => by have := hne _ e.symm; have := HLO.out; omega))
                have HGJ2 : Hid (wj.grownBy w2 (some (w.heap.size + 1))) := Lib.hid ⟨hg2.os.trans HGJ1.out.os, hg2.tape.trans HGJ1.out.tape, hg2.output.trans HGJ1.out.output, Nat.le_trans HGJ1.out.size hg2.size, fun k hk hkn => (hg2.block k (Nat.lt_of_lt_of_le hk HGJ1.out.size) (fun e => by have := hne _ e.symm; omega)).trans (HGJ1.out.block k hk hkn)⟩
                have co2 : w2.cell? ⟨w.heap.size + 1, j, none⟩ = some (.slice A2 i c2) := by rw [HBO2.out.cell j]; simp [HJH.out]
                have fo2 := HBO2.out.free j
                have HFIN : Hid (Acc encU wj.heap.size 22 (fun g => wj.heap.size ≤ g) (w2.setCell ⟨w.heap.size + 1, j, none⟩ (.slice A3 (i + 1) c3)) (.slice A3 (i + 1) c3) (colI p (l.take (i + 1)) j) ∧ Bk (w2.setCell ⟨w.heap.size + 1, j, none⟩ (.slice A3 (i + 1) c3)) (w.heap.size + 1) 29 (hs.set j (.slice A3 (i + 1) c3)).toArray ∧ wj.grownBy (w2.setCell ⟨w.heap.size + 1, j, none⟩ (.slice A3 (i + 1) c3)) (some (w.heap.size + 1)) ∧ Bk (w2.setCell ⟨w.heap.size + 1, j, none⟩ (.slice A3 (i + 1) c3)) w.heap.size 24 p.cells) := Lib.hid ⟨by
                    rw [HSN.out]
                    exact hacc2.keep (grownBy_set (World.grownBy.refl _ (some (w.heap.size + 1))) j _) (fun g hg e => by injection e with e; have := HLO.out; omega), (HBO2.out.set j _).of_eq (by simp), grownBy_set HGJ2.out j _, HBp2.out.far (by simp) _⟩
                clear hacc2 hg2 hm2 hne co lo cx
                go_wp2_with fail
                go_roundg q
                case measure => omega
                case rel => exact ⟨i + 1, _, by omega, by go_num, HFIN⟩
    | succ m =>
      have hjn : (j : Int) < (l.length : Int) := by omega
      have hjN : j < l.length := by omega
      have hg : w.grownBy wr none := by rw [HX.out]; exact HG0.out
      obtain ⟨g, o, c', u, e, _, _, hcu, hsu⟩ := (H.out.kept hg).atS hjN
      injection e with e1 e2 e3
      subst e1 e3
      obtain ⟨A1, c1, e1, _, _⟩ := hsu.form
      subst e1
      have HSN : Hid (wideI (l.take (j + 1)) = max n l[j].length) := Lib.hid (by rw [wide_snoc l j hjN, HN.out])
      have hnb : n ≤ 100000 := by rw [HN.out]; exact wide_le _ _ (fun c hc => HB2.out c (List.mem_of_mem_take hc))
      have hlb : l[j].length ≤ 100000 := HB2.out _ (List.getElem_mem hjN)
      clear hg hsu e2 HN
      generalize l[j].length = n1 at *
      go_wp2_with fail
      all_goals
        go_roundg m
        case measure => omega
        case rel => exact ⟨j + 1, max n n1, by omega, by go_num, by congr 1; omega, Lib.hid HSN.out.symm, HX⟩
end Go.Proofs.YthicondcjeipfaaGreatDoor

namespace Go.Proofs.YthicondcjeipfaaGreatDoor
open Go Go.RowKit Go.Shelf

attribute [local go_sem] Oper.semAt_some
theorem pairsU_any (A B : Option Addr) (m1 c1 m2 c2 : Nat) (w : World) :
    Calls Tryz.prog 82 #[.slice A m1 c1, .slice B m2 c2] w fun e w' => e = .returned (.func (.func 102) #[] #[.pointer (some ⟨w.heap.size, 0, none⟩), .pointer (some ⟨w.heap.size + 1, 0, none⟩)]) ∧ w' = (w.alloc (.cells #[.slice A m1 c1] 29)).alloc (.cells #[.slice B m2 c2] 29) := by
  go_enter Tryz.func82, Tryz.ntmps82
  go_wp2
  go_ret
  exact ⟨rfl, rfl⟩
theorem pairsS_any (A B : Option Addr) (m1 c1 m2 c2 : Nat) (w : World) :
    Calls Tryz.prog 81 #[.slice A m1 c1, .slice B m2 c2] w fun e w' => e = .returned (.func (.func 100) #[] #[.pointer (some ⟨w.heap.size, 0, none⟩), .pointer (some ⟨w.heap.size + 1, 0, none⟩)]) ∧ w' = (w.alloc (.cells #[.slice A m1 c1] 47)).alloc (.cells #[.slice B m2 c2] 47) := by
  go_enter Tryz.func81, Tryz.ntmps81
  go_wp2
  go_ret
  exact ⟨rfl, rfl⟩
theorem pairsM_any (A B : Option Addr) (m1 c1 m2 c2 : Nat) (w : World) :
    Calls Tryz.prog 72 #[.slice A m1 c1, .slice B m2 c2] w fun e w' => e = .returned (.func (.func 91) #[] #[.pointer (some ⟨w.heap.size, 0, none⟩), .pointer (some ⟨w.heap.size + 1, 0, none⟩)]) ∧ w' = (w.alloc (.cells #[.slice A m1 c1] 30)).alloc (.cells #[.slice B m2 c2] 30) := by
  go_enter Tryz.func72, Tryz.ntmps72
  go_wp2
  go_ret
  exact ⟨rfl, rfl⟩
theorem KpAB.b {n₀ Ba Bb : Nat} {w : World} (hn : n₀ ≤ w.heap.size) (ha : Ba < w.heap.size) (hb : Bb < w.heap.size) (W : World) (l : Nat) (o o' : Obj) (hl : w.heap.size ≤ l) (h : W.heap[l]? = some o) (h1 : o.isCells = false) (h2 : o.isWalk = false) : KpAB n₀ Ba Bb W (W.putObj l o') := by
  have hlt := (Array.getElem?_eq_some_iff.1 h).1
  have hg := grownBy_putObj' W l o'
  exact ⟨belowK_b hn W l o o' hl h h1 h2, hg.block _ (by omega) (fun e => by injection e with e; omega), hg.block _ (by omega) (fun e => by injection e with e; omega)⟩
theorem boxNe {W : World} {B : Nat} {t : TypeId} {v : Value} (h : Boxed W B t v) {row : Option Nat} (hr : ∀ r, row = some r → ∃ o : Obj, W.heap[r]? = some o ∧ o.isCells = false) : some B ≠ row := cell_ne h.cell hr
theorem Acc.keeps {α : Type} {E : Enc α} {base : Nat} {e : TypeId} {X : Nat → Prop} {w w' : World} {v : Value} {xs : List α} (h : Acc E base e X w v xs) (hg : w.grownBy w' v.ownBlock) : KeepsOthers w w' := KeepsOthers.of_grownBy hg fun j o ej hj => by
  obtain ⟨_, css, _, _, h3⟩ := h
  rcases h3.2 with ⟨rfl, _⟩ | ⟨g, cap, cur, rfl, _, hgb, _⟩
  · simp [Value.ownBlock] at ej
  · obtain rfl : g = j := by simpa [Value.ownBlock] using ej
    rw [hgb] at hj
    cases hj
    rfl
theorem keeps_none {w w' : World} (hg : w.grownBy w' none) : KeepsOthers w w' := KeepsOthers.of_grownBy hg (by simp)
section
variable {α : Type} {P : Program} {E : Enc α} {base : Nat} {e : TypeId} {X Y : Nat → Prop} {w : World} {v : Value} {xs : List α} {l0 n : Nat}
theorem wpListIn_push {cs : List Value} {y : α} {t : TypeId} {bytes : Nat} {ops : Array Oper} {rest : List Oper} {o : Oper} {a : Act} {Q : Exit → Act → World → Prop} (hgd : o.guard = none) (s x : Operand)
    (ho : o.op = .call { callee := .builtin .append, args := #[s, x], argTypes := #[t, t] }) (hE : ElemOk P t e E.size bytes) (hacc : Acc E base e X w v xs) (hs : a.eval s = v) (hx : a.eval x = .slice (some ⟨w.heap.size, 0, none⟩) 1 1) (hrep : E.rep (fun g => X g ∧ some g ≠ v.ownBlock) w cs y)
    (hlen : (xs.length + 1) * bytes ≤ 140737488355328) (hb : base ≤ w.heap.size) (hN : ∀ g, w.heap.size ≤ g → X g)
    (h : ∀ v' w', Acc E base e X w' v' (xs ++ [y]) → w.grownBy w' v.ownBlock → Moved w v v' → wpListIn (Fence.wide.inRound l0) n P ops Q rest (a.put o.dst v') w') : wpListIn (Fence.wide.inRound l0) n P ops Q (o :: rest) a (w.alloc (.cells cs.toArray e)) :=
  wpListIn_plain hgd fun K hK => operIn_of_wp (R := fun _ _ => True) (K := K) (K' := K) (by rw [ho]; intro c hc; cases hc) (fun _ _ h => h) (push_core hE hacc hrep hlen hb hN s x ho hs hx fun v' w' h1 h2 h3 => hK _ _ (h v' w' h1 h2 h3))
end
theorem pairsS_stops (n : Nat) (hn : 1 ≤ n) (Ba Bb : Nat) (va vb : Value) (a b : List (List Int)) (X : Nat → Prop) (w₀ w1 : World) (G : List Int → Prop) (hG0 : G []) (hGa : ∀ c ∈ a, G c) (hGb : ∀ c ∈ b, G c) (h01 : Below w₀.heap.size w₀ w1) (hBa : Boxed w1 Ba 47 va) (hBb : Boxed w1 Bb 47 vb) (hA : Sl (encS encU) X w₀ va a) (hB : Sl (encS encU) X w₀ vb b) :
    SeqStopsK Fence.wide n Tryz.prog 100 #[.pointer (some ⟨Ba, 0, none⟩), .pointer (some ⟨Bb, 0, none⟩)] (fun x : SS encU X w₀ G => #[x.1.1.1, x.1.2.1]) (KpAB w₀.heap.size Ba Bb) (fun ys => ys.map SS.lists = zipS a b) (fun _ => True) (zipS a b).length w1 := fun l J Jx W hW hJ _ hY h0 =>
  pairsS_in n hn l Ba Bb va vb a b X w₀ G hG0 hGa hGb J Jx hY W hJ (h01.trans (hW.mono h01.size)) ((hW.5 Ba hBa.lt).trans hBa) ((hW.5 Bb hBb.lt).trans hBb) hA hB h0
theorem pairsU_stops (n : Nat) (hn : 1 ≤ n) (Ba Bb : Nat) (va vb : Value) (a b : List Int) (X : Nat → Prop) (w₀ w1 : World) (h01 : Below w₀.heap.size w₀ w1) (hBa : Boxed w1 Ba 29 va) (hBb : Boxed w1 Bb 29 vb) (hA : Sl encU X w₀ va a) (hB : Sl encU X w₀ vb b) :
    SeqStopsK Fence.wide n Tryz.prog 102 #[.pointer (some ⟨Ba, 0, none⟩), .pointer (some ⟨Bb, 0, none⟩)] (fun x : UU => #[.int .u64 x.1.1, .int .u64 x.1.2]) (KpAB w₀.heap.size Ba Bb) (fun ys => ys.map Subtype.val = zipU a b) (fun _ => True) (zipU a b).length w1 := fun l J Jx W hW hJ _ hY h0 =>
  pairsU_in n hn l Ba Bb va vb a b X J Jx w₀ hY W hJ (h01.trans (hW.mono h01.size)) ((hW.5 Ba hBa.lt).trans hBa) ((hW.5 Bb hBb.lt).trans hBb) hA hB h0
theorem pairsM_stops (n : Nat) (hn : 1 ≤ n) (Ba Bb : Nat) (va vb : Value) (a b : List (List (List Int))) (X : Nat → Prop) (w₀ w1 : World) (G : List (List Int) → Prop) (hG0 : G []) (hGa : ∀ c ∈ a, G c) (hGb : ∀ c ∈ b, G c) (h01 : Below w₀.heap.size w₀ w1) (hBa : Boxed w1 Ba 30 va) (hBb : Boxed w1 Bb 30 vb) (hA : Sl (encS (encS encU)) X w₀ va a) (hB : Sl (encS (encS encU)) X w₀ vb b) :
    SeqStopsK Fence.wide n Tryz.prog 91 #[.pointer (some ⟨Ba, 0, none⟩), .pointer (some ⟨Bb, 0, none⟩)] (fun x : SS (encS encU) X w₀ G => #[x.1.1.1, x.1.2.1]) (KpAB w₀.heap.size Ba Bb) (fun ys => ys.map SS.lists = zipS a b) (fun _ => True) (zipS a b).length w1 := fun l J Jx W hW hJ _ hY h0 =>
  pairsM_in n hn l Ba Bb va vb a b X w₀ G hG0 hGa hGb J Jx hY W hJ (h01.trans (hW.mono h01.size)) ((hW.5 Ba hBa.lt).trans hBa) ((hW.5 Bb hBb.lt).trans hBb) hA hB h0
end Go.Proofs.YthicondcjeipfaaGreatDoor
