/- What the walks of all texts share: small laws; no function of the program. Words for memory, turned to this claim: a slice that reads as a list of one-cell values; a block that is known whole. Data in memory, told by what it reads as: numbers, pairs, slices of them, however deep. append onto a slice of the call's own, told by what it reads as. Slices that may be written; parts of slices; pieces of lists. A region that draws its order, walked ONCE, in the order of its text: each operation (but for a tail that waits for all of them) leaves what lay there as it was, and tells a value of which something is known in every world grown from the region's first. A region that draws its order and writes while it goes on: walked once, when each operation tells one and the same value, and where the worlds stand is told by which operations were carried out. math/bits.Len64, LeadingZeros64 and Div64, walked. The plain arithmetic of bits.Div64: Knuth's division by two halves. No program in sight. math/bits.Div64, walked. Congruences of integers. No program in sight. math/bits.Div64 over Int. The contracts of mod.may, Add, Sub and of bits.Mul64, walked. math/bits.Rem64, mod.Mul and Pow, walked. group.Times, walked; params as data. Inverses modulo m, by Euclid's steps. No program in sight. mod.Inv, walked. The reference's Add, Sub, Mul, Pow (consistoryref01), walked: they answer what mod's do. group.Power, Commit, At, Is, walked. Sums, differences, products modulo a number, and inverses, as calls that leave what was there as it was. A drawn region in the round of a range over a function, at the wide fence, walked by the plain laws. The law for drawn regions, in a walk that meets rounds (the wide fence): the tail may call yield. A range over a function whose body never leaves, where what is handed over lies in memory that the iterator has just laid: the body is told what is known of it in the world in which it is called. pedersen.pairs, an iterator over two lists, walked. pedersen.pairs over lists of lists, and of lists of lists of lists; pairs itself; walked. What slices hold. pedersen.Share, turned, RowComs, ColComs, Fits; slices.Equal of numbers; walked. pedersen.pairs' contracts and pedersen.Coms. -/
import Derived.Test.YtlhjbllfcbojmaaProg
import Derived.WalkKit
import Derived.WalkSpells
import Derived.WalkLawsBesides
import Derived.Handy
import Derived.Deep.QuietTactic
import Derived.BigQuiet
import Derived.Lib.Hide
import Derived.Lib.Mul64
import Derived.Laws.Bits64b
import Derived.Below
import Derived.Deep.Draws
import Derived.Laws.Rows
import Derived.Laws.OwnMore
import Derived.Maps.AppendAt
import Derived.OwnWalk
import Derived.Deep.AppendLies
import Derived.RangeFuncOwn
import Derived.RegionTactic
import Derived.Orders
import Derived.StillTail
import Derived.Lib.Strings
import Derived.Lib.Slices
import Derived.Lib.Small
import Derived.Lib.Walk
import Derived.Lib.BitFns
import Derived.Deep.Light
import Derived.Deep.CutBlock
import Derived.Deep.DeepCutAuto
import Derived.KernelRfl
import Derived.WalkSmall
import Derived.Deep.LoopGhost
import Derived.Outline
import Derived.Deep.RegionHeld3
import Derived.Deep.RegionWith
import Derived.RangeFuncNested
import Derived.RangeFuncCalls
import Derived.OwnWalkIn
import Derived.OrdersIn
import Derived.TacticsIn
import Derived.RangeFuncBound
import Derived.RangeFuncLeaves
import Derived.Shelf.Abstract
import Derived.Shelf.RegionOpen
import Derived.TacticsInMore
import Derived.LoopNIn
import Derived.LoopIn
import Derived.Stop.RegionWithIn
import Derived.Deep.OwnRows
import Derived.IntWalk
namespace Go.Proofs.Ytlhjbllfcbojmaa
open Go.RowKit

theorem quiet_add {P : Program} {f : FuncId} {args : Array Value} {w : World} {a n : Nat} {v : Value}
    (h : Calls P f args (w.drewN (a + n)) fun e w' => e = .returned v ∧ ∃ m, w' = (w.drewN (a + n)).drewN m) :
    Calls P f args (w.drewN (a + n)) fun e w'' => e = .returned v ∧ ∃ m, w'' = w.drewN (a + m) :=
  h.mono fun _ _ ⟨he, m, hm⟩ => ⟨he, n + m, by rw [hm, World.drewN_drewN, Nat.add_assoc]⟩
def U64 (a : Int) : Prop := 0 ≤ a ∧ a < 18446744073709551616
namespace Mul64
theorem maskN (a : Nat) (ha : a < 18446744073709551616) : bits .and .u64 (a : Int) 4294967295 = ((a % 4294967296 : Nat) : Int) := by
  have h := bits_and_u64_nat a 4294967295 ha (by omega)
  have e : a &&& 4294967295 = a % 4294967296 := Nat.and_two_pow_sub_one_eq_mod a 32
  rw [e] at h
  exact h
theorem divN (a : Nat) : (a : Int) / 4294967296 = ((a / 4294967296 : Nat) : Int) := by omega
theorem mulN (a b : Nat) : (a : Int) * (b : Int) = ((a * b : Nat) : Int) := (Int.natCast_mul a b).symm
theorem addN (a b : Nat) : (a : Int) + (b : Int) = ((a + b : Nat) : Int) := (Int.natCast_add a b).symm
theorem wrapN (a : Nat) (ha : a < 18446744073709551616) : IntKind.u64.wrap (a : Int) = (a : Int) := by rw [IntKind.wrap_u64]; omega
theorem wrapM (a : Nat) : IntKind.u64.wrap (a : Int) = ((a % 18446744073709551616 : Nat) : Int) := by rw [IntKind.wrap_u64]; omega
end Mul64

end Go.Proofs.Ytlhjbllfcbojmaa

namespace Go.Proofs.Ytlhjbllfcbojmaa
open Go.RowKit

/-- The slice's address A leads to the cells xs. -/
def Rd (w : World) (A : Option Addr) (xs : List Value) : Prop :=
  xs ≠ [] → ∃ g o, A = some ⟨g, o, none⟩ ∧ g < w.heap.size ∧ ∀ j u, xs[j]? = some u → w.cell? ⟨g, o + j, none⟩ = some u
theorem Rd.nil (w : World) (A : Option Addr) : Rd w A [] := fun h => absurd rfl h
theorem Rd.keep {w w' : World} {A : Option Addr} {xs : List Value} (h : Rd w A xs) (hs : w.heap.size ≤ w'.heap.size) (hk : ∀ g o, A = some ⟨g, o, none⟩ → g < w.heap.size → w'.heap[g]? = w.heap[g]?) : Rd w' A xs := fun hn => by
  obtain ⟨g, o, e, hg, hc⟩ := h hn
  refine ⟨g, o, e, by omega, fun j u hu => ?_⟩
  rw [World.cell?_of_block (w := w) (hk g o e hg)]
  exact hc j u hu
theorem Rd.at {w : World} {A : Option Addr} {xs : List Value} (h : Rd w A xs) {k : Nat} (hk : k < xs.length) : ∃ g o, A = some ⟨g, o, none⟩ ∧ g < w.heap.size ∧ w.cell? ⟨g, o + k, none⟩ = some xs[k] := by
  obtain ⟨g, o, e, hg, hc⟩ := h (by intro h0; rw [h0] at hk; exact absurd hk (by simp))
  exact ⟨g, o, e, hg, hc k _ (List.getElem?_eq_getElem hk)⟩
theorem Rd.tail {w : World} {g o : Nat} {x : Value} {xs : List Value} (h : Rd w (some ⟨g, o, none⟩) (x :: xs)) : Rd w (some ⟨g, o + 1, none⟩) xs := fun _ => by
  obtain ⟨g', o', e, hg, hc⟩ := h (by simp)
  simp only [Option.some.injEq, Addr.mk.injEq] at e
  obtain ⟨rfl, rfl, _⟩ := e
  exact ⟨_, _, rfl, hg, fun j u hu => by rw [show o + 1 + j = o + (j + 1) by omega]; exact hc (j + 1) u (by simpa using hu)⟩
theorem Rd.drop {w : World} {g o : Nat} {xs : List Value} (h : Rd w (some ⟨g, o, none⟩) xs) (k : Nat) : Rd w (some ⟨g, o + k, none⟩) (xs.drop k) := fun hn => by
  obtain ⟨g', o', e, hg, hc⟩ := h (by intro h0; rw [h0] at hn; simp at hn)
  simp only [Option.some.injEq, Addr.mk.injEq] at e
  obtain ⟨rfl, rfl, _⟩ := e
  exact ⟨_, _, rfl, hg, fun j u hu => by rw [show o + k + j = o + (k + j) by omega]; exact hc (k + j) u (by simpa using hu)⟩
theorem Rd.take {w : World} {A : Option Addr} {xs : List Value} (h : Rd w A xs) (k : Nat) : Rd w A (xs.take k) := fun hn => by
  obtain ⟨g, o, e, hg, hc⟩ := h (by intro h0; rw [h0] at hn; simp at hn)
  exact ⟨g, o, e, hg, fun j u hu => hc j u (by rw [List.getElem?_take] at hu; split at hu; exact hu; cases hu)⟩
theorem Rd.grown {w w' : World} {row : Option Nat} {A : Option Addr} {xs : List Value} (h : Rd w A xs) (hg : w.grownBy w' row) (hr : ∀ g o, A = some ⟨g, o, none⟩ → some g ≠ row) : Rd w' A xs :=
  h.keep hg.size fun g o e hlt => hg.block g hlt (hr g o e)
theorem Rd.own {w : World} {base n c : Nat} {e : TypeId} {A : Option Addr} {xs : List Value} (h : w.ownsRow base e 1 (.slice A n c) n xs) : Rd w A xs := fun hn => by
  have hl := h.1
  rcases h.2 with ⟨_, h0⟩ | ⟨g, cap, cur, hv, _, hh, _, _, _, hx⟩
  · subst h0
    exact absurd (List.eq_nil_of_length_eq_zero (by simpa using hl)) hn
  · have hA : A = some ⟨g, 0, none⟩ := by injection hv
    subst hA
    refine ⟨g, 0, rfl, ?_, fun j u hu => ?_⟩
    · rcases Nat.lt_or_ge g w.heap.size with hlt | hge
      · exact hlt
      · rw [Array.getElem?_eq_none hge] at hh; cases hh
    · rw [Nat.zero_add, cell_of_row w g j cur e (0, 0) hh, ← Array.getElem?_toList]
      rw [← hx, List.getElem?_take] at hu
      split at hu
      · exact hu
      · cases hu

/-- Block g holds just the cells cs, of type t; none is frozen. -/
def Bk (w : World) (g : Nat) (t : TypeId) (cs : Array Value) : Prop := w.heap[g]? = some (.cells cs t (0, 0))
theorem Bk.lt {w : World} {g : Nat} {t : TypeId} {cs : Array Value} (h : Bk w g t cs) : g < w.heap.size := by
  rcases Nat.lt_or_ge g w.heap.size with hlt | hge
  · exact hlt
  · unfold Bk at h; rw [Array.getElem?_eq_none hge] at h; cases h
theorem Bk.cell {w : World} {g : Nat} {t : TypeId} {cs : Array Value} (h : Bk w g t cs) (i : Nat) : w.cell? ⟨g, i, none⟩ = cs[i]? := cell_of_row w g i cs t (0, 0) h
theorem Bk.free {w : World} {g : Nat} {t : TypeId} {cs : Array Value} (h : Bk w g t cs) (i : Nat) : w.frozen? ⟨g, i, none⟩ = false := by
  unfold Bk at h
  simp [World.frozen?, h]
theorem Bk.new (w : World) (t : TypeId) (cs : Array Value) : Bk (w.alloc (.cells cs t)) w.heap.size t cs := heap_alloc_new w _
theorem Bk.alloc {w : World} {g : Nat} {t : TypeId} {cs : Array Value} (h : Bk w g t cs) (o : Obj) : Bk (w.alloc o) g t cs := (Below.heap_alloc w o g h.lt).trans h
theorem Bk.set {w : World} {g : Nat} {t : TypeId} {cs : Array Value} (h : Bk w g t cs) (i : Nat) (u : Value) : Bk (w.setCell ⟨g, i, none⟩ u) g t (cs.setIfInBounds i u) := by
  unfold Bk at h ⊢
  simp [World.setCell, Array.getElem?_modify, h]
theorem Bk.far {w : World} {g : Nat} {t : TypeId} {cs : Array Value} (h : Bk w g t cs) {p : Addr} (hp : g ≠ p.block) (u : Value) : Bk (w.setCell p u) g t cs := (Below.heap_setCell w p u g hp).trans h
theorem Bk.drewN {w : World} {g : Nat} {t : TypeId} {cs : Array Value} (h : Bk w g t cs) (n : Nat) : Bk (w.drewN n) g t cs := h
theorem Bk.grown {w w' : World} {g : Nat} {t : TypeId} {cs : Array Value} {row : Option Nat} (h : Bk w g t cs) (hb : w.grownBy w' row) (hg : some g ≠ row) : Bk w' g t cs := (hb.block g h.lt hg).trans h

theorem grownBy_drewN {w w' : World} {row : Option Nat} (h : w.grownBy w' row) (n : Nat) : w.grownBy (w'.drewN n) row := ⟨h.os, h.tape, h.output, h.size, h.block⟩
theorem Bk.of_eq {w : World} {g : Nat} {t : TypeId} {cs cs' : Array Value} (h : Bk w g t cs) (e : cs = cs') : Bk w g t cs' := e ▸ h
def nums (l : List Int) : List Value := l.map (Value.int .u64)
theorem Rd.addr {w : World} {x : Addr} {xs : List Value} (h : Rd w (some x) xs) : ∀ j u, xs[j]? = some u → w.cell? (x.add j) = some u := by
  intro j u hu
  obtain ⟨g, o, e, hg, hc⟩ := h (by intro h0; rw [h0] at hu; simp at hu)
  simp only [Option.some.injEq] at e
  subst e
  have hj := hc j u hu
  unfold Addr.add
  split
  · rename_i h0
    have : j = 0 := by simpa using h0
    subst this
    exact hj
  · exact hj

theorem grown_up {w w0 w1 : World} {row : Option Nat} (h : w.grownBy w0 none) (k : w0.grownBy w1 row) (hr : ∀ g, row = some g → w.heap.size ≤ g) : w.grownBy w1 none :=
  ⟨k.os.trans h.os, k.tape.trans h.tape, k.output.trans h.output, Nat.le_trans h.size k.size, fun i hi _ => (k.block i (Nat.lt_of_lt_of_le hi h.size) (fun e => by have := hr i e.symm; omega)).trans (h.block i hi (by simp))⟩
/-- What a call leaves that writes nothing that was there. -/
theorem below_grown {w w' : World} (h : w.grownBy w' none) : Below w.heap.size w w' := ⟨h.os, h.tape, h.output, h.size, fun k hk => h.block k hk (by simp)⟩
end Go.Proofs.Ytlhjbllfcbojmaa

namespace Go.Proofs.Ytlhjbllfcbojmaa
open Go.RowKit

def I64 (a : Int) : Prop := -9223372036854775808 ≤ a ∧ a ≤ 9223372036854775807

/-- How a thing of a kind lies in cells; X: in which blocks what it leads to may lie. -/
structure Enc (α : Type) where
  size : Nat
  pos : 0 < size
  rep : (Nat → Prop) → World → List Value → α → Prop
  len : ∀ {X w cs x}, rep X w cs x → cs.length = size
  ones : ∀ {X w cs x}, rep X w cs x → ∀ u ∈ cs, u.oneCell' = true
  keep : ∀ {X w w' row cs x}, rep X w cs x → w.grownBy w' row → (∀ g, X g → some g ≠ row) → rep X w' cs x
  more : ∀ {X Y w cs x}, rep X w cs x → (∀ g, g < w.heap.size → X g → Y g) → rep Y w cs x
  keepc : ∀ {X w w' row cs x}, rep X w cs x → w.grownBy w' row → (∀ r, row = some r → ∃ o : Obj, w.heap[r]? = some o ∧ o.isCells = false) → rep X w' cs x

/-- A number of 64 bits. -/
def encU : Enc Int where
  size := 1
  pos := by decide
  rep := fun _ _ cs n => cs = [.int .u64 n] ∧ U64 n
  len := fun h => by rw [h.1]; rfl
  ones := fun h u hu => by rw [h.1] at hu; simp at hu; subst hu; rfl
  keep := fun h _ _ => h
  more := fun h _ => h
  keepc := fun h _ _ => h
/-- A number with a sign. -/
def encI : Enc Int where
  size := 1
  pos := by decide
  rep := fun _ _ cs n => cs = [.int .i64 n] ∧ I64 n
  len := fun h => by rw [h.1]; rfl
  ones := fun h u hu => by rw [h.1] at hu; simp at hu; subst hu; rfl
  keep := fun h _ _ => h
  more := fun h _ => h
  keepc := fun h _ _ => h
/-- A pair of numbers. -/
def encP : Enc (Int × Int) where
  size := 2
  pos := by decide
  rep := fun _ _ cs x => cs = [.int .u64 x.1, .int .u64 x.2] ∧ U64 x.1 ∧ U64 x.2
  len := fun h => by rw [h.1]; rfl
  ones := fun h u hu => by rw [h.1] at hu; simp at hu; rcases hu with rfl | rfl <;> rfl
  keep := fun h _ _ => h
  more := fun h _ => h
  keepc := fun h _ _ => h

/-- The slice value v reads as the things xs. -/
def Sl {α : Type} (E : Enc α) (X : Nat → Prop) (w : World) (v : Value) (xs : List α) : Prop :=
  ∃ A c, v = .slice A xs.length c ∧ xs.length ≤ c ∧ c ≤ 9223372036854775807 ∧
    (xs ≠ [] → ∃ g o, A = some ⟨g, o, none⟩ ∧ g < w.heap.size ∧ X g ∧
      ∀ i (h : i < xs.length), ∃ cs, E.rep X w cs xs[i] ∧ ∀ j u, cs[j]? = some u → w.cell? ⟨g, o + i * E.size + j, none⟩ = some u)

section
variable {α : Type} {E : Enc α} {X Y : Nat → Prop} {w w' : World} {v : Value} {xs : List α}
theorem Sl.nil (E : Enc α) (X : Nat → Prop) (w : World) : Sl E X w (.slice none 0 0) [] := ⟨none, 0, rfl, Nat.le_refl _, by omega, fun h => absurd rfl h⟩
theorem Sl.keep (h : Sl E X w v xs) {row : Option Nat} (hg : w.grownBy w' row) (hX : ∀ g, X g → some g ≠ row) : Sl E X w' v xs := by
  obtain ⟨A, c, e, h1, h2, h3⟩ := h
  refine ⟨A, c, e, h1, h2, fun hn => ?_⟩
  obtain ⟨g, o, eA, hgl, hXg, hc⟩ := h3 hn
  refine ⟨g, o, eA, Nat.lt_of_lt_of_le hgl hg.size, hXg, fun i hi => ?_⟩
  obtain ⟨cs, hr, hcell⟩ := hc i hi
  exact ⟨cs, E.keep hr hg hX, fun j u hu => by rw [World.cell?_of_block (w := w) (hg.block g hgl (hX g hXg))]; exact hcell j u hu⟩
/-- A block of cells is none that is no cells. -/
theorem cell_ne {g o : Nat} {u : Value} {row : Option Nat} (hc : w.cell? ⟨g, o, none⟩ = some u) (hr : ∀ r, row = some r → ∃ o : Obj, w.heap[r]? = some o ∧ o.isCells = false) : some g ≠ row := fun e => by
  obtain ⟨ob, ho, hn⟩ := hr g e.symm
  unfold World.cell? at hc
  simp only [ho] at hc
  cases ob with
  | cells => cases hn
  | _ => simp at hc
theorem Sl.keepc (h : Sl E X w v xs) {row : Option Nat} (hg : w.grownBy w' row) (hr : ∀ r, row = some r → ∃ o : Obj, w.heap[r]? = some o ∧ o.isCells = false) : Sl E X w' v xs := by
  obtain ⟨A, c, e, h1, h2, h3⟩ := h
  refine ⟨A, c, e, h1, h2, fun hn => ?_⟩
  obtain ⟨g, o, eA, hgl, hXg, hc⟩ := h3 hn
  have hpos : 0 < xs.length := List.length_pos_iff.2 hn
  obtain ⟨cs0, hr0, hc0⟩ := hc 0 hpos
  have hl0 := E.len hr0
  have hne : some g ≠ row := cell_ne (hc0 0 _ (List.getElem?_eq_getElem (by rw [hl0]; exact E.pos))) hr
  refine ⟨g, o, eA, Nat.lt_of_lt_of_le hgl hg.size, hXg, fun i hi => ?_⟩
  obtain ⟨cs, hrp, hcell⟩ := hc i hi
  exact ⟨cs, E.keepc hrp hg hr, fun j u hu => by rw [World.cell?_of_block (w := w) (hg.block g hgl hne)]; exact hcell j u hu⟩
theorem Sl.kept (h : Sl E X w v xs) (hg : w.grownBy w' none) : Sl E X w' v xs := h.keep hg (by simp)
theorem Sl.more (h : Sl E X w v xs) (hX : ∀ g, g < w.heap.size → X g → Y g) : Sl E Y w v xs := by
  obtain ⟨A, c, e, h1, h2, h3⟩ := h
  refine ⟨A, c, e, h1, h2, fun hn => ?_⟩
  obtain ⟨g, o, eA, hgl, hXg, hc⟩ := h3 hn
  refine ⟨g, o, eA, hgl, hX g hgl hXg, fun i hi => ?_⟩
  obtain ⟨cs, hr, hcell⟩ := hc i hi
  exact ⟨cs, E.more hr hX, hcell⟩
theorem Sl.form (h : Sl E X w v xs) : ∃ A c, v = .slice A xs.length c ∧ xs.length ≤ c ∧ c ≤ 9223372036854775807 := by
  obtain ⟨A, c, e, h1, h2, _⟩ := h
  exact ⟨A, c, e, h1, h2⟩
theorem Sl.bound (h : Sl E X w v xs) : xs.length ≤ 9223372036854775807 := by
  obtain ⟨A, c, e, h1, h2, _⟩ := h
  omega
theorem Sl.at (h : Sl E X w v xs) {k : Nat} (hk : k < xs.length) : ∃ g o c cs, v = .slice (some ⟨g, o, none⟩) xs.length c ∧ g < w.heap.size ∧ X g ∧ E.rep X w cs xs[k] ∧ ∀ j u, cs[j]? = some u → w.cell? ⟨g, o + k * E.size + j, none⟩ = some u := by
  obtain ⟨A, c, e, h1, h2, h3⟩ := h
  obtain ⟨g, o, rfl, hgl, hXg, hc⟩ := h3 (by intro h0; rw [h0] at hk; exact absurd hk (by simp))
  obtain ⟨cs, hr, hcell⟩ := hc k hk
  exact ⟨g, o, c, cs, e, hgl, hXg, hr, hcell⟩
end
theorem Sl.atU {X : Nat → Prop} {w : World} {v : Value} {xs : List Int} (h : Sl encU X w v xs) {k : Nat} (hk : k < xs.length) :
    ∃ g o c, v = .slice (some ⟨g, o, none⟩) xs.length c ∧ g < w.heap.size ∧ X g ∧ w.cell? ⟨g, o + k, none⟩ = some (.int .u64 xs[k]) ∧ U64 xs[k] := by
  obtain ⟨g, o, c, cs, e, hg, hX, ⟨rfl, hu⟩, hc⟩ := h.at hk
  have h0 := hc 0 _ rfl
  rw [show encU.size = 1 from rfl, Nat.mul_one] at h0
  exact ⟨g, o, c, e, hg, hX, h0, hu⟩
theorem Sl.atI {X : Nat → Prop} {w : World} {v : Value} {xs : List Int} (h : Sl encI X w v xs) {k : Nat} (hk : k < xs.length) :
    ∃ g o c, v = .slice (some ⟨g, o, none⟩) xs.length c ∧ g < w.heap.size ∧ X g ∧ w.cell? ⟨g, o + k, none⟩ = some (.int .i64 xs[k]) ∧ I64 xs[k] := by
  obtain ⟨g, o, c, cs, e, hg, hX, ⟨rfl, hu⟩, hc⟩ := h.at hk
  have h0 := hc 0 _ rfl
  rw [show encI.size = 1 from rfl, Nat.mul_one] at h0
  exact ⟨g, o, c, e, hg, hX, h0, hu⟩
theorem Sl.atP {X : Nat → Prop} {w : World} {v : Value} {xs : List (Int × Int)} (h : Sl encP X w v xs) {k : Nat} (hk : k < xs.length) :
    ∃ g o c, v = .slice (some ⟨g, o, none⟩) xs.length c ∧ g < w.heap.size ∧ X g ∧ w.cell? ⟨g, o + k * 2, none⟩ = some (.int .u64 xs[k].1) ∧ w.cell? ⟨g, o + k * 2 + 1, none⟩ = some (.int .u64 xs[k].2) ∧ U64 xs[k].1 ∧ U64 xs[k].2 := by
  obtain ⟨g, o, c, cs, e, hg, hX, ⟨rfl, hu⟩, hc⟩ := h.at hk
  exact ⟨g, o, c, e, hg, hX, hc 0 _ rfl, hc 1 _ rfl, hu⟩

/-- A slice of things, as a thing. -/
def encS {α : Type} (E : Enc α) : Enc (List α) where
  size := 1
  pos := by decide
  rep := fun X w cs xs => ∃ v, cs = [v] ∧ Sl E X w v xs
  len := fun h => by obtain ⟨v, rfl, _⟩ := h; rfl
  ones := fun h u hu => by
    obtain ⟨v, rfl, A, c, rfl, _⟩ := h
    simp at hu
    subst hu
    rfl
  keep := fun h hg hX => by obtain ⟨v, e, h⟩ := h; exact ⟨v, e, h.keep hg hX⟩
  more := fun h hX => by obtain ⟨v, e, h⟩ := h; exact ⟨v, e, h.more hX⟩
  keepc := fun h hg hr => by obtain ⟨v, e, h⟩ := h; exact ⟨v, e, h.keepc hg hr⟩
theorem Sl.atS {α : Type} {E : Enc α} {X : Nat → Prop} {w : World} {v : Value} {xs : List (List α)} (h : Sl (encS E) X w v xs) {k : Nat} (hk : k < xs.length) :
    ∃ g o c u, v = .slice (some ⟨g, o, none⟩) xs.length c ∧ g < w.heap.size ∧ X g ∧ w.cell? ⟨g, o + k, none⟩ = some u ∧ Sl E X w u xs[k] := by
  obtain ⟨g, o, c, cs, e, hg, hX, ⟨u, rfl, hu⟩, hc⟩ := h.at hk
  have h0 := hc 0 _ rfl
  rw [show (encS E).size = 1 from rfl, Nat.mul_one] at h0
  exact ⟨g, o, c, u, e, hg, hX, h0, hu⟩

theorem flatten_at {css : List (List Value)} {m : Nat} (hl : ∀ i (h : i < css.length), css[i].length = m) : ∀ {i : Nat} (hi : i < css.length) {j : Nat} {u : Value}, css[i][j]? = some u → css.flatten[i * m + j]? = some u := by
  induction css with
  | nil => intro i hi; exact absurd hi (by simp)
  | cons c css ih =>
    intro i hi j u hu
    have hc : c.length = m := hl 0 (by simp)
    cases i with
    | zero =>
      simp only [List.getElem_cons_zero] at hu
      have hj : j < c.length := (List.getElem?_eq_some_iff.1 hu).1
      rw [List.flatten_cons, Nat.zero_mul, Nat.zero_add, List.getElem?_append_left hj]
      exact hu
    | succ i =>
      simp only [List.getElem_cons_succ] at hu
      have h := ih (fun i h => hl (i + 1) (by simpa using h)) (by simpa using hi) hu
      rw [List.flatten_cons, List.getElem?_append_right (by rw [hc, Nat.add_mul]; omega), hc]
      rw [show (i + 1) * m + j - m = i * m + j by rw [Nat.add_mul]; omega]
      exact h

/-- The slice value v is one of the call's own, from block base on, and reads as the things xs, which do not lie in its row. -/
def Acc {α : Type} (E : Enc α) (base : Nat) (e : TypeId) (X : Nat → Prop) (w : World) (v : Value) (xs : List α) : Prop :=
  (∀ g, v.ownBlock = some g → X g) ∧ ∃ css : List (List Value), css.length = xs.length ∧ (∀ i (h : i < xs.length) (h' : i < css.length), E.rep (fun g => X g ∧ some g ≠ v.ownBlock) w css[i] xs[i]) ∧ w.ownsRow base e E.size v xs.length css.flatten
section
variable {α : Type} {E : Enc α} {base : Nat} {e : TypeId} {X Y : Nat → Prop} {w w' : World} {v : Value} {xs : List α}
theorem Acc.nil (E : Enc α) (base : Nat) (e : TypeId) (X : Nat → Prop) (w : World) : Acc E base e X w (.slice none 0 0) [] := ⟨by simp [Value.ownBlock], [], rfl, fun i h => absurd h (by simp), World.ownsRow_nil _ _ _ _⟩
theorem Acc.keep (h : Acc E base e X w v xs) {row : Option Nat} (hg : w.grownBy w' row) (hX : ∀ g, X g → some g ≠ row) : Acc E base e X w' v xs := by
  obtain ⟨hb, css, h1, h2, h3⟩ := h
  refine ⟨hb, css, h1, fun i hi hi' => E.keep (h2 i hi hi') hg fun g hg => hX g hg.1, h3.kept hg ?_⟩
  rcases hv : v.ownBlock with _ | g
  · exact .inl rfl
  · exact .inr (hX g (hb g hv))
theorem Acc.keepc (h : Acc E base e X w v xs) {row : Option Nat} (hg : w.grownBy w' row) (hr : ∀ r, row = some r → ∃ o : Obj, w.heap[r]? = some o ∧ o.isCells = false) : Acc E base e X w' v xs := by
  obtain ⟨hb, css, h1, h2, h3⟩ := h
  refine ⟨hb, css, h1, fun i hi hi' => E.keepc (h2 i hi hi') hg hr, h3.kept hg ?_⟩
  rcases h3.2 with ⟨rfl, _⟩ | ⟨g, cap, cur, rfl, _, hh, _⟩
  · exact .inl rfl
  · refine .inr fun hr' => ?_
    obtain ⟨ob, ho, hn⟩ := hr g hr'.symm
    rw [hh] at ho
    injection ho with ho
    subst ho
    cases hn
theorem Acc.kept (h : Acc E base e X w v xs) (hg : w.grownBy w' none) : Acc E base e X w' v xs := h.keep hg (by simp)
theorem Acc.more (h : Acc E base e X w v xs) (hX : ∀ g, g < w.heap.size → X g → Y g) : Acc E base e Y w v xs := by
  obtain ⟨hb, css, h1, h2, h3⟩ := h
  exact ⟨fun g hv => hX g (h3.lt g hv).2 (hb g hv), css, h1, fun i hi hi' => E.more (h2 i hi hi') fun g hl hg => ⟨hX g hl hg.1, hg.2⟩, h3⟩
theorem Acc.sl (h : Acc E base e X w v xs) : Sl E X w v xs := by
  obtain ⟨hb, css, h1, h2, h3⟩ := h
  have hlen : ∀ i (h : i < css.length), css[i].length = E.size := fun i h => E.len (h2 i (by omega) h)
  rcases h3.2 with ⟨hv, h0⟩ | ⟨g, cap, cur, hv, _, hh, hnc, hcm, _, hx⟩
  · refine ⟨none, 0, by rw [hv, h0], by omega, by omega, fun hn => absurd (List.eq_nil_of_length_eq_zero h0) hn⟩
  · refine ⟨some ⟨g, 0, none⟩, cap, hv, hnc, hcm, fun _ => ⟨g, 0, rfl, (h3.lt g (by rw [hv]; rfl)).2, hb g (by rw [hv]; rfl), fun i hi => ?_⟩⟩
    refine ⟨css[i]'(by omega), E.more (h2 i hi (by omega)) fun g _ hg => hg.1, fun j u hu => ?_⟩
    have hf := flatten_at hlen (i := i) (by omega) hu
    rw [Nat.zero_add, cell_of_row w g _ cur e (0, 0) hh, ← Array.getElem?_toList]
    rw [← hx, List.getElem?_take] at hf
    split at hf
    · exact hf
    · cases hf
theorem Acc.own (h : Acc E base e X w v xs) : ∃ cs, cs.length = xs.length * E.size ∧ w.ownsRow base e E.size v xs.length cs := by
  obtain ⟨_, css, _, _, h3⟩ := h
  exact ⟨_, h3.1, h3⟩
theorem Acc.lt (h : Acc E base e X w v xs) : ∀ g, v.ownBlock = some g → base ≤ g ∧ g < w.heap.size := by
  obtain ⟨_, css, _, _, h3⟩ := h
  exact h3.lt
end
end Go.Proofs.Ytlhjbllfcbojmaa

namespace Go.Proofs.Ytlhjbllfcbojmaa
open Go.RowKit

/-- Slice type t has elements of type e, of so many cells and bytes. -/
def ElemOk (P : Program) (t e : TypeId) (size bytes : Nat) : Prop :=
  0 < bytes ∧ P.underlying t = some (.slice e) ∧ ∃ i z, P.info? e = some i ∧ i.zero = some z ∧ i.size = size ∧ i.bytes = bytes ∧ z.cells.size = size
theorem ElemOk.mk' {P : Program} {t e : TypeId} {size bytes : Nat} {z : Value} (hb : 0 < bytes) (ht : P.underlying t = some (.slice e)) (h : (P.info? e).map (fun i => (i.zero, i.size, i.bytes)) = some (some z, size, bytes)) (hz : z.cells.size = size) : ElemOk P t e size bytes := by
  obtain ⟨i, hi, h0, h1, h2⟩ := info_parts h
  exact ⟨hb, ht, i, z, hi, h0, h1, h2, hz⟩

section
variable {α : Type} {P : Program} {E : Enc α} {base : Nat} {e : TypeId} {X Z : Nat → Prop} {w : World} {v : Value} {xs : List α}

theorem run_app {t ty : TypeId} {size bytes : Nat} (hE : ElemOk P t e size bytes) (hsz : 0 < size) {n : Nat} {cs : List Value} (hown : w.ownsRow base e size v n cs)
    (A : Option Addr) (m c : Nat) (news : List Value) (hl : news.length = m * size) (h0 : A = none → m = 0) (hc : ∀ ad, A = some ad → ∀ j u, news[j]? = some u → w.cell? (ad.add j) = some u)
    (h1 : ∀ u ∈ news, u.oneCell' = true) (hbytes : (n + m) * bytes ≤ 140737488355328) (hbase : base ≤ w.heap.size) :
    ∃ v' w', (Builtin.append_ #[t, t] ty #[v, .slice A m c]).run P w = .ok v' w' ∧ w'.ownsRow base e size v' (n + m) (cs ++ news) ∧ w.grownBy w' v.ownBlock ∧ (v'.ownBlock = v.ownBlock ∨ v'.ownBlock = some w.heap.size) := by
  obtain ⟨hb, ht, i, z, hi, hz, hz1, hz2, hz3⟩ := hE
  have h63 : n + m ≤ maxLen := by
    have : (n + m) * 1 ≤ (n + m) * bytes := Nat.mul_le_mul_left _ hb
    unfold maxLen
    omega
  cases A with
  | none =>
    have hm := h0 rfl
    subst hm
    have hn : news = [] := List.eq_nil_of_length_eq_zero (by simpa using hl)
    subst hn
    refine ⟨v, w, ?_, by simpa using hown, World.grownBy.refl w _, .inl rfl⟩
    rcases hown.2 with ⟨rfl, rfl⟩ | ⟨g, cap, cur, rfl, _, _, hnc, _⟩
    · simp [Builtin.append_, run_underlying ht, sizeOf, typeInfo, hi, Builtin.lenOf, Builtin.firstCells]
    · simp [Builtin.append_, run_underlying ht, sizeOf, typeInfo, hi, Builtin.lenOf, Builtin.firstCells, hnc, storeCells]
  | some ad =>
    obtain ⟨v', w', hr, h2, h3, _, h5⟩ := run_append_own_at (P := P) w base t ty e i z size bytes ht hi hz hz1 hz2 hz3 hsz v n cs hown ad m c news hl (hc ad rfl) h1 h63 hbytes hbase
    exact ⟨v', w', hr, h2, h3, h5⟩

theorem wp_app {o : Oper} {a : Act} {K : Act → World → Prop} {Q : Exit → Act → World → Prop} (s x : Operand) (t : TypeId)
    (ho : o.op = .call { callee := .builtin .append, args := #[s, x], argTypes := #[t, t] }) {size bytes : Nat} (hE : ElemOk P t e size bytes) (hsz : 0 < size) {n : Nat} {cs : List Value} (hs : a.eval s = v) (hown : w.ownsRow base e size v n cs)
    (A : Option Addr) (m c : Nat) (news : List Value) (hx : a.eval x = .slice A m c) (hl : news.length = m * size) (h0 : A = none → m = 0) (hc : ∀ ad, A = some ad → ∀ j u, news[j]? = some u → w.cell? (ad.add j) = some u)
    (h1 : ∀ u ∈ news, u.oneCell' = true) (hbytes : (n + m) * bytes ≤ 140737488355328) (hbase : base ≤ w.heap.size)
    (h : ∀ v' w', w'.ownsRow base e size v' (n + m) (cs ++ news) → w.grownBy w' v.ownBlock → (v'.ownBlock = v.ownBlock ∨ v'.ownBlock = some w.heap.size) → K (a.put o.dst v') w') : o.wp P a w K Q := by
  obtain ⟨v', w', hr, h2, h3, h4⟩ := run_app (P := P) (ty := o.type) hE hsz hown A m c news hl h0 hc h1 hbytes hbase
  unfold Oper.wp execOp
  simp only [ho, resolve, invoke, builtin, Sem.run_bind, Sem.run_pure, Result.andThen_ok, List.map_toArray, List.map_cons, List.map_nil, hs, hx, hr]
  exact h v' w' h2 h3 h4

/-- Things more. -/
theorem Acc.app {w' : World} {v' : Value} (h : Acc E base e X w v xs) {ys : List α} {cs2 : List (List Value)} (hlen : cs2.length = ys.length) (hx : ∀ i (h : i < ys.length) (h' : i < cs2.length), E.rep (fun g => X g ∧ some g ≠ v.ownBlock) w cs2[i] ys[i])
    (hown : ∀ css, w.ownsRow base e E.size v xs.length css → w'.ownsRow base e E.size v' (xs.length + ys.length) (css ++ cs2.flatten)) (hg : w.grownBy w' v.ownBlock) (hat : v'.ownBlock = v.ownBlock ∨ ∃ n, w.heap.size ≤ n ∧ v'.ownBlock = some n)
    (hN : ∀ g, w.heap.size ≤ g → X g) : Acc E base e X w' v' (xs ++ ys) := by
  obtain ⟨hb, css, h1, h2, h3⟩ := h
  have lift : ∀ {cs' : List Value} {y : α}, E.rep (fun g => X g ∧ some g ≠ v.ownBlock) w cs' y → E.rep (fun g => X g ∧ some g ≠ v'.ownBlock) w' cs' y := fun hr => by
    have a1 := E.more (Y := fun g => g < w.heap.size ∧ X g ∧ some g ≠ v.ownBlock) hr fun g hl hg => ⟨hl, hg⟩
    have a2 := E.keep a1 hg fun g hg => hg.2.2
    refine E.more a2 fun g _ hg => ⟨hg.2.1, ?_⟩
    rcases hat with hat | ⟨n, hn, hat⟩ <;> rw [hat]
    · exact hg.2.2
    · intro he
      injection he with he
      have := hg.1
      omega
  refine ⟨fun g hv => ?_, css ++ cs2, by simp [h1, hlen], fun i hi hi' => ?_, ?_⟩
  · rcases hat with hat | ⟨n, hn, hat⟩ <;> rw [hat] at hv
    · exact hb g hv
    · injection hv with hv; subst hv; exact hN _ hn
  · refine lift ?_
    rcases Nat.lt_or_ge i css.length with hlt | hge
    · have e1 : (css ++ cs2)[i] = css[i] := List.getElem_append_left hlt
      have e2 : (xs ++ ys)[i] = xs[i]'(by omega) := List.getElem_append_left (by omega)
      rw [e1, e2]
      exact h2 i (by omega) hlt
    · have e1 : (css ++ cs2)[i] = cs2[i - css.length]'(by simp at hi'; omega) := List.getElem_append_right hge
      have e2 : (xs ++ ys)[i] = ys[i - xs.length]'(by simp at hi; omega) := List.getElem_append_right (by omega)
      rw [e1, e2]
      simp only [h1]
      exact hx _ _ _
  · have := hown _ h3
    simpa using this

/-- Where the new slice lies. -/
def Moved (w : World) (v v' : Value) : Prop := v'.ownBlock = v.ownBlock ∨ ∃ n, w.heap.size ≤ n ∧ v'.ownBlock = some n
theorem Moved.ne {w : World} {v v' : Value} (h : Moved w v v') {g : Nat} (hg : g < w.heap.size) (hne : v.ownBlock ≠ some g) : v'.ownBlock ≠ some g := by
  rcases h with h | ⟨n, hn, h⟩ <;> rw [h]
  · exact hne
  · intro he; injection he with he; omega

theorem own_same {size n : Nat} {cs cs' : List Value} (h : w.ownsRow base e size v n cs) (k : w.ownsRow base e size v n cs') : cs = cs' := by
  rcases h.2 with ⟨r1, r2⟩ | ⟨g, cap, cur, r1, _, r3, _, _, _, r7⟩
  · have l1 := h.1
    have l2 := k.1
    rw [r2, Nat.zero_mul] at l1 l2
    have a1 : cs = [] := List.eq_nil_of_length_eq_zero l1
    have a2 : cs' = [] := List.eq_nil_of_length_eq_zero l2
    rw [a1, a2]
  · rcases k.2 with ⟨q1, _⟩ | ⟨g', cap', cur', q1, _, q3, _, _, _, q7⟩
    · rw [r1] at q1; cases q1
    · rw [r1] at q1
      injection q1 with q1 _ _
      injection q1 with q1
      injection q1 with q1
      subst q1
      rw [r3] at q3
      injection q3 with q3
      injection q3 with q3
      subst q3
      rw [← q7, ← r7]
/-- append(out, y): the thing y lies in a block of its own, just laid. -/
theorem push_core {cs : List Value} {y : α} {t : TypeId} {bytes : Nat} (hE : ElemOk P t e E.size bytes) (hacc : Acc E base e X w v xs) (hrep : E.rep (fun g => X g ∧ some g ≠ v.ownBlock) w cs y)
    (hlen : (xs.length + 1) * bytes ≤ 140737488355328) (hb : base ≤ w.heap.size) (hN : ∀ g, w.heap.size ≤ g → X g)
    {o : Oper} {a : Act} {K : Act → World → Prop} {Q : Exit → Act → World → Prop} (s x : Operand)
    (ho : o.op = .call { callee := .builtin .append, args := #[s, x], argTypes := #[t, t] }) (hs : a.eval s = v) (hx : a.eval x = .slice (some ⟨w.heap.size, 0, none⟩) 1 1)
    (h : ∀ v' w', Acc E base e X w' v' (xs ++ [y]) → w.grownBy w' v.ownBlock → Moved w v v' → K (a.put o.dst v') w') : o.wp P a (w.alloc (.cells cs.toArray e)) K Q := by
  obtain ⟨_, css, h1, _, h3⟩ := id hacc
  have hcl := E.len hrep
  have hbk : Bk (w.alloc (.cells cs.toArray e)) w.heap.size e cs.toArray := Bk.new w _ _
  have hga : w.grownBy (w.alloc (.cells cs.toArray e)) v.ownBlock := World.grownBy_alloc w _ _
  refine wp_app s x t ho (size := E.size) hE E.pos hs (h3.alloc _) (some ⟨w.heap.size, 0, none⟩) 1 1 cs hx (by rw [hcl, Nat.one_mul]) (by simp) ?_ (E.ones hrep) hlen (by simp; omega) ?_
  · intro ad e' j u hu
    injection e' with e'
    subst e'
    have := hbk.cell j
    rw [List.getElem?_toArray, hu] at this
    rw [← this]
    unfold Addr.add
    split
    · rename_i h0
      have : j = 0 := by simpa using h0
      subst this
      rfl
    · simp
  · intro v' w' hown hg hat
    have hgg := hga.trans hg
    have hat' : Moved w v v' := hat.imp id fun e => ⟨_, by simp, e⟩
    refine h v' w' (hacc.app (cs2 := [cs]) (ys := [y]) rfl (fun i hi hi' => ?_) (fun css' hc' => ?_) hgg hat' hN) hgg hat'
    · have : i = 0 := by simp at hi; omega
      subst this
      exact hrep
    · have e1 : css' = css.flatten := own_same hc' h3
      rw [e1]
      simpa using hown
theorem wpList_push {cs : List Value} {y : α} {t : TypeId} {bytes : Nat} {ops : Array Oper} {rest : List Oper} {o : Oper} {a : Act} {Q : Exit → Act → World → Prop} (hgd : o.guard = none) (s x : Operand)
    (ho : o.op = .call { callee := .builtin .append, args := #[s, x], argTypes := #[t, t] }) (hE : ElemOk P t e E.size bytes) (hacc : Acc E base e X w v xs) (hs : a.eval s = v) (hx : a.eval x = .slice (some ⟨w.heap.size, 0, none⟩) 1 1) (hrep : E.rep (fun g => X g ∧ some g ≠ v.ownBlock) w cs y)
    (hlen : (xs.length + 1) * bytes ≤ 140737488355328) (hb : base ≤ w.heap.size) (hN : ∀ g, w.heap.size ≤ g → X g)
    (h : ∀ v' w', Acc E base e X w' v' (xs ++ [y]) → w.grownBy w' v.ownBlock → Moved w v v' → wpList P ops Q rest (a.put o.dst v') w') : wpList P ops Q (o :: rest) a (w.alloc (.cells cs.toArray e)) :=
  wpList_plain hgd fun _ hK => push_core hE hacc hrep hlen hb hN s x ho hs hx fun v' w' h1 h2 h3 => hK _ _ (h v' w' h1 h2 h3)
/-- append(out, ys...): the things lie in a slice that reads so. -/
theorem apps_core {ys : List α} {A : Option Addr} {m c : Nat} {t : TypeId} {bytes : Nat} (hE : ElemOk P t e E.size bytes) (hacc : Acc E base e X w v xs) (hys : Sl E Z w (.slice A m c) ys) (hZ : ∀ cs y, E.rep Z w cs y → E.rep (fun g => X g ∧ some g ≠ v.ownBlock) w cs y)
    (hlen : (xs.length + ys.length) * bytes ≤ 140737488355328) (hb : base ≤ w.heap.size) (hN : ∀ g, w.heap.size ≤ g → X g)
    {o : Oper} {a : Act} {K : Act → World → Prop} {Q : Exit → Act → World → Prop} (s x : Operand)
    (ho : o.op = .call { callee := .builtin .append, args := #[s, x], argTypes := #[t, t] }) (hs : a.eval s = v) (hx : a.eval x = .slice A m c)
    (h : ∀ v' w', Acc E base e X w' v' (xs ++ ys) → w.grownBy w' v.ownBlock → Moved w v v' → K (a.put o.dst v') w') : o.wp P a w K Q := by
  obtain ⟨_, css, h1, _, h3⟩ := id hacc
  obtain ⟨A', c', e', hl1, hl2, hc⟩ := hys
  injection e' with e1 e2 e3
  subst e1 e2 e3
  have key : ∀ i, ∃ cs, ∀ (hi : i < ys.length), E.rep Z w cs ys[i] ∧ ∀ g o, A = some ⟨g, o, none⟩ → ∀ j u, cs[j]? = some u → w.cell? ⟨g, o + i * E.size + j, none⟩ = some u := by
    intro i
    by_cases hi : i < ys.length
    · obtain ⟨g, o, eA, _, _, hcc⟩ := hc (by intro h0; rw [h0] at hi; exact absurd hi (by simp))
      obtain ⟨cs, hr, hcell⟩ := hcc i hi
      refine ⟨cs, fun _ => ⟨hr, fun g' o' eA' => ?_⟩⟩
      rw [eA] at eA'
      injection eA' with eA'
      injection eA' with e1 e2
      subst e1 e2
      exact hcell
    · exact ⟨[], fun h => absurd h hi⟩
  obtain ⟨f, hf⟩ : ∃ f : Nat → List Value, ∀ i (hi : i < ys.length), E.rep Z w (f i) ys[i] ∧ ∀ g o, A = some ⟨g, o, none⟩ → ∀ j u, (f i)[j]? = some u → w.cell? ⟨g, o + i * E.size + j, none⟩ = some u :=
    ⟨fun i => Classical.choose (key i), fun i => Classical.choose_spec (key i)⟩
  have hcs2 : ((List.range ys.length).map f).length = ys.length := by simp
  have hat2 : ∀ i (hi : i < ((List.range ys.length).map f).length), ((List.range ys.length).map f)[i] = f i := fun i hi => by simp
  have hlens : ∀ i (hi : i < ((List.range ys.length).map f).length), ((List.range ys.length).map f)[i].length = E.size := fun i hi => by
    rw [hat2]
    exact E.len (hf i (by simpa using hi)).1
  have hfl : ((List.range ys.length).map f).flatten.length = ys.length * E.size := by
    rw [List.length_flatten]
    have : ((List.range ys.length).map f).map List.length = List.replicate ys.length E.size := by
      apply List.ext_getElem
      · simp
      · intro i hi hi'
        have := hlens i (by simpa using hi)
        simp at this ⊢
        exact this
    rw [this]
    simp
  refine wp_app s x t ho (size := E.size) hE E.pos hs h3 A ys.length c ((List.range ys.length).map f).flatten hx hfl ?_ ?_ ?_ hlen hb ?_
  · intro hA
    rcases Nat.eq_zero_or_pos ys.length with h0 | h0
    · exact h0
    · obtain ⟨g, o, eA, _⟩ := hc (by intro h; rw [h] at h0; simp at h0)
      rw [hA] at eA
      cases eA
  · intro ad hA j u hu
    have hj : j < ys.length * E.size := by rw [← hfl]; exact (List.getElem?_eq_some_iff.1 hu).1
    have hpos : 0 < ys.length := by
      rcases Nat.eq_zero_or_pos ys.length with h0 | h0
      · rw [h0] at hj; omega
      · exact h0
    obtain ⟨g, o, eA, _⟩ := hc (by intro h; rw [h] at hpos; simp at hpos)
    have hi : j / E.size < ys.length := Nat.div_lt_of_lt_mul (by rw [Nat.mul_comm]; exact hj)
    have hr : j % E.size < E.size := Nat.mod_lt _ E.pos
    have hfi := hf _ hi
    have hu2 : (f (j / E.size))[j % E.size]? = some ((f (j / E.size))[j % E.size]'(by rw [E.len hfi.1]; exact hr)) := List.getElem?_eq_getElem _
    have hfa := flatten_at hlens (i := j / E.size) (by simpa using hi) (j := j % E.size) (u := (f (j / E.size))[j % E.size]'(by rw [E.len hfi.1]; exact hr)) (by rw [hat2]; exact hu2)
    rw [show j / E.size * E.size + j % E.size = j by rw [Nat.mul_comm]; exact Nat.div_add_mod j E.size] at hfa
    rw [hu] at hfa
    injection hfa with hfa
    have hcell := hfi.2 g o eA (j % E.size) _ hu2
    rw [show o + j / E.size * E.size + j % E.size = o + j by have := Nat.div_add_mod j E.size; rw [Nat.mul_comm] at this; omega] at hcell
    rw [hA] at eA
    injection eA with eA
    subst eA
    rw [hfa, ← hcell]
    unfold Addr.add
    split
    · rename_i h0
      have : j = 0 := by simpa using h0
      subst this
      rfl
    · rfl
  · intro u hu
    obtain ⟨l, hl, hul⟩ := List.mem_flatten.1 hu
    obtain ⟨i, hi, rfl⟩ := List.mem_map.1 hl
    exact E.ones (hf i (by simpa using hi)).1 u hul
  · intro v' w' hown hg hat
    have hat' : Moved w v v' := hat.imp id fun e => ⟨_, Nat.le_refl _, e⟩
    refine h v' w' (hacc.app hcs2 (fun i hi hi' => ?_) (fun css' hc' => ?_) hg hat' hN) hg hat'
    · rw [hat2]
      exact hZ _ _ (hf i hi).1
    · rw [own_same hc' h3]
      exact hown
theorem wpList_apps {ys : List α} {A : Option Addr} {m c : Nat} {t : TypeId} {bytes : Nat} {ops : Array Oper} {rest : List Oper} {o : Oper} {a : Act} {Q : Exit → Act → World → Prop} (hgd : o.guard = none) (s x : Operand)
    (ho : o.op = .call { callee := .builtin .append, args := #[s, x], argTypes := #[t, t] }) (hE : ElemOk P t e E.size bytes) (hacc : Acc E base e X w v xs) (hs : a.eval s = v) (hx : a.eval x = .slice A m c) (hys : Sl E Z w (.slice A m c) ys) (hZ : ∀ cs y, E.rep Z w cs y → E.rep (fun g => X g ∧ some g ≠ v.ownBlock) w cs y)
    (hlen : (xs.length + ys.length) * bytes ≤ 140737488355328) (hb : base ≤ w.heap.size) (hN : ∀ g, w.heap.size ≤ g → X g)
    (h : ∀ v' w', Acc E base e X w' v' (xs ++ ys) → w.grownBy w' v.ownBlock → Moved w v v' → wpList P ops Q rest (a.put o.dst v') w') : wpList P ops Q (o :: rest) a w :=
  wpList_plain hgd fun _ hK => apps_core hE hacc hys hZ hlen hb hN s x ho hs hx fun v' w' h1 h2 h3 => hK _ _ (h v' w' h1 h2 h3)
theorem Acc.made (E : Enc α) (w : World) (e : TypeId) {B : Nat} (hB : B ≤ w.heap.size) (X : Nat → Prop) (hX : X w.heap.size) : Acc E B e X (w.alloc (.cells #[] e)) (.slice (some ⟨w.heap.size, 0, none⟩) 0 0) [] :=
  ⟨fun g hg => by simp [Value.ownBlock] at hg; subst hg; exact hX, [], rfl, fun i hi => absurd hi (by simp), World.ownsRow_made w #[] 0 hB (Nat.zero_le _) (by simp)⟩
end
end Go.Proofs.Ytlhjbllfcbojmaa

namespace Go.Proofs.Ytlhjbllfcbojmaa
open Go.RowKit

section
variable {α : Type} {E : Enc α} {X Y : Nat → Prop} {w w' : World} {v : Value} {xs : List α}
/-- What a slice's first cells are. -/
theorem Sl.take {A : Option Addr} {n c : Nat} (h : Sl E X w (.slice A n c) xs) (k : Nat) (hk : k ≤ xs.length) : Sl E X w (.slice A k c) (xs.take k) := by
  obtain ⟨A', c', e, h1, h2, h3⟩ := h
  injection e with e1 e2 e3
  subst e1 e2 e3
  refine ⟨A, c, by rw [List.length_take, Nat.min_eq_left hk], by rw [List.length_take]; omega, h2, fun hn => ?_⟩
  obtain ⟨g, o, eA, hg, hX, hc⟩ := h3 (by intro h0; rw [h0] at hn; simp at hn)
  refine ⟨g, o, eA, hg, hX, fun i hi => ?_⟩
  obtain ⟨cs, hr, hcell⟩ := hc i (by rw [List.length_take] at hi; omega)
  exact ⟨cs, by rw [List.getElem_take]; exact hr, hcell⟩
/-- .. its last ones. -/
theorem Sl.drop {g o n c : Nat} (h : Sl E X w (.slice (some ⟨g, o, none⟩) n c) xs) (k : Nat) (hk : k ≤ xs.length) : Sl E X w (.slice (some ⟨g, o + k * E.size, none⟩) (n - k) (c - k)) (xs.drop k) := by
  obtain ⟨A', c', e, h1, h2, h3⟩ := h
  injection e with e1 e2 e3
  subst e1 e2 e3
  refine ⟨_, _, by rw [List.length_drop], by rw [List.length_drop]; omega, by omega, fun hn => ?_⟩
  obtain ⟨g', o', eA, hg, hX, hc⟩ := h3 (by intro h0; rw [h0] at hn; simp at hn)
  injection eA with eA
  injection eA with eg eo
  subst eg eo
  refine ⟨g, _, rfl, hg, hX, fun i hi => ?_⟩
  obtain ⟨cs, hr, hcell⟩ := hc (k + i) (by rw [List.length_drop] at hi; omega)
  refine ⟨cs, by rw [List.getElem_drop]; exact hr, fun j u hu => ?_⟩
  have := hcell j u hu
  rwa [show o + (k + i) * E.size + j = o + k * E.size + i * E.size + j by rw [Nat.add_mul]; omega] at this
theorem Sl.bounded (h : Sl E X w v xs) : Sl E (fun g => X g ∧ g < w.heap.size) w v xs := h.more fun _ hg hX => ⟨hX, hg⟩
theorem Sl.addr {A : Option Addr} {n c : Nat} (h : Sl E X w (.slice A n c) xs) (hn : 0 < xs.length) : ∃ g o, A = some ⟨g, o, none⟩ ∧ g < w.heap.size ∧ X g := by
  obtain ⟨A', c', e, h1, h2, h3⟩ := h
  injection e with e1 e2 e3
  subst e1 e2 e3
  obtain ⟨g, o, eA, hg, hX, _⟩ := h3 (by intro h0; rw [h0] at hn; simp at hn)
  exact ⟨g, o, eA, hg, hX⟩
/-- A slice's cells may be written, and lie where X says. -/
def Wr (X : Nat → Prop) (w : World) (v : Value) : Prop := ∃ g o n c, v = .slice (some ⟨g, o, none⟩) n c ∧ g < w.heap.size ∧ X g ∧ (∀ i, w.frozen? ⟨g, i, none⟩ = false) ∧ ∃ ob : Obj, w.heap[g]? = some ob ∧ ob.isCells = true
theorem frozen_of_block {g i : Nat} (h : w'.heap[g]? = w.heap[g]?) : w'.frozen? ⟨g, i, none⟩ = w.frozen? ⟨g, i, none⟩ := by simp [World.frozen?, h]
theorem Wr.keep (h : Wr X w v) {row : Option Nat} (hg : w.grownBy w' row) (hX : ∀ g, X g → some g ≠ row) : Wr X w' v := by
  obtain ⟨g, o, n, c, e, hl, hXg, hf, ob, ho, hn⟩ := h
  exact ⟨g, o, n, c, e, Nat.lt_of_lt_of_le hl hg.size, hXg, fun i => (frozen_of_block (hg.block g hl (hX g hXg))).trans (hf i), ob, (hg.block g hl (hX g hXg)).trans ho, hn⟩
theorem Wr.more (h : Wr X w v) (hX : ∀ g, g < w.heap.size → X g → Y g) : Wr Y w v := by
  obtain ⟨g, o, n, c, e, hl, hXg, hf⟩ := h
  exact ⟨g, o, n, c, e, hl, hX g hl hXg, hf⟩
end
theorem Wr.keepc {X : Nat → Prop} {w w' : World} {v : Value} (h : Wr X w v) {row : Option Nat} (hg : w.grownBy w' row) (hr : ∀ r, row = some r → ∃ o : Obj, w.heap[r]? = some o ∧ o.isCells = false) : Wr X w' v := by
  obtain ⟨g, o, n, c, e, hl, hXg, hf, hcl⟩ := h
  have hne : some g ≠ row := fun e => by
    obtain ⟨ob, ho, hn⟩ := hr g e.symm
    obtain ⟨ob', ho', hn'⟩ := hcl
    rw [ho] at ho'
    injection ho' with ho'
    rw [ho', hn'] at hn
    cases hn
  exact ⟨g, o, n, c, e, Nat.lt_of_lt_of_le hl hg.size, hXg, fun i => (frozen_of_block (hg.block g hl hne)).trans (hf i), by obtain ⟨ob, ho, hn⟩ := hcl; exact ⟨ob, (hg.block g hl hne).trans ho, hn⟩⟩
/-- A slice of things that may be written, as a thing. -/
def encW {α : Type} (E : Enc α) : Enc (List α) where
  size := 1
  pos := by decide
  rep := fun X w cs xs => ∃ v, cs = [v] ∧ Sl E X w v xs ∧ Wr X w v
  len := fun h => by obtain ⟨v, rfl, _⟩ := h; rfl
  ones := fun h u hu => by
    obtain ⟨v, rfl, ⟨A, c, rfl, _⟩, _⟩ := h
    simp at hu
    subst hu
    rfl
  keep := fun h hg hX => by obtain ⟨v, e, h, h2⟩ := h; exact ⟨v, e, h.keep hg hX, h2.keep hg hX⟩
  more := fun h hX => by obtain ⟨v, e, h, h2⟩ := h; exact ⟨v, e, h.more hX, h2.more hX⟩
  keepc := fun h hg hr => by obtain ⟨v, e, h, h2⟩ := h; exact ⟨v, e, h.keepc hg hr, h2.keepc hg hr⟩
section
variable {α : Type} {E : Enc α} {X Y : Nat → Prop} {w w' : World} {v : Value} {xs : List α}
theorem Acc.wr {base : Nat} {e : TypeId} (h : Acc E base e X w v xs) (hn : 0 < xs.length) : Wr X w v := by
  have hlt := h.lt
  obtain ⟨hb, css, h1, h2, h3⟩ := h
  rcases h3.2 with ⟨hv, h0⟩ | ⟨g, cap, cur, hv, _, hh, _⟩
  · omega
  · refine ⟨g, 0, xs.length, cap, hv, (hlt g (by rw [hv]; rfl)).2, hb g (by rw [hv]; rfl), fun i => ?_, _, hh, rfl⟩
    simp [World.frozen?, hh]
/-- What reads as slices that may be written reads as slices. -/
theorem Sl.plain {X : Nat → Prop} {w : World} {v : Value} {xs : List (List α)} (h : Sl (encW E) X w v xs) : Sl (encS E) X w v xs := by
  obtain ⟨A, c, e, h1, h2, h3⟩ := h
  refine ⟨A, c, e, h1, h2, fun hn => ?_⟩
  obtain ⟨g, o, eA, hg, hX, hc⟩ := h3 hn
  refine ⟨g, o, eA, hg, hX, fun i hi => ?_⟩
  obtain ⟨cs, ⟨v, e, hs, _⟩, hcell⟩ := hc i hi
  exact ⟨cs, ⟨v, e, hs⟩, hcell⟩
end
/-- A block that is known whole, as a slice. -/
theorem Sl.block {α : Type} {E : Enc α} {X : Nat → Prop} {w : World} {g c : Nat} {t : TypeId} {cs : Array Value} {xs : List α} (h : Bk w g t cs) (hX : X g) (css : List (List Value)) (hl : css.length = xs.length)
    (hr : ∀ i (hi : i < xs.length) (hi' : i < css.length), E.rep X w css[i] xs[i]) (hc : cs.toList = css.flatten) (hn : xs.length ≤ c) (hc2 : c ≤ 9223372036854775807) : Sl E X w (.slice (some ⟨g, 0, none⟩) xs.length c) xs := by
  refine ⟨_, c, rfl, hn, hc2, fun _ => ⟨g, 0, rfl, h.lt, hX, fun i hi => ⟨css[i]'(by omega), hr i hi (by omega), fun j u hu => ?_⟩⟩⟩
  have hf := flatten_at (m := E.size) (fun i hi => E.len (hr i (by omega) hi)) (i := i) (by omega) hu
  rw [Nat.zero_add, h.cell, ← Array.getElem?_toList, hc]
  exact hf
section
variable {α : Type} {P : Program} {E : Enc α} {base : Nat} {e : TypeId} {X Y Z : Nat → Prop} {w w0 : World} {v : Value} {xs : List α}
/-- append([]T{}, ys...): a slice of its own. -/
theorem copy_core {ys : List α} {A : Option Addr} {m c : Nat} {t : TypeId} {bytes : Nat} (hE : ElemOk P t e E.size bytes) (hys : Sl E X w (.slice A m c) ys) (hb : ys.length * bytes ≤ 140737488355328) (hY : ∀ g, w.heap.size ≤ g → Y g) (hXY : ∀ cs y w', E.rep (fun g => X g ∧ g < w.heap.size) w' cs y → E.rep (fun g => Y g ∧ g < w.heap.size) w' cs y)
    {o : Oper} {a : Act} {K : Act → World → Prop} {Q : Exit → Act → World → Prop} (s x : Operand)
    (ho : o.op = .call { callee := .builtin .append, args := #[s, x], argTypes := #[t, t] }) (hs : a.eval s = .slice (some ⟨w.heap.size, 0, none⟩) 0 0) (hx : a.eval x = .slice A m c)
    (h : ∀ A1 c1 w1, Acc E w.heap.size e Y w1 (.slice A1 ys.length c1) ys → w.grownBy w1 none → K (a.put o.dst (.slice A1 ys.length c1)) w1) : o.wp P a (w.alloc (.cells #[] e)) K Q := by
  have hS : Sl E (fun g => X g ∧ g < w.heap.size) (w.alloc (.cells #[] e)) (.slice A m c) ys := hys.bounded.kept (World.grownBy_alloc w _ none)
  refine apps_core (xs := []) (X := Y) (base := w.heap.size) hE (Acc.made _ w e (Nat.le_refl _) Y (hY _ (Nat.le_refl _))) hS (fun cs y hr => E.more (hXY _ _ _ hr) fun g _ hg => ⟨hg.1, fun he => by simp [Value.ownBlock] at he; have := hg.2; omega⟩) (by simpa using hb) (by simp) (fun g hg => hY g (by simp at hg; omega)) s x ho hs hx ?_
  intro v1 w1 hacc hg _
  rw [List.nil_append] at hacc
  obtain ⟨A1, c1, e1, _, _⟩ := hacc.sl.form
  subst e1
  exact h A1 c1 w1 hacc (grown_up (World.grownBy_alloc w _ none) hg (fun g he => by simp [Value.ownBlock] at he; omega))
theorem wpList_copyG {ys : List α} {A : Option Addr} {m c : Nat} {t : TypeId} {bytes : Nat} {ops : Array Oper} {rest : List Oper} {o : Oper} {a : Act} {Q : Exit → Act → World → Prop} (hgd : o.guard = none) (s x : Operand)
    (ho : o.op = .call { callee := .builtin .append, args := #[s, x], argTypes := #[t, t] }) (hE : ElemOk P t e E.size bytes) (hs : a.eval s = .slice (some ⟨w.heap.size, 0, none⟩) 0 0) (hx : a.eval x = .slice A m c) (hys : Sl E X w (.slice A m c) ys) (hb : ys.length * bytes ≤ 140737488355328) (hY : ∀ g, w.heap.size ≤ g → Y g) (hXY : ∀ cs y w', E.rep (fun g => X g ∧ g < w.heap.size) w' cs y → E.rep (fun g => Y g ∧ g < w.heap.size) w' cs y)
    (h : ∀ A1 c1 w1, Acc E w.heap.size e Y w1 (.slice A1 ys.length c1) ys → w.grownBy w1 none → wpList P ops Q rest (a.put o.dst (.slice A1 ys.length c1)) w1) : wpList P ops Q (o :: rest) a (w.alloc (.cells #[] e)) :=
  wpList_plain hgd fun _ hK => copy_core hE hys hb hY hXY s x ho hs hx fun A1 c1 w1 h1 h2 => hK _ _ (h A1 c1 w1 h1 h2)
/-- append(out, y), the call having begun at w0. -/
theorem pushG_core {cs : List Value} {y : α} {t : TypeId} {bytes : Nat} (hE : ElemOk P t e E.size bytes) (hG : w0.grownBy w none) (hacc : Acc E w0.heap.size e Y w v xs) (hY : ∀ g, w0.heap.size ≤ g → Y g) (hrep : E.rep (fun g => Y g ∧ some g ≠ v.ownBlock) w cs y)
    (hlen : (xs.length + 1) * bytes ≤ 140737488355328)
    {o : Oper} {a : Act} {K : Act → World → Prop} {Q : Exit → Act → World → Prop} (s x : Operand)
    (ho : o.op = .call { callee := .builtin .append, args := #[s, x], argTypes := #[t, t] }) (hs : a.eval s = v) (hx : a.eval x = .slice (some ⟨w.heap.size, 0, none⟩) 1 1)
    (h : ∀ v' w', Acc E w0.heap.size e Y w' v' (xs ++ [y]) → w0.grownBy w' none → w.grownBy w' v.ownBlock → K (a.put o.dst v') w') : o.wp P a (w.alloc (.cells cs.toArray e)) K Q :=
  push_core hE hacc hrep hlen hG.size (fun g hg => hY g (Nat.le_trans hG.size hg)) s x ho hs hx fun v' w' h1 h2 _ => h v' w' h1 (grown_up hG h2 fun g he => (hacc.lt g he).1) h2
theorem wpList_pushG {cs : List Value} {y : α} {t : TypeId} {bytes : Nat} {ops : Array Oper} {rest : List Oper} {o : Oper} {a : Act} {Q : Exit → Act → World → Prop} (hgd : o.guard = none) (s x : Operand)
    (ho : o.op = .call { callee := .builtin .append, args := #[s, x], argTypes := #[t, t] }) (hE : ElemOk P t e E.size bytes) (hG : w0.grownBy w none) (hacc : Acc E w0.heap.size e Y w v xs) (hY : ∀ g, w0.heap.size ≤ g → Y g) (hrep : E.rep (fun g => Y g ∧ some g ≠ v.ownBlock) w cs y)
    (hlen : (xs.length + 1) * bytes ≤ 140737488355328) (hs : a.eval s = v) (hx : a.eval x = .slice (some ⟨w.heap.size, 0, none⟩) 1 1)
    (h : ∀ v' w', Acc E w0.heap.size e Y w' v' (xs ++ [y]) → w0.grownBy w' none → w.grownBy w' v.ownBlock → wpList P ops Q rest (a.put o.dst v') w') : wpList P ops Q (o :: rest) a (w.alloc (.cells cs.toArray e)) :=
  wpList_plain hgd fun _ hK => pushG_core hE hG hacc hY hrep hlen s x ho hs hx fun v' w' h1 h2 h3 => hK _ _ (h v' w' h1 h2 h3)
end
/-- k pieces of n each. -/
def chk {α : Type} (n : Nat) (l : List α) (k : Nat) : List (List α) := (List.range k).map fun j => (l.drop (j * n)).take n
theorem chk_succ {α : Type} (n : Nat) (l : List α) (k : Nat) : chk n l (k + 1) = chk n l k ++ [(l.drop (k * n)).take n] := by
  unfold chk
  rw [List.range_succ, List.map_append]
  rfl
theorem chk_length {α : Type} (n : Nat) (l : List α) (k : Nat) : (chk n l k).length = k := by simp [chk]
/-- A call that told a slice xs, and an error's number. -/
def GivesE {α : Type} (E : Enc α) (Y : Nat → Prop) (w : World) (xs : List α) (n : Int) (e : Ending) (w' : World) : Prop := ∃ v, e = .returned (.tuple #[v, .int .i64 n]) ∧ Sl E Y w' v xs ∧ w.grownBy w' none
/-- A call that told a slice xs; what lay there stands. -/
def Gives {α : Type} (E : Enc α) (Y : Nat → Prop) (w : World) (xs : List α) (e : Ending) (w' : World) : Prop := ∃ v, e = .returned v ∧ Sl E Y w' v xs ∧ w.grownBy w' none
end Go.Proofs.Ytlhjbllfcbojmaa

namespace Go.Proofs.Ytlhjbllfcbojmaa
open Go

/-- What is known of a value, and stands as long as nothing that lay there is written. -/
structure Pv where
  p : Value → World → Prop
  st : ∀ {v w w'}, p v w → w.grownBy w' none → p v w'
def Pv.any : Pv := ⟨fun _ _ => True, fun _ _ => trivial⟩
def Pv.eq (u : Value) : Pv := ⟨fun v _ => v = u, fun h _ => h⟩
def Pv.sl {α : Type} (E : Enc α) (X : Nat → Prop) (xs : List α) : Pv := ⟨fun v w => Sl E X w v xs, fun h hg => h.kept hg⟩

section
variable {P : Program} {ops : Array Oper} {Q : Exit → Act → World → Prop} {n : Nat} {a0 : Act} {w0 : World}

def dstAt (ops : Array Oper) (j : Nat) : Option Tmp := (ops[j]?).bind (·.dst)
/-- Slot t is as at the start where operation i may come. -/
def keptB (ops : Array Oper) (n i : Nat) (t : Tmp) : Bool := (List.range n).all fun j => dstAt ops j != some t || Region.waitsFor .any ops j i || j == i
def pairB (ops : Array Oper) (i : Nat) (js : List (Nat × Tmp)) : Bool := js.all fun x => dstAt ops x.1 == some x.2 && Region.waitsFor .any ops i x.1
def lookB (ops : Array Oper) (n i : Nat) (js : List (Nat × Tmp)) : Bool := ((ops[i]?).map fun o => (o.looksAt ops).all fun t => js.any (·.2 == t) || keptB ops n i t).getD false
def Told (V : Pv) (dst : Option Tmp) (ds : List Deferred) (w : World) : Exit → Act → World → Prop := fun e a' w' => e = .normal ∧ a'.defers = ds ∧ V.p (match dst with | some d => a'.eval (.tmp d) | none => undef) w' ∧ w.grownBy w' none
def Ask (P : Program) (ops : Array Oper) (Vs : List Pv) (Qt : Exit → Act → World → Prop) (o : Oper) (w : World) : List (Nat × Tmp) → Act → Prop
  | [], a => wpList P ops Qt [o] a w
  | (j, d) :: js, a => ∀ x, (Vs.getD j Pv.any).p x w → Ask P ops Vs Qt o w js (a.put (some d) x)
def Mono (P : Program) (ops : Array Oper) (n : Nat) (a0 : Act) (w0 : World) (F : List Pv → Prop) : List Pv → List Oper → Prop
  | Vs, [] => F Vs
  | Vs, o :: os => ∃ (V : Pv) (js : List (Nat × Tmp)), (pairB ops Vs.length js && lookB ops n Vs.length js) = true ∧ (∀ w, w0.grownBy w none → Ask P ops Vs (Told V o.dst a0.defers w) o w js a0) ∧ Mono P ops n a0 w0 F (Vs ++ [V]) os
def Fin' (G : Act → World → Prop) (w : World) : List Pv → List Oper → Act → Prop
  | V :: Vs, o :: os, a => ∀ x, V.p x w → Fin' G w Vs os (a.put o.dst x)
  | _, _, a => G a w
/-- What may be listed ahead of operation i. -/
def av (ops : Array Oper) (i : Nat) : Nat → Nat → Bool
  | 0, k => k != i
  | f + 1, k => k != i && ((ops[k]?).map (·.after.all fun e => !Region.binds .any e || av ops i f e.on)).getD false
def tailB (ops : Array Oper) (n : Nat) : Bool :=
  (List.range ops.size).all (fun j => decide (j < n) || (List.range n).all fun i => !av ops i n j) && Region.seqB .any ops (ops.size - n) n (Array.replicate n true ++ Array.replicate (ops.size - n) false)
def topoB (ops : Array Oper) (n : Nat) : Bool := (List.range n).all fun i => ((ops[i]?).map (·.after.all fun e => !Region.binds .any e || decide (e.on < i))).getD false
def distB (ops : Array Oper) (n sz : Nat) : Bool := (List.range n).all fun i => match dstAt ops i with | none => true | some d => decide (d < sz) && (List.range n).all fun j => j == i || dstAt ops j != some d
def monoB (ops : Array Oper) (n sz : Nat) : Bool := Region.noSelect ops && decide (n ≤ ops.size) && tailB ops n && topoB ops n && distB ops n sz

theorem put_size (a : Act) (dst : Option Tmp) (v : Value) : (a.put dst v).tmps.size = a.tmps.size := by
  cases dst <;> simp [Act.put]
theorem put_defers (a : Act) (dst : Option Tmp) (v : Value) : (a.put dst v).defers = a.defers := by
  cases dst <;> rfl
theorem put_at (a : Act) (d t : Tmp) (v : Value) (h : d ≠ t) : (a.put (some d) v).tmps[t]? = a.tmps[t]? := by
  simp [Act.put, Array.getElem?_setIfInBounds_ne h]
theorem eval_of (a b : Act) (t : Tmp) (h : a.tmps[t]? = b.tmps[t]?) : a.eval (.tmp t) = b.eval (.tmp t) := by
  simp [Act.eval, Array.getD_eq_getD_getElem?, h]
theorem put_own (a b : Act) (t : Tmp) (hs : a.tmps.size = b.tmps.size) : (a.put (some t) (b.eval (.tmp t))).tmps[t]? = b.tmps[t]? := by
  by_cases h : t < a.tmps.size
  · have h' : t < b.tmps.size := hs ▸ h
    simp [Act.put, Act.eval, Array.getD_eq_getD_getElem?, h, h']
  · have h' : ¬ t < b.tmps.size := hs ▸ h
    simp [Act.put, h, h']
/-- The values of b put onto a. -/
def onto (b : Act) (ds : List (Option Tmp)) (a : Act) : Act := ds.foldl (fun a d => a.put d (match d with | some d => b.eval (.tmp d) | none => undef)) a
theorem onto_size (b : Act) : ∀ (ds : List (Option Tmp)) (a : Act), (onto b ds a).tmps.size = a.tmps.size
  | [], _ => rfl
  | _ :: ds, _ => (onto_size b ds _).trans (put_size _ _ _)
theorem onto_defers (b : Act) : ∀ (ds : List (Option Tmp)) (a : Act), (onto b ds a).defers = a.defers
  | [], _ => rfl
  | _ :: ds, _ => (onto_defers b ds _).trans (put_defers _ _ _)
theorem onto_at (b : Act) (t : Tmp) : ∀ (ds : List (Option Tmp)) (a : Act), a.tmps.size = b.tmps.size → (some t ∈ ds ∨ a.tmps[t]? = b.tmps[t]?) → (onto b ds a).tmps[t]? = b.tmps[t]?
  | [], a, _, h => h.resolve_left (by simp)
  | d :: ds, a, hs, h => by
    refine onto_at b t ds _ ((put_size _ _ _).trans hs) ?_
    cases d with
    | none => exact h.imp (fun h => by simpa using h) id
    | some d =>
      by_cases e : d = t
      · subst e; exact .inr (put_own a b d hs)
      · refine h.imp (fun h => ?_) (fun h => (put_at a d t _ e).trans h)
        rcases List.mem_cons.1 h with h | h
        · injection h with h; exact absurd h.symm e
        · exact h
theorem act_ext {a b : Act} (h : ∀ t : Nat, a.tmps[t]? = b.tmps[t]?) (hd : a.defers = b.defers) : a = b := by
  obtain ⟨t1, d1⟩ := a
  obtain ⟨t2, d2⟩ := b
  obtain rfl : d1 = d2 := hd
  obtain rfl : t1 = t2 := Array.ext_getElem? h
  rfl

theorem Ask.all {Vs : List Pv} {Qt : Exit → Act → World → Prop} {o : Oper} {w : World} {b : Act} : ∀ {js : List (Nat × Tmp)} {a : Act}, (∀ x : Nat × Tmp, x ∈ js → (Vs.getD x.1 Pv.any).p (b.eval (.tmp x.2)) w) → Ask P ops Vs Qt o w js a → wpList P ops Qt [o] (onto b (js.map fun x => some x.2) a) w
  | [], _, _, h => h
  | (j, d) :: js, a, hx, h => Ask.all (js := js) (fun x hm => hx x (List.mem_cons_of_mem _ hm)) (h _ (hx (j, d) (by simp)))
theorem Fin'.all {G : Act → World → Prop} {w : World} {b : Act} : ∀ {Vs : List Pv} {os : List Oper} {a : Act}, Vs.length = os.length → (∀ (k : Nat) (V : Pv) (o : Oper), Vs[k]? = some V → os[k]? = some o → V.p (match o.dst with | some d => b.eval (.tmp d) | none => undef) w) → Fin' G w Vs os a → G (onto b (os.map (·.dst)) a) w
  | [], [], _, _, _, h => h
  | V :: Vs, o :: os, a, hl, hx, h => Fin'.all (Vs := Vs) (os := os) (by simpa using hl) (fun k V o hv ho => hx (k + 1) V o (by simpa using hv) (by simpa using ho)) (h _ (hx 0 V o rfl rfl))
  | [], _ :: _, _, hl, _, _ => by simp at hl
  | _ :: _, [], _, hl, _, _ => by simp at hl
theorem Mono.out {F : List Pv → Prop} : ∀ {os : List Oper} {Vs : List Pv}, Mono P ops n a0 w0 F Vs os → ∃ Ws : List Pv, Ws.length = os.length ∧ F (Vs ++ Ws) ∧ ∀ k o, os[k]? = some o → ∃ V js, Ws[k]? = some V ∧ (pairB ops (Vs.length + k) js && lookB ops n (Vs.length + k) js) = true ∧ ∀ w, w0.grownBy w none → Ask P ops ((Vs ++ Ws).take (Vs.length + k)) (Told V o.dst a0.defers w) o w js a0
  | [], Vs, h => ⟨[], rfl, by rw [List.append_nil]; exact h, fun k o hk => by simp at hk⟩
  | o :: os, Vs, ⟨V, js, hb, hA, hM⟩ => by
    obtain ⟨Ws, hl, hF, hk⟩ := Mono.out hM
    refine ⟨V :: Ws, by simp [hl], by simpa using hF, fun k o' ho => ?_⟩
    cases k with
    | zero =>
      obtain rfl : o = o' := by simpa using ho
      exact ⟨V, js, rfl, hb, fun w hw => by simpa using hA w hw⟩
    | succ k =>
      obtain ⟨V', js', h1, h2, h3⟩ := hk k o' (by simpa using ho)
      refine ⟨V', js', by simpa using h1, ?_, fun w hw => ?_⟩
      · simpa [Nat.add_assoc, Nat.add_comm 1 k] using h2
      · have := h3 w hw
        simpa [Nat.add_assoc, Nat.add_comm 1 k] using this

theorem Mono.weak {F G : List Pv → Prop} : ∀ {os : List Oper} {Vs : List Pv}, Mono P ops n a0 w0 F Vs os → (∀ Ws, Ws.length = Vs.length + os.length → F Ws → G Ws) → Mono P ops n a0 w0 G Vs os
  | [], Vs, h, hg => hg Vs (by simp) h
  | o :: os, Vs, ⟨V, js, hb, hA, hM⟩, hg => ⟨V, js, hb, hA, Mono.weak hM fun Ws hW => hg Ws (by simp at hW ⊢; omega)⟩
def valOf (dst : Option Tmp) (a : Act) : Value := match dst with | some d => a.eval (.tmp d) | none => undef
structure MInv (ops : Array Oper) (n : Nat) (a0 : Act) (w0 : World) (Vs : List Pv) (D : Array Bool) (a : Act) (w : World) : Prop where
  head : HeadInv .any ops n D
  grown : w0.grownBy w none
  tsize : a.tmps.size = a0.tmps.size
  defers : a.defers = a0.defers
  rest : ∀ t, (∀ j, j < n → D.getD j false = true → dstAt ops j ≠ some t) → a.tmps[t]? = a0.tmps[t]?
  known : ∀ j V, D.getD j false = true → Vs[j]? = some V → V.p (valOf (dstAt ops j) a) w
def cnt (D : Array Bool) : Nat → Nat
  | 0 => 0
  | k + 1 => cnt D k + if D.getD k false then 0 else 1
theorem cnt_set {D : Array Bool} {i : Nat} : ∀ k, (k ≤ i → cnt (D.setIfInBounds i true) k = cnt D k) ∧ (i < k → D.getD i true = false → cnt (D.setIfInBounds i true) k + 1 = cnt D k)
  | 0 => ⟨fun _ => rfl, fun h => by omega⟩
  | k + 1 => by
    obtain ⟨h1, h2⟩ := cnt_set (D := D) (i := i) k
    refine ⟨fun h => ?_, fun h hf => ?_⟩
    · simp only [cnt]
      rw [h1 (by omega), getD_set_ne false (by omega)]
    · simp only [cnt]
      by_cases e : i = k
      · subst e
        have hlt : i < D.size := by
          rcases Nat.lt_or_ge i D.size with h' | h'
          · exact h'
          · simp [Array.getElem?_eq_none h'] at hf
        rw [h1 (Nat.le_refl _), getD_both hf]
        simp [hlt]
      · have := h2 (by omega) hf
        rw [getD_set_ne false e]
        omega
theorem cnt_zero {D : Array Bool} : ∀ {k}, cnt D k = 0 → ∀ i, i < k → D.getD i false = true
  | 0, _, i, h => by omega
  | k + 1, h, i, hi => by
    simp only [cnt] at h
    by_cases e : i = k
    · subst e
      by_cases hd : D.getD i false = true
      · exact hd
      · simp [hd] at h
    · exact cnt_zero (k := k) (by omega) i (by omega)
theorem cnt_false (m : Nat) : ∀ k, cnt (Array.replicate m false) k = k
  | 0 => rfl
  | k + 1 => by simp only [cnt, cnt_false m k, getD_replicate_false]; rfl
theorem av_of {D : Array Bool} {i : Nat} (hcl : ∀ j oj, ops[j]? = some oj → D.getD j false = true → ∀ e ∈ oj.after, Region.binds .any e = true → D.getD e.on false = true) (hsz : D.size = ops.size) (hi : D.getD i false = false) : ∀ f k, D.getD k false = true → av ops i f k = true
  | 0, k, hk => by
    simp only [av, bne_iff_ne]
    rintro rfl
    rw [hi] at hk
    cases hk
  | f + 1, k, hk => by
    have hlt : k < ops.size := by
      rcases Nat.lt_or_ge k D.size with h' | h'
      · omega
      · simp [Array.getElem?_eq_none h'] at hk
    have ho : ops[k]? = some ops[k] := Array.getElem?_eq_getElem hlt
    simp only [av, ho, Option.map_some, Option.getD_some, Bool.and_eq_true, bne_iff_ne]
    refine ⟨?_, ?_⟩
    · rintro rfl
      rw [hi] at hk
      cases hk
    · rw [Array.all_eq_true_iff_forall_mem]
      intro e he
      by_cases hb : Region.binds .any e = true
      · simp [hb, av_of hcl hsz hi f e.on (hcl k _ ho hk e he hb)]
      · simp [hb]
theorem list_all_range {n : Nat} {p : Nat → Bool} (h : (List.range n).all p = true) {i : Nat} (hi : i < n) : p i = true := List.all_eq_true.1 h i (List.mem_range.2 hi)
theorem match_valOf (dst : Option Tmp) (a : Act) : (match dst with | some d => a.eval (.tmp d) | none => undef) = valOf dst a := by cases dst <;> rfl
theorem told_letsOut {V : Pv} {dst : Option Tmp} {ds : List Deferred} {w : World} : ¬ LetsOut (Told V dst ds w) := by
  rintro ⟨a, w', e, _⟩
  cases e
theorem told_op {V : Pv} {o : Oper} {a b : Act} {w : World} (hs : ∀ cs b, o.op ≠ .select cs b) (hd : ∀ d, o.dst = some d → d < a.tmps.size) (hsz : b.tmps.size = a.tmps.size) (hlook : ∀ t ∈ o.looksAt ops, b.tmps[t]? = a.tmps[t]?) {i : Nat} (hi : ops[i]? = some o)
    (hdf : b.defers = a0.defers) (h : wpList P ops (Told V o.dst a0.defers w) [o] b w) : wpOp P ops Q i (fun a' w' => ∃ v, a' = a.put o.dst v ∧ V.p (match o.dst with | some _ => v | none => undef) w' ∧ w.grownBy w' none) a w := by
  have hex : execOp b.eval o = execOp a.eval o := execOp_congr o hs fun x hx => by
    cases x with
    | tmp t => exact eval_of _ _ _ (hlook t (List.mem_append_left _ (List.mem_filterMap.2 ⟨.tmp t, by simpa using hx, rfl⟩)))
    | _ => rfl
  have hwn : Region.wanted o (yielded ops b.tmps) = Region.wanted o (yielded ops a.tmps) := by
    unfold Region.wanted
    cases hg : o.guard with
    | none => rfl
    | some gw =>
      obtain ⟨g, want⟩ := gw
      have hy : yielded ops b.tmps g = yielded ops a.tmps g := by
        unfold yielded
        cases ht : (ops[g]?).bind (·.dst) with
        | none => rfl
        | some t => simp only [Option.bind_some, hlook t (by simp [Oper.looksAt, hg, ht])]
      simp only [hy]
  have fin : ∀ v w', Told V o.dst a0.defers w .normal (b.put o.dst v) w' → ∃ v', a.put o.dst v = a.put o.dst v' ∧ V.p (match o.dst with | some _ => v' | none => undef) w' ∧ w.grownBy w' none := by
    rintro v w' ⟨_, _, h1, h2⟩
    refine ⟨v, rfl, ?_, h2⟩
    cases hdd : o.dst with
    | none => rw [hdd] at h1; exact h1
    | some d =>
      rw [hdd] at h1
      have hlt := hd d hdd
      have : (b.put (some d) v).eval (.tmp d) = v := by simp [Act.put, Act.eval, Array.getD_eq_getD_getElem?, hsz, hlt]
      simp only [this] at h1
      exact h1
  unfold wpOp
  simp only [hi]
  simp only [wpList, hwn] at h
  split
  · rename_i hw
    rw [if_pos hw] at h
    rcases h with h | h
    · left
      unfold Oper.wp at h ⊢
      rw [hex] at h
      generalize (execOp a.eval o).run P w = r at *
      cases r with
      | ok x w' =>
        cases x with
        | value v => exact fin v w' h
        | skip => exact fin undef w' h
        | enter f args =>
          refine Calls.mono h fun e w'' he => ?_
          cases e with
          | returned u => exact fin u w'' he
          | panicked c => exact absurd he.1 (by simp)
          | outgrown => exact absurd he told_letsOut
        | row row args => exact Rows.mono h fun u w'' he => fin u w'' he
        | defer d =>
          obtain ⟨_, h1, _⟩ := h
          have h1 : (Act.put { b with defers := d :: b.defers } o.dst undef).defers = a0.defers := h1
          rw [put_defers, ← hdf] at h1
          exact absurd (congrArg List.length h1) (by simp)
        | _ => exact h.elim
      | halt x w' =>
        cases x with
        | panic v => exact absurd h.1 (by simp)
        | _ => exact h.elim
    · exact absurd h.2 told_letsOut
  · rename_i hw
    rw [if_neg hw] at h
    exact fin undef w h
theorem minv_step {Vs : List Pv} {D : Array Bool} {a a' : Act} {w w' : World} {i : Nat} {o : Oper} {V : Pv} {v : Value} (inv : MInv ops n a0 w0 Vs D a w) (hd : distB ops n a0.tmps.size = true) (hi : i ∈ Region.ready .any ops D) (hin : i < n) (ho : ops[i]? = some o) (hV : Vs[i]? = some V) (hnl : Vs.length ≤ n)
    (ha : a' = a.put o.dst v) (hv : V.p (match o.dst with | some _ => v | none => undef) w') (hg : w.grownBy w' none) : MInv ops n a0 w0 Vs (D.setIfInBounds i true) a' w' := by
  subst ha
  have hdi : dstAt ops i = o.dst := by simp [dstAt, ho]
  have hun : D.getD i true = false := (mem_ready.1 hi).1
  have hlt : i < D.size := by
    rcases Nat.lt_or_ge i D.size with h' | h'
    · exact h'
    · simp [Array.getElem?_eq_none h'] at hun
  refine ⟨inv.head.set hi hin, inv.grown.trans hg, (put_size _ _ _).trans inv.tsize, (put_defers _ _ _).trans inv.defers, fun t ht => ?_, fun j W hj hW => ?_⟩
  · have h1 : o.dst ≠ some t := fun e => ht i hin (by simp [hlt]) (hdi.trans e)
    refine Eq.trans ?_ (inv.rest t fun j hj hD => ht j hj (getD_set_true hD))
    cases hdd : o.dst with
    | none => rfl
    | some d => exact put_at _ _ _ _ (fun e => h1 (by rw [hdd, e]))
  · by_cases e : i = j
    · subst e
      obtain rfl : V = W := Option.some.inj (hV.symm.trans hW)
      rw [hdi]
      cases hdd : o.dst with
      | none => rw [hdd] at hv; exact hv
      | some d =>
        rw [hdd] at hv
        have hds := list_all_range hd hin
        rw [hdi, hdd] at hds
        simp only [Bool.and_eq_true, decide_eq_true_eq] at hds
        have : (a.put (some d) v).eval (.tmp d) = v := by simp [Act.put, Act.eval, Array.getD_eq_getD_getElem?, inv.tsize, hds.1]
        show V.p ((a.put (some d) v).eval (.tmp d)) w'
        rw [this]
        exact hv
    · have hjn : j < n := by have := (List.getElem?_eq_some_iff.1 hW).1; omega
      rw [getD_set_ne false e] at hj
      have h1 := W.st (inv.known j W hj hW) hg
      cases hdj : dstAt ops j with
      | none => rw [hdj] at h1; exact h1
      | some dj =>
        rw [hdj] at h1
        have h1 : W.p (a.eval (.tmp dj)) w' := h1
        show W.p ((a.put o.dst v).eval (.tmp dj)) w'
        cases hdd : o.dst with
        | none => exact h1
        | some d =>
          have hds := list_all_range hd hin
          rw [hdi, hdd] at hds
          simp only [Bool.and_eq_true, decide_eq_true_eq] at hds
          have h2 := list_all_range hds.2 hjn
          simp only [Bool.or_eq_true, beq_iff_eq, bne_iff_ne, ne_eq] at h2
          have h3 : d ≠ dj := fun e' => (h2.resolve_left (fun e2 => e e2.symm)) (by rw [hdj, e'])
          rw [eval_of _ a dj (put_at a d dj v h3)]
          exact h1
/-- The law. -/
theorem wpAny_mono {l : List Oper} (n : Nat) (hB : monoB l.toArray n a0.tmps.size = true)
    (h : Mono P l.toArray n a0 w0 (fun Vs => ∀ w, w0.grownBy w none → Fin' (fun a w => wpList P l.toArray Q (l.drop n) a w) w Vs (l.take n) a0) [] (l.take n)) : wpAny P .any l.toArray Q l.toArray.size (Array.replicate l.toArray.size false) a0 w0 := by
  simp only [monoB, Bool.and_eq_true, decide_eq_true_eq] at hB
  obtain ⟨⟨⟨⟨hsel, hn⟩, htail⟩, htopo⟩, hdist⟩ := hB
  simp only [tailB, Bool.and_eq_true] at htail
  obtain ⟨hblk, hseq⟩ := htail
  obtain ⟨Vs, hVl, hF, hO⟩ := Mono.out h
  rw [List.nil_append] at hF
  simp only [List.nil_append, List.length_nil, Nat.zero_add] at hO
  have hnl : n ≤ l.length := by simpa using hn
  have htl : (l.take n).length = n := by simp; omega
  have hVn : Vs.length = n := hVl.trans htl
  have hdl : (l.drop n).length = l.toArray.size - n := by simp
  have hnext : ∀ i o, i < n → l.toArray[i]? = some o → (l.take n)[i]? = some o := fun i o hi ho => by
    rw [List.getElem?_take, if_pos hi]
    simpa using ho
  have key : ∀ m D a w, MInv l.toArray n a0 w0 Vs D a w → cnt D n = m → wpAny P .any l.toArray Q (m + (l.toArray.size - n)) D a w := by
    intro m
    induction m with
    | zero =>
      intro D a w inv hc
      have hall := cnt_zero hc
      have hD : D = Array.replicate n true ++ Array.replicate (l.toArray.size - n) false := by
        have hsz := inv.head.size
        refine Array.ext (by simp [hsz]; omega) fun i h1 h2 => ?_
        rw [Array.getElem_append]
        by_cases hi : i < n
        · have := hall i hi
          simp [h1] at this
          simp [hi, this]
        · have := inv.head.tail i (by omega) (by omega)
          simp [h1] at this
          simp [hi, this]
      have hk : ∀ (k : Nat) (V : Pv) (o : Oper), Vs[k]? = some V → (l.take n)[k]? = some o → V.p (match o.dst with | some d => a.eval (.tmp d) | none => undef) w := by
        intro k V o hv ho
        have hkn : k < n := by have := (List.getElem?_eq_some_iff.1 hv).1; omega
        have h1 := inv.known k V (hall k hkn) hv
        have h2 : dstAt l.toArray k = o.dst := by
          have : l[k]? = some o := by rw [List.getElem?_take, if_pos hkn] at ho; exact ho
          simp [dstAt, this]
        rw [h2] at h1
        rw [match_valOf]
        exact h1
      have hfin := Fin'.all hVl hk (hF w inv.grown)
      have hon : onto a ((l.take n).map (·.dst)) a0 = a := by
        refine act_ext (fun t => onto_at a t _ _ inv.tsize.symm ?_) ((onto_defers _ _ _).trans inv.defers.symm)
        by_cases ht : some t ∈ (l.take n).map (·.dst)
        · exact .inl ht
        · refine .inr (inv.rest t fun j hj _ e => ht ?_).symm
          have hjl : j < l.length := by omega
          have : l[j].dst = some t := by simpa [dstAt, hjl] using e
          exact List.mem_map.2 ⟨l[j], List.mem_iff_getElem?.2 ⟨j, by rw [List.getElem?_take, if_pos hj, List.getElem?_eq_getElem hjl]⟩, this⟩
      rw [hon] at hfin
      have := wpAny_of_seq (md := .any) (Q' := Q) (l.drop n) n D a w (fun j => by simp [List.getElem?_drop]) (by rw [hdl, hD]; exact hseq) hfin
      rw [hdl] at this
      rwa [Nat.zero_add]
    | succ m ih =>
      intro D a w inv hc
      have hready : ∀ i ∈ Region.ready .any l.toArray D, i < n := by
        intro i hi
        rcases Nat.lt_or_ge i n with h' | h'
        · exact h'
        · obtain ⟨hu, oi, hoi, hall⟩ := mem_ready.1 hi
          have hlt : i < l.toArray.size := (Array.getElem?_eq_some_iff.1 hoi).1
          exfalso
          obtain ⟨k, hk, hkd⟩ : ∃ k, k < n ∧ D.getD k false = false := by
            refine Classical.byContradiction fun hno => ?_
            have : ∀ k, k ≤ n → cnt D k = 0 := by
              intro k
              induction k with
              | zero => intro _; rfl
              | succ k ihk =>
                intro hk
                have h1 : D.getD k false = true := by
                  refine Classical.byContradiction fun hx => hno ⟨k, by omega, by simpa using hx⟩
                simp only [cnt, h1, ihk (by omega)]
                rfl
            rw [this n (Nat.le_refl _)] at hc
            omega
          have hb := list_all_range hblk hlt
          simp only [Bool.or_eq_true, decide_eq_true_eq] at hb
          have hb := list_all_range (hb.resolve_left (by omega)) hk
          simp only [Bool.not_eq_true'] at hb
          have hik : i ≠ k := by omega
          have : av l.toArray k n i = true := by
            have hav := fun f j hj => av_of (ops := l.toArray) inv.head.closed inv.head.size hkd f j hj
            cases hn0 : n with
            | zero => simp [av, hik]
            | succ f =>
              simp only [av, hoi, Option.map_some, Option.getD_some, Bool.and_eq_true, bne_iff_ne]
              refine ⟨hik, ?_⟩
              rw [Array.all_eq_true_iff_forall_mem]
              intro e he
              by_cases hbd : Region.binds .any e = true
              · simp [hbd, hav f e.on (hall e he hbd)]
              · simp [hbd]
          rw [hb] at this
          cases this
      have hne : Region.ready .any l.toArray D ≠ [] := by
        have hex : ∃ k, k < n ∧ D.getD k false = false ∧ ∀ j, j < k → D.getD j false = true := by
          have : ∀ k, k ≤ n → (∃ q, q < k ∧ D.getD q false = false ∧ ∀ j, j < q → D.getD j false = true) ∨ (cnt D k = 0) := by
            intro k
            induction k with
            | zero => intro _; exact .inr rfl
            | succ k ihk =>
              intro hk
              rcases ihk (by omega) with ⟨q, h1, h2⟩ | h0
              · exact .inl ⟨q, by omega, h2⟩
              · cases hq : D.getD k false with
                | true => right; simp only [cnt, hq, h0]; rfl
                | false => exact .inl ⟨k, by omega, hq, cnt_zero h0⟩
          rcases this n (Nat.le_refl _) with ⟨q, h1, h2⟩ | h0
          · exact ⟨q, h1, h2⟩
          · omega
        obtain ⟨k, hk, hkd, hbel⟩ := hex
        have hkl : k < l.toArray.size := by omega
        have ho : l.toArray[k]? = some l.toArray[k] := Array.getElem?_eq_getElem hkl
        have : k ∈ Region.ready .any l.toArray D := by
          refine mem_ready.2 ⟨getD_in (by rw [inv.head.size]; exact hkl) hkd, _, ho, fun e he hb => hbel _ ?_⟩
          have ht := list_all_range htopo hk
          simp only [ho, Option.map_some, Option.getD_some] at ht
          have := Array.all_eq_true_iff_forall_mem.1 ht e he
          simpa [hb] using this
        intro e
        rw [e] at this
        cases this
      rw [show m + 1 + (l.toArray.size - n) = (m + (l.toArray.size - n)) + 1 by omega]
      refine ⟨fun e => absurd e hne, fun i hi => ?_⟩
      have hin := hready i hi
      obtain ⟨hu, o, ho, hall⟩ := mem_ready.1 hi
      obtain ⟨V, js, hV, hchk, hask⟩ := hO i o (hnext i o hin ho)
      simp only [Bool.and_eq_true] at hchk
      obtain ⟨hpair, hlook⟩ := hchk
      have hdst : ∀ d, o.dst = some d → d < a.tmps.size := by
        intro d hd
        have := list_all_range hdist hin
        have h2 : dstAt l.toArray i = some d := by simp only [dstAt, ho]; exact hd
        rw [h2] at this
        simp only [Bool.and_eq_true, decide_eq_true_eq] at this
        rw [inv.tsize]
        exact this.1
      have hjs : ∀ x : Nat × Tmp, x ∈ js → dstAt l.toArray x.1 = some x.2 ∧ D.getD x.1 false = true ∧ x.1 < i := by
        intro x hx
        have := List.all_eq_true.1 hpair x hx
        simp only [Bool.and_eq_true, beq_iff_eq] at this
        obtain ⟨oj, hoj, e, he, hb, hon⟩ := Region.waitsFor_spec this.2
        obtain rfl : o = oj := Option.some.inj (ho.symm.trans hoj)
        have ht := list_all_range htopo hin
        simp only [ho, Option.map_some, Option.getD_some] at ht
        have ht := Array.all_eq_true_iff_forall_mem.1 ht e he
        simp only [hb, Bool.not_true, Bool.false_or, decide_eq_true_eq] at ht
        exact ⟨this.1, by rw [← hon]; exact hall e he hb, by rw [← hon]; exact ht⟩
      have hA := hask w inv.grown
      have hW := Ask.all (b := a) (fun x hx => by
        obtain ⟨h1, h2, h3⟩ := hjs x hx
        have hxl : x.1 < Vs.length := by omega
        have h4 : Vs[x.1]? = some Vs[x.1] := List.getElem?_eq_getElem hxl
        have h5 := inv.known x.1 _ h2 h4
        rw [h1] at h5
        have : (Vs.take i).getD x.1 Pv.any = Vs[x.1] := by
          rw [List.getD_eq_getElem?_getD, List.getElem?_take, if_pos h3, h4]
          rfl
        rw [this]
        exact h5) hA
      have hop := told_op (Q := Q) (ops := l.toArray) (a0 := a0) (a := a) (Region.noSelect_spec hsel i o · · ho) hdst ((onto_size _ _ _).trans inv.tsize.symm) (fun t ht => by
        refine onto_at a t _ _ inv.tsize.symm ?_
        have h1 : (o.looksAt l.toArray).all (fun t => js.any (·.2 == t) || keptB l.toArray n i t) = true := by
          simpa only [lookB, ho, Option.map_some, Option.getD_some] using hlook
        have h2 := List.all_eq_true.1 h1 t ht
        simp only [Bool.or_eq_true] at h2
        rcases h2 with h2 | h2
        · left
          obtain ⟨x, hx, hxt⟩ := List.any_eq_true.1 h2
          exact List.mem_map.2 ⟨x, hx, by rw [beq_iff_eq.1 hxt]⟩
        · right
          refine (inv.rest t fun j hj hD e => ?_).symm
          have h3 := list_all_range h2 hj
          simp only [Bool.or_eq_true, bne_iff_ne, ne_eq, beq_iff_eq] at h3
          rcases h3 with (h3 | h3) | h3
          · exact h3 e
          · obtain ⟨oj, hoj, e', he', hb', hon⟩ := Region.waitsFor_spec h3
            have := inv.head.closed j oj hoj hD e' he' hb'
            rw [hon, getD_both hu] at this
            cases this
          · subst h3
            rw [getD_both hu] at hD
            cases hD) ho (onto_defers _ _ _) hW
      refine wpOp_mono (fun a' w' hk => ?_) hop
      obtain ⟨v, ha, hv, hg⟩ := hk
      exact ih _ a' w' (minv_step inv hdist hi hin ho hV (by omega) ha hv hg) (by have := (cnt_set (D := D) (i := i) n).2 hin hu; omega)
  have h0 := key n (Array.replicate l.toArray.size false) a0 w0 ⟨⟨by simp, (fun j oj _ hD => by rw [getD_replicate_false] at hD; cases hD), fun t _ ht => by simp only [List.size_toArray] at ht ⊢; simp [ht]⟩, World.grownBy.refl w0 none, rfl, rfl, fun _ _ => rfl, (fun j V hD => by rw [getD_replicate_false] at hD; cases hD)⟩ (cnt_false _ n)
  rwa [show n + (l.toArray.size - n) = l.toArray.size by omega] at h0
/-- One operation that is carried out .. -/
theorem ask_do {V : Pv} {ds : List Deferred} {o : Oper} {a : Act} {w : World} (hw : Region.wanted o (yielded ops a.tmps) = true)
    (h : ∀ K : Act → World → Prop, (∀ a' w', a'.defers = ds → V.p (match o.dst with | some d => a'.eval (.tmp d) | none => undef) w' → w.grownBy w' none → K a' w') → o.wp P a w K (Told V o.dst ds w)) : wpList P ops (Told V o.dst ds w) [o] a w := by
  unfold wpList
  rw [if_pos hw]
  exact .inl (h _ fun a' w' h1 h2 h3 => ⟨rfl, h1, h2, h3⟩)
/-- .. or is not. -/
theorem ask_skip {V : Pv} {ds : List Deferred} {o : Oper} {a : Act} {w : World} (hw : Region.wanted o (yielded ops a.tmps) = false) (h1 : (a.put o.dst undef).defers = ds) (h2 : V.p (match o.dst with | some d => (a.put o.dst undef).eval (.tmp d) | none => undef) w) : wpList P ops (Told V o.dst ds w) [o] a w := by
  unfold wpList
  rw [if_neg (by rw [hw]; simp)]
  exact ⟨rfl, h1, h2, World.grownBy.refl w none⟩
/-- The same, over the whole row. -/
def MonoN (P : Program) (ops : Array Oper) (n : Nat) (a0 : Act) (w0 : World) (F : List Pv → List Oper → Prop) : Nat → List Pv → List Oper → Prop
  | 0, Vs, os => F Vs os
  | _ + 1, _, [] => False
  | k + 1, Vs, o :: os => ∃ (V : Pv) (js : List (Nat × Tmp)), (pairB ops Vs.length js && lookB ops n Vs.length js) = true ∧ (∀ w, w0.grownBy w none → Ask P ops Vs (Told V o.dst a0.defers w) o w js a0) ∧ MonoN P ops n a0 w0 F k (Vs ++ [V]) os
theorem MonoN.step {F : List Pv → List Oper → Prop} {k : Nat} {Vs : List Pv} {o : Oper} {os : List Oper} (V : Pv) (js : List (Nat × Tmp)) (hc : (pairB ops Vs.length js && lookB ops n Vs.length js) = true) (hA : ∀ w, w0.grownBy w none → Ask P ops Vs (Told V o.dst a0.defers w) o w js a0) (h : MonoN P ops n a0 w0 F k (Vs ++ [V]) os) : MonoN P ops n a0 w0 F (k + 1) Vs (o :: os) := ⟨V, js, hc, hA, h⟩
/-- What is behind them. -/
def FinN (P : Program) (ops : Array Oper) (Q : Exit → Act → World → Prop) (w : World) : List Pv → List Oper → Act → Prop
  | V :: Vs, o :: os, a => ∀ x, V.p x w → FinN P ops Q w Vs os (a.put o.dst x)
  | _, os, a => wpList P ops Q os a w
theorem FinN.cut {w : World} : ∀ {Vs : List Pv} {os : List Oper} {a : Act}, Vs.length ≤ os.length → FinN P ops Q w Vs os a → Fin' (fun a w => wpList P ops Q (os.drop Vs.length) a w) w Vs (os.take Vs.length) a
  | [], os, a, _, h => by
    have h : wpList P ops Q os a w := by cases os <;> exact h
    exact h
  | V :: Vs, [], a, hl, _ => by simp at hl
  | V :: Vs, o :: os, a, hl, h => fun x hx => FinN.cut (Vs := Vs) (os := os) (by simpa using hl) (h x hx)
theorem MonoN.cut {F : List Pv → List Oper → Prop} : ∀ {k : Nat} {Vs : List Pv} {os : List Oper}, MonoN P ops n a0 w0 F k Vs os → Mono P ops n a0 w0 (fun Ws => F Ws (os.drop k)) Vs (os.take k) ∧ k ≤ os.length
  | 0, Vs, os, h => ⟨by cases os <;> exact h, Nat.zero_le _⟩
  | k + 1, Vs, [], h => h.elim
  | k + 1, Vs, o :: os, ⟨V, js, hc, hA, h⟩ => ⟨⟨V, js, hc, hA, (MonoN.cut h).1⟩, by simpa using (MonoN.cut h).2⟩
theorem wpAny_monoN {l : List Oper} (n : Nat) (hB : monoB l.toArray n a0.tmps.size = true)
    (h : MonoN P l.toArray n a0 w0 (fun Vs _ => ∀ w, w0.grownBy w none → FinN P l.toArray Q w Vs l a0) n [] l) : wpAny P .any l.toArray Q l.toArray.size (Array.replicate l.toArray.size false) a0 w0 := by
  obtain ⟨hM, hn⟩ := MonoN.cut h
  obtain ⟨Vs, hVl, hF, hO⟩ := Mono.out hM
  have hVn : Vs.length = n := by rw [hVl]; simp; omega
  refine wpAny_mono n hB (Mono.weak hM fun Ws hW hF w hw => ?_)
  have := FinN.cut (by rw [hW]; simp; omega) (hF w hw)
  rw [show Ws.length = n by rw [hW]; simp; omega] at this
  exact this
/-- The same, with what is known in the row in which it came, the last first. -/
def MonoR (P : Program) (ops : Array Oper) (n : Nat) (a0 : Act) (w0 : World) (F : List Pv → Prop) : Nat → List Pv → List Oper → Prop
  | 0, Rs, _ => F Rs.reverse
  | _ + 1, _, [] => False
  | k + 1, Rs, o :: os => ∃ (V : Pv) (js : List (Nat × Tmp)), (pairB ops Rs.length js && lookB ops n Rs.length js) = true ∧ (∀ w, w0.grownBy w none → Ask P ops Rs.reverse (Told V o.dst a0.defers w) o w js a0) ∧ MonoR P ops n a0 w0 F k (V :: Rs) os
theorem MonoR.step {F : List Pv → Prop} {k : Nat} {Rs : List Pv} {o : Oper} {os : List Oper} (V : Pv) (js : List (Nat × Tmp)) (hc : (pairB ops Rs.length js && lookB ops n Rs.length js) = true) (hA : ∀ w, w0.grownBy w none → Ask P ops Rs.reverse (Told V o.dst a0.defers w) o w js a0) (h : MonoR P ops n a0 w0 F k (V :: Rs) os) : MonoR P ops n a0 w0 F (k + 1) Rs (o :: os) := ⟨V, js, hc, hA, h⟩
theorem MonoR.up {F : List Pv → Prop} : ∀ {k : Nat} {Rs : List Pv} {os : List Oper}, MonoR P ops n a0 w0 F k Rs os → MonoN P ops n a0 w0 (fun Vs _ => F Vs) k Rs.reverse os
  | 0, _, _, h => h
  | _ + 1, _, [], h => h.elim
  | k + 1, Rs, o :: os, ⟨V, js, hc, hA, h⟩ => ⟨V, js, by rw [List.length_reverse]; exact hc, hA, by have := MonoR.up h; rwa [List.reverse_cons] at this⟩
theorem wpAny_monoR {l : List Oper} (n : Nat) (hB : monoB l.toArray n a0.tmps.size = true)
    (h : MonoR P l.toArray n a0 w0 (fun Vs => ∀ w, w0.grownBy w none → FinN P l.toArray Q w Vs l a0) n [] l) : wpAny P .any l.toArray Q l.toArray.size (Array.replicate l.toArray.size false) a0 w0 :=
  wpAny_monoN n hB (MonoR.up h)
theorem wp_region_mono {l : List Oper} {id : Nat} (n : Nat) (hm : P.follows .mixedOrders = true) (hB : monoB l.toArray n a0.tmps.size = true)
    (h : MonoR P l.toArray n a0 w0.drew (fun Vs => ∀ w, w0.drew.grownBy w none → FinN P l.toArray Q w Vs l a0) n [] l) : (Code.region id l.toArray true).wp P Q a0 w0 :=
  wp_region_any hm (wpAny_monoR n hB h)
end
def TT : Nat → Prop := fun _ => True
/-- Things laid one behind the other into a new block. -/
def RepL {α : Type} (E : Enc α) (w : World) : List (List Value) → List α → Prop
  | [], [] => True
  | c :: cs, x :: xs => E.rep TT w c x ∧ RepL E w cs xs
  | _, _ => False
theorem RepL.out {α : Type} {E : Enc α} {w : World} : ∀ {css : List (List Value)} {xs : List α}, RepL E w css xs → css.length = xs.length ∧ ∀ i (h : i < xs.length) (h' : i < css.length), E.rep TT w css[i] xs[i]
  | [], [], _ => ⟨rfl, fun i h => by simp at h⟩
  | c :: cs, x :: xs, ⟨h1, h2⟩ => by
    obtain ⟨k1, k2⟩ := RepL.out h2
    refine ⟨by simp [k1], fun i h h' => ?_⟩
    cases i with
    | zero => exact h1
    | succ i => exact k2 i (by simpa using h) (by simpa using h')
theorem RepL.kept {α : Type} {E : Enc α} {w w' : World} (hg : w.grownBy w' none) : ∀ {css : List (List Value)} {xs : List α}, RepL E w css xs → RepL E w' css xs
  | [], [], _ => trivial
  | _ :: _, _ :: _, ⟨h1, h2⟩ => ⟨E.keep h1 hg (by simp), RepL.kept hg h2⟩
theorem Sl.build {α : Type} {E : Enc α} {w : World} {t : TypeId} {cs : Array Value} {xs : List α} {n : Nat} (css : List (List Value)) (hn : xs.length = n) (hr : RepL E w css xs) (hc : cs.toList = css.flatten) (hb : n ≤ 9223372036854775807) : Sl E TT (w.alloc (.cells cs t)) (.slice (some ⟨w.heap.size, 0, none⟩) n n) xs := by
  subst hn
  obtain ⟨h1, h2⟩ := (hr.kept (World.grownBy_alloc w (.cells cs t) none)).out
  exact Sl.block (Bk.new w t cs) trivial css h1 h2 hc (Nat.le_refl _) hb
end Go.Proofs.Ytlhjbllfcbojmaa

namespace Go.Proofs.Ytlhjbllfcbojmaa
open Go

section
variable {P : Program} {ops : Array Oper} {Q : Exit → Act → World → Prop} {n : Nat} {a0 : Act} {w0 : World}

def ToldC (u : Value) (dst : Option Tmp) (ds : List Deferred) (K : World → Prop) : Exit → Act → World → Prop := fun e a' w' => e = .normal ∧ a'.defers = ds ∧ (match dst with | some d => a'.eval (.tmp d) | none => undef) = u ∧ K w'
def FlagR (P : Program) (ops : Array Oper) (n : Nat) (a0 : Act) (C : Array Bool → World → Prop) (us : List Value) : Nat → Nat → List Oper → Prop
  | 0, _, _ => True
  | _ + 1, _, [] => False
  | k + 1, i, o :: os => (∃ js : List (Nat × Tmp), (pairB ops i js && lookB ops n i js) = true ∧ ∀ D w, D.size = ops.size → D.getD i false = false → (∀ k, av ops i n k = false → D.getD k false = false) → C D w → Ask P ops (us.map Pv.eq) (ToldC (us.getD i undef) o.dst a0.defers (C (D.setIfInBounds i true))) o w js a0) ∧ FlagR P ops n a0 C us k (i + 1) os
theorem FlagR.out {C : Array Bool → World → Prop} {us : List Value} : ∀ {k i : Nat} {os : List Oper}, FlagR P ops n a0 C us k i os → ∀ m o, m < k → os[m]? = some o → ∃ js : List (Nat × Tmp), (pairB ops (i + m) js && lookB ops n (i + m) js) = true ∧ ∀ D w, D.size = ops.size → D.getD (i + m) false = false → (∀ k, av ops (i + m) n k = false → D.getD k false = false) → C D w → Ask P ops (us.map Pv.eq) (ToldC (us.getD (i + m) undef) o.dst a0.defers (C (D.setIfInBounds (i + m) true))) o w js a0
  | 0, _, _, _, m, o, hm, _ => by omega
  | _ + 1, _, [], h, _, _, _, _ => h.elim
  | k + 1, i, o :: os, h, m, o', hm, ho => by
    cases m with
    | zero =>
      obtain rfl : o = o' := by simpa using ho
      exact h.1
    | succ m =>
      have := FlagR.out h.2 m o' (by omega) (by simpa using ho)
      rwa [show i + 1 + m = i + (m + 1) by omega] at this
theorem FlagR.step {C : Array Bool → World → Prop} {us : List Value} {k i : Nat} {o : Oper} {os : List Oper} (js : List (Nat × Tmp)) (hc : (pairB ops i js && lookB ops n i js) = true) (hA : ∀ D w, D.size = ops.size → D.getD i false = false → (∀ k, av ops i n k = false → D.getD k false = false) → C D w → Ask P ops (us.map Pv.eq) (ToldC (us.getD i undef) o.dst a0.defers (C (D.setIfInBounds i true))) o w js a0) (h : FlagR P ops n a0 C us k (i + 1) os) : FlagR P ops n a0 C us (k + 1) i (o :: os) := ⟨⟨js, hc, hA⟩, h⟩
structure FInv (ops : Array Oper) (n : Nat) (a0 : Act) (C : Array Bool → World → Prop) (us : List Value) (D : Array Bool) (a : Act) (w : World) : Prop where
  head : HeadInv .any ops n D
  cls : C D w
  tsize : a.tmps.size = a0.tmps.size
  defers : a.defers = a0.defers
  rest : ∀ t, (∀ j, j < n → D.getD j false = true → dstAt ops j ≠ some t) → a.tmps[t]? = a0.tmps[t]?
  known : ∀ j u, D.getD j false = true → us[j]? = some u → valOf (dstAt ops j) a = u
theorem toldC_letsOut {u : Value} {dst : Option Tmp} {ds : List Deferred} {K : World → Prop} : ¬ LetsOut (ToldC u dst ds K) := by
  rintro ⟨a, w', e, _⟩
  cases e
theorem toldC_op {u : Value} {K : World → Prop} {o : Oper} {a b : Act} {w : World} (hs : ∀ cs b, o.op ≠ .select cs b) (hd : ∀ d, o.dst = some d → d < a.tmps.size) (hsz : b.tmps.size = a.tmps.size) (hlook : ∀ t ∈ o.looksAt ops, b.tmps[t]? = a.tmps[t]?) {i : Nat} (hi : ops[i]? = some o)
    (hdf : b.defers = a0.defers) (h : wpList P ops (ToldC u o.dst a0.defers K) [o] b w) : wpOp P ops Q i (fun a' w' => ∃ v, a' = a.put o.dst v ∧ (match o.dst with | some _ => v | none => undef) = u ∧ K w') a w := by
  have hex : execOp b.eval o = execOp a.eval o := execOp_congr o hs fun x hx => by
    cases x with
    | tmp t => exact eval_of _ _ _ (hlook t (List.mem_append_left _ (List.mem_filterMap.2 ⟨.tmp t, by simpa using hx, rfl⟩)))
    | _ => rfl
  have hwn : Region.wanted o (yielded ops b.tmps) = Region.wanted o (yielded ops a.tmps) := by
    unfold Region.wanted
    cases hg : o.guard with
    | none => rfl
    | some gw =>
      obtain ⟨g, want⟩ := gw
      have hy : yielded ops b.tmps g = yielded ops a.tmps g := by
        unfold yielded
        cases ht : (ops[g]?).bind (·.dst) with
        | none => rfl
        | some t => simp only [Option.bind_some, hlook t (by simp [Oper.looksAt, hg, ht])]
      simp only [hy]
  have fin : ∀ v w', ToldC u o.dst a0.defers K .normal (b.put o.dst v) w' → ∃ v', a.put o.dst v = a.put o.dst v' ∧ (match o.dst with | some _ => v' | none => undef) = u ∧ K w' := by
    rintro v w' ⟨_, _, h1, h2⟩
    refine ⟨v, rfl, ?_, h2⟩
    cases hdd : o.dst with
    | none => rw [hdd] at h1; exact h1
    | some d =>
      rw [hdd] at h1
      have hlt := hd d hdd
      have : (b.put (some d) v).eval (.tmp d) = v := by simp [Act.put, Act.eval, Array.getD_eq_getD_getElem?, hsz, hlt]
      simp only [this] at h1
      exact h1
  unfold wpOp
  simp only [hi]
  simp only [wpList, hwn] at h
  split
  · rename_i hw
    rw [if_pos hw] at h
    rcases h with h | h
    · left
      unfold Oper.wp at h ⊢
      rw [hex] at h
      generalize (execOp a.eval o).run P w = r at *
      cases r with
      | ok x w' =>
        cases x with
        | value v => exact fin v w' h
        | skip => exact fin undef w' h
        | enter f args =>
          refine Calls.mono h fun e w'' he => ?_
          cases e with
          | returned u => exact fin u w'' he
          | panicked c => exact absurd he.1 (by simp)
          | outgrown => exact absurd he toldC_letsOut
        | row row args => exact Rows.mono h fun u w'' he => fin u w'' he
        | defer d =>
          obtain ⟨_, h1, _⟩ := h
          have h1 : (Act.put { b with defers := d :: b.defers } o.dst undef).defers = a0.defers := h1
          rw [put_defers, ← hdf] at h1
          exact absurd (congrArg List.length h1) (by simp)
        | _ => exact h.elim
      | halt x w' =>
        cases x with
        | panic v => exact absurd h.1 (by simp)
        | _ => exact h.elim
    · exact absurd h.2 toldC_letsOut
  · rename_i hw
    rw [if_neg hw] at h
    exact fin undef w h
theorem finv_step {C : Array Bool → World → Prop} {us : List Value} {D : Array Bool} {a a' : Act} {w w' : World} {i : Nat} {o : Oper} {v : Value} (inv : FInv ops n a0 C us D a w) (hd : distB ops n a0.tmps.size = true) (hi : i ∈ Region.ready .any ops D) (hin : i < n) (ho : ops[i]? = some o) (hnl : us.length ≤ n)
    (ha : a' = a.put o.dst v) (hv : (match o.dst with | some _ => v | none => undef) = us.getD i undef) (hg : C (D.setIfInBounds i true) w') : FInv ops n a0 C us (D.setIfInBounds i true) a' w' := by
  subst ha
  have hdi : dstAt ops i = o.dst := by simp [dstAt, ho]
  have hun : D.getD i true = false := (mem_ready.1 hi).1
  have hlt : i < D.size := by
    rcases Nat.lt_or_ge i D.size with h' | h'
    · exact h'
    · simp [Array.getElem?_eq_none h'] at hun
  refine ⟨inv.head.set hi hin, hg, (put_size _ _ _).trans inv.tsize, (put_defers _ _ _).trans inv.defers, fun t ht => ?_, fun j W hj hW => ?_⟩
  · have h1 : o.dst ≠ some t := fun e => ht i hin (by simp [hlt]) (hdi.trans e)
    refine Eq.trans ?_ (inv.rest t fun j hj hD => ht j hj (getD_set_true hD))
    cases hdd : o.dst with
    | none => rfl
    | some d => exact put_at _ _ _ _ (fun e => h1 (by rw [hdd, e]))
  · by_cases e : i = j
    · subst e
      have hWe : us.getD i undef = W := by rw [List.getD_eq_getElem?_getD, hW]; rfl
      rw [hWe] at hv
      rw [hdi]
      cases hdd : o.dst with
      | none => rw [hdd] at hv; exact hv
      | some d =>
        rw [hdd] at hv
        have hds := list_all_range hd hin
        rw [hdi, hdd] at hds
        simp only [Bool.and_eq_true, decide_eq_true_eq] at hds
        have : (a.put (some d) v).eval (.tmp d) = v := by simp [Act.put, Act.eval, Array.getD_eq_getD_getElem?, inv.tsize, hds.1]
        show (a.put (some d) v).eval (.tmp d) = W
        rw [this]
        exact hv
    · have hjn : j < n := by have := (List.getElem?_eq_some_iff.1 hW).1; omega
      rw [getD_set_ne false e] at hj
      have h1 := inv.known j W hj hW
      cases hdj : dstAt ops j with
      | none => rw [hdj] at h1; exact h1
      | some dj =>
        rw [hdj] at h1
        have h1 : a.eval (.tmp dj) = W := h1
        show (a.put o.dst v).eval (.tmp dj) = W
        cases hdd : o.dst with
        | none => exact h1
        | some d =>
          have hds := list_all_range hd hin
          rw [hdi, hdd] at hds
          simp only [Bool.and_eq_true, decide_eq_true_eq] at hds
          have h2 := list_all_range hds.2 hjn
          simp only [Bool.or_eq_true, beq_iff_eq, bne_iff_ne, ne_eq] at h2
          have h3 : d ≠ dj := fun e' => (h2.resolve_left (fun e2 => e e2.symm)) (by rw [hdj, e'])
          rw [eval_of _ a dj (put_at a d dj v h3)]
          exact h1
/-- The law. -/
theorem wpAny_flag {l : List Oper} (n : Nat) (C : Array Bool → World → Prop) (us : List Value) (hB : monoB l.toArray n a0.tmps.size = true) (hul : us.length = n) (hC0 : C (Array.replicate l.toArray.size false) w0)
    (h : FlagR P l.toArray n a0 C us n 0 l) (hF : ∀ D w, (∀ i, i < n → D.getD i false = true) → C D w → FinN P l.toArray Q w (us.map Pv.eq) l a0) : wpAny P .any l.toArray Q l.toArray.size (Array.replicate l.toArray.size false) a0 w0 := by
  simp only [monoB, Bool.and_eq_true, decide_eq_true_eq] at hB
  obtain ⟨⟨⟨⟨hsel, hn⟩, htail⟩, htopo⟩, hdist⟩ := hB
  simp only [tailB, Bool.and_eq_true] at htail
  obtain ⟨hblk, hseq⟩ := htail
  have hnl : n ≤ l.length := by simpa using hn
  have htl : (l.take n).length = n := by simp; omega
  have hVn : us.length = n := hul
  have hdl : (l.drop n).length = l.toArray.size - n := by simp
  have hnext : ∀ i o, i < n → l.toArray[i]? = some o → (l.take n)[i]? = some o := fun i o hi ho => by
    rw [List.getElem?_take, if_pos hi]
    simpa using ho
  have key : ∀ m D a w, FInv l.toArray n a0 C us D a w → cnt D n = m → wpAny P .any l.toArray Q (m + (l.toArray.size - n)) D a w := by
    intro m
    induction m with
    | zero =>
      intro D a w inv hc
      have hall := cnt_zero hc
      have hD : D = Array.replicate n true ++ Array.replicate (l.toArray.size - n) false := by
        have hsz := inv.head.size
        refine Array.ext (by simp [hsz]; omega) fun i h1 h2 => ?_
        rw [Array.getElem_append]
        by_cases hi : i < n
        · have := hall i hi
          simp [h1] at this
          simp [hi, this]
        · have := inv.head.tail i (by omega) (by omega)
          simp [h1] at this
          simp [hi, this]
      have hlen : (us.map Pv.eq).length = (l.take n).length := by rw [List.length_map, hul, htl]
      have hk : ∀ (k : Nat) (V : Pv) (o : Oper), (us.map Pv.eq)[k]? = some V → (l.take n)[k]? = some o → V.p (match o.dst with | some d => a.eval (.tmp d) | none => undef) w := by
        intro k V o hv ho
        rw [List.getElem?_map] at hv
        obtain ⟨u, hu, rfl⟩ := Option.map_eq_some_iff.1 hv
        have hkn : k < n := by have := (List.getElem?_eq_some_iff.1 hu).1; omega
        have h1 := inv.known k u (hall k hkn) hu
        have h2 : dstAt l.toArray k = o.dst := by
          have : l[k]? = some o := by rw [List.getElem?_take, if_pos hkn] at ho; exact ho
          simp [dstAt, this]
        rw [h2] at h1
        refine Eq.trans ?_ h1
        unfold valOf; cases o.dst <;> rfl
      have hcut := FinN.cut (Vs := us.map Pv.eq) (os := l) (by rw [List.length_map]; omega) (hF D w hall inv.cls)
      rw [show (us.map Pv.eq).length = n by rw [List.length_map]; exact hul] at hcut
      have hfin := Fin'.all hlen hk hcut
      have hon : onto a ((l.take n).map (·.dst)) a0 = a := by
        refine act_ext (fun t => onto_at a t _ _ inv.tsize.symm ?_) ((onto_defers _ _ _).trans inv.defers.symm)
        by_cases ht : some t ∈ (l.take n).map (·.dst)
        · exact .inl ht
        · refine .inr (inv.rest t fun j hj _ e => ht ?_).symm
          have hjl : j < l.length := by omega
          have : l[j].dst = some t := by simpa [dstAt, hjl] using e
          exact List.mem_map.2 ⟨l[j], List.mem_iff_getElem?.2 ⟨j, by rw [List.getElem?_take, if_pos hj, List.getElem?_eq_getElem hjl]⟩, this⟩
      rw [hon] at hfin
      have := wpAny_of_seq (md := .any) (Q' := Q) (l.drop n) n D a w (fun j => by simp [List.getElem?_drop]) (by rw [hdl, hD]; exact hseq) hfin
      rw [hdl] at this
      rwa [Nat.zero_add]
    | succ m ih =>
      intro D a w inv hc
      have hready : ∀ i ∈ Region.ready .any l.toArray D, i < n := by
        intro i hi
        rcases Nat.lt_or_ge i n with h' | h'
        · exact h'
        · obtain ⟨hu, oi, hoi, hall⟩ := mem_ready.1 hi
          have hlt : i < l.toArray.size := (Array.getElem?_eq_some_iff.1 hoi).1
          exfalso
          obtain ⟨k, hk, hkd⟩ : ∃ k, k < n ∧ D.getD k false = false := by
            refine Classical.byContradiction fun hno => ?_
            have : ∀ k, k ≤ n → cnt D k = 0 := by
              intro k
              induction k with
              | zero => intro _; rfl
              | succ k ihk =>
                intro hk
                have h1 : D.getD k false = true := by
                  refine Classical.byContradiction fun hx => hno ⟨k, by omega, by simpa using hx⟩
                simp only [cnt, h1, ihk (by omega)]
                rfl
            rw [this n (Nat.le_refl _)] at hc
            omega
          have hb := list_all_range hblk hlt
          simp only [Bool.or_eq_true, decide_eq_true_eq] at hb
          have hb := list_all_range (hb.resolve_left (by omega)) hk
          simp only [Bool.not_eq_true'] at hb
          have hik : i ≠ k := by omega
          have : av l.toArray k n i = true := by
            have hav := fun f j hj => av_of (ops := l.toArray) inv.head.closed inv.head.size hkd f j hj
            cases hn0 : n with
            | zero => simp [av, hik]
            | succ f =>
              simp only [av, hoi, Option.map_some, Option.getD_some, Bool.and_eq_true, bne_iff_ne]
              refine ⟨hik, ?_⟩
              rw [Array.all_eq_true_iff_forall_mem]
              intro e he
              by_cases hbd : Region.binds .any e = true
              · simp [hbd, hav f e.on (hall e he hbd)]
              · simp [hbd]
          rw [hb] at this
          cases this
      have hne : Region.ready .any l.toArray D ≠ [] := by
        have hex : ∃ k, k < n ∧ D.getD k false = false ∧ ∀ j, j < k → D.getD j false = true := by
          have : ∀ k, k ≤ n → (∃ q, q < k ∧ D.getD q false = false ∧ ∀ j, j < q → D.getD j false = true) ∨ (cnt D k = 0) := by
            intro k
            induction k with
            | zero => intro _; exact .inr rfl
            | succ k ihk =>
              intro hk
              rcases ihk (by omega) with ⟨q, h1, h2⟩ | h0
              · exact .inl ⟨q, by omega, h2⟩
              · cases hq : D.getD k false with
                | true => right; simp only [cnt, hq, h0]; rfl
                | false => exact .inl ⟨k, by omega, hq, cnt_zero h0⟩
          rcases this n (Nat.le_refl _) with ⟨q, h1, h2⟩ | h0
          · exact ⟨q, h1, h2⟩
          · omega
        obtain ⟨k, hk, hkd, hbel⟩ := hex
        have hkl : k < l.toArray.size := by omega
        have ho : l.toArray[k]? = some l.toArray[k] := Array.getElem?_eq_getElem hkl
        have : k ∈ Region.ready .any l.toArray D := by
          refine mem_ready.2 ⟨getD_in (by rw [inv.head.size]; exact hkl) hkd, _, ho, fun e he hb => hbel _ ?_⟩
          have ht := list_all_range htopo hk
          simp only [ho, Option.map_some, Option.getD_some] at ht
          have := Array.all_eq_true_iff_forall_mem.1 ht e he
          simpa [hb] using this
        intro e
        rw [e] at this
        cases this
      rw [show m + 1 + (l.toArray.size - n) = (m + (l.toArray.size - n)) + 1 by omega]
      refine ⟨fun e => absurd e hne, fun i hi => ?_⟩
      have hin := hready i hi
      obtain ⟨hu, o, ho, hall⟩ := mem_ready.1 hi
      obtain ⟨js, hchk, hask⟩ := FlagR.out h i o hin (by simpa using ho)
      simp only [Nat.zero_add, Bool.and_eq_true] at hchk hask
      obtain ⟨hpair, hlook⟩ := hchk
      have hdst : ∀ d, o.dst = some d → d < a.tmps.size := by
        intro d hd
        have := list_all_range hdist hin
        have h2 : dstAt l.toArray i = some d := by simp only [dstAt, ho]; exact hd
        rw [h2] at this
        simp only [Bool.and_eq_true, decide_eq_true_eq] at this
        rw [inv.tsize]
        exact this.1
      have hjs : ∀ x : Nat × Tmp, x ∈ js → dstAt l.toArray x.1 = some x.2 ∧ D.getD x.1 false = true ∧ x.1 < i := by
        intro x hx
        have := List.all_eq_true.1 hpair x hx
        simp only [Bool.and_eq_true, beq_iff_eq] at this
        obtain ⟨oj, hoj, e, he, hb, hon⟩ := Region.waitsFor_spec this.2
        obtain rfl : o = oj := Option.some.inj (ho.symm.trans hoj)
        have ht := list_all_range htopo hin
        simp only [ho, Option.map_some, Option.getD_some] at ht
        have ht := Array.all_eq_true_iff_forall_mem.1 ht e he
        simp only [hb, Bool.not_true, Bool.false_or, decide_eq_true_eq] at ht
        exact ⟨this.1, by rw [← hon]; exact hall e he hb, by rw [← hon]; exact ht⟩
      have hA := hask D w inv.head.size (getD_both hu) (fun k hk => by
        cases hdk : D.getD k false with
        | false => rfl
        | true => rw [av_of (ops := l.toArray) inv.head.closed inv.head.size (getD_both hu) n k hdk] at hk; cases hk) inv.cls
      have hW := Ask.all (b := a) (fun x hx => by
        obtain ⟨h1, h2, h3⟩ := hjs x hx
        have hxl : x.1 < us.length := by omega
        have h4 : us[x.1]? = some us[x.1] := List.getElem?_eq_getElem hxl
        have h5 := inv.known x.1 _ h2 h4
        rw [h1] at h5
        have : (us.map Pv.eq).getD x.1 Pv.any = Pv.eq us[x.1] := by
          rw [List.getD_eq_getElem?_getD, List.getElem?_map, h4]
          rfl
        rw [this]
        exact h5) hA
      have hop := toldC_op (Q := Q) (ops := l.toArray) (a0 := a0) (a := a) (Region.noSelect_spec hsel i o · · ho) hdst ((onto_size _ _ _).trans inv.tsize.symm) (fun t ht => by
        refine onto_at a t _ _ inv.tsize.symm ?_
        have h1 : (o.looksAt l.toArray).all (fun t => js.any (·.2 == t) || keptB l.toArray n i t) = true := by
          simpa only [lookB, ho, Option.map_some, Option.getD_some] using hlook
        have h2 := List.all_eq_true.1 h1 t ht
        simp only [Bool.or_eq_true] at h2
        rcases h2 with h2 | h2
        · left
          obtain ⟨x, hx, hxt⟩ := List.any_eq_true.1 h2
          exact List.mem_map.2 ⟨x, hx, by rw [beq_iff_eq.1 hxt]⟩
        · right
          refine (inv.rest t fun j hj hD e => ?_).symm
          have h3 := list_all_range h2 hj
          simp only [Bool.or_eq_true, bne_iff_ne, ne_eq, beq_iff_eq] at h3
          rcases h3 with (h3 | h3) | h3
          · exact h3 e
          · obtain ⟨oj, hoj, e', he', hb', hon⟩ := Region.waitsFor_spec h3
            have := inv.head.closed j oj hoj hD e' he' hb'
            rw [hon, getD_both hu] at this
            cases this
          · subst h3
            rw [getD_both hu] at hD
            cases hD) ho (onto_defers _ _ _) hW
      refine wpOp_mono (fun a' w' hk => ?_) hop
      obtain ⟨v, ha, hv, hg⟩ := hk
      exact ih _ a' w' (finv_step inv hdist hi hin ho (by omega) ha hv hg) (by have := (cnt_set (D := D) (i := i) n).2 hin hu; omega)
  have h0 := key n (Array.replicate l.toArray.size false) a0 w0 ⟨⟨by simp, (fun j oj _ hD => by rw [getD_replicate_false] at hD; cases hD), fun t _ ht => by simp only [List.size_toArray] at ht ⊢; simp [ht]⟩, hC0, rfl, rfl, fun _ _ => rfl, (fun j V hD => by rw [getD_replicate_false] at hD; cases hD)⟩ (cnt_false _ n)
  rwa [show n + (l.toArray.size - n) = l.toArray.size by omega] at h0
theorem askc_do {u : Value} {K : World → Prop} {ds : List Deferred} {o : Oper} {a : Act} {w : World} (hw : Region.wanted o (yielded ops a.tmps) = true)
    (h : ∀ K' : Act → World → Prop, (∀ a' w', a'.defers = ds → (match o.dst with | some d => a'.eval (.tmp d) | none => undef) = u → K w' → K' a' w') → o.wp P a w K' (ToldC u o.dst ds K)) : wpList P ops (ToldC u o.dst ds K) [o] a w := by
  unfold wpList
  rw [if_pos hw]
  exact .inl (h _ fun a' w' h1 h2 h3 => ⟨rfl, h1, h2, h3⟩)
end
end Go.Proofs.Ytlhjbllfcbojmaa

namespace Go.Proofs.Ytlhjbllfcbojmaa
open Go.RowKit

set_option maxRecDepth 100000 in
theorem len8tab_size : (Lib.len8tab.size : Int) = 256 := by
  have : Lib.len8tab.size = 256 := by decide
  omega
/-- THE LAST STEP OF EACH OF THE EIGHT WAYS, PROVED ONCE, OUTSIDE: 'omega' on it INSIDE the way's context (a chain of divisions by great numbers) took 25 s a way and gigabytes. -/
theorem wrap_add (k a b : Nat) (hk : k ≤ 56) (ha : a ≤ 8) (hb : b = k + a) : wrap64 ((k : Int) + wrap64 (a : Int)) = (b : Int) := by
  unfold wrap64
  omega
theorem wrap_wrap (a : Nat) (ha : a ≤ 8) : wrap64 (wrap64 (a : Int)) = (a : Int) := by
  unfold wrap64
  omega
theorem wrap_one (a : Nat) (ha : a ≤ 8) : wrap64 (a : Int) = (a : Int) := by
  unfold wrap64
  omega
/-- The table's byte, as an index's plain meaning reads it, IS the shelf's 'Lib.len8'. -/
theorem len8_get (y : Int) (h : y.toNat < Lib.len8tab.size) : ((Lib.len8tab[y.toNat]'h).toNat : Int) = Lib.len8 y := by
  unfold Lib.len8
  rw [getElem?_pos Lib.len8tab y.toNat h]
  rfl

set_option maxHeartbeats 4000000 in
set_option maxRecDepth 1000000 in
theorem len64_any (x : Int) (w : World) (h0 : 0 ≤ x) (h1 : x ≤ 18446744073709551615) :
    Calls Try.prog 72 #[.int .u64 x] w fun e w' => e = .returned (.int .i64 (Lib.bitLen x.toNat)) ∧ w' = w := by
  go_enter Try.func72, Try.ntmps72
  go_wp2
  all_goals first
    | (go_ret; refine ⟨congrArg Ending.returned (congrArg (Value.int IntKind.i64) ?_), rfl⟩; go_light)
    | (exfalso
       go_light
       have hs := len8tab_size
       omega)
  all_goals first
    | (rw [len8_get (x / 4294967296 / 65536 / 256) _, Lib.len8_of (x / 4294967296 / 65536 / 256) (by omega) (by omega)]
       have e : (x / 4294967296 / 65536 / 256).toNat = x.toNat / 72057594037927936 := by omega
       have l := Lib.bitLen_le8' (x / 4294967296 / 65536 / 256) (by omega) (by omega)
       have s := Lib.bitLen_shift56 x.toNat (by omega) (by omega)
       rw [e] at l ⊢
       exact wrap_add 56 _ _ (by decide) l s)
    | (rw [len8_get (x / 4294967296 / 65536) _, Lib.len8_of (x / 4294967296 / 65536) (by omega) (by omega)]
       have e : (x / 4294967296 / 65536).toNat = x.toNat / 281474976710656 := by omega
       have l := Lib.bitLen_le8' (x / 4294967296 / 65536) (by omega) (by omega)
       have s := Lib.bitLen_shift48 x.toNat (by omega) (by omega)
       rw [e] at l ⊢
       exact wrap_add 48 _ _ (by decide) l s)
    | (rw [len8_get (x / 4294967296 / 256) _, Lib.len8_of (x / 4294967296 / 256) (by omega) (by omega)]
       have e : (x / 4294967296 / 256).toNat = x.toNat / 1099511627776 := by omega
       have l := Lib.bitLen_le8' (x / 4294967296 / 256) (by omega) (by omega)
       have s := Lib.bitLen_shift40 x.toNat (by omega) (by omega)
       rw [e] at l ⊢
       exact wrap_add 40 _ _ (by decide) l s)
    | (rw [len8_get (x / 4294967296) _, Lib.len8_of (x / 4294967296) (by omega) (by omega)]
       have e : (x / 4294967296).toNat = x.toNat / 4294967296 := by omega
       have l := Lib.bitLen_le8' (x / 4294967296) (by omega) (by omega)
       have s := Lib.bitLen_shift32 x.toNat (by omega) (by omega)
       rw [e] at l ⊢
       exact wrap_add 32 _ _ (by decide) l s)
    | (rw [len8_get (x / 65536 / 256) _, Lib.len8_of (x / 65536 / 256) (by omega) (by omega)]
       have e : (x / 65536 / 256).toNat = x.toNat / 16777216 := by omega
       have l := Lib.bitLen_le8' (x / 65536 / 256) (by omega) (by omega)
       have s := Lib.bitLen_shift24 x.toNat (by omega) (by omega)
       rw [e] at l ⊢
       exact wrap_add 24 _ _ (by decide) l s)
    | (rw [len8_get (x / 65536) _, Lib.len8_of (x / 65536) (by omega) (by omega)]
       have e : (x / 65536).toNat = x.toNat / 65536 := by omega
       have l := Lib.bitLen_le8' (x / 65536) (by omega) (by omega)
       have s := Lib.bitLen_shift16 x.toNat (by omega) (by omega)
       rw [e] at l ⊢
       exact wrap_add 16 _ _ (by decide) l s)
    | (rw [len8_get (x / 256) _, Lib.len8_of (x / 256) (by omega) (by omega)]
       have e : (x / 256).toNat = x.toNat / 256 := by omega
       have l := Lib.bitLen_le8' (x / 256) (by omega) (by omega)
       have s := Lib.bitLen_shift8 x.toNat (by omega) (by omega)
       rw [e] at l ⊢
       exact wrap_add 8 _ _ (by decide) l s)
    | (rw [len8_get (x) _, Lib.len8_of (x) (by omega) (by omega)]
       have e : (x).toNat = x.toNat := by omega
       have l := Lib.bitLen_le8' (x) (by omega) (by omega)
       rw [e] at l ⊢
       first | exact wrap_wrap _ l | exact wrap_add 0 _ _ (by decide) l (by omega) | exact wrap_one _ l)

theorem lz64_any (x : Int) (w : World) (h0 : 0 ≤ x) (h1 : x ≤ 18446744073709551615) (hb : Lib.bitLen x.toNat ≤ 64) :
    Calls Try.prog 69 #[.int .u64 x] w fun e w' => e = .returned (.int .i64 (64 - (Lib.bitLen x.toNat : Int))) ∧ w = w' := by
  go_enter Try.func69, Try.ntmps69
  go_wp2_with (go_at_call 72; refine (len64_any _ _ h0 h1).mono ?_; rintro e w' ⟨rfl, rfl⟩)
  go_ret
  exact ⟨rfl, rfl⟩

set_option maxHeartbeats 400000 in
theorem div64_low (lo y : Int) (w : World) (hl : U64 lo) (hy : U64 y) (h0 : 0 < y) :
    Calls Try.prog 65 #[.int .u64 0, .int .u64 lo, .int .u64 y] w fun e w' => e = .returned (.tuple #[.int .u64 (lo / y), .int .u64 (lo % y)]) ∧ ∃ n, w' = w.drewN n := by
  obtain ⟨l0, l1⟩ := hl
  obtain ⟨y0, y1⟩ := hy
  have c1 : (y == 0) = false := by simp; omega
  have c2 : decide (y ≤ 0) = false := by simp; omega
  go_enter Try.func65, Try.ntmps65
  go_wp2
  go_quiet (fail)
  go_wp2
  go_ret2
  exact ⟨rfl, _, rfl⟩

end Go.Proofs.Ytlhjbllfcbojmaa

namespace Go.Proofs.Ytlhjbllfcbojmaa
namespace DivM

theorem bitLen_spec : ∀ (k x : Nat), x ≠ 0 → x < 2 ^ k → k ≤ 64 → 2 ^ (Lib.bitLen x) ≤ 2 * x ∧ x < 2 ^ (Lib.bitLen x)
  | 0, x, h0, h, _ => by simp at h; omega
  | k + 1, x, h0, h, hk => by
    have h64 : x < 2 ^ 64 := Nat.lt_of_lt_of_le h (Nat.pow_le_pow_right (by omega) hk)
    rw [Lib.bitLen_half x h0 h64]
    by_cases hx : x / 2 = 0
    · have : x = 1 := by omega
      subst this
      decide
    · have ih := bitLen_spec k (x / 2) hx (by rw [Nat.pow_succ] at h; omega) (by omega)
      rw [Nat.pow_add]
      omega

theorem bitLen_bounds (x : Nat) (h0 : x ≠ 0) (h : x < 18446744073709551616) : 1 ≤ Lib.bitLen x ∧ Lib.bitLen x ≤ 64 := by
  refine ⟨?_, Lib.bitLen_le x 64 (by omega) h⟩
  have := (bitLen_spec 64 x h0 h (by omega)).2
  by_cases e : Lib.bitLen x = 0
  · rw [e] at this; omega
  · omega

theorem norm (y : Nat) (h0 : y ≠ 0) (h : y < 18446744073709551616) : 9223372036854775808 ≤ y * 2 ^ (64 - Lib.bitLen y) ∧ y * 2 ^ (64 - Lib.bitLen y) < 18446744073709551616 := by
  obtain ⟨b1, b2⟩ := bitLen_bounds y h0 h
  obtain ⟨s1, s2⟩ := bitLen_spec 64 y h0 h (by omega)
  have e : 2 ^ (Lib.bitLen y) * 2 ^ (64 - Lib.bitLen y) = 18446744073709551616 := by
    rw [← Nat.pow_add, show Lib.bitLen y + (64 - Lib.bitLen y) = 64 by omega]
  have p : 0 < 2 ^ (64 - Lib.bitLen y) := Nat.two_pow_pos _
  constructor
  · have := Nat.mul_le_mul_right (2 ^ (64 - Lib.bitLen y)) s1
    rw [e, Nat.mul_assoc] at this
    omega
  · have := (Nat.mul_lt_mul_right p).2 s2
    rw [e] at this
    exact this

theorem pows (s : Nat) (hs : s ≤ 64) : 2 ^ s * 2 ^ (64 - s) = 18446744073709551616 := by
  rw [← Nat.pow_add, show s + (64 - s) = 64 by omega]

theorem low_shift (lo s : Nat) (hs : s ≤ 64) : lo * 2 ^ s / 18446744073709551616 = lo / 2 ^ (64 - s) := by
  rw [← pows s hs, Nat.mul_comm lo, Nat.mul_div_mul_left _ _ (Nat.two_pow_pos s)]

theorem low_lt (lo s : Nat) (hs : s ≤ 64) (h : lo < 18446744073709551616) : lo / 2 ^ (64 - s) < 2 ^ s := by
  rw [Nat.div_lt_iff_lt_mul (Nat.two_pow_pos _), pows s hs]
  exact h

theorem shifted (hi lo s : Nat) (hs : s ≤ 64) : (hi * 18446744073709551616 + lo) * 2 ^ s = (hi * 2 ^ s + lo / 2 ^ (64 - s)) * 18446744073709551616 + lo * 2 ^ s % 18446744073709551616 := by
  have e := low_shift lo s hs
  have d := Nat.div_add_mod (lo * 2 ^ s) 18446744073709551616
  rw [e] at d
  rw [Nat.add_mul, Nat.add_mul, Nat.mul_right_comm]
  omega

theorem high_lt (hi lo y s : Nat) (hs : s ≤ 64) (h : lo < 18446744073709551616) (hy : hi < y) : hi * 2 ^ s + lo / 2 ^ (64 - s) < y * 2 ^ s := by
  have a := low_lt lo s hs h
  have b := Nat.mul_le_mul_right (2 ^ s) (show hi + 1 ≤ y from hy)
  rw [Nat.add_mul] at b
  omega

theorem or_add (hi lo s : Nat) (hs : s ≤ 64) (h : lo < 18446744073709551616) : (hi * 2 ^ s) ||| (lo / 2 ^ (64 - s)) = hi * 2 ^ s + lo / 2 ^ (64 - s) := by
  rw [Nat.mul_comm hi, Nat.two_pow_add_eq_or_of_lt (low_lt lo s hs h)]

/-- The state of an estimate: q stands for a quotient of U by the divisor's upper half, r for what is left. -/
structure Est (U u1 y1 y0 q r : Nat) : Prop where
  sum : q * y1 + r = U
  low : r < 4294967296
  top : q ≤ 4294967297
  over : (U * 4294967296 + u1) / (y1 * 4294967296 + y0) ≤ q

theorem Est.start {U u1 y1 y0 : Nat} (hy1 : 2147483648 ≤ y1) (hy1' : y1 < 4294967296) (hy0 : y0 < 4294967296) (hu1 : u1 < 4294967296) (hU : U < y1 * 4294967296 + y0) : Est U u1 y1 y0 (U / y1) (U % y1) := by
  have m := Nat.div_add_mod U y1
  have l := Nat.mod_lt U (show 0 < y1 by omega)
  refine ⟨by rw [Nat.mul_comm]; exact m, by omega, ?_, ?_⟩
  · have : U / y1 < 4294967298 := by
      rw [Nat.div_lt_iff_lt_mul (by omega)]
      omega
    omega
  · have : (U * 4294967296 + u1) / (y1 * 4294967296 + y0) < U / y1 + 1 := by
      rw [Nat.div_lt_iff_lt_mul (by omega), Nat.mul_add, ← Nat.mul_assoc]
      have c := Nat.mul_comm y1 (U / y1)
      have e : (U / y1 + 1) * y1 = U / y1 * y1 + y1 := by rw [Nat.add_mul, Nat.one_mul]
      rw [e]
      have z := Nat.zero_le ((U / y1 + 1) * y0)
      omega
    omega

theorem mulY (q y1 y0 : Nat) : q * (y1 * 4294967296 + y0) = q * y1 * 4294967296 + q * y0 := by rw [Nat.mul_add, Nat.mul_assoc]

/-- The test says no: the estimate is the quotient. -/
theorem Est.done {U u1 y1 y0 q r : Nat} (h : Est U u1 y1 y0 q r) (hp : 0 < y1) (ht : q * y0 ≤ 4294967296 * r + u1) : q = (U * 4294967296 + u1) / (y1 * 4294967296 + y0) := by
  apply Nat.le_antisymm _ h.over
  rw [Nat.le_div_iff_mul_le (by omega), mulY]
  have := h.sum
  omega

theorem Est.gt {U u1 y1 y0 q r : Nat} (h : Est U u1 y1 y0 q r) (_hp : 0 < y1) (hu1 : u1 < 4294967296) (hU : U < y1 * 4294967296 + y0) (ht : 4294967296 ≤ q ∨ 4294967296 * r + u1 < q * y0) : (U * 4294967296 + u1) / (y1 * 4294967296 + y0) < q := by
  rcases ht with ht | ht
  · refine Nat.lt_of_lt_of_le ?_ ht
    rw [Nat.div_lt_iff_lt_mul (by omega)]
    omega
  · rw [Nat.div_lt_iff_lt_mul (by omega), mulY]
    have := h.sum
    omega

theorem Est.pos {U u1 y1 y0 q r : Nat} (h : Est U u1 y1 y0 q r) (hp : 0 < y1) (hu1 : u1 < 4294967296) (hU : U < y1 * 4294967296 + y0) (ht : 4294967296 ≤ q ∨ 4294967296 * r + u1 < q * y0) : 1 ≤ q := by
  have g := h.gt hp hu1 hU ht
  exact Nat.lt_of_le_of_lt (Nat.zero_le _) g

theorem sum_next {U y1 q r : Nat} (h : q * y1 + r = U) (hq : 1 ≤ q) : (q - 1) * y1 + (r + y1) = U := by
  have e : q * y1 = (q - 1) * y1 + y1 := by
    conv => lhs; rw [show q = (q - 1) + 1 by omega, Nat.add_mul, Nat.one_mul]
  omega

theorem Est.next {U u1 y1 y0 q r : Nat} (h : Est U u1 y1 y0 q r) (hp : 0 < y1) (hu1 : u1 < 4294967296) (hU : U < y1 * 4294967296 + y0) (ht : 4294967296 ≤ q ∨ 4294967296 * r + u1 < q * y0) (hr : r + y1 < 4294967296) : Est U u1 y1 y0 (q - 1) (r + y1) := by
  have g := h.gt hp hu1 hU ht
  have p := h.pos hp hu1 hU ht
  refine ⟨sum_next h.sum p, hr, by have := h.top; omega, ?_⟩
  generalize (U * 4294967296 + u1) / (y1 * 4294967296 + y0) = t at *
  omega

/-- The remainder has grown past a half: the estimate is the quotient. -/
theorem Est.broke {U u1 y1 y0 q r : Nat} (h : Est U u1 y1 y0 q r) (hp : 0 < y1) (hy0 : y0 < 4294967296) (hu1 : u1 < 4294967296) (hU : U < y1 * 4294967296 + y0) (ht : 4294967296 ≤ q ∨ 4294967296 * r + u1 < q * y0) (hr : 4294967296 ≤ r + y1) : q - 1 = (U * 4294967296 + u1) / (y1 * 4294967296 + y0) := by
  have g := h.gt hp hu1 hU ht
  have s := sum_next h.sum (h.pos hp hu1 hU ht)
  have t := h.top
  apply Nat.le_antisymm _ (Nat.le_sub_one_of_lt g)
  rw [Nat.le_div_iff_mul_le (by omega), mulY]
  have b : (q - 1) * y0 ≤ 4294967296 * 4294967296 := Nat.mul_le_mul (by omega) (by omega)
  omega

theorem split0 (_V Y T W B v q r : Nat) (hT : T = W * B + v) (hd : Y * q + r = W) (_hq : q = W / Y) (_hr : r = W % Y) (hY : 0 < Y) :
    T / Y = q * B + (r * B + v) / Y ∧ T % Y = (r * B + v) % Y := by
  have e : T = (r * B + v) + Y * (q * B) := by
    rw [hT, ← hd, Nat.add_mul, Nat.mul_assoc, Nat.add_comm (Y * (q * B)), Nat.add_assoc, Nat.add_assoc, Nat.add_comm v]
  rw [e]
  exact ⟨(Nat.add_mul_div_left _ _ hY).trans (Nat.add_comm _ _), Nat.add_mul_mod_self_left _ _ _⟩

theorem joinedI (U V W T : Int) (hT : T = U * 18446744073709551616 + V) (hW : W = U * 4294967296 + V / 4294967296) : T = W * 4294967296 + V % 4294967296 := by
  omega
theorem joined (U V W T : Nat) (hT : T = U * 18446744073709551616 + V) (hW : W = U * 4294967296 + V / 4294967296) : T = W * 4294967296 + V % 4294967296 := by
  have h := joinedI U V W T (by rw [hT, Int.natCast_add, Int.natCast_mul]; rfl) (by rw [hW, Int.natCast_add, Int.natCast_mul, Int.natCast_ediv]; rfl)
  apply Int.ofNat.inj
  show (T : Int) = ((W * 4294967296 + V % 4294967296 : Nat) : Int)
  rw [Int.natCast_add, Int.natCast_mul, Int.natCast_emod]
  exact h

theorem whole0 (U V Y T W : Nat) (hY : 0 < Y) (hT : T = U * 18446744073709551616 + V) (hW : W = U * 4294967296 + V / 4294967296) :
    T / Y = W / Y * 4294967296 + (W % Y * 4294967296 + V % 4294967296) / Y ∧ T % Y = (W % Y * 4294967296 + V % 4294967296) % Y :=
  split0 V Y T W 4294967296 (V % 4294967296) (W / Y) (W % Y) (joined U V W T hT hW) (Nat.div_add_mod W Y) rfl rfl hY

theorem whole (N y s U V T W : Nat) (hy : 0 < y) (hN : N * 2 ^ s = T) (hT : T = U * 18446744073709551616 + V) (hW : W = U * 4294967296 + V / 4294967296) :
    N / y = W / (y * 2 ^ s) * 4294967296 + (W % (y * 2 ^ s) * 4294967296 + V % 4294967296) / (y * 2 ^ s) ∧
    N % y * 2 ^ s = (W % (y * 2 ^ s) * 4294967296 + V % 4294967296) % (y * 2 ^ s) := by
  have hp : 0 < 2 ^ s := Nat.two_pow_pos s
  obtain ⟨a, b⟩ := whole0 U V (y * 2 ^ s) T W (Nat.mul_pos hy hp) hT hW
  have e1 : N / y = N * 2 ^ s / (y * 2 ^ s) := (Nat.mul_div_mul_right _ _ hp).symm
  have e2 : N % y * 2 ^ s = N * 2 ^ s % (y * 2 ^ s) := (Nat.mul_mod_mul_right _ _ _).symm
  rw [hN] at e1 e2
  exact ⟨e1.trans a, e2.trans b⟩

theorem rem_wrap (U u1 Y : Nat) (hY : 0 < Y) (hY' : Y < 18446744073709551616) :
    ((((U : Int) * 4294967296) % 18446744073709551616 + u1) % 18446744073709551616 - ((((U * 4294967296 + u1) / Y : Nat) : Int) * Y) % 18446744073709551616) % 18446744073709551616 = (((U * 4294967296 + u1) % Y : Nat) : Int) := by
  have d := Nat.div_add_mod (U * 4294967296 + u1) Y
  have l := Nat.mod_lt (U * 4294967296 + u1) hY
  rw [← Int.natCast_mul, Nat.mul_comm _ Y]
  generalize Y * ((U * 4294967296 + u1) / Y) = Z at *
  generalize (U * 4294967296 + u1) % Y = R at *
  omega
end DivM
end Go.Proofs.Ytlhjbllfcbojmaa

namespace Go.Proofs.Ytlhjbllfcbojmaa
open Go.RowKit

theorem lz64_nat (y s : Nat) (w : World) (h0 : y ≠ 0) (h1 : y < 18446744073709551616) (hs : s = 64 - Lib.bitLen y) :
    Calls Try.prog 69 #[.int .u64 y] w fun e w' => e = .returned (.int .i64 s) ∧ w = w' := by
  obtain ⟨b1, b2⟩ := DivM.bitLen_bounds y h0 h1
  refine (lz64_any y w (by omega) (by omega) (by simpa using b2)).mono ?_
  rintro e w' ⟨rfl, rfl⟩
  refine ⟨?_, rfl⟩
  congr 2
  simp
  omega

theorem wrapMul (a s M : Nat) (h : a * 2 ^ s % 18446744073709551616 = M) : IntKind.u64.wrap ((a : Int) * 2 ^ s) = (M : Int) := by
  rw [IntKind.wrap_u64, ← h]
  rw [Int.natCast_emod, Int.natCast_mul, Int.natCast_pow]
  rfl
theorem divPow (a k M : Nat) (h : a / 2 ^ k = M) : (a : Int) / 2 ^ k = (M : Int) := by
  rw [← h, Int.natCast_ediv, Int.natCast_pow]
  rfl
theorem orN (a b M : Nat) (ha : a < 18446744073709551616) (hb : b < 18446744073709551616) (h : a ||| b = M) : bits .or .u64 (a : Int) (b : Int) = (M : Int) := by
  rw [bits_or_u64_nat a b ha hb, h]
theorem divNN (a b : Nat) : (a : Int) / (b : Int) = ((a / b : Nat) : Int) := by rw [Int.natCast_ediv]
theorem tdivNN (a b : Nat) : (a : Int).tdiv (b : Int) = ((a / b : Nat) : Int) := by rw [Int.tdiv_eq_ediv_of_nonneg (by omega), Int.natCast_ediv]

theorem wrapSub (U q y1 R : Nat) (h : q * y1 + R = U) (hR : R < 18446744073709551616) : IntKind.u64.wrap ((U : Int) - ((q * y1 : Nat) : Int)) = (R : Int) := by
  rw [IntKind.wrap_u64, ← h]
  omega
theorem remWrap (U u1 Y q R : Nat) (hY : 0 < Y) (hY' : Y < 18446744073709551616) (hq : q = (U * 4294967296 + u1) / Y) (hR : R = (U * 4294967296 + u1) % Y) :
    IntKind.u64.wrap (IntKind.u64.wrap (IntKind.u64.wrap ((U : Int) * 4294967296) + u1) - IntKind.u64.wrap ((q * Y : Nat) : Int)) = (R : Int) := by
  simp only [IntKind.wrap_u64]
  rw [hq, hR, Int.natCast_mul]
  exact DivM.rem_wrap U u1 Y hY hY'

theorem ret_two {k l : IntKind} {a b c d : Int} (h1 : a = c) (h2 : b = d) : Ending.returned (.tuple #[.int k a, .int l b]) = .returned (.tuple #[.int k c, .int l d]) := by rw [h1, h2]
theorem quoLt (hi lo y : Nat) (hl : lo < 18446744073709551616) (h1 : hi < y) : (hi * 18446744073709551616 + lo) / y < 18446744073709551616 := by
  rw [Nat.div_lt_iff_lt_mul (by omega)]
  have := Nat.mul_le_mul_left 18446744073709551616 (show hi + 1 ≤ y from h1)
  omega
theorem quoWrapI (a b c : Int) (hc : c = a * 4294967296 + b) (h0 : 0 ≤ c) (hl : c < 18446744073709551616) : ((a * 4294967296) % 18446744073709551616 + b) % 18446744073709551616 = c := by omega
theorem quoWrap (q a b : Nat) (h : q = a * 4294967296 + b) (hl : q < 18446744073709551616) : IntKind.u64.wrap (IntKind.u64.wrap ((a : Int) * 4294967296) + (b : Int)) = (q : Int) := by
  simp only [IntKind.wrap_u64]
  exact quoWrapI a b q (by rw [h, Int.natCast_add, Int.natCast_mul]; rfl) (by omega) (by omega)
theorem remShift (m s R : Nat) (h : m * 2 ^ s = R) : (R : Int) / 2 ^ s = (m : Int) := by
  apply divPow
  rw [← h]
  exact Nat.mul_div_cancel _ (Nat.two_pow_pos s)

set_option maxHeartbeats 1000000 in
theorem div64_high (hi lo y : Nat) (w : World) (hl : lo < 18446744073709551616) (hy : y < 18446744073709551616) (h0 : 0 < hi) (h1 : hi < y) :
    Calls Try.prog 65 #[.int .u64 hi, .int .u64 lo, .int .u64 y] w fun e w' => e = .returned (.tuple #[.int .u64 (((hi * 18446744073709551616 + lo) / y : Nat) : Int), .int .u64 (((hi * 18446744073709551616 + lo) % y : Nat) : Int)]) ∧ ∃ n, w' = w.drewN n := by
  obtain ⟨s, hs⟩ : ∃ s, s = 64 - Lib.bitLen y := ⟨_, rfl⟩
  have hz := fun w => lz64_nat y s w (by omega) hy hs
  have nm := DivM.norm y (by omega) hy
  rw [← hs] at nm
  have hs64 : s ≤ 64 := by omega
  have hs63 : (s : Int) ≤ 63 := by have := (DivM.bitLen_bounds y (by omega) hy).1; omega
  have c1 : ((y : Int) == 0) = false := by simp; omega
  have c2 : decide ((y : Int) ≤ hi) = false := by simp; omega
  have c3 : ((hi : Int) == 0) = false := by simp; omega
  clear hs
  have HZ := Lib.hid hz
  clear hz
  -- the numbers, by name
  obtain ⟨Y, hY⟩ : ∃ Y, Y = y * 2 ^ s := ⟨_, rfl⟩
  obtain ⟨U, hU⟩ : ∃ U, U = hi * 2 ^ s + lo / 2 ^ (64 - s) := ⟨_, rfl⟩
  obtain ⟨V, hV⟩ : ∃ V, V = lo * 2 ^ s % 18446744073709551616 := ⟨_, rfl⟩
  rw [← hY] at nm
  obtain ⟨nm1, nm2⟩ := nm
  have hUY : U < Y := by rw [hU, hY]; exact DivM.high_lt hi lo y s hs64 hl h1
  have hVl : V < 18446744073709551616 := by rw [hV]; exact Nat.mod_lt _ (by omega)
  have hX := DivM.shifted hi lo s hs64
  rw [← hU, ← hV] at hX
  have hhs : hi * 2 ^ s < 18446744073709551616 := by have := Nat.le_add_right (hi * 2 ^ s) (lo / 2 ^ (64 - s)); omega
  have hls : lo / 2 ^ (64 - s) < 18446744073709551616 := by have := Nat.le_add_left (lo / 2 ^ (64 - s)) (hi * 2 ^ s); omega
  have f1 := wrapMul y s Y (by rw [← hY]; exact Nat.mod_eq_of_lt nm2)
  have f2 := wrapMul hi s (hi * 2 ^ s) (Nat.mod_eq_of_lt hhs)
  have f3 := divPow lo (64 - s) (lo / 2 ^ (64 - s)) rfl
  have f4 := orN (hi * 2 ^ s) (lo / 2 ^ (64 - s)) U hhs hls (by rw [hU]; exact DivM.or_add hi lo s hs64 hl)
  have f5 := wrapMul lo s V hV.symm
  have f6 := Mul64.maskN Y nm2
  have f7 := Mul64.maskN V hVl
  obtain ⟨y1, hy1⟩ : ∃ y1, y1 = Y / 4294967296 := ⟨_, rfl⟩
  obtain ⟨y0, hy0⟩ : ∃ y0, y0 = Y % 4294967296 := ⟨_, rfl⟩
  obtain ⟨u1, hu1⟩ : ∃ u1, u1 = V / 4294967296 := ⟨_, rfl⟩
  obtain ⟨u0, hu0⟩ : ∃ u0, u0 = V % 4294967296 := ⟨_, rfl⟩
  have hYy : Y = y1 * 4294967296 + y0 := by omega
  have by1 : 2147483648 ≤ y1 := by omega
  have by1' : y1 < 4294967296 := by omega
  have by0 : y0 < 4294967296 := by omega
  have bu1 : u1 < 4294967296 := by omega
  have bu0 : u0 < 4294967296 := by omega
  have f8 : (Y : Int) / 4294967296 = (y1 : Int) := by omega
  have f9 : (V : Int) / 4294967296 = (u1 : Int) := by omega
  rw [← hy0] at f6
  rw [← hu0] at f7
  have hUy : U < y1 * 4294967296 + y0 := by rw [← hYy]; exact hUY
  have st := DivM.Est.start by1 by1' by0 bu1 hUy
  have bq : U / y1 < 18446744073709551616 := by have := st.top; omega
  have f10 := tdivNN U y1
  have f11 := Mul64.wrapN (U / y1) bq
  have f12 := Mul64.mulN (U / y1) y1
  have bm : U / y1 * y1 < 18446744073709551616 := by have := st.sum; omega
  have f13 := Mul64.wrapN (U / y1 * y1) bm
  have f14 := wrapSub U (U / y1) y1 (U % y1) st.sum (by have := st.low; omega)
  obtain ⟨q1, hq1⟩ : ∃ q1, q1 = (U * 4294967296 + u1) / Y := ⟨_, rfl⟩
  obtain ⟨W, hW⟩ : ∃ W, W = (U * 4294967296 + u1) % Y := ⟨_, rfl⟩
  have HW := Lib.hid hW
  have hWY : W < Y := by rw [hW]; exact Nat.mod_lt _ (by omega)
  have hWy : W < y1 * 4294967296 + y0 := by rw [← hYy]; exact hWY
  have g1 := Mul64.mulN q1 Y
  have g2 := remWrap U u1 Y q1 W (by omega) nm2 hq1 hW
  have HFW := Lib.hid (And.intro g1 g2)
  have st0 := DivM.Est.start by1 by1' by0 bu0 hWy
  have bq0 : W / y1 < 18446744073709551616 := by have := st0.top; omega
  have bm0 : W / y1 * y1 < 18446744073709551616 := by have := st0.sum; omega
  have HG := Lib.hid (And.intro (divNN W y1) (And.intro (Mul64.wrapN (W / y1) bq0) (And.intro (Mul64.mulN (W / y1) y1) (And.intro (Mul64.wrapN (W / y1 * y1) bm0) (wrapSub W (W / y1) y1 (W % y1) st0.sum (by have := st0.low; omega))))))
  have HT := Lib.hid st0
  clear st0
  obtain ⟨q0, hq0⟩ : ∃ q0, q0 = (W * 4294967296 + u0) / Y := ⟨_, rfl⟩
  obtain ⟨R, hR⟩ : ∃ R, R = (W * 4294967296 + u0) % Y := ⟨_, rfl⟩
  have Hq0 := Lib.hid hq0
  have HN := Lib.hid (DivM.whole (hi * 18446744073709551616 + lo) y s U V _ _ (by omega) rfl hX rfl)
  rw [← hY, ← hu1, ← hu0, ← hq1, ← hW, ← hq0, ← hR] at HN
  have g3 := remWrap W u0 Y q0 R (by omega) nm2 hq0 hR
  have HE := Lib.hid (And.intro (Mul64.mulN q0 Y) g3)
  clear g3 hq0 hR
  clear g1 g2
  have Hq1 := Lib.hid hq1
  have HX := Lib.hid hX
  have HYy := Lib.hid hYy
  have HY := Lib.hid hY
  have HV : Hid (u1 = V / 4294967296 ∧ u0 = V % 4294967296) := Lib.hid ⟨hu1, hu0⟩
  have HF : Hid _ := Lib.hid (And.intro f1 (And.intro f2 (And.intro f3 (And.intro f4 (And.intro f5 (And.intro f6 (And.intro f7 (And.intro f8 (And.intro f9 (And.intro f10 (And.intro f11 (And.intro f12 (And.intro f13 f14)))))))))))))
  have HS := Lib.hid st
  have F1 := Lib.hid f1
  clear f1 f2 f3 f4 f5 f6 f7 f8 f9 f10 f11 f12 f13 f14 hY hU hV hX hy1 hy0 hu1 hu0 hYy hq1 hW st
  go_enter Try.func65, Try.ntmps65
  go_wp2_with fail
  refine (HZ.out _).mono ?_
  rintro e w' ⟨rfl, rfl⟩
  go_upto_region 9 with fail
  simp only [F1.out]
  clear F1
  go_upto_block 0 with fail
  have HF' := HF.out
  obtain ⟨f1, f2, f3, f4, f5, f6, f7, f8, f9, f10, f11, f12, f13, f14⟩ := HF'
  simp only [f2, f3, f4, f5, f6, f7, f8, f9, f10, f11, f12, f13, f14]
  clear f1 f2 f3 f4 f5 f6 f7 f8 f9 f10 f11 f12 f13 f14
  go_cut [15] (fun s15 wx => s15 = .int .u64 q1 ∧ wx = w)
  case first =>
    go_wp2_with fail
    go_loop [15, 16] (fun q r => ∃ a b : Nat, q = .int .u64 a ∧ r = .int .u64 b ∧ DivM.Est U u1 y1 y0 a b) (fun q _ => (intOf q).toNat)
    case atStart => exact ⟨_, _, rfl, rfl, HS.out⟩
    case round =>
      obtain ⟨a, b, rfl, rfl, he⟩ := hrel
      have hlow := he.low
      have htop := he.top
      have hp : 0 < y1 := by omega
      by_cases hA : 4294967296 ≤ a
      · have hg : 4294967296 ≤ a ∨ 4294967296 * b + u1 < a * y0 := .inl hA
        have hA' : decide ((4294967296 : Int) ≤ (a : Int)) = true := by simp; omega
        by_cases hB : 4294967296 ≤ b + y1
        · have hr := he.broke hp by0 bu1 hUy hg hB
          have HR : Hid (a - 1 = q1) := Lib.hid (by rw [Hq1.out, HYy.out]; exact hr)
          have hB' : decide ((4294967296 : Int) ≤ (b : Int) + (y1 : Int)) = true := by simp; omega
          clear hr
          go_wp2
          go_meet
          exact ⟨congrArg (Value.int .u64) (by have := HR.out; omega), rfl⟩
        · have HN := Lib.hid (he.next hp bu1 hUy hg (by omega))
          have hB' : decide ((4294967296 : Int) ≤ (b : Int) + (y1 : Int)) = false := by simp; omega
          go_wp2
          go_round
          case rel => exact ⟨a - 1, b + y1, congrArg (Value.int .u64) (by omega), congrArg (Value.int .u64) (by omega), HN.out⟩
          case measure => simp [intOf]; omega
      · have hA' : decide ((4294967296 : Int) ≤ (a : Int)) = false := by simp; omega
        have hm : a * y0 < 18446744073709551616 := Nat.lt_of_le_of_lt (Nat.mul_le_mul (show a ≤ 4294967295 by omega) (show y0 ≤ 4294967295 by omega)) (by decide)
        obtain ⟨z, hz⟩ : ∃ z, z = a * y0 := ⟨_, rfl⟩
        have hzI : (a : Int) * (y0 : Int) = (z : Int) := by rw [hz, Int.natCast_mul]
        rw [← hz] at hm
        by_cases hC : 4294967296 * b + u1 < z
        · have hg : 4294967296 ≤ a ∨ 4294967296 * b + u1 < a * y0 := .inr (by rw [← hz]; exact hC)
          have hC' : decide (4294967296 * (b : Int) + (u1 : Int) < (z : Int)) = true := by simp; omega
          by_cases hB : 4294967296 ≤ b + y1
          · have hr := he.broke hp by0 bu1 hUy hg hB
            have hpos := he.pos hp bu1 hUy hg
            have HR : Hid (a - 1 = q1) := Lib.hid (by rw [Hq1.out, HYy.out]; exact hr)
            have hB' : decide ((4294967296 : Int) ≤ (b : Int) + (y1 : Int)) = true := by simp; omega
            clear hr hz
            go_wp2
            go_meet
            exact ⟨congrArg (Value.int .u64) (by have := HR.out; omega), rfl⟩
          · have HN := Lib.hid (he.next hp bu1 hUy hg (by omega))
            have hpos := he.pos hp bu1 hUy hg
            have hB' : decide ((4294967296 : Int) ≤ (b : Int) + (y1 : Int)) = false := by simp; omega
            clear hz
            go_wp2
            go_round
            case rel => exact ⟨a - 1, b + y1, congrArg (Value.int .u64) (by omega), congrArg (Value.int .u64) (by omega), HN.out⟩
            case measure => simp [intOf]; omega
        · have hr := he.done hp (by rw [← hz]; omega)
          have HR : Hid (a = q1) := Lib.hid (by rw [Hq1.out, HYy.out]; exact hr)
          have hC' : decide (4294967296 * (b : Int) + (u1 : Int) < (z : Int)) = false := by simp; omega
          clear hr hz
          go_wp2
          go_meet
          exact ⟨congrArg (Value.int .u64) (by have := HR.out; omega), rfl⟩
  case rest =>
    obtain ⟨rfl, rfl⟩ := hcut
    go_upto_region 22 with fail
    have FW := HFW.out
    obtain ⟨g1, g2⟩ := FW
    simp only [g1, g2]
    clear g1 g2
    go_upto_block 2 with fail
    have GF := HG.out
    obtain ⟨f10, f11, f12, f13, f14⟩ := GF
    simp only [f10, f11, f12, f13, f14]
    clear f10 f11 f12 f13 f14
    go_cut [18] (fun s18 wx => s18 = .int .u64 q0 ∧ wx = wc)
    case first =>
      go_wp2_with fail
      go_loop [18, 16] (fun q r => ∃ a b : Nat, q = .int .u64 a ∧ r = .int .u64 b ∧ DivM.Est W u0 y1 y0 a b) (fun q _ => (intOf q).toNat)
      case atStart => exact ⟨_, _, rfl, rfl, HT.out⟩
      case round =>
        obtain ⟨a, b, rfl, rfl, he⟩ := hrel
        have hlow := he.low
        have htop := he.top
        have hp : 0 < y1 := by omega
        by_cases hA : 4294967296 ≤ a
        · have hg : 4294967296 ≤ a ∨ 4294967296 * b + u0 < a * y0 := .inl hA
          have hA' : decide ((4294967296 : Int) ≤ (a : Int)) = true := by simp; omega
          by_cases hB : 4294967296 ≤ b + y1
          · have hr := he.broke hp by0 bu0 hWy hg hB
            have HR : Hid (a - 1 = q0) := Lib.hid (by rw [Hq0.out, HYy.out]; exact hr)
            have hB' : decide ((4294967296 : Int) ≤ (b : Int) + (y1 : Int)) = true := by simp; omega
            clear hr
            go_wp2
            go_meet
            exact ⟨congrArg (Value.int .u64) (by have := HR.out; omega), rfl⟩
          · have HN := Lib.hid (he.next hp bu0 hWy hg (by omega))
            have hB' : decide ((4294967296 : Int) ≤ (b : Int) + (y1 : Int)) = false := by simp; omega
            go_wp2
            go_round
            case rel => exact ⟨a - 1, b + y1, congrArg (Value.int .u64) (by omega), congrArg (Value.int .u64) (by omega), HN.out⟩
            case measure => simp [intOf]; omega
        · have hA' : decide ((4294967296 : Int) ≤ (a : Int)) = false := by simp; omega
          have hm : a * y0 < 18446744073709551616 := Nat.lt_of_le_of_lt (Nat.mul_le_mul (show a ≤ 4294967295 by omega) (show y0 ≤ 4294967295 by omega)) (by decide)
          obtain ⟨z, hz⟩ : ∃ z, z = a * y0 := ⟨_, rfl⟩
          have hzI : (a : Int) * (y0 : Int) = (z : Int) := by rw [hz, Int.natCast_mul]
          rw [← hz] at hm
          by_cases hC : 4294967296 * b + u0 < z
          · have hg : 4294967296 ≤ a ∨ 4294967296 * b + u0 < a * y0 := .inr (by rw [← hz]; exact hC)
            have hC' : decide (4294967296 * (b : Int) + (u0 : Int) < (z : Int)) = true := by simp; omega
            by_cases hB : 4294967296 ≤ b + y1
            · have hr := he.broke hp by0 bu0 hWy hg hB
              have hpos := he.pos hp bu0 hWy hg
              have HR : Hid (a - 1 = q0) := Lib.hid (by rw [Hq0.out, HYy.out]; exact hr)
              have hB' : decide ((4294967296 : Int) ≤ (b : Int) + (y1 : Int)) = true := by simp; omega
              clear hr hz
              go_wp2
              go_meet
              exact ⟨congrArg (Value.int .u64) (by have := HR.out; omega), rfl⟩
            · have HN := Lib.hid (he.next hp bu0 hWy hg (by omega))
              have hpos := he.pos hp bu0 hWy hg
              have hB' : decide ((4294967296 : Int) ≤ (b : Int) + (y1 : Int)) = false := by simp; omega
              clear hz
              go_wp2
              go_round
              case rel => exact ⟨a - 1, b + y1, congrArg (Value.int .u64) (by omega), congrArg (Value.int .u64) (by omega), HN.out⟩
              case measure => simp [intOf]; omega
          · have hr := he.done hp (by rw [← hz]; omega)
            have HR : Hid (a = q0) := Lib.hid (by rw [Hq0.out, HYy.out]; exact hr)
            have hC' : decide (4294967296 * (b : Int) + (u0 : Int) < (z : Int)) = false := by simp; omega
            clear hr hz
            go_wp2
            go_meet
            exact ⟨congrArg (Value.int .u64) (by have := HR.out; omega), rfl⟩
    case rest =>
      obtain ⟨rfl, rfl⟩ := hcut
      go_wp2
      go_ret2
      obtain ⟨g1, g2⟩ := HE.out
      obtain ⟨n1, n2⟩ := HN.out
      refine ⟨?_, 0, rfl⟩
      exact ret_two (quoWrap _ _ _ n1 (quoLt hi lo y hl h1)) (by rw [g1, g2]; exact remShift _ _ _ n2)
end Go.Proofs.Ytlhjbllfcbojmaa

namespace Go.Proofs.Ytlhjbllfcbojmaa
/-- a and b leave the same rest by m. -/
def Cg (m a b : Int) : Prop := a % m = b % m
namespace Cg
variable {m a b c d : Int}
theorem refl (m a : Int) : Cg m a a := rfl
theorem symm (h : Cg m a b) : Cg m b a := Eq.symm h
theorem trans (h : Cg m a b) (k : Cg m b c) : Cg m a c := Eq.trans h k
theorem mod (m a : Int) : Cg m (a % m) a := Int.emod_emod_of_dvd a (Int.dvd_refl m)
theorem mul (h : Cg m a b) (k : Cg m c d) : Cg m (a * c) (b * d) := by
  unfold Cg at *
  rw [Int.mul_emod, h, k, ← Int.mul_emod]
theorem add (h : Cg m a b) (k : Cg m c d) : Cg m (a + c) (b + d) := by
  unfold Cg at *
  rw [Int.add_emod, h, k, ← Int.add_emod]
theorem sub (h : Cg m a b) (k : Cg m c d) : Cg m (a - c) (b - d) := by
  unfold Cg at *
  rw [Int.sub_emod, h, k, ← Int.sub_emod]
theorem pow (h : Cg m a b) : ∀ n : Nat, Cg m (a ^ n) (b ^ n)
  | 0 => by rw [Int.pow_zero, Int.pow_zero]; exact refl _ _
  | n + 1 => by rw [Int.pow_succ, Int.pow_succ]; exact mul (pow h n) h
theorem mul_right (h : Cg m a b) (c : Int) : Cg m (a * c) (b * c) := mul h (refl _ _)
theorem mul_left (h : Cg m a b) (c : Int) : Cg m (c * a) (c * b) := mul (refl _ _) h
theorem of_eq (h : a = b) : Cg m a b := h ▸ refl _ _
theorem eq (h : Cg m a b) (a0 : 0 ≤ a) (a1 : a < m) (b0 : 0 ≤ b) (b1 : b < m) : a = b := by
  unfold Cg at h
  rwa [Int.emod_eq_of_lt a0 a1, Int.emod_eq_of_lt b0 b1] at h
theorem dvd (h : Cg m a b) : m ∣ a - b := Int.dvd_of_emod_eq_zero (by unfold Cg at h; rw [Int.sub_emod, h, Int.sub_self]; rfl)
theorem of_dvd (h : m ∣ a - b) : Cg m a b := by
  obtain ⟨k, hk⟩ := h
  have e : a = b + m * k := by omega
  unfold Cg
  rw [e, Int.add_mul_emod_self_left]
end Cg
theorem pow_sq (x : Int) (n : Nat) : (x * x) ^ n = x ^ (2 * n) := by
  rw [Int.pow_mul, show x ^ 2 = x * x from by rw [Int.pow_succ, Int.pow_succ, Int.pow_zero, Int.one_mul]]
theorem toNat_even (k : Int) (h : 0 ≤ k) (h2 : k % 2 = 0) : k.toNat = 2 * (k / 2).toNat := by omega
theorem toNat_odd (k : Int) (h : 0 ≤ k) (h2 : k % 2 = 1) : k.toNat = 2 * (k / 2).toNat + 1 := by omega
end Go.Proofs.Ytlhjbllfcbojmaa

namespace Go.Proofs.Ytlhjbllfcbojmaa
open Go.RowKit

/-- Div64 at any hi below y. -/
theorem div64_any (hi lo y : Nat) (w : World) (hl : lo < 18446744073709551616) (hy : y < 18446744073709551616) (h1 : hi < y) :
    Calls Try.prog 65 #[.int .u64 hi, .int .u64 lo, .int .u64 y] w fun e w' => e = .returned (.tuple #[.int .u64 (((hi * 18446744073709551616 + lo) / y : Nat) : Int), .int .u64 (((hi * 18446744073709551616 + lo) % y : Nat) : Int)]) ∧ ∃ n, w' = w.drewN n := by
  by_cases h0 : hi = 0
  · subst h0
    refine (div64_low lo y w ⟨by omega, by omega⟩ ⟨by omega, by omega⟩ (by omega)).mono ?_
    rintro e w' ⟨rfl, hn⟩
    refine ⟨?_, hn⟩
    rw [Nat.zero_mul, Nat.zero_add, Int.natCast_ediv, Int.natCast_emod]
  · exact div64_high hi lo y w hl hy (by omega) h1

/-- The same, over Int. -/
def quo128 (hi lo y : Int) : Int := (hi * 18446744073709551616 + lo) / y
def rem128 (hi lo y : Int) : Int := (hi * 18446744073709551616 + lo) % y
theorem div64_int (hi lo y : Int) (w : World) (h0 : 0 ≤ hi) (hl0 : 0 ≤ lo) (hl : lo < 18446744073709551616) (hy : y < 18446744073709551616) (h1 : hi < y) :
    Calls Try.prog 65 #[.int .u64 hi, .int .u64 lo, .int .u64 y] w fun e w' => e = .returned (.tuple #[.int .u64 (quo128 hi lo y), .int .u64 (rem128 hi lo y)]) ∧ ∃ n, w' = w.drewN n := by
  obtain ⟨a, rfl⟩ := Int.eq_ofNat_of_zero_le h0
  obtain ⟨b, rfl⟩ := Int.eq_ofNat_of_zero_le hl0
  obtain ⟨c, rfl⟩ := Int.eq_ofNat_of_zero_le (show 0 ≤ y by omega)
  refine (div64_any a b c w (by omega) (by omega) (by omega)).mono ?_
  rintro e w' ⟨rfl, hn⟩
  refine ⟨?_, hn⟩
  unfold quo128 rem128
  rw [Int.natCast_ediv, Int.natCast_emod, Int.natCast_add, Int.natCast_mul]
  rfl

theorem emod_bd (a m : Int) (hm : 0 < m) : 0 ≤ a % m ∧ a % m < m := ⟨Int.emod_nonneg a (by omega), Int.emod_lt_of_pos a hm⟩

end Go.Proofs.Ytlhjbllfcbojmaa

namespace Go.Proofs.Ytlhjbllfcbojmaa
open Go.RowKit

def mayB (m : Int) : Bool := decide (0 < m) && decide (m ≤ 2305843009213693952)
def addI (a b m : Int) : Int := if mayB m then (a % m + b % m) % m else 0
def subI (a b m : Int) : Int := if mayB m then (a % m + m - b % m) % m else 0

theorem may_yes (m : Int) (w : World) (h : mayB m = true) :
    Calls Try.prog 54 #[.int .u64 m] w fun e w' => e = .returned (.bool true) ∧ w = w' := by
  simp [mayB] at h
  obtain ⟨h1, h2⟩ := h
  go_enter Try.func54, Try.ntmps54
  go_wp2
  go_ret
  exact ⟨rfl, rfl⟩
theorem may_no (m : Int) (w : World) (h : mayB m = false) :
    Calls Try.prog 54 #[.int .u64 m] w fun e w' => e = .returned (.bool false) ∧ w = w' := by
  simp [mayB] at h
  by_cases h0 : 0 < m
  · have h1 := h h0
    have h2 : decide (m ≤ 2305843009213693952) = false := by simp; omega
    go_enter Try.func54, Try.ntmps54
    go_wp2
    go_ret
    exact ⟨by simp, rfl⟩
  · clear h
    go_enter Try.func54, Try.ntmps54
    go_wp2
    go_ret
    exact ⟨rfl, rfl⟩

set_option maxHeartbeats 400000 in
theorem add_any (a b m : Int) (w : World) (ha : U64 a) (hb : U64 b) :
    Calls Try.prog 32 #[.int .u64 a, .int .u64 b, .int .u64 m] w fun e w' => e = .returned (.int .u64 (addI a b m)) ∧ ∃ n, w' = w.drewN n := by
  unfold U64 at ha hb
  obtain ⟨ha0, ha1⟩ := ha
  obtain ⟨hb0, hb1⟩ := hb
  cases hm : mayB m with
  | false =>
    have H := Lib.hid hm
    have hr : addI a b m = 0 := by simp [addI, hm]
    rw [hr]
    clear hm hr
    go_enter Try.func32, Try.ntmps32
    go_wp2_with (go_at_call 54; refine (may_no _ _ H.out).mono ?_; rintro e w' ⟨rfl, rfl⟩)
    go_ret
    exact ⟨rfl, 0, rfl⟩
  | true =>
    have H := Lib.hid hm
    have hr : addI a b m = (a % m + b % m) % m := by simp [addI, hm]
    rw [hr]
    simp [mayB] at hm
    obtain ⟨hm0, hm1⟩ := hm
    have e1 := Int.emod_nonneg a (show m ≠ 0 by omega)
    have e2 := Int.emod_lt_of_pos a hm0
    have e3 := Int.emod_nonneg b (show m ≠ 0 by omega)
    have e4 := Int.emod_lt_of_pos b hm0
    clear hr
    go_enter Try.func32, Try.ntmps32
    go_wp2_with (go_at_call 54; refine (may_yes _ _ H.out).mono ?_; rintro e w' ⟨rfl, rfl⟩)
    go_quiet (fail)
    go_wp2
    go_ret
    exact ⟨rfl, _, rfl⟩

set_option maxHeartbeats 400000 in
theorem sub_any (a b m : Int) (w : World) (ha : U64 a) (hb : U64 b) :
    Calls Try.prog 71 #[.int .u64 a, .int .u64 b, .int .u64 m] w fun e w' => e = .returned (.int .u64 (subI a b m)) ∧ ∃ n, w' = w.drewN n := by
  unfold U64 at ha hb
  obtain ⟨ha0, ha1⟩ := ha
  obtain ⟨hb0, hb1⟩ := hb
  cases hm : mayB m with
  | false =>
    have H := Lib.hid hm
    have hr : subI a b m = 0 := by simp [subI, hm]
    rw [hr]
    clear hm hr
    go_enter Try.func71, Try.ntmps71
    go_wp2_with (go_at_call 54; refine (may_no _ _ H.out).mono ?_; rintro e w' ⟨rfl, rfl⟩)
    go_ret
    exact ⟨rfl, 0, rfl⟩
  | true =>
    have H := Lib.hid hm
    have hr : subI a b m = (a % m + m - b % m) % m := by simp [subI, hm]
    rw [hr]
    simp [mayB] at hm
    obtain ⟨hm0, hm1⟩ := hm
    have e1 := Int.emod_nonneg a (show m ≠ 0 by omega)
    have e2 := Int.emod_lt_of_pos a hm0
    have e3 := Int.emod_nonneg b (show m ≠ 0 by omega)
    have e4 := Int.emod_lt_of_pos b hm0
    clear hr
    go_enter Try.func71, Try.ntmps71
    go_wp2_with (go_at_call 54; refine (may_yes _ _ H.out).mono ?_; rintro e w' ⟨rfl, rfl⟩)
    go_quiet (fail)
    go_wp2
    go_ret
    exact ⟨rfl, _, rfl⟩

set_option maxHeartbeats 1000000 in
theorem mul64_nat (x y : Nat) (hx : x < 18446744073709551616) (hy : y < 18446744073709551616) (w : World) :
    Calls Try.prog 55 #[.int .u64 x, .int .u64 y] w fun e w' => e = .returned (.tuple #[.int .u64 ((x * y / 18446744073709551616 : Nat) : Int), .int .u64 ((x * y % 18446744073709551616 : Nat) : Int)]) ∧ w = w' := by
  obtain ⟨bd, bt, bw, hhi⟩ := Lib.mul64_hi x y hx hy
  have ba := Lib.half_mul_le (a := x / 4294967296) (b := y / 4294967296) (by omega) (by omega)
  have bb := Lib.half_mul_le (a := x / 4294967296) (b := y % 4294967296) (by omega) (by omega)
  have bc := Lib.half_mul_le (a := x % 4294967296) (b := y / 4294967296) (by omega) (by omega)
  have ba' : x / 4294967296 * (y / 4294967296) < 18446744073709551616 := by omega
  have bb' : x / 4294967296 * (y % 4294967296) < 18446744073709551616 := by omega
  have bc' : x % 4294967296 * (y / 4294967296) < 18446744073709551616 := by omega
  have bh1 : x / 4294967296 * (y / 4294967296) + (x / 4294967296 * (y % 4294967296) + x % 4294967296 * (y % 4294967296) / 4294967296) / 4294967296 < 18446744073709551616 := by omega
  have bh : x / 4294967296 * (y / 4294967296) + (x / 4294967296 * (y % 4294967296) + x % 4294967296 * (y % 4294967296) / 4294967296) / 4294967296 + ((x / 4294967296 * (y % 4294967296) + x % 4294967296 * (y % 4294967296) / 4294967296) % 4294967296 + x % 4294967296 * (y / 4294967296)) / 4294967296 < 18446744073709551616 := by omega
  go_enter Try.func55, Try.ntmps55
  go_wp2
  simp only [Mul64.maskN x hx, Mul64.maskN y hy, Mul64.divN, Mul64.mulN, Mul64.addN, Mul64.wrapN _ bd, Mul64.wrapN _ bb', Mul64.wrapN _ bt, Mul64.maskN _ bt, Mul64.wrapN _ bc', Mul64.wrapN _ bw, Mul64.wrapN _ ba', Mul64.wrapN _ bh1, Mul64.wrapN _ bh, Mul64.wrapM (x * y)]
  rw [hhi]
  go_ret2
  exact ⟨rfl, rfl⟩

end Go.Proofs.Ytlhjbllfcbojmaa

namespace Go.Proofs.Ytlhjbllfcbojmaa
open Go.RowKit

set_option maxHeartbeats 400000 in
theorem rem64_any (hi lo y : Int) (w : World) (h0 : 0 ≤ hi) (hl0 : 0 ≤ lo) (hl : lo < 18446744073709551616) (hy : y < 18446744073709551616) (h1 : hi < y) :
    Calls Try.prog 56 #[.int .u64 hi, .int .u64 lo, .int .u64 y] w fun e w' => e = .returned (.int .u64 (rem128 hi lo y)) ∧ ∃ n, w' = w.drewN n := by
  have e1 : hi % y = hi := Int.emod_eq_of_lt h0 h1
  go_enter Try.func56, Try.ntmps56
  go_wp2_with (go_at_call 65; refine (div64_int _ _ _ _ h0 hl0 hl hy h1).mono ?_; rintro e w' ⟨rfl, n, rfl⟩)
  go_ret
  exact ⟨rfl, _, rfl⟩

def mulI (a b m : Int) : Int := if mayB m then (a % m * (b % m)) % m else 0
def hi64 (x y : Int) : Int := x * y / 18446744073709551616
def lo64 (x y : Int) : Int := x * y % 18446744073709551616
theorem mul64_int (x y : Int) (w : World) (hx0 : 0 ≤ x) (hx : x < 18446744073709551616) (hy0 : 0 ≤ y) (hy : y < 18446744073709551616) :
    Calls Try.prog 55 #[.int .u64 x, .int .u64 y] w fun e w' => e = .returned (.tuple #[.int .u64 (hi64 x y), .int .u64 (lo64 x y)]) ∧ w' = w := by
  obtain ⟨a, rfl⟩ := Int.eq_ofNat_of_zero_le hx0
  obtain ⟨b, rfl⟩ := Int.eq_ofNat_of_zero_le hy0
  refine (mul64_nat a b (by omega) (by omega) w).mono ?_
  rintro e w' ⟨rfl, hn⟩
  refine ⟨?_, hn.symm⟩
  unfold hi64 lo64
  rw [Int.natCast_ediv, Int.natCast_emod, Int.natCast_mul]
  rfl
theorem lo64_bd (x y : Int) : 0 ≤ lo64 x y ∧ lo64 x y < 18446744073709551616 := emod_bd _ _ (by decide)
theorem hi64_bd (x y m : Int) (hx0 : 0 ≤ x) (hx : x < m) (hy0 : 0 ≤ y) (hy : y < m) (hm : m ≤ 18446744073709551616) : 0 ≤ hi64 x y ∧ hi64 x y < m := by
  unfold hi64
  have h0 := Int.mul_nonneg hx0 hy0
  have h1 : x * y < m * 18446744073709551616 := Int.lt_of_le_of_lt (Int.mul_le_mul_of_nonneg_left (show y ≤ 18446744073709551616 by omega) hx0) (by omega)
  exact ⟨by omega, by omega⟩
theorem hilo (x y : Int) : hi64 x y * 18446744073709551616 + lo64 x y = x * y := by unfold hi64 lo64; omega
theorem rem_hilo (x y m : Int) : rem128 (hi64 x y) (lo64 x y) m = x * y % m := by unfold rem128; rw [hilo]

set_option maxHeartbeats 400000 in
theorem mul_any (a b m : Int) (w : World) (ha : U64 a) (hb : U64 b) :
    Calls Try.prog 30 #[.int .u64 a, .int .u64 b, .int .u64 m] w fun e w' => e = .returned (.int .u64 (mulI a b m)) ∧ ∃ n, w' = w.drewN n := by
  unfold U64 at ha hb
  obtain ⟨ha0, ha1⟩ := ha
  obtain ⟨hb0, hb1⟩ := hb
  cases hm : mayB m with
  | false =>
    have H := Lib.hid hm
    have hr : mulI a b m = 0 := by simp [mulI, hm]
    rw [hr]
    clear hm hr
    go_enter Try.func30, Try.ntmps30
    go_wp2_with (go_at_call 54; refine (may_no _ _ H.out).mono ?_; rintro e w' ⟨rfl, rfl⟩)
    go_ret
    exact ⟨rfl, 0, rfl⟩
  | true =>
    have H := Lib.hid hm
    have hr : mulI a b m = a % m * (b % m) % m := by simp [mulI, hm]
    rw [hr]
    simp [mayB] at hm
    obtain ⟨hm0, hm1⟩ := hm
    obtain ⟨e1, e2⟩ := emod_bd a m hm0
    obtain ⟨e3, e4⟩ := emod_bd b m hm0
    have HR := Lib.hid (rem_hilo (a % m) (b % m) m)
    obtain ⟨l0, l1⟩ := lo64_bd (a % m) (b % m)
    obtain ⟨h0, h1⟩ := hi64_bd (a % m) (b % m) m e1 e2 e3 e4 (by omega)
    clear hr
    go_enter Try.func30, Try.ntmps30
    go_wp2_with (go_at_call 54; refine (may_yes _ _ H.out).mono ?_; rintro e w' ⟨rfl, rfl⟩)
    go_quiet ((go_at_call 55; exact Calls.quiet_of_same (mul64_int _ _ _ e1 (by omega) e3 (by omega))))
    go_wp2_with (go_at_call 56; refine (rem64_any _ _ _ _ h0 l0 l1 (by omega) h1).mono ?_; rintro e w' ⟨rfl, n, rfl⟩)
    go_ret
    refine ⟨?_, _, rfl⟩
    exact congrArg Ending.returned (congrArg (Value.int .u64) HR.out)

def powI (a e m : Int) : Int := if mayB m then a ^ e.toNat % m else 0

theorem mulI_yes (a b m : Int) (hm : mayB m = true) : mulI a b m = a * b % m := by
  simp [mulI, hm, Int.mul_emod]
theorem mulI_bd (a b m : Int) (hm : mayB m = true) : 0 ≤ mulI a b m ∧ mulI a b m < m := by
  rw [mulI_yes a b m hm]
  simp [mayB] at hm
  exact emod_bd _ _ hm.1
theorem mulI_U64 (a b m : Int) : U64 (mulI a b m) := by
  cases hm : mayB m with
  | false => simp [mulI, hm, U64]
  | true =>
    have := mulI_bd a b m hm
    simp [mayB] at hm
    unfold U64
    omega

/-- What the loop of Pow keeps: out times a to e is what is asked for. -/
def PowRel (a0 e0 m o x k : Int) : Prop := Cg m (o * x ^ k.toNat) (a0 ^ e0.toNat)
theorem PowRel.start (a e m : Int) : PowRel a e m (1 % m) a e := ((Cg.mod m 1).mul_right _).trans (Cg.of_eq (Int.one_mul _))
theorem mulI_cg (a b m : Int) (hm : mayB m = true) : Cg m (mulI a b m) (a * b) := by
  rw [mulI_yes a b m hm]
  exact Cg.mod _ _
theorem PowRel.even {a e m o x k : Int} (hm : mayB m = true) (h : PowRel a e m o x k) (hk : 0 ≤ k) (h2 : k % 2 = 0) : PowRel a e m o (mulI x x m) (k / 2) := by
  refine Cg.trans ?_ h
  rw [toNat_even k hk h2, ← pow_sq]
  exact ((mulI_cg x x m hm).pow _).mul_left _
theorem PowRel.odd {a e m o x k : Int} (hm : mayB m = true) (h : PowRel a e m o x k) (hk : 0 ≤ k) (h2 : k % 2 = 1) : PowRel a e m (mulI o x m) (mulI x x m) (k / 2) := by
  refine Cg.trans ?_ h
  rw [toNat_odd k hk h2, Int.pow_succ, ← pow_sq]
  refine ((mulI_cg o x m hm).mul ((mulI_cg x x m hm).pow _)).trans (Cg.of_eq ?_)
  rw [Int.mul_assoc, Int.mul_comm x]
theorem PowRel.done {a e m o x k : Int} (h : PowRel a e m o x k) (hk : k = 0) (h0 : 0 ≤ o) (h1 : o < m) : o = a ^ e.toNat % m := by
  subst hk
  unfold PowRel Cg at h
  rw [← h]
  simp [Int.emod_eq_of_lt h0 h1]

set_option maxHeartbeats 400000 in
theorem pow_any (a e m : Int) (w : World) (ha : U64 a) (he : U64 e) :
    Calls Try.prog 58 #[.int .u64 a, .int .u64 e, .int .u64 m] w fun e' w' => e' = .returned (.int .u64 (powI a e m)) ∧ ∃ n, w' = w.drewN n := by
  cases hm : mayB m with
  | false =>
    have H := Lib.hid hm
    have hr : powI a e m = 0 := by simp [powI, hm]
    rw [hr]
    clear hm hr
    go_enter Try.func58, Try.ntmps58
    go_wp2_with (go_at_call 54; refine (may_no _ _ H.out).mono ?_; rintro e w' ⟨rfl, rfl⟩)
    go_ret
    exact ⟨rfl, 0, rfl⟩
  | true =>
    have H := Lib.hid hm
    have hr : powI a e m = a ^ e.toNat % m := by simp [powI, hm]
    rw [hr]
    simp [mayB] at hm
    obtain ⟨hm0, hm1⟩ := hm
    obtain ⟨e1, e2⟩ := emod_bd 1 m hm0
    have HP := Lib.hid (PowRel.start a e m)
    clear hr
    have HA := Lib.hid ha
    obtain ⟨he0, he1⟩ := he
    clear ha
    go_enter Try.func58, Try.ntmps58
    go_wp2_with (go_at_call 54; refine (may_yes _ _ H.out).mono ?_; rintro e w' ⟨rfl, rfl⟩)
    go_loopw [0, 1, 7] (fun sa se so wr => ∃ o x k : Int, so = .int .u64 o ∧ sa = .int .u64 x ∧ se = .int .u64 k ∧ Hid (U64 x) ∧ 0 ≤ o ∧ o < m ∧ 0 ≤ k ∧ k < 18446744073709551616 ∧ Hid (PowRel a e m o x k) ∧ ∃ n, wr = w.drewN n) (fun _ se _ _ => (intOf se).toNat)
    case atStart => exact ⟨_, _, _, rfl, rfl, rfl, HA, e1, e2, he0, he1, HP, 0, rfl⟩
    case round =>
      obtain ⟨o, x, k, rfl, rfl, rfl, hx, ho0, ho1, hk0, hk1, hp, n, rfl⟩ := hrel
      have hb : bits BinOp.and IntKind.u64 k 1 = k % 2 := and_one_u64 k hk0 (by omega)
      by_cases h0 : 0 < k
      · by_cases h2 : k % 2 = 1
        · have h2' : (bits BinOp.and IntKind.u64 k 1 == 1) = true := by rw [hb, h2]; rfl
          have HP2 := Lib.hid (hp.out.odd H.out hk0 h2)
          have hbd := mulI_bd o x m H.out
          obtain ⟨b0, b1⟩ := hbd
          have HO : Hid (U64 o) := Lib.hid ⟨ho0, by omega⟩
          have HX := Lib.hid (mulI_U64 x x m)
          clear hb h2
          go_wp2_with fail
          refine (mul_any o x m _ HO.out hx.out).mono ?_
          rintro e w' ⟨rfl, n1, rfl⟩
          go_wp2_with fail
          refine (mul_any x x m _ hx.out hx.out).mono ?_
          rintro e w' ⟨rfl, n2, rfl⟩
          go_wp2
          go_roundw
          case rel => exact ⟨_, _, _, rfl, rfl, rfl, HX, b0, b1, by omega, by omega, HP2, _, rfl⟩
          case measure => simp [intOf]; omega
        · have h2' : (bits BinOp.and IntKind.u64 k 1 == 1) = false := by rw [hb]; simpa using h2
          have HP2 := Lib.hid (hp.out.even H.out hk0 (by omega))
          have HX := Lib.hid (mulI_U64 x x m)
          clear hb h2
          go_wp2_with fail
          refine (mul_any x x m _ hx.out hx.out).mono ?_
          rintro e w' ⟨rfl, n2, rfl⟩
          go_wp2
          go_roundw
          case rel => exact ⟨_, _, _, rfl, rfl, rfl, HX, ho0, ho1, by omega, by omega, HP2, _, rfl⟩
          case measure => simp [intOf]; omega
      · have HD := Lib.hid (hp.out.done (by omega) ho0 ho1)
        go_wp2
        go_ret
        exact ⟨congrArg Ending.returned (congrArg (Value.int .u64) HD.out), _, rfl⟩
end Go.Proofs.Ytlhjbllfcbojmaa

namespace Go.Proofs.Ytlhjbllfcbojmaa
open Go.RowKit

instance (a : Int) : Decidable (U64 a) := by unfold U64; infer_instance
theorem ret_u64 {a b : Int} (h : a = b) : Ending.returned (.int .u64 a) = .returned (.int .u64 b) := by rw [h]
theorem ret_bool {a b : Bool} (h : a = b) : Ending.returned (.bool a) = .returned (.bool b) := by rw [h]
theorem grown_drewN' (w : World) (n : Nat) : w.grownBy (w.drewN n) none := grownBy_drewN (World.grownBy.refl w none) n
/-- What all nodes know. -/
structure Par where
  P : Int
  Q : Int
  G : Int
  H : Int
  Nodes : Int
  N : Int
  T : Int
  K : Int
  D : Int
  R : Int
  M : Int
  X : Int
structure Par.ok (p : Par) : Prop where
  P : U64 p.P
  Q : U64 p.Q
  G : U64 p.G
  H : U64 p.H
  Nodes : I64 p.Nodes
  N : I64 p.N
  T : I64 p.T
  K : I64 p.K
  D : I64 p.D
  R : I64 p.R
  M : I64 p.M
  X : I64 p.X
abbrev Par.cells (p : Par) : Array Value := #[.int .u64 p.P, .int .u64 p.Q, .int .u64 p.G, .int .u64 p.H, .int .i64 p.Nodes, .int .i64 p.N, .int .i64 p.T, .int .i64 p.K, .int .i64 p.D, .int .i64 p.R, .int .i64 p.M, .int .i64 p.X]
abbrev Par.v (p : Par) : Value := .agg p.cells
theorem Bk.par {w : World} {g : Nat} {t : TypeId} {p : Par} (h : Bk w g t p.cells) : (w.cell? ⟨g, 0, none⟩ = some (.int .u64 p.P) ∧ w.cell? ⟨g, 1, none⟩ = some (.int .u64 p.Q) ∧ w.cell? ⟨g, 2, none⟩ = some (.int .u64 p.G) ∧ w.cell? ⟨g, 3, none⟩ = some (.int .u64 p.H) ∧ w.cell? ⟨g, 4, none⟩ = some (.int .i64 p.Nodes) ∧ w.cell? ⟨g, 5, none⟩ = some (.int .i64 p.N) ∧ w.cell? ⟨g, 6, none⟩ = some (.int .i64 p.T) ∧ w.cell? ⟨g, 7, none⟩ = some (.int .i64 p.K) ∧ w.cell? ⟨g, 8, none⟩ = some (.int .i64 p.D) ∧ w.cell? ⟨g, 9, none⟩ = some (.int .i64 p.R) ∧ w.cell? ⟨g, 10, none⟩ = some (.int .i64 p.M) ∧ w.cell? ⟨g, 11, none⟩ = some (.int .i64 p.X)) := ⟨h.cell 0, h.cell 1, h.cell 2, h.cell 3, h.cell 4, h.cell 5, h.cell 6, h.cell 7, h.cell 8, h.cell 9, h.cell 10, h.cell 11⟩
/-- Each cell of a block that is known, in one rule. -/
theorem Bk.rule {w : World} {g : Nat} {t : TypeId} {cs : Array Value} (h : Bk w g t cs) : ∀ o, w.cell? ⟨g, o, none⟩ = cs[o]? := fun o => h.cell o
theorem Bk.prule {w : World} {g : Nat} {t : TypeId} {p : Par} (h : Bk w g t p.cells) : ∀ o, w.cell? ⟨g, o, none⟩ = (#[.int .u64 p.P, .int .u64 p.Q, .int .u64 p.G, .int .u64 p.H, .int .i64 p.Nodes, .int .i64 p.N, .int .i64 p.T, .int .i64 p.K, .int .i64 p.D, .int .i64 p.R, .int .i64 p.M, .int .i64 p.X] : Array Value)[o]? := fun o => h.cell o
def timesI (P : Int) (l : List Int) : Int := l.foldl (fun x y => mulI x y P) (mulI 1 1 P)
theorem timesI_snoc (P : Int) (l : List Int) (k : Nat) (h : k < l.length) : timesI P (l.take (k + 1)) = mulI (timesI P (l.take k)) l[k] P := by
  unfold timesI
  rw [List.take_succ_eq_append_getElem h, List.foldl_append]
  rfl

theorem timesI_U64 (P : Int) (l : List Int) : U64 (timesI P l) := by
  unfold timesI
  rcases List.eq_nil_or_concat l with rfl | ⟨l', x, rfl⟩
  · exact mulI_U64 _ _ _
  · rw [List.concat_eq_append, List.foldl_append]
    exact mulI_U64 _ _ _

set_option maxHeartbeats 400000 in
theorem times_any (p : Par) (v : Value) (l : List Int) (X : Nat → Prop) (w : World) (h : Sl encU X w v l) :
    Calls Try.prog 40 #[p.v, v] w fun e w' => e = .returned (.int .u64 (timesI p.P l)) ∧ w.grownBy w' none := by
  have H := Lib.hid h
  obtain ⟨A, c, rfl, h1, h2⟩ := h.form
  clear h
  go_enter Try.func40, Try.ntmps40
  go_wp2_with fail
  refine (mul_any 1 1 p.P _ (by decide) (by decide)).mono ?_
  rintro e w' ⟨rfl, n, rfl⟩
  go_wp2_with fail
  have HB : Hid (w.grownBy ((w.alloc (Obj.cells p.cells 24)).drewN n) none ∧ Bk ((w.alloc (Obj.cells p.cells 24)).drewN n) w.heap.size 24 p.cells) := Lib.hid ⟨grownBy_drewN (World.grownBy_alloc w _ none) n, (Bk.new w _ _).drewN n⟩
  go_loopg [5, 13] l.length (fun g s5 s13 wx => ∃ j : Nat, j + g = l.length ∧ s13 = .int .i64 j ∧ s5 = .int .u64 (timesI p.P (l.take j)) ∧ Hid (w.grownBy wx none ∧ Bk wx w.heap.size 24 p.cells))
  case atStart => exact ⟨0, by omega, rfl, rfl, HB⟩
  case round =>
    obtain ⟨j, hj, rfl, rfl, HX⟩ := hrel
    cases gk with
    | zero =>
      obtain rfl : j = l.length := by omega
      have HE : Hid (timesI p.P (l.take l.length) = timesI p.P l) := Lib.hid (by rw [List.take_length])
      go_wp2
      go_ret
      exact ⟨ret_u64 HE.out, HX.out.1⟩
    | succ k =>
      have hjn : (j : Int) < (l.length : Int) := by omega
      have hjN : j < l.length := by omega
      obtain ⟨g, o, c', e, _, _, hc, hu⟩ := (H.out.kept HX.out.1).atU hjN
      injection e with e1 e2 e3
      subst e1 e3
      have cP : wr.cell? ⟨w.heap.size, 0, none⟩ = some (.int .u64 p.P) := HX.out.2.cell 0
      have HS := Lib.hid (timesI_snoc p.P l j hjN)
      have HM := Lib.hid (timesI_U64 p.P (l.take j))
      have HU := Lib.hid hu
      generalize l[j] = y at *
      generalize timesI p.P (l.take j) = t at *
      clear hu e2
      go_wp2_with fail
      refine (mul_any t y p.P _ HM.out HU.out).mono ?_
      rintro e w' ⟨rfl, n, rfl⟩
      go_wp2
      go_roundg k
      case measure => omega
      case rel => exact ⟨j + 1, by omega, by go_num, by rw [HS.out], Lib.hid ⟨grownBy_drewN HX.out.1 n, HX.out.2.drewN n⟩⟩
end Go.Proofs.Ytlhjbllfcbojmaa

namespace Go.Proofs.Ytlhjbllfcbojmaa
def HasInv (a m : Int) : Prop := ∃ x, 0 ≤ x ∧ x < m ∧ Cg m (a * x) 1
open Classical in
noncomputable def invI (a m : Int) : Int := if h : HasInv a m then Classical.choose h else 0
theorem invI_spec {a m : Int} (h : HasInv a m) : 0 ≤ invI a m ∧ invI a m < m ∧ Cg m (a * invI a m) 1 := by
  unfold invI
  rw [dif_pos h]
  exact Classical.choose_spec h
theorem inv_unique {a m x y : Int} (hx0 : 0 ≤ x) (hx : x < m) (h : Cg m (a * x) 1) (hy0 : 0 ≤ y) (hy : y < m) (k : Cg m (a * y) 1) : x = y := by
  refine Cg.eq (m := m) ?_ hx0 hx hy0 hy
  have e1 : Cg m (x * (a * y)) x := (k.mul_left x).trans (Cg.of_eq (Int.mul_one x))
  have e2 : Cg m (y * (a * x)) y := (h.mul_left y).trans (Cg.of_eq (Int.mul_one y))
  exact e1.symm.trans ((Cg.of_eq (by rw [← Int.mul_assoc, ← Int.mul_assoc, Int.mul_comm x a, Int.mul_comm y a, Int.mul_assoc, Int.mul_assoc, Int.mul_comm x y])).trans e2)
theorem invI_eq {a m x : Int} (hx0 : 0 ≤ x) (hx : x < m) (h : Cg m (a * x) 1) : invI a m = x := by
  have s := invI_spec ⟨x, hx0, hx, h⟩
  exact inv_unique s.1 s.2.1 s.2.2 hx0 hx h

/-- What the loop of Inv keeps. -/
structure InvRel (a m r s x y : Int) : Prop where
  fst : Cg m (a * x) r
  snd : Cg m (a * y) s
  dvd : ∀ d : Int, (d ∣ r ∧ d ∣ s) → (d ∣ a ∧ d ∣ m)

theorem dvd_of_mod {d a m : Int} (h : d ∣ a % m) (k : d ∣ m) : d ∣ a := by
  rw [← Int.mul_ediv_add_emod a m]
  exact Int.dvd_add (Int.dvd_trans k (Int.dvd_mul_right _ _)) h

theorem InvRel.start (a m : Int) : InvRel a m m (a % m) 0 (1 % m) := by
  refine ⟨?_, ?_, fun d h => ⟨dvd_of_mod h.2 h.1, h.1⟩⟩
  · rw [Int.mul_zero]
    exact (Cg.of_dvd (by rw [Int.sub_zero]; exact Int.dvd_refl m)).symm
  · exact (((Cg.mod m 1).mul_left a).trans (Cg.of_eq (Int.mul_one a))).trans (Cg.mod m a).symm

theorem InvRel.next {a m r s x y z : Int} (h : InvRel a m r s x y) (hz : Cg m z (x - r / s * y)) : InvRel a m s (r % s) y z := by
  refine ⟨h.snd, ?_, fun d k => h.dvd d ⟨dvd_of_mod k.2 k.1, k.1⟩⟩
  have e := Int.mul_ediv_add_emod r s
  have e1 : r % s = r - r / s * s := by rw [Int.mul_comm (r / s)]; omega
  rw [e1]
  refine (hz.mul_left a).trans ?_
  rw [Int.mul_sub]
  refine h.fst.sub ?_
  rw [← Int.mul_assoc, Int.mul_comm a, Int.mul_assoc]
  exact h.snd.mul_left _

theorem InvRel.yes {a m x y : Int} (h : InvRel a m 1 0 x y) (hx0 : 0 ≤ x) (hx : x < m) : HasInv a m ∧ x = invI a m :=
  ⟨⟨x, hx0, hx, h.fst⟩, (invI_eq hx0 hx h.fst).symm⟩
theorem InvRel.no {a m r x y : Int} (h : InvRel a m r 0 x y) (h0 : 0 < r) (h1 : r ≠ 1) : ¬ HasInv a m := by
  rintro ⟨z, _, _, hz⟩
  obtain ⟨d1, d2⟩ := h.dvd r ⟨Int.dvd_refl r, Int.dvd_zero r⟩
  have k := Int.dvd_trans d2 hz.dvd
  have k1 : r ∣ a * z := Int.dvd_trans d1 (Int.dvd_mul_right a z)
  have k2 : r ∣ 1 := by
    have := Int.dvd_sub k1 k
    rwa [show a * z - (a * z - 1) = 1 by omega] at this
  have := Int.le_of_dvd (by decide) k2
  omega
end Go.Proofs.Ytlhjbllfcbojmaa

namespace Go.Proofs.Ytlhjbllfcbojmaa
open Go.RowKit
theorem subI_yes (a b m : Int) (hm : mayB m = true) : subI a b m = (a - b) % m := by
  simp only [subI, hm, if_true]
  show Cg m (a % m + m - b % m) (a - b)
  refine Cg.sub ?_ (Cg.mod m b)
  unfold Cg
  rw [Int.add_emod_right, Int.emod_emod_of_dvd _ (Int.dvd_refl m)]
theorem subI_bd (a b m : Int) (hm : mayB m = true) : 0 ≤ subI a b m ∧ subI a b m < m := by
  rw [subI_yes a b m hm]
  simp [mayB] at hm
  exact emod_bd _ _ hm.1
theorem addI_yes (a b m : Int) (hm : mayB m = true) : addI a b m = (a + b) % m := by
  simp only [addI, hm, if_true]
  exact (Cg.mod m a).add (Cg.mod m b)
theorem addI_bd (a b m : Int) (hm : mayB m = true) : 0 ≤ addI a b m ∧ addI a b m < m := by
  rw [addI_yes a b m hm]
  simp [mayB] at hm
  exact emod_bd _ _ hm.1
theorem addI_U64 (a b m : Int) : U64 (addI a b m) := by
  cases hm : mayB m with
  | false => simp [addI, hm, U64]
  | true =>
    have := addI_bd a b m hm
    simp [mayB] at hm
    unfold U64
    omega
theorem subI_U64 (a b m : Int) : U64 (subI a b m) := by
  cases hm : mayB m with
  | false => simp [subI, hm, U64]
  | true =>
    have := subI_bd a b m hm
    simp [mayB] at hm
    unfold U64
    omega
open Classical in
/-- What Inv answers where m may be. -/
noncomputable def invRes (a m : Int) : Value := if HasInv a m then .tuple #[.int .u64 (invI a m), .int .i64 0] else .tuple #[.int .u64 0, .int .i64 5]
theorem invRes_yes {a m x : Int} (h : HasInv a m ∧ x = invI a m) : .tuple #[.int .u64 x, .int .i64 0] = invRes a m := by
  unfold invRes
  rw [if_pos h.1, h.2]
theorem invRes_no {a m : Int} (h : ¬ HasInv a m) : .tuple #[.int .u64 0, .int .i64 5] = invRes a m := by
  unfold invRes
  rw [if_neg h]

set_option maxHeartbeats 400000 in
theorem inv_may (a m : Int) (w : World) (ha : U64 a) (hm : mayB m = true) :
    Calls Try.prog 68 #[.int .u64 a, .int .u64 m] w fun e' w' => e' = .returned (invRes a m) ∧ ∃ n, w' = w.drewN n := by
  have H := Lib.hid hm
  simp [mayB] at hm
  obtain ⟨hm0, hm1⟩ := hm
  obtain ⟨e1, e2⟩ := emod_bd 1 m hm0
  obtain ⟨e3, e4⟩ := emod_bd a m hm0
  obtain ⟨ha0, ha1⟩ := ha
  have HP := Lib.hid (InvRel.start a m)
  go_enter Try.func68, Try.ntmps68
  go_wp2_with (go_at_call 54; refine (may_yes _ _ H.out).mono ?_; rintro e w' ⟨rfl, rfl⟩)
  go_quiet (fail)
  go_wp2
  go_quiet (fail)
  go_wp2_with fail
  go_loopw [6, 7, 8, 9] (fun sr ss sx sy wr => ∃ r s x y : Int, sr = .int .u64 r ∧ ss = .int .u64 s ∧ sx = .int .u64 x ∧ sy = .int .u64 y ∧ 0 < r ∧ r ≤ m ∧ 0 ≤ s ∧ s ≤ m ∧ 0 ≤ x ∧ x < m ∧ 0 ≤ y ∧ y < m ∧ Hid (InvRel a m r s x y) ∧ ∃ n, wr = w.drewN n) (fun _ ss _ _ _ => (intOf ss).toNat)
  case atStart => exact ⟨_, _, _, _, rfl, rfl, rfl, rfl, by omega, by omega, by omega, by omega, by omega, by omega, by omega, by omega, HP, _, World.drewN_drewN _ _ _⟩
  case round =>
    obtain ⟨r, s, x, y, rfl, rfl, rfl, rfl, hr0, hr1, hs0, hs1, hx0, hx1, hy0, hy1, hp, n, rfl⟩ := hrel
    by_cases h0 : s = 0
    · subst h0
      by_cases h1 : r = 1
      · subst h1
        have HR := Lib.hid (invRes_yes (hp.out.yes hx0 hx1))
        go_wp2
        go_ret2
        exact ⟨congrArg Ending.returned HR.out, _, rfl⟩
      · have h1' : (r != 1) = true := by simpa using h1
        have HR := Lib.hid (invRes_no (hp.out.no hr0 h1))
        clear h1
        go_wp2
        go_ret2
        exact ⟨congrArg Ending.returned HR.out, _, rfl⟩
    · have h0' : (s != 0) = true := by simpa using h0
      have q0 : 0 ≤ r / s := Int.ediv_nonneg (by omega) hs0
      have q1 : r / s ≤ r := Int.ediv_le_self s (by omega)
      obtain ⟨b0, b1⟩ := emod_bd r s (by omega)
      have HQ : Hid (U64 (r / s)) := Lib.hid ⟨q0, by omega⟩
      have HY : Hid (U64 y) := Lib.hid ⟨hy0, by omega⟩
      have HX : Hid (U64 x) := Lib.hid ⟨hx0, by omega⟩
      have HM := Lib.hid (mulI_U64 (r / s) y m)
      have HS := subI_bd x (mulI (r / s) y m) m H.out
      obtain ⟨z0, z1⟩ := HS
      have HN := Lib.hid (hp.out.next (z := subI x (mulI (r / s) y m) m) (by rw [subI_yes x _ m H.out]; exact (Cg.mod m _).trans ((Cg.refl m x).sub (mulI_cg _ _ m H.out))))
      clear h0
      go_wp2
      go_quiet (fail)
      go_wp2_with fail
      refine (mul_any _ _ m _ HQ.out HY.out).mono ?_
      rintro e w' ⟨rfl, n1, rfl⟩
      go_wp2_with fail
      refine (sub_any _ _ m _ HX.out HM.out).mono ?_
      rintro e w' ⟨rfl, n2, rfl⟩
      go_wp2
      go_roundw
      case rel => exact ⟨_, _, _, _, rfl, rfl, rfl, rfl, by omega, by omega, by omega, by omega, by omega, by omega, by omega, by omega, HN, _, rfl⟩
      case measure => simp [intOf]; omega
end Go.Proofs.Ytlhjbllfcbojmaa

namespace Go.Proofs.Ytlhjbllfcbojmaa
open Go.RowKit

theorem addI_no (a b m : Int) (hm : mayB m = false) : addI a b m = 0 := by simp [addI, hm]
theorem may_cases {m : Int} (h : mayB m = false) (h0 : 0 ≤ m) : m = 0 ∨ 2305843009213693952 < m := by
  simp [mayB] at h
  omega
theorem add_carry (x y m : Int) (x0 : 0 ≤ x) (x1 : x < m) (y0 : 0 ≤ y) (y1 : y < m) : (m ≤ x + y → (x + y) % m = x + y - m) ∧ (x + y < m → (x + y) % m = x + y) := by
  refine ⟨fun h => ?_, fun h => Int.emod_eq_of_lt (by omega) h⟩
  rw [show x + y = (x + y - m) + m * 1 by omega, Int.add_mul_emod_self_left, Int.emod_eq_of_lt (by omega) (by omega)]
  omega

set_option maxHeartbeats 400000 in
theorem refadd_any (a b m : Int) (w : World) (ha : U64 a) (hb : U64 b) (hm : U64 m) :
    Calls Try.prog 18 #[.int .u64 a, .int .u64 b, .int .u64 m] w fun e w' => e = .returned (.int .u64 (addI a b m)) ∧ ∃ n, w' = w.drewN n := by
  obtain ⟨a0, a1⟩ := ha
  obtain ⟨b0, b1⟩ := hb
  obtain ⟨m0, m1⟩ := hm
  cases hmay : mayB m with
  | false =>
    rw [addI_no a b m hmay]
    rcases may_cases hmay m0 with rfl | h
    · clear hmay
      go_enter Try.func18, Try.ntmps18
      go_wp2
      go_ret
      exact ⟨rfl, 0, rfl⟩
    · clear hmay
      have h1 : (m == 0) = false := by simp; omega
      have h2 : decide (2305843009213693952 < m) = true := by simpa using h
      go_enter Try.func18, Try.ntmps18
      go_wp2
      go_ret
      exact ⟨rfl, 0, rfl⟩
  | true =>
    have hr : addI a b m = (a % m + b % m) % m := by simp [addI, hmay]
    rw [hr]
    simp [mayB] at hmay
    obtain ⟨hm0, hm1⟩ := hmay
    obtain ⟨e1, e2⟩ := emod_bd a m hm0
    obtain ⟨e3, e4⟩ := emod_bd b m hm0
    have hc := add_carry (a % m) (b % m) m e1 e2 e3 e4
    have h1 : (m == 0) = false := by simp; omega
    have h2 : decide (2305843009213693952 < m) = false := by simpa using hm1
    clear hr
    by_cases hs : m ≤ a % m + b % m
    · have HC := Lib.hid (hc.1 hs)
      have hs' : decide (m ≤ a % m + b % m) = true := by simpa using hs
      clear hc
      go_enter Try.func18, Try.ntmps18
      go_wp2
      go_quiet (fail)
      go_wp2
      go_ret
      exact ⟨congrArg Ending.returned (congrArg (Value.int .u64) HC.out.symm), _, rfl⟩
    · have HC := Lib.hid (hc.2 (by omega))
      have hs' : decide (m ≤ a % m + b % m) = false := by simpa using hs
      clear hc
      go_enter Try.func18, Try.ntmps18
      go_wp2
      go_quiet (fail)
      go_wp2
      go_ret
      exact ⟨congrArg Ending.returned (congrArg (Value.int .u64) HC.out.symm), _, rfl⟩

theorem sub_borrow (x y m : Int) (x0 : 0 ≤ x) (x1 : x < m) (y0 : 0 ≤ y) (y1 : y < m) : (y ≤ x → (x + m - y) % m = x - y) ∧ (x < y → (x + m - y) % m = m - (y - x)) := by
  refine ⟨fun h => ?_, fun h => ?_⟩
  · rw [show x + m - y = (x - y) + m * 1 by omega, Int.add_mul_emod_self_left, Int.emod_eq_of_lt (by omega) (by omega)]
  · rw [Int.emod_eq_of_lt (by omega) (by omega)]
    omega

set_option maxHeartbeats 400000 in
theorem refsub_any (a b m : Int) (w : World) (ha : U64 a) (hb : U64 b) (hm : U64 m) :
    Calls Try.prog 49 #[.int .u64 a, .int .u64 b, .int .u64 m] w fun e w' => e = .returned (.int .u64 (subI a b m)) ∧ ∃ n, w' = w.drewN n := by
  obtain ⟨a0, a1⟩ := ha
  obtain ⟨b0, b1⟩ := hb
  obtain ⟨m0, m1⟩ := hm
  cases hmay : mayB m with
  | false =>
    rw [show subI a b m = 0 by simp [subI, hmay]]
    rcases may_cases hmay m0 with rfl | h
    · clear hmay
      go_enter Try.func49, Try.ntmps49
      go_wp2
      go_ret
      exact ⟨rfl, 0, rfl⟩
    · clear hmay
      have h1 : (m == 0) = false := by simp; omega
      have h2 : decide (2305843009213693952 < m) = true := by simpa using h
      go_enter Try.func49, Try.ntmps49
      go_wp2
      go_ret
      exact ⟨rfl, 0, rfl⟩
  | true =>
    have hr : subI a b m = (a % m + m - b % m) % m := by simp [subI, hmay]
    rw [hr]
    simp [mayB] at hmay
    obtain ⟨hm0, hm1⟩ := hmay
    obtain ⟨e1, e2⟩ := emod_bd a m hm0
    obtain ⟨e3, e4⟩ := emod_bd b m hm0
    have hc := sub_borrow (a % m) (b % m) m e1 e2 e3 e4
    have h1 : (m == 0) = false := by simp; omega
    have h2 : decide (2305843009213693952 < m) = false := by simpa using hm1
    clear hr
    by_cases hs : b % m ≤ a % m
    · have HC := Lib.hid (hc.1 hs)
      have hs' : decide (b % m ≤ a % m) = true := by simpa using hs
      clear hc
      go_enter Try.func49, Try.ntmps49
      go_wp2
      go_quiet (fail)
      go_wp2
      go_quiet (fail)
      go_wp2
      go_ret
      exact ⟨congrArg Ending.returned (congrArg (Value.int .u64) HC.out.symm), _, World.drewN_drewN _ _ _⟩
    · have HC := Lib.hid (hc.2 (by omega))
      have hs' : decide (b % m ≤ a % m) = false := by simpa using hs
      clear hc
      go_enter Try.func49, Try.ntmps49
      go_wp2
      go_quiet (fail)
      go_wp2
      go_quiet (fail)
      go_wp2
      go_ret
      exact ⟨congrArg Ending.returned (congrArg (Value.int .u64) HC.out.symm), _, World.drewN_drewN _ _ _⟩

/-- What the loop of the reference's Mul keeps. -/
def RMul (m a0 b0 o a b : Int) : Prop := Cg m (o + a * b) (a0 * b0)
theorem RMul.odd {m a0 b0 o a b : Int} (hm : mayB m = true) (h : RMul m a0 b0 o a b) (h2 : b % 2 = 1) : RMul m a0 b0 (addI o a m) (addI a a m) (b / 2) := by
  unfold RMul at *
  have e1 : Cg m (addI o a m) (o + a) := by rw [addI_yes _ _ _ hm]; exact Cg.mod _ _
  have e2 : Cg m (addI a a m) (a + a) := by rw [addI_yes _ _ _ hm]; exact Cg.mod _ _
  refine ((e1.add (e2.mul_right _)).trans (Cg.of_eq ?_)).trans h
  have hb : b = 2 * (b / 2) + 1 := by omega
  generalize b / 2 = k at *
  subst hb
  rw [Int.mul_add, Int.mul_one, Int.add_mul, ← Int.mul_assoc, Int.mul_comm a 2, Int.mul_assoc]
  omega
theorem RMul.even {m a0 b0 o a b : Int} (hm : mayB m = true) (h : RMul m a0 b0 o a b) (h2 : b % 2 = 0) : RMul m a0 b0 o (addI a a m) (b / 2) := by
  unfold RMul at *
  have e2 : Cg m (addI a a m) (a + a) := by rw [addI_yes _ _ _ hm]; exact Cg.mod _ _
  refine (((Cg.refl m o).add (e2.mul_right _)).trans (Cg.of_eq ?_)).trans h
  have hb : b = 2 * (b / 2) := by omega
  generalize b / 2 = k at *
  subst hb
  rw [Int.add_mul, ← Int.mul_assoc, Int.mul_comm a 2, Int.mul_assoc]
  omega
theorem RMul.done {m a0 b0 o a : Int} (hm : mayB m = true) (h : RMul m a0 b0 o a 0) (h0 : 0 ≤ o) (h1 : o < m) : o = mulI a0 b0 m := by
  unfold RMul Cg at h
  rw [Int.mul_zero, Int.add_zero, Int.emod_eq_of_lt h0 h1] at h
  rw [mulI_yes _ _ _ hm, h]

set_option maxHeartbeats 400000 in
theorem refmul_any (a b m : Int) (w : World) (ha : U64 a) (hb : U64 b) (hm : U64 m) :
    Calls Try.prog 19 #[.int .u64 a, .int .u64 b, .int .u64 m] w fun e w' => e = .returned (.int .u64 (mulI a b m)) ∧ ∃ n, w' = w.drewN n := by
  have HA := Lib.hid ha
  have HM := Lib.hid hm
  obtain ⟨b0, b1⟩ := hb
  clear ha hm
  have HR : Hid ((mayB m = true → RMul m a b 0 a b ∧ 0 < m) ∧ (mayB m = false → (0 : Int) = 0)) := Lib.hid ⟨fun h => ⟨Cg.of_eq (Int.zero_add _), by simp [mayB] at h; exact h.1⟩, fun _ => rfl⟩
  go_enter Try.func19, Try.ntmps19
  go_wp2_with fail
  go_loopw [0, 1, 7] (fun sa sb so wr => ∃ x k o : Int, sa = .int .u64 x ∧ sb = .int .u64 k ∧ so = .int .u64 o ∧ Hid (U64 x) ∧ Hid (U64 o) ∧ 0 ≤ k ∧ k < 18446744073709551616 ∧ Hid ((mayB m = true → RMul m a b o x k ∧ 0 ≤ o ∧ o < m) ∧ (mayB m = false → o = 0)) ∧ ∃ n, wr = w.drewN n) (fun _ sb _ _ => (intOf sb).toNat)
  case atStart => exact ⟨_, _, _, rfl, rfl, rfl, HA, Lib.hid ⟨by decide, by decide⟩, b0, b1, Lib.hid ⟨fun h => ⟨(HR.out.1 h).1, by decide, (HR.out.1 h).2⟩, fun _ => rfl⟩, 0, rfl⟩
  case round =>
    obtain ⟨x, k, o, rfl, rfl, rfl, hx, ho, k0, k1, hp, n, rfl⟩ := hrel
    by_cases h0 : 0 < k
    · have HX2 := Lib.hid (addI_U64 x x m)
      by_cases h2 : k % 2 = 1
      · have h2' : (k % 2 == 1) = true := by simpa using h2
        have HO2 := Lib.hid (addI_U64 o x m)
        have HN : Hid ((mayB m = true → RMul m a b (addI o x m) (addI x x m) (k / 2) ∧ 0 ≤ addI o x m ∧ addI o x m < m) ∧ (mayB m = false → addI o x m = 0)) := Lib.hid ⟨fun h => ⟨(hp.out.1 h).1.odd h h2, (addI_bd o x m h).1, (addI_bd o x m h).2⟩, fun h => addI_no o x m h⟩
        clear h2
        go_wp2_with fail
        refine (refadd_any o x m _ ho.out hx.out HM.out).mono ?_
        rintro e w' ⟨rfl, n1, rfl⟩
        go_wp2_with fail
        refine (refadd_any x x m _ hx.out hx.out HM.out).mono ?_
        rintro e w' ⟨rfl, n2, rfl⟩
        go_wp2
        go_roundw
        case rel => exact ⟨_, _, _, rfl, rfl, rfl, HX2, HO2, by omega, by omega, HN, _, rfl⟩
        case measure => simp [intOf]; omega
      · have h2' : (k % 2 == 1) = false := by simpa using h2
        have HN : Hid ((mayB m = true → RMul m a b o (addI x x m) (k / 2) ∧ 0 ≤ o ∧ o < m) ∧ (mayB m = false → o = 0)) := Lib.hid ⟨fun h => ⟨(hp.out.1 h).1.even h (by omega), (hp.out.1 h).2.1, (hp.out.1 h).2.2⟩, hp.out.2⟩
        clear h2
        go_wp2_with fail
        refine (refadd_any x x m _ hx.out hx.out HM.out).mono ?_
        rintro e w' ⟨rfl, n2, rfl⟩
        go_wp2
        go_roundw
        case rel => exact ⟨_, _, _, rfl, rfl, rfl, HX2, ho, by omega, by omega, HN, _, rfl⟩
        case measure => simp [intOf]; omega
    · obtain rfl : k = 0 := by omega
      have HE : Hid (o = mulI a b m) := Lib.hid (by
        cases hmay : mayB m with
        | true => exact (hp.out.1 hmay).1.done hmay (hp.out.1 hmay).2.1 (hp.out.1 hmay).2.2
        | false => rw [hp.out.2 hmay]; simp [mulI, hmay])
      go_wp2
      go_ret
      exact ⟨congrArg Ending.returned (congrArg (Value.int .u64) HE.out), _, rfl⟩

theorem powI_U64' (a e m : Int) : U64 (powI a e m) := by
  cases hm : mayB m with
  | false => simp [powI, hm, U64]
  | true =>
    simp only [powI, hm, if_true]
    simp [mayB] at hm
    have := emod_bd (a ^ e.toNat) m hm.1
    unfold U64
    omega
theorem pow_even (a e m : Int) (he : 0 ≤ e) (h2 : e % 2 = 0) : mulI (powI a (e / 2) m) (powI a (e / 2) m) m = powI a e m := by
  cases hm : mayB m with
  | false => simp [powI, mulI, hm]
  | true =>
    rw [mulI_yes _ _ _ hm]
    simp only [powI, hm, if_true]
    refine ((Cg.mod m _).mul (Cg.mod m _)).trans (Cg.of_eq ?_)
    rw [toNat_even e he h2, ← Int.pow_add]
    congr 1
    omega
theorem pow_odd (a e m : Int) (he : 0 ≤ e) (h2 : e % 2 = 1) : mulI (mulI (powI a (e / 2) m) (powI a (e / 2) m) m) a m = powI a e m := by
  cases hm : mayB m with
  | false => simp [powI, mulI, hm]
  | true =>
    rw [mulI_yes _ _ _ hm, mulI_yes _ _ _ hm]
    simp only [powI, hm, if_true]
    refine (((Cg.mod m _).trans ((Cg.mod m _).mul (Cg.mod m _))).mul_right a).trans (Cg.of_eq ?_)
    rw [toNat_odd e he h2, Int.pow_succ, ← Int.pow_add]
    congr 2
    omega

end Go.Proofs.Ytlhjbllfcbojmaa

namespace Go.Proofs.Ytlhjbllfcbojmaa
open Go.RowKit

theorem Sl.ofBk {w : World} {g : Nat} {t : TypeId} {l : List Int} (h : Bk w g t (nums l).toArray) (hu : ∀ x ∈ l, U64 x) (hl : l.length ≤ 9223372036854775807) : Sl encU (fun _ => True) w (.slice (some ⟨g, 0, none⟩) l.length l.length) l := by
  refine ⟨_, _, rfl, Nat.le_refl _, hl, fun _ => ⟨g, 0, rfl, h.lt, trivial, fun i hi => ⟨_, ⟨rfl, hu _ (List.getElem_mem hi)⟩, fun j u hj => ?_⟩⟩⟩
  have hj0 : j = 0 := by
    have := (List.getElem?_eq_some_iff.1 hj).1
    simp at this
    exact this
  subst hj0
  simp at hj
  subst hj
  rw [h.cell]
  simp [nums, encU, hi]
theorem times_two (p : Par) (a b : Int) (w : World) (ha : U64 a) (hb : U64 b) :
    Calls Try.prog 40 #[p.v, .slice (some ⟨w.heap.size, 0, none⟩) 2 2] (w.alloc (Obj.cells #[.int .u64 a, .int .u64 b] 22)) fun e w' => e = .returned (.int .u64 (timesI p.P [a, b])) ∧ w.grownBy w' none :=
  (times_any p _ [a, b] (fun _ => True) _ (Sl.ofBk (t := 22) (Bk.new w 22 (nums [a, b]).toArray) (by intro y hy; simp at hy; rcases hy with rfl | rfl <;> assumption) (by simp))).mono fun _ _ ⟨he, hg⟩ => ⟨he, (World.grownBy_alloc w _ none).trans hg⟩
theorem times_nil (p : Par) (w : World) :
    Calls Try.prog 40 #[p.v, .slice none 0 0] w fun e w' => e = .returned (.int .u64 (timesI p.P [])) ∧ w.grownBy w' none :=
  times_any p _ [] (fun _ => True) w (Sl.nil _ _ _)
set_option maxHeartbeats 400000 in
theorem power_any (p : Par) (x e : Int) (w : World) (hx : U64 x) (he : U64 e) :
    Calls Try.prog 38 #[p.v, .int .u64 x, .int .u64 e] w fun e' w' => e' = .returned (.int .u64 (powI x e p.P)) ∧ w.grownBy w' none := by
  go_enter Try.func38, Try.ntmps38
  go_wp2_with fail
  refine (pow_any x e p.P _ hx he).mono ?_
  rintro e w' ⟨rfl, n, rfl⟩
  go_wp2
  go_ret
  exact ⟨rfl, grownBy_drewN (World.grownBy_alloc w _ none) n⟩
def atGo (p : Par) (i : Int) : List Int → Int → Int → Int
  | [], x, _ => x
  | y :: l, x, e => atGo p i l (timesI p.P [x, powI y e p.P]) (mulI e i p.Q)
def atI (p : Par) (l : List Int) (i : Int) : Int := atGo p i l (timesI p.P []) (mulI 1 1 p.Q)
end Go.Proofs.Ytlhjbllfcbojmaa

namespace Go.Proofs.Ytlhjbllfcbojmaa
open Go.RowKit

theorem add_gr (a b m : Int) (w : World) (ha : U64 a) (hb : U64 b) :
    Calls Try.prog 32 #[.int .u64 a, .int .u64 b, .int .u64 m] w fun e w' => e = .returned (.int .u64 (addI a b m)) ∧ w.grownBy w' none :=
  (add_any a b m w ha hb).mono fun _ _ ⟨he, n, hn⟩ => ⟨he, by rw [hn]; exact grownBy_drewN (World.grownBy.refl w none) n⟩
theorem sub_gr (a b m : Int) (w : World) (ha : U64 a) (hb : U64 b) :
    Calls Try.prog 71 #[.int .u64 a, .int .u64 b, .int .u64 m] w fun e w' => e = .returned (.int .u64 (subI a b m)) ∧ w.grownBy w' none :=
  (sub_any a b m w ha hb).mono fun _ _ ⟨he, n, hn⟩ => ⟨he, by rw [hn]; exact grownBy_drewN (World.grownBy.refl w none) n⟩
theorem mul_gr (a b m : Int) (w : World) (ha : U64 a) (hb : U64 b) :
    Calls Try.prog 30 #[.int .u64 a, .int .u64 b, .int .u64 m] w fun e w' => e = .returned (.int .u64 (mulI a b m)) ∧ w.grownBy w' none :=
  (mul_any a b m w ha hb).mono fun _ _ ⟨he, n, hn⟩ => ⟨he, by rw [hn]; exact grownBy_drewN (World.grownBy.refl w none) n⟩
theorem emod_U64 (a m : Int) (ha : U64 a) (hm : 0 < m) : U64 (a % m) := by
  obtain ⟨a0, a1⟩ := ha
  have h1 := Int.emod_nonneg a (show m ≠ 0 by omega)
  have h3 := Int.mul_nonneg (Int.le_of_lt hm) (Int.ediv_nonneg a0 (Int.le_of_lt hm))
  have h4 := Int.mul_ediv_add_emod a m
  exact ⟨h1, by omega⟩
end Go.Proofs.Ytlhjbllfcbojmaa

namespace Go.Proofs.Ytlhjbllfcbojmaa
open Go Go.RowKit

section
variable {P : Program} {ops : Array Oper} {md : Region.Mode} {R : Act → World → Prop} {Q : Exit → Act → World → Prop} {l0 n : Nat}
/-- What is said of the way that goes on alone. -/
def Only (R : Act → World → Prop) : Exit → Act → World → Prop := fun e a w => e = .normal ∧ R a w
theorem only_letsOut : ¬ LetsOut (Only R) := by
  rintro ⟨a, w, e, _⟩
  cases e
theorem operIn_of_wp {o : Oper} {a : Act} {w : World} {K K' : Act → World → Prop} (hd : ∀ c, o.op ≠ .defer c) (hK : ∀ a w, K a w → K' a w) (h : o.wp P a w K (Only R)) : o.wpIn (Fence.wide.inRound l0) n P a w K' Q := by
  refine ⟨fun _ _ => trivial, ?_⟩
  rw [Oper.semAt_plain _ _ _ hd]
  unfold Oper.wp at h
  generalize (execOp a.eval o).run P w = r at *
  cases r with
  | ok x w' =>
    cases x with
    | value v => exact hK _ _ h
    | skip => exact hK _ _ h
    | defer d => exact hK _ _ h
    | enter f args =>
      refine ⟨fun h => by simp [Fence.wide] at h, CallsIn.inRound l0 (callsIn_wide.2 ?_)⟩
      refine Calls.mono h ?_
      intro e w'' he
      cases e with
      | returned v => exact hK _ _ he
      | panicked c => exact absurd he.1 (by simp)
      | outgrown => exact absurd he only_letsOut
    | row row args =>
      refine ⟨fun h => by simp [Fence.wide] at h, fun c cs _ => ?_⟩
      obtain ⟨v, w'', r, s⟩ := h c cs
      exact ⟨v, w'', hK _ _ r, stepsIn_wide.2 s⟩
    | round l f ts c1 c2 => exact h.elim
    | _ => exact h.elim
  | halt x w' =>
    cases x with
    | panic v => exact absurd h.1 (by simp)
    | _ => exact h.elim
theorem wpAnyIn_of_any (hd : ∀ (i : Nat) (o : Oper) c, ops[i]? = some o → o.op ≠ .defer c) (hR : ∀ a w, R a w → Q .normal a w) :
    ∀ (f : Nat) (listed : Array Bool) (a : Act) (w : World), wpAny P md ops (Only R) f listed a w → wpAnyIn (Fence.wide.inRound l0) n P md ops Q f listed a w := by
  intro f
  induction f with
  | zero => intro listed a w h; exact ⟨h.1, hR _ _ h.2.2⟩
  | succ f ih =>
    intro listed a w h
    refine ⟨fun e => hR _ _ (h.1 e).2, fun i hi => ?_⟩
    have h2 := h.2 i hi
    unfold wpOp at h2
    unfold wpOpIn
    cases ho : ops[i]? with
    | none => simp only [ho] at h2 ⊢; exact ih _ _ _ h2
    | some o =>
      simp only [ho] at h2 ⊢
      split
      · rename_i hw
        rw [if_pos hw] at h2
        rcases h2 with h2 | h2
        · exact operIn_of_wp (fun c => hd i o c ho) (fun a w k => ih _ _ _ k) h2
        · exact absurd h2.2 only_letsOut
      · rename_i hw
        rw [if_neg hw] at h2
        exact ⟨fun _ _ => trivial, ih _ _ _ h2⟩
def noDefer (ops : Array Oper) : Bool := ops.all fun o => match o.op with | .defer _ => false | _ => true
theorem noDefer_spec (h : noDefer ops = true) : ∀ (i : Nat) (o : Oper) c, ops[i]? = some o → o.op ≠ .defer c := by
  intro i o c hi e
  obtain ⟨hlt, hk⟩ := Array.getElem?_eq_some_iff.1 hi
  have := Array.all_eq_true.1 h i hlt
  rw [hk, e] at this
  exact absurd this (by simp)
end
end Go.Proofs.Ytlhjbllfcbojmaa

namespace Go.Proofs.Ytlhjbllfcbojmaa
open Go

section
variable {P : Program} {ops : Array Oper} {md : Region.Mode} {Q : Exit → Act → World → Prop} {n nn : Nat} {a0 : Act} {w0 : World}
theorem wpAnyIn_seq {F : Fence} : ∀ (l : List Oper) (k : Nat) (listed : Array Bool) (a : Act) (w : World), (∀ j, l[j]? = ops[k + j]?) →
    Region.seqB md ops l.length k listed = true → wpListIn F nn P ops Q l a w → wpAnyIn F nn P md ops Q l.length listed a w
  | [], _, _, _, _, _, hB, h => ⟨by simpa [Region.seqB] using hB, h⟩
  | o :: l, k, listed, a, w, hl, hB, h => by
    have h0 : ops[k]? = some o := by simpa using (hl 0).symm
    simp only [List.length_cons, Region.seqB, Bool.and_eq_true, decide_eq_true_eq] at hB
    refine ⟨fun h1 => (by rw [hB.1] at h1; cases h1), fun i hi => ?_⟩
    rw [hB.1] at hi
    obtain rfl : i = k := by simpa using hi
    have hw : wpOpIn F nn P ops Q i (wpListIn F nn P ops Q l) a w := by unfold wpOpIn; simp only [h0]; exact h
    exact wpOpIn_mono (fun a' w' h' => wpAnyIn_seq l (i + 1) _ a' w' (fun j => by have := hl (j + 1); simpa [Nat.add_assoc, Nat.add_comm 1 j] using this) hB.2 h') hw
theorem told_opIn {V : Pv} {o : Oper} {a b : Act} {w : World} (hd : ∀ c, o.op ≠ .defer c) (hs : ∀ cs b, o.op ≠ .select cs b) (hdst : ∀ d, o.dst = some d → d < a.tmps.size) (hsz : b.tmps.size = a.tmps.size) (hlook : ∀ t ∈ o.looksAt ops, b.tmps[t]? = a.tmps[t]?) {i : Nat} (hi : ops[i]? = some o)
    (hdf : b.defers = a0.defers) (h : wpList P ops (Told V o.dst a0.defers w) [o] b w) : wpOpIn Fence.wide nn P ops Q i (fun a' w' => ∃ v, a' = a.put o.dst v ∧ V.p (match o.dst with | some _ => v | none => undef) w' ∧ w.grownBy w' none) a w := by
  have h2 := told_op (Q := fun _ _ _ => False) hs hdst hsz hlook hi hdf h
  unfold wpOp at h2
  unfold wpOpIn
  simp only [hi] at h2 ⊢
  split
  · rename_i hw
    rw [if_pos hw] at h2
    rcases h2 with h2 | h2
    · refine ⟨fun _ _ => trivial, ?_⟩
      rw [Oper.semAt_plain _ _ _ hd]
      unfold Oper.wp at h2
      generalize (execOp a.eval o).run P w = r at *
      cases r with
      | ok x w' =>
        cases x with
        | value v => exact h2
        | skip => exact h2
        | defer d => exact h2
        | enter f args =>
          refine ⟨fun h => by simp [Fence.wide] at h, callsIn_wide.2 (Calls.mono h2 fun e w'' he => ?_)⟩
          cases e with
          | returned v => exact he
          | panicked c => exact he.elim
          | outgrown => obtain ⟨_, _, hx⟩ := he; exact hx.elim
        | row row args =>
          refine ⟨fun h => by simp [Fence.wide] at h, fun c cs _ => ?_⟩
          obtain ⟨v, w'', r, s⟩ := h2 c cs
          exact ⟨v, w'', r, stepsIn_wide.2 s⟩
        | round l f ts c1 c2 => exact h2.elim
        | _ => exact h2.elim
      | halt x w' =>
        cases x with
        | panic v => exact h2.elim
        | _ => exact h2.elim
    · obtain ⟨_, _, _, hx⟩ := h2
      exact hx.elim
  · rename_i hw
    rw [if_neg hw] at h2
    exact ⟨fun _ _ => trivial, h2⟩
/-- The law. -/
theorem wpAnyIn_mono {l : List Oper} (n : Nat) (hnd : noDefer l.toArray = true) (hB : monoB l.toArray n a0.tmps.size = true)
    (h : Mono P l.toArray n a0 w0 (fun Vs => ∀ w, w0.grownBy w none → Fin' (fun a w => wpListIn Fence.wide nn P l.toArray Q (l.drop n) a w) w Vs (l.take n) a0) [] (l.take n)) : wpAnyIn Fence.wide nn P .any l.toArray Q l.toArray.size (Array.replicate l.toArray.size false) a0 w0 := by
  simp only [monoB, Bool.and_eq_true, decide_eq_true_eq] at hB
  obtain ⟨⟨⟨⟨hsel, hn⟩, htail⟩, htopo⟩, hdist⟩ := hB
  simp only [tailB, Bool.and_eq_true] at htail
  obtain ⟨hblk, hseq⟩ := htail
  obtain ⟨Vs, hVl, hF, hO⟩ := Mono.out h
  rw [List.nil_append] at hF
  simp only [List.nil_append, List.length_nil, Nat.zero_add] at hO
  have hnl : n ≤ l.length := by simpa using hn
  have htl : (l.take n).length = n := by simp; omega
  have hVn : Vs.length = n := hVl.trans htl
  have hdl : (l.drop n).length = l.toArray.size - n := by simp
  have hnext : ∀ i o, i < n → l.toArray[i]? = some o → (l.take n)[i]? = some o := fun i o hi ho => by
    rw [List.getElem?_take, if_pos hi]
    simpa using ho
  have key : ∀ m D a w, MInv l.toArray n a0 w0 Vs D a w → cnt D n = m → wpAnyIn Fence.wide nn P .any l.toArray Q (m + (l.toArray.size - n)) D a w := by
    intro m
    induction m with
    | zero =>
      intro D a w inv hc
      have hall := cnt_zero hc
      have hD : D = Array.replicate n true ++ Array.replicate (l.toArray.size - n) false := by
        have hsz := inv.head.size
        refine Array.ext (by simp [hsz]; omega) fun i h1 h2 => ?_
        rw [Array.getElem_append]
        by_cases hi : i < n
        · have := hall i hi
          simp [h1] at this
          simp [hi, this]
        · have := inv.head.tail i (by omega) (by omega)
          simp [h1] at this
          simp [hi, this]
      have hk : ∀ (k : Nat) (V : Pv) (o : Oper), Vs[k]? = some V → (l.take n)[k]? = some o → V.p (match o.dst with | some d => a.eval (.tmp d) | none => undef) w := by
        intro k V o hv ho
        have hkn : k < n := by have := (List.getElem?_eq_some_iff.1 hv).1; omega
        have h1 := inv.known k V (hall k hkn) hv
        have h2 : dstAt l.toArray k = o.dst := by
          have : l[k]? = some o := by rw [List.getElem?_take, if_pos hkn] at ho; exact ho
          simp [dstAt, this]
        rw [h2] at h1
        have h3 : (match o.dst with | some d => a.eval (.tmp d) | none => undef) = valOf o.dst a := by cases o.dst <;> rfl
        rw [h3]
        exact h1
      have hfin := Fin'.all hVl hk (hF w inv.grown)
      have hon : onto a ((l.take n).map (·.dst)) a0 = a := by
        refine act_ext (fun t => onto_at a t _ _ inv.tsize.symm ?_) ((onto_defers _ _ _).trans inv.defers.symm)
        by_cases ht : some t ∈ (l.take n).map (·.dst)
        · exact .inl ht
        · refine .inr (inv.rest t fun j hj _ e => ht ?_).symm
          have hjl : j < l.length := by omega
          have : l[j].dst = some t := by simpa [dstAt, hjl] using e
          exact List.mem_map.2 ⟨l[j], List.mem_iff_getElem?.2 ⟨j, by rw [List.getElem?_take, if_pos hj, List.getElem?_eq_getElem hjl]⟩, this⟩
      rw [hon] at hfin
      have := wpAnyIn_seq (md := .any) (l.drop n) n D a w (fun j => by simp [List.getElem?_drop]) (by rw [hdl, hD]; exact hseq) hfin
      rw [hdl] at this
      rwa [Nat.zero_add]
    | succ m ih =>
      intro D a w inv hc
      have hready : ∀ i ∈ Region.ready .any l.toArray D, i < n := by
        intro i hi
        rcases Nat.lt_or_ge i n with h' | h'
        · exact h'
        · obtain ⟨hu, oi, hoi, hall⟩ := mem_ready.1 hi
          have hlt : i < l.toArray.size := (Array.getElem?_eq_some_iff.1 hoi).1
          exfalso
          obtain ⟨k, hk, hkd⟩ : ∃ k, k < n ∧ D.getD k false = false := by
            refine Classical.byContradiction fun hno => ?_
            have : ∀ k, k ≤ n → cnt D k = 0 := by
              intro k
              induction k with
              | zero => intro _; rfl
              | succ k ihk =>
                intro hk
                have h1 : D.getD k false = true := by
                  refine Classical.byContradiction fun hx => hno ⟨k, by omega, by simpa using hx⟩
                simp only [cnt, h1, ihk (by omega)]
                rfl
            rw [this n (Nat.le_refl _)] at hc
            omega
          have hb := list_all_range hblk hlt
          simp only [Bool.or_eq_true, decide_eq_true_eq] at hb
          have hb := list_all_range (hb.resolve_left (by omega)) hk
          simp only [Bool.not_eq_true'] at hb
          have hik : i ≠ k := by omega
          have : av l.toArray k n i = true := by
            have hav := fun f j hj => av_of (ops := l.toArray) inv.head.closed inv.head.size hkd f j hj
            cases hn0 : n with
            | zero => simp [av, hik]
            | succ f =>
              simp only [av, hoi, Option.map_some, Option.getD_some, Bool.and_eq_true, bne_iff_ne]
              refine ⟨hik, ?_⟩
              rw [Array.all_eq_true_iff_forall_mem]
              intro e he
              by_cases hbd : Region.binds .any e = true
              · simp [hbd, hav f e.on (hall e he hbd)]
              · simp [hbd]
          rw [hb] at this
          cases this
      have hne : Region.ready .any l.toArray D ≠ [] := by
        have hex : ∃ k, k < n ∧ D.getD k false = false ∧ ∀ j, j < k → D.getD j false = true := by
          have : ∀ k, k ≤ n → (∃ q, q < k ∧ D.getD q false = false ∧ ∀ j, j < q → D.getD j false = true) ∨ (cnt D k = 0) := by
            intro k
            induction k with
            | zero => intro _; exact .inr rfl
            | succ k ihk =>
              intro hk
              rcases ihk (by omega) with ⟨q, h1, h2⟩ | h0
              · exact .inl ⟨q, by omega, h2⟩
              · cases hq : D.getD k false with
                | true => right; simp only [cnt, hq, h0]; rfl
                | false => exact .inl ⟨k, by omega, hq, cnt_zero h0⟩
          rcases this n (Nat.le_refl _) with ⟨q, h1, h2⟩ | h0
          · exact ⟨q, h1, h2⟩
          · omega
        obtain ⟨k, hk, hkd, hbel⟩ := hex
        have hkl : k < l.toArray.size := by omega
        have ho : l.toArray[k]? = some l.toArray[k] := Array.getElem?_eq_getElem hkl
        have : k ∈ Region.ready .any l.toArray D := by
          refine mem_ready.2 ⟨getD_in (by rw [inv.head.size]; exact hkl) hkd, _, ho, fun e he hb => hbel _ ?_⟩
          have ht := list_all_range htopo hk
          simp only [ho, Option.map_some, Option.getD_some] at ht
          have := Array.all_eq_true_iff_forall_mem.1 ht e he
          simpa [hb] using this
        intro e
        rw [e] at this
        cases this
      rw [show m + 1 + (l.toArray.size - n) = (m + (l.toArray.size - n)) + 1 by omega]
      refine ⟨fun e => absurd e hne, fun i hi => ?_⟩
      have hin := hready i hi
      obtain ⟨hu, o, ho, hall⟩ := mem_ready.1 hi
      obtain ⟨V, js, hV, hchk, hask⟩ := hO i o (hnext i o hin ho)
      simp only [Bool.and_eq_true] at hchk
      obtain ⟨hpair, hlook⟩ := hchk
      have hdst : ∀ d, o.dst = some d → d < a.tmps.size := by
        intro d hd
        have := list_all_range hdist hin
        have h2 : dstAt l.toArray i = some d := by simp only [dstAt, ho]; exact hd
        rw [h2] at this
        simp only [Bool.and_eq_true, decide_eq_true_eq] at this
        rw [inv.tsize]
        exact this.1
      have hjs : ∀ x : Nat × Tmp, x ∈ js → dstAt l.toArray x.1 = some x.2 ∧ D.getD x.1 false = true ∧ x.1 < i := by
        intro x hx
        have := List.all_eq_true.1 hpair x hx
        simp only [Bool.and_eq_true, beq_iff_eq] at this
        obtain ⟨oj, hoj, e, he, hb, hon⟩ := Region.waitsFor_spec this.2
        obtain rfl : o = oj := Option.some.inj (ho.symm.trans hoj)
        have ht := list_all_range htopo hin
        simp only [ho, Option.map_some, Option.getD_some] at ht
        have ht := Array.all_eq_true_iff_forall_mem.1 ht e he
        simp only [hb, Bool.not_true, Bool.false_or, decide_eq_true_eq] at ht
        exact ⟨this.1, by rw [← hon]; exact hall e he hb, by rw [← hon]; exact ht⟩
      have hA := hask w inv.grown
      have hW := Ask.all (b := a) (fun x hx => by
        obtain ⟨h1, h2, h3⟩ := hjs x hx
        have hxl : x.1 < Vs.length := by omega
        have h4 : Vs[x.1]? = some Vs[x.1] := List.getElem?_eq_getElem hxl
        have h5 := inv.known x.1 _ h2 h4
        rw [h1] at h5
        have : (Vs.take i).getD x.1 Pv.any = Vs[x.1] := by
          rw [List.getD_eq_getElem?_getD, List.getElem?_take, if_pos h3, h4]
          rfl
        rw [this]
        exact h5) hA
      have hop := told_opIn (Q := Q) (nn := nn) (ops := l.toArray) (fun c => noDefer_spec hnd i o c ho) (a0 := a0) (a := a) (Region.noSelect_spec hsel i o · · ho) hdst ((onto_size _ _ _).trans inv.tsize.symm) (fun t ht => by
        refine onto_at a t _ _ inv.tsize.symm ?_
        have h1 : (o.looksAt l.toArray).all (fun t => js.any (·.2 == t) || keptB l.toArray n i t) = true := by
          simpa only [lookB, ho, Option.map_some, Option.getD_some] using hlook
        have h2 := List.all_eq_true.1 h1 t ht
        simp only [Bool.or_eq_true] at h2
        rcases h2 with h2 | h2
        · left
          obtain ⟨x, hx, hxt⟩ := List.any_eq_true.1 h2
          exact List.mem_map.2 ⟨x, hx, by rw [beq_iff_eq.1 hxt]⟩
        · right
          refine (inv.rest t fun j hj hD e => ?_).symm
          have h3 := list_all_range h2 hj
          simp only [Bool.or_eq_true, bne_iff_ne, ne_eq, beq_iff_eq] at h3
          rcases h3 with (h3 | h3) | h3
          · exact h3 e
          · obtain ⟨oj, hoj, e', he', hb', hon⟩ := Region.waitsFor_spec h3
            have := inv.head.closed j oj hoj hD e' he' hb'
            rw [hon, getD_both hu] at this
            cases this
          · subst h3
            rw [getD_both hu] at hD
            cases hD) ho (onto_defers _ _ _) hW
      refine wpOpIn_mono (fun a' w' hk => ?_) hop
      obtain ⟨v, ha, hv, hg⟩ := hk
      exact ih _ a' w' (minv_step inv hdist hi hin ho hV (by omega) ha hv hg) (by have := (cnt_set (D := D) (i := i) n).2 hin hu; omega)
  have h0 := key n (Array.replicate l.toArray.size false) a0 w0 ⟨⟨by simp, (fun j oj _ hD => by rw [getD_replicate_false] at hD; cases hD), fun t _ ht => by simp only [List.size_toArray] at ht ⊢; simp [ht]⟩, World.grownBy.refl w0 none, rfl, rfl, fun _ _ => rfl, (fun j V hD => by rw [getD_replicate_false] at hD; cases hD)⟩ (cnt_false _ n)
  rwa [show n + (l.toArray.size - n) = l.toArray.size by omega] at h0
def FinI (nn : Nat) (P : Program) (ops : Array Oper) (Q : Exit → Act → World → Prop) (w : World) : List Pv → List Oper → Act → Prop
  | V :: Vs, o :: os, a => ∀ x, V.p x w → FinI nn P ops Q w Vs os (a.put o.dst x)
  | _, os, a => wpListIn Fence.wide nn P ops Q os a w
theorem FinI.cut {w : World} : ∀ {Vs : List Pv} {os : List Oper} {a : Act}, Vs.length ≤ os.length → FinI nn P ops Q w Vs os a → Fin' (fun a w => wpListIn Fence.wide nn P ops Q (os.drop Vs.length) a w) w Vs (os.take Vs.length) a
  | [], os, a, _, h => by
    have h : wpListIn Fence.wide nn P ops Q os a w := by cases os <;> exact h
    exact h
  | V :: Vs, [], a, hl, _ => by simp at hl
  | V :: Vs, o :: os, a, hl, h => fun x hx => FinI.cut (Vs := Vs) (os := os) (by simpa using hl) (h x hx)
theorem wpIn_region_mono {l : List Oper} {id : Nat} (n : Nat) (hm : P.follows .mixedOrders = true) (hnd : noDefer l.toArray = true) (hB : monoB l.toArray n a0.tmps.size = true)
    (h : MonoR P l.toArray n a0 w0.drew (fun Vs => ∀ w, w0.drew.grownBy w none → FinI nn P l.toArray Q w Vs l a0) n [] l) : (Code.region id l.toArray true).wpIn Fence.wide nn P Q a0 w0 := by
  refine wpIn_region_any hm ?_
  obtain ⟨hM, hn⟩ := MonoN.cut (MonoR.up h)
  refine wpAnyIn_mono n hnd hB (Mono.weak hM fun Ws hW hF w hw => ?_)
  have hl : Ws.length = n := by simp only [List.length_nil, Nat.zero_add] at hW; rw [hW]; simp; omega
  have := FinI.cut (by rw [hl]; exact hn) (hF w hw)
  rwa [hl] at this
end
end Go.Proofs.Ytlhjbllfcbojmaa

namespace Go.Proofs.Ytlhjbllfcbojmaa
open Go Go.RowKit

section
variable {F : Fence} {n : Nat} {P : Program}
/-- An iterator that goes to its end: of each thing x handed over, Fx x is known where yield is called. -/
def SeqGoes {α : Type} (F : Fence) (n : Nat) (P : Program) (g : Nat) (lb : Array Value) (encs : α → Array Value) (Fx : α → World → Prop) (Kp : World → World → Prop) (S : List α → Prop) (N : Nat) (w : World) : Prop :=
  ∀ (l : Nat) (J : List α → World → Prop) (W : World), Below w.heap.size w W → AbidesFrom W.heap.size J →
    (∀ pre x V, J pre V → Fx x V → pre.length < N → YieldAt F (n - 1) P l (encs x) V fun e V' => e = .returned (.bool true) ∧ J (pre ++ [x]) V' ∧ Kp V V') →
    J [] W → CallsIn F n P g (#[.func (.yield l) #[] #[]] ++ lb) W fun e W' => (∃ v, e = .returned v) ∧ ∃ xs, S xs ∧ J xs W'
/-- How the body ends. -/
def GoesOn {α : Type} (B : Nat) (Kp : World → World → Prop) (I : List α → World → Prop) (xs : List α) (W : World) : Exit → Act → World → Prop := fun e _ W' => e = .normal ∧ KeepsFrom B W W' ∧ Kp W W' ∧ I xs W'
/-- The loop's own record, and the block of what is put off. -/
structure Recs (B : Nat) (r : Loop) (W : World) : Prop where
  lp : W.heap[B + 1]? = some (.loop r)
  df : W.heap[B]? = some (.deferred (some []))
theorem Recs.from {B : Nat} {r : Loop} {W W' : World} (h : Recs B r W) (hk : KeepsFrom B W W') : Recs B r W' := ⟨hk.same _ _ (by omega) h.lp rfl, hk.same _ _ (Nat.le_refl _) h.df rfl⟩
theorem Recs.put {B : Nat} {r : Loop} {W : World} (h : Recs B r W) (r' : Loop) : Recs B r' (W.putObj (B + 1) (.loop r')) := ⟨World.putObj_heap_same (Array.getElem?_eq_some_iff.1 h.lp).1, (World.putObj_heap_other (by omega)).trans h.df⟩
theorem Recs.walk {B : Nat} {r : Loop} {W W' : World} {row : Option Nat} (h : Recs B r W) (hg : W.grownBy W' row) (hr : ∀ k, row = some k → ∃ o : Obj, W.heap[k]? = some o ∧ o.isWalk = true) : Recs B r W' := ⟨(grownBy_keeps hg hr h.lp rfl).trans h.lp, (grownBy_keeps hg hr h.df rfl).trans h.df⟩
theorem wpIn_rangeFunc_goes {α : Type} {g : Operand} {ps : Array Tmp} {assign body : Code} {Q : Exit → Act → World → Prop} {a : Act} {w : World} (hro : F.round = none) (h1 : 1 ≤ n) {gf : Nat} {lb : Array Value} (hg : a.eval g = .func (.func gf) #[] lb) (hFg : F.fn gf)
    (eg : ∀ args w, (callFunc gf args).run P w = .ok (.enter gf args) w) {encs : α → Array Value} {Fx : α → World → Prop} {Kp : World → World → Prop} {S : List α → Prop} {N : Nat} {w0 : World} (hseq : SeqGoes F (n - 1) P gf lb encs Fx Kp S N w0)
    (hKt : ∀ {A B C : World}, Kp A B → Kp B C → Kp A C) (hKb : ∀ (W : World) (l : Nat) (o o' : Obj), w.heap.size ≤ l → W.heap[l]? = some o → o.isCells = false → o.isWalk = false → Kp W (W.putObj l o')) (hb0 : Below w0.heap.size w0 w) (hps : ∀ x, (encs x).size = ps.size)
    (I : List α → World → Prop) (hI : OwnFrom w.heap.size I) (h0 : I [] w) (Ax : α → Act → World → Prop) (hAx : ∀ x a', OwnFrom w.heap.size (fun (_ : Unit) W => Ax x a' W))
    (hassign : ∀ (l : Nat) (pre : List α) (x : α) (W : World) (K : Act → World → Prop), I pre W → Fx x W → (∀ a' W', KeepsFrom w.heap.size W W' → Kp W W' → I pre W' → Ax x a' W' → K a' W') →
      assign.wpIn (F.inRound l) (n - 1 - 1) P (Exit.then K (fun _ _ _ => False)) { tmps := (ps.zip (encs x)).foldl (fun t (p, v) => t.setIfInBounds p v) a.tmps, defers := [] } W)
    (hbody : ∀ (l : Nat) (pre : List α) (x : α) (a' : Act) (W : World), w.heap.size ≤ l → I pre W → Ax x a' W → pre.length < N → body.wpIn (F.inRound l) (n - 1 - 1) P (GoesOn w.heap.size Kp I (pre ++ [x]) W) a' W)
    (hdone : ∀ (D : Nat) (xs : List α) (W : World), w.heap.size ≤ D → S xs → I xs W → W.heap[D]? = some (.deferred (some [])) → Q .normal { a with defers := { target := .collected D, args := #[] } :: a.defers } W) :
    (Code.rangeFunc g ps assign body).wpIn F n P Q a w := by
  refine wpIn_rangeFunc fun fn hfn => ?_
  rw [hro]
  let rec0 : Loop := { state := .ready, pending := none, fn, tmps := a.tmps, params := ps, assign, body, defers := w.heap.size }
  let V0 := (w.alloc (.deferred (some []))).alloc (.loop rec0)
  have hR0 : Recs w.heap.size rec0 V0 := ⟨by have := World.alloc_heap_new (w.alloc (.deferred (some []))) (.loop rec0); rwa [World.size_alloc] at this, (Below.heap_alloc _ _ _ (by simp)).trans (World.alloc_heap_new w _)⟩
  have hV0 : V0.heap.size = w.heap.size + 2 := by simp [V0]
  have hI0 : I [] V0 := hI.alloc _ (hI.alloc _ h0)
  have hB0 : Below w0.heap.size w0 V0 := hb0.trans ((((Below.refl _ w).alloc (Nat.le_refl _) _).alloc (by simp) _).mono hb0.size)
  refine ⟨w.heap.size + 1, [{ target := .collected w.heap.size, args := #[] }], V0, { target := .fn (.func gf) lb, args := #[.func (.yield (w.heap.size + 1)) #[] #[]] }, V0, gf, #[.func (.yield (w.heap.size + 1)) #[] #[]] ++ lb, V0, run_enterLoop_outer _ _ _ _ _, ?_, ?_, ?_, fun _ => h1, ?_⟩
  · simp only [resolve, hg]
    simp [go_sem]
  · intro f' hf'
    simp [Target.leads] at hf'
    subst hf'
    exact hFg
  · simp [invoke, go_sem, eg]
  refine (hseq (w.heap.size + 1) (fun pre W => I pre W ∧ Recs w.heap.size rec0 W) V0 hB0 (fun s A B row hs hgr hr => ⟨hI s A B row hs.1 hgr fun r e => ?_, hs.2.walk hgr fun r e => (hr r e).2⟩) ?_ ⟨hI0, hR0⟩).mono ?_
  · obtain ⟨h2, o, ho, hw⟩ := hr r e
    exact ⟨by rw [hV0] at h2; omega, o, ho, Obj.not_cells_of_walk hw⟩
  · rintro pre x V ⟨hi, hr⟩ hfx hlen
    refine ⟨fn, _, assign, body, run_yield hr.lp (hps x), roundIn_of_wpIn hfn (hassign _ pre x V _ hi hfx fun a' V1 hk1 hp1 hi1 hx1 => ?_)⟩
    have hr1 := hr.from hk1
    refine ⟨_, run_beginRound hr1.lp rfl, ?_⟩
    have hr2 := hr1.put { rec0 with state := .busy }
    have hp2 := hKb V1 (w.heap.size + 1) _ (.loop { rec0 with state := .busy }) (by omega) hr1.lp rfl rfl
    refine wpIn_mono (hbody _ pre x a' _ (by omega) (hI.putObj _ hi1 (by omega) hr1.lp rfl) ((hAx x a').putObj (s := ()) _ hx1 (by omega) hr1.lp rfl) hlen) ?_
    rintro e a3 V3 ⟨rfl, hk3, hp3, hi3⟩
    have hr3 := hr2.from hk3
    refine ⟨_, _, run_endRound none hr3.lp, rfl, ⟨hI.putObj _ hi3 (by omega) hr3.lp rfl, hr3.put rec0⟩, hKt hp1 (hKt (hKt hp2 hp3) (hKb _ _ _ _ (by omega) hr3.lp rfl rfl))⟩
  · rintro e V2 ⟨⟨v, rfl⟩, xs, hS, hi, hr⟩
    exact ⟨none, _, run_endLoop hr.lp (by simp [rec0]), hdone _ xs _ (Nat.le_refl _) hS (hI.putObj _ hi (by omega) hr.lp rfl) ((World.putObj_heap_other (by omega)).trans hr.df)⟩
end
end Go.Proofs.Ytlhjbllfcbojmaa

namespace Go.Proofs.Ytlhjbllfcbojmaa
open Go Go.RowKit Go.Shelf

attribute [local go_sem] Oper.semAt_some
/-- What a round of the iterator keeps: what lay below n₀, and the two boxes. -/
def KpAB (n₀ Ba Bb : Nat) (A B : World) : Prop := Below n₀ A B ∧ B.heap[Ba]? = A.heap[Ba]? ∧ B.heap[Bb]? = A.heap[Bb]?
theorem KpAB.refl (n₀ Ba Bb : Nat) (A : World) : KpAB n₀ Ba Bb A A := ⟨Below.refl _ _, rfl, rfl⟩
theorem KpAB.drew (n₀ Ba Bb : Nat) (A : World) : KpAB n₀ Ba Bb A A.drew := ⟨⟨rfl, rfl, rfl, Nat.le_refl _, fun _ _ => rfl⟩, rfl, rfl⟩
theorem KpAB.trans {n₀ Ba Bb : Nat} {A B C : World} (h : KpAB n₀ Ba Bb A B) (k : KpAB n₀ Ba Bb B C) : KpAB n₀ Ba Bb A C := ⟨h.1.trans k.1, k.2.1.trans h.2.1, k.2.2.trans h.2.2⟩
theorem grown_of_below {w w' : World} (h : Below w.heap.size w w') : w.grownBy w' none := ⟨h.1, h.2, h.3, h.4, fun k hk _ => h.5 k hk⟩
end Go.Proofs.Ytlhjbllfcbojmaa

namespace Go.Proofs.Ytlhjbllfcbojmaa
open Go Go.RowKit Go.Shelf

attribute [local go_sem] Oper.semAt_some
abbrev SS {α : Type} (E : Enc α) (X : Nat → Prop) (w₀ : World) (G : List α → Prop) := { x : (Value × List α) × (Value × List α) // (Sl E X w₀ x.1.1 x.1.2 ∧ G x.1.2) ∧ (Sl E X w₀ x.2.1 x.2.2 ∧ G x.2.2) }
def SS.lists {α : Type} {E : Enc α} {X : Nat → Prop} {w₀ : World} {G : List α → Prop} (x : SS E X w₀ G) : List α × List α := (x.1.1.2, x.1.2.2)
end Go.Proofs.Ytlhjbllfcbojmaa

namespace Go.Proofs.Ytlhjbllfcbojmaa
open Go.RowKit

theorem info_u64 : (Try.prog.info? 22).map (fun i => (i.zero, i.size, i.bytes)) = some (some (.int .u64 0), 1, 8) := by kernel_rfl
theorem info_nums : (Try.prog.info? 28).map (fun i => (i.zero, i.size, i.bytes)) = some (some (.slice none 0 0), 1, 24) := by kernel_rfl
theorem info_rows : (Try.prog.info? 34).map (fun i => (i.zero, i.size, i.bytes)) = some (some (.slice none 0 0), 1, 24) := by kernel_rfl
theorem info_pair : (Try.prog.info? 47).map (fun i => (i.zero, i.size, i.bytes)) = some (some (.agg #[.int .u64 0, .int .u64 0]), 2, 16) := by kernel_rfl
theorem info_pairs : (Try.prog.info? 30).map (fun i => (i.zero, i.size, i.bytes)) = some (some (.slice none 0 0), 1, 24) := by kernel_rfl
theorem el_u64 : ElemOk Try.prog 28 22 1 8 := ElemOk.mk' (by decide) Try.underlying28 info_u64 rfl
theorem el_nums : ElemOk Try.prog 34 28 1 24 := ElemOk.mk' (by decide) Try.underlying34 info_nums rfl
theorem el_rows : ElemOk Try.prog 69 34 1 24 := ElemOk.mk' (by decide) Try.underlying69 info_rows rfl
theorem el_pair : ElemOk Try.prog 30 47 2 16 := ElemOk.mk' (by decide) Try.underlying30 info_pair rfl
theorem el_pairs : ElemOk Try.prog 26 30 1 24 := ElemOk.mk' (by decide) Try.underlying26 info_pairs rfl
end Go.Proofs.Ytlhjbllfcbojmaa

namespace Go.Proofs.Ytlhjbllfcbojmaa
open Go.RowKit

end Go.Proofs.Ytlhjbllfcbojmaa

namespace Go.Proofs.Ytlhjbllfcbojmaa
open Go Go.RowKit Go.Shelf

attribute [local go_sem] Oper.semAt_some
theorem KpAB.b {n₀ Ba Bb : Nat} {w : World} (hn : n₀ ≤ w.heap.size) (ha : Ba < w.heap.size) (hb : Bb < w.heap.size) (W : World) (l : Nat) (o o' : Obj) (hl : w.heap.size ≤ l) (h : W.heap[l]? = some o) (h1 : o.isCells = false) (h2 : o.isWalk = false) : KpAB n₀ Ba Bb W (W.putObj l o') := by
  have hlt := (Array.getElem?_eq_some_iff.1 h).1
  have hg := grownBy_putObj' W l o'
  exact ⟨belowK_b hn W l o o' hl h h1 h2, hg.block _ (by omega) (fun e => by injection e with e; omega), hg.block _ (by omega) (fun e => by injection e with e; omega)⟩
theorem boxNe {W : World} {B : Nat} {t : TypeId} {v : Value} (h : Boxed W B t v) {row : Option Nat} (hr : ∀ r, row = some r → ∃ o : Obj, W.heap[r]? = some o ∧ o.isCells = false) : some B ≠ row := cell_ne h.cell hr
theorem Acc.keeps {α : Type} {E : Enc α} {base : Nat} {e : TypeId} {X : Nat → Prop} {w w' : World} {v : Value} {xs : List α} (h : Acc E base e X w v xs) (hg : w.grownBy w' v.ownBlock) : KeepsOthers w w' := KeepsOthers.of_grownBy hg fun j o ej hj => by
  obtain ⟨_, css, _, _, h3⟩ := h
  rcases h3.2 with ⟨rfl, _⟩ | ⟨g, cap, cur, rfl, _, hgb, _⟩
  · simp [Value.ownBlock] at ej
  · obtain rfl : g = j := by simpa [Value.ownBlock] using ej
    rw [hgb] at hj
    cases hj
    rfl
theorem keeps_none {w w' : World} (hg : w.grownBy w' none) : KeepsOthers w w' := KeepsOthers.of_grownBy hg (by simp)
section
variable {α : Type} {P : Program} {E : Enc α} {base : Nat} {e : TypeId} {X Y : Nat → Prop} {w : World} {v : Value} {xs : List α} {l0 n : Nat}
theorem wpListIn_push {cs : List Value} {y : α} {t : TypeId} {bytes : Nat} {ops : Array Oper} {rest : List Oper} {o : Oper} {a : Act} {Q : Exit → Act → World → Prop} (hgd : o.guard = none) (s x : Operand)
    (ho : o.op = .call { callee := .builtin .append, args := #[s, x], argTypes := #[t, t] }) (hE : ElemOk P t e E.size bytes) (hacc : Acc E base e X w v xs) (hs : a.eval s = v) (hx : a.eval x = .slice (some ⟨w.heap.size, 0, none⟩) 1 1) (hrep : E.rep (fun g => X g ∧ some g ≠ v.ownBlock) w cs y)
    (hlen : (xs.length + 1) * bytes ≤ 140737488355328) (hb : base ≤ w.heap.size) (hN : ∀ g, w.heap.size ≤ g → X g)
    (h : ∀ v' w', Acc E base e X w' v' (xs ++ [y]) → w.grownBy w' v.ownBlock → Moved w v v' → wpListIn (Fence.wide.inRound l0) n P ops Q rest (a.put o.dst v') w') : wpListIn (Fence.wide.inRound l0) n P ops Q (o :: rest) a (w.alloc (.cells cs.toArray e)) :=
  wpListIn_plain hgd fun K hK => operIn_of_wp (R := fun _ _ => True) (K := K) (K' := K) (by rw [ho]; intro c hc; cases hc) (fun _ _ h => h) (push_core hE hacc hrep hlen hb hN s x ho hs hx fun v' w' h1 h2 h3 => hK _ _ (h v' w' h1 h2 h3))
end
end Go.Proofs.Ytlhjbllfcbojmaa
