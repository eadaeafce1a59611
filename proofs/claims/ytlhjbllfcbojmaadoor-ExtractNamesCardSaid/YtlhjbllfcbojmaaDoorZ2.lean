/- group.Power, Commit, At, Is, walked. What slices hold. pedersen.Share, turned, RowComs, ColComs, Fits; slices.Equal of numbers; walked. pedersen.pairs' contracts and pedersen.Coms. extract.sets: the iterator over sets of rising numbers, which calls itself: its contract (printed by mkt.py). A region that draws its order and writes while it goes on: walked once, when each operation tells one and the same value, and where the worlds stand is told by which operations were carried out. Sums, differences, products modulo a number, and inverses, as calls that leave what was there as it was. poly.others, an iterator over how far places are from each other, walked (printed by mk_poly.py). pedersen.Coms, walked: a range over a function within a range over a function. poly.share, walked. poly.may and poly.unlike, walked: what is wrong with places (a map of those met). poly.Weights, walked. pedersen.Matrix, walked. pedersen.Formed: slices.ContainsFunc over numbers and over lists of numbers. pedersen.secrets, all, Formed. share.secrets, small, all, weights, walked. share.all, walked (printed by mk_shrb.py). share.weights, Coms' closures, come over numbers, walked. share.come over numbers, members, walked. share.members, and slices.ContainsFunc at share's closures, walked (printed by mk_shre.py). A pair made in memory. share.Sum's closures, walked (printed by mk_shrf.py). math/bits.TrailingZeros64 and mod.Prime, walked. What comes in: data of whatever depth, as the walks want it. group.May, walked: its asks one by one. group.May, walked: the asks as values, and the whole. -/
import Derived.Test.YtlhjbllfcbojmaaDoorZ1
import Derived.Deep.RegionHeld3
import Derived.Deep.RegionWith
import Derived.Deep.DeepCutAuto
import Derived.Deep.OwnRows
import Derived.IntWalk
import Derived.BigQuiet
import Derived.Maps.OwnOps
import Derived.Maps.OwnSet
import Derived.Maps.Views
import Derived.WalkKit
import Derived.Lib.TrailingZeros
import Derived.Deep.LoopGhost
import Derived.WalkMore
import Derived.ProofKit
import Derived.OpenShut
import Derived.ChangeOld
import Derived.Deep.Slices
namespace Go.Proofs.YtlhjbllfcbojmaaDoor
open Go.RowKit

theorem Sl.ofBk {w : World} {g : Nat} {t : TypeId} {l : List Int} (h : Bk w g t (nums l).toArray) (hu : ∀ x ∈ l, U64 x) (hl : l.length ≤ 9223372036854775807) : Sl encU (fun _ => True) w (.slice (some ⟨g, 0, none⟩) l.length l.length) l := by
  refine ⟨_, _, rfl, Nat.le_refl _, hl, fun _ => ⟨g, 0, rfl, h.lt, trivial, fun i hi => ⟨_, ⟨rfl, hu _ (List.getElem_mem hi)⟩, fun j u hj => ?_⟩⟩⟩
  have hj0 : j = 0 := by
    have := (List.getElem?_eq_some_iff.1 hj).1
    simp at this
    exact this
  subst hj0
  simp at hj
  subst hj
  rw [h.cell]
  simp [nums, encU, hi]
theorem cells_of {w w' : World} (hg : w.grownBy w' none) {n : Nat} (hn : n ≤ w.heap.size) : ∀ b o, b < n → w'.cell? ⟨b, o, none⟩ = w.cell? ⟨b, o, none⟩ := fun b o h => World.cell?_of_block (hg.block b (by omega) (by simp))
theorem cells_alloc {w' W : World} {n : Nat} (h : ∀ b o, b < n → w'.cell? ⟨b, o, none⟩ = W.cell? ⟨b, o, none⟩) (hn : n ≤ w'.heap.size) (ob : Obj) : ∀ b o, b < n → (w'.alloc ob).cell? ⟨b, o, none⟩ = W.cell? ⟨b, o, none⟩ := fun b o hb => (World.cell?_alloc_lt w' ob ⟨b, o, none⟩ (by simp; omega)).trans (h b o hb)
theorem times_two (p : Par) (a b : Int) (w : World) (ha : U64 a) (hb : U64 b) :
    Calls Tryd.prog 37 #[p.v, .slice (some ⟨w.heap.size, 0, none⟩) 2 2] (w.alloc (Obj.cells #[.int .u64 a, .int .u64 b] 22)) fun e w' => e = .returned (.int .u64 (timesI p.P [a, b])) ∧ w.grownBy w' none :=
  (times_any p _ [a, b] (fun _ => True) _ (Sl.ofBk (t := 22) (Bk.new w 22 (nums [a, b]).toArray) (by intro y hy; simp at hy; rcases hy with rfl | rfl <;> assumption) (by simp))).mono fun _ _ ⟨he, hg⟩ => ⟨he, (World.grownBy_alloc w _ none).trans hg⟩
set_option maxHeartbeats 400000 in
theorem power_any (p : Par) (x e : Int) (w : World) (hx : U64 x) (he : U64 e) :
    Calls Tryd.prog 27 #[p.v, .int .u64 x, .int .u64 e] w fun e' w' => e' = .returned (.int .u64 (powI x e p.P)) ∧ w.grownBy w' none := by
  go_enter Tryd.func27, Tryd.ntmps27
  go_wp2_with fail
  refine (pow_any x e p.P _ hx he).mono ?_
  rintro e w' ⟨rfl, n, rfl⟩
  go_wp2
  go_ret
  exact ⟨rfl, grownBy_drewN (World.grownBy_alloc w _ none) n⟩
def commitI (p : Par) (x : Int × Int) : Int := timesI p.P [powI p.G x.1 p.P, powI p.H x.2 p.P]
set_option maxHeartbeats 400000 in
theorem commit_any (p : Par) (x : Int × Int) (w : World) (hp : p.ok) (h1 : U64 x.1) (h2 : U64 x.2) :
    Calls Tryd.prog 17 #[p.v, .agg #[.int .u64 x.1, .int .u64 x.2]] w fun e' w' => e' = .returned (.int .u64 (commitI p x)) ∧ w.grownBy w' none := by
  have HG : Hid (U64 p.G) := Lib.hid hp.G
  have HH : Hid (U64 p.H) := Lib.hid hp.H
  have H1 := Lib.hid h1
  have H2 := Lib.hid h2
  have HU := Lib.hid (powI_U64' p.G x.1 p.P)
  have HL := Lib.hid (powI_U64' p.H x.2 p.P)
  clear hp h1 h2
  go_enter Tryd.func17, Tryd.ntmps17
  go_wp2_with fail
  go_region_held3 (fun w' => ∀ b o, b < w.heap.size + 2 → w'.cell? ⟨b, o, none⟩ = ((w.alloc (Obj.cells p.cells 24)).alloc (Obj.cells #[.int .u64 x.1, .int .u64 x.2] 26)).cell? ⟨b, o, none⟩) (first | assumption | exact cells_alloc (by assumption) (by assumption) _ | go_keep)
    (first
    | (go_at_call 27; (with_reducible refine (power_any p p.G x.1 _ HG.out H1.out).mono ?_); rintro e w1 ⟨rfl, hg⟩; have HG1 := Lib.hid hg; have hc1 := cells_of (n := w.heap.size + 2) hg (by simp); clear hg)
    | (go_at_call 27; (with_reducible refine (power_any p p.H x.2 _ HH.out H2.out).mono ?_); rintro e w2 ⟨rfl, hg⟩; have HG2 := Lib.hid (HG1.out.trans hg); have hc2 := cells_of (n := w.heap.size + 2) HG2.out (by simp); have hs2 : w.heap.size + 2 ≤ w2.heap.size := Nat.le_trans (by simp) HG2.out.size; clear hg)
    | (go_at_call 37; (with_reducible refine (times_two p _ _ w2 HU.out HL.out).mono ?_); rintro e w3 ⟨rfl, hg⟩; have HG3 := Lib.hid (HG2.out.trans hg); have hc3 := cells_of (n := w.heap.size + 2) HG3.out (by simp); clear hg))
  go_wp2
  go_ret
  exact ⟨rfl, ((World.grownBy_alloc w _ none).trans (World.grownBy_alloc _ _ none)).trans (grownBy_drewN (World.grownBy.refl _ none) 1 |>.trans HG3.out)⟩
def isB (p : Par) (x : Int) : Bool := decide (1 ≤ x) && decide (x < p.P) && powI x p.Q p.P == 1
set_option maxHeartbeats 400000 in
theorem is_any (p : Par) (x : Int) (w : World) (hp : p.ok) (h1 : U64 x) :
    Calls Tryd.prog 56 #[p.v, .int .u64 x] w fun e' w' => e' = .returned (.bool (isB p x)) ∧ w.grownBy w' none := by
  have HQ : Hid (U64 p.Q) := Lib.hid hp.Q
  have H1 := Lib.hid h1
  clear hp h1
  by_cases ha : 1 ≤ x
  · by_cases hb : x < p.P
    · have HE : Hid (isB p x = (powI x p.Q p.P == 1)) := Lib.hid (by simp [isB, ha, hb])
      go_enter Tryd.func56, Tryd.ntmps56
      go_wp2_with fail
      refine (power_any p x p.Q _ H1.out HQ.out).mono ?_
      rintro e w1 ⟨rfl, hg⟩
      have HG := Lib.hid hg
      clear hg
      go_wp2
      go_ret
      exact ⟨ret_bool HE.out.symm, (World.grownBy_alloc w _ none).trans HG.out⟩
    · have HE : Hid (isB p x = false) := Lib.hid (by simp [isB, hb])
      have hb' : decide (x < p.P) = false := by simpa using hb
      clear hb
      go_enter Tryd.func56, Tryd.ntmps56
      go_wp2_with fail
      go_ret
      exact ⟨ret_bool HE.out.symm, World.grownBy_alloc w _ none⟩
  · have HE : Hid (isB p x = false) := Lib.hid (by simp [isB, ha])
    go_enter Tryd.func56, Tryd.ntmps56
    go_wp2_with fail
    go_ret
    exact ⟨ret_bool HE.out.symm, World.grownBy_alloc w _ none⟩
def atGo (p : Par) (i : Int) : List Int → Int → Int → Int
  | [], x, _ => x
  | y :: l, x, e => atGo p i l (timesI p.P [x, powI y e p.P]) (mulI e i p.Q)
def atI (p : Par) (l : List Int) (i : Int) : Int := atGo p i l (timesI p.P []) (mulI 1 1 p.Q)
end Go.Proofs.YtlhjbllfcbojmaaDoor

namespace Go.Proofs.YtlhjbllfcbojmaaDoor
open Go.RowKit

theorem info_u64 : (Tryd.prog.info? 22).map (fun i => (i.zero, i.size, i.bytes)) = some (some (.int .u64 0), 1, 8) := by kernel_rfl
theorem info_pair : (Tryd.prog.info? 26).map (fun i => (i.zero, i.size, i.bytes)) = some (some (.agg #[.int .u64 0, .int .u64 0]), 2, 16) := by kernel_rfl
theorem info_pairs : (Tryd.prog.info? 27).map (fun i => (i.zero, i.size, i.bytes)) = some (some (.slice none 0 0), 1, 24) := by kernel_rfl
theorem el_u64 : ElemOk Tryd.prog 84 22 1 8 := ElemOk.mk' (by decide) Tryd.underlying84 info_u64 rfl
theorem el_pair : ElemOk Tryd.prog 27 26 2 16 := ElemOk.mk' (by decide) Tryd.underlying27 info_pair rfl
theorem el_pairs : ElemOk Tryd.prog 61 27 1 24 := ElemOk.mk' (by decide) Tryd.underlying61 info_pairs rfl
end Go.Proofs.YtlhjbllfcbojmaaDoor

namespace Go.Proofs.YtlhjbllfcbojmaaDoor
open Go.RowKit

end Go.Proofs.YtlhjbllfcbojmaaDoor

namespace Go.Proofs.YtlhjbllfcbojmaaDoor
open Go Go.RowKit Go.Shelf

attribute [local go_sem] Oper.semAt_some
theorem KpAB.b {n₀ Ba Bb : Nat} {w : World} (hn : n₀ ≤ w.heap.size) (ha : Ba < w.heap.size) (hb : Bb < w.heap.size) (W : World) (l : Nat) (o o' : Obj) (hl : w.heap.size ≤ l) (h : W.heap[l]? = some o) (h1 : o.isCells = false) (h2 : o.isWalk = false) : KpAB n₀ Ba Bb W (W.putObj l o') := by
  have hlt := (Array.getElem?_eq_some_iff.1 h).1
  have hg := grownBy_putObj' W l o'
  exact ⟨belowK_b hn W l o o' hl h h1 h2, hg.block _ (by omega) (fun e => by injection e with e; omega), hg.block _ (by omega) (fun e => by injection e with e; omega)⟩
theorem boxNe {W : World} {B : Nat} {t : TypeId} {v : Value} (h : Boxed W B t v) {row : Option Nat} (hr : ∀ r, row = some r → ∃ o : Obj, W.heap[r]? = some o ∧ o.isCells = false) : some B ≠ row := cell_ne h.cell hr
theorem Acc.keeps {α : Type} {E : Enc α} {base : Nat} {e : TypeId} {X : Nat → Prop} {w w' : World} {v : Value} {xs : List α} (h : Acc E base e X w v xs) (hg : w.grownBy w' v.ownBlock) : KeepsOthers w w' := KeepsOthers.of_grownBy hg fun j o ej hj => by
  obtain ⟨_, css, _, _, h3⟩ := h
  rcases h3.2 with ⟨rfl, _⟩ | ⟨g, cap, cur, rfl, _, hgb, _⟩
  · simp [Value.ownBlock] at ej
  · obtain rfl : g = j := by simpa [Value.ownBlock] using ej
    rw [hgb] at hj
    cases hj
    rfl
theorem keeps_none {w w' : World} (hg : w.grownBy w' none) : KeepsOthers w w' := KeepsOthers.of_grownBy hg (by simp)
section
variable {α : Type} {P : Program} {E : Enc α} {base : Nat} {e : TypeId} {X Y : Nat → Prop} {w : World} {v : Value} {xs : List α} {l0 n : Nat}
end
end Go.Proofs.YtlhjbllfcbojmaaDoor

namespace Go.Proofs.YtlhjbllfcbojmaaDoor
open Go Go.RowKit Go.Shelf

attribute [local go_sem] Oper.semAt_some
/-- The sets of k + 1 rising numbers that begin by a number from f on, below j. -/
def setsUpW (S : Nat → List (List Int)) (f j : Nat) : List (List Int) := (List.range' f (j - f)).flatMap fun i => (S (i + 1)).map ((i : Int) :: ·)
def setsI : Nat → Nat → List (List Int)
  | 0, _ => [[]]
  | k + 1, f => setsUpW (setsI k) f 8
def setsUp (k f j : Nat) : List (List Int) := setsUpW (setsI k) f j
theorem setsUp_self (k f : Nat) : setsUp k f f = [] := by simp [setsUp, setsUpW]
theorem setsUp_succ (k f j : Nat) (h : f ≤ j) : setsUp k f (j + 1) = setsUp k f j ++ (setsI k (j + 1)).map ((j : Int) :: ·) := by
  unfold setsUp setsUpW
  rw [show j + 1 - f = (j - f) + 1 by omega, List.range'_concat, List.flatMap_append]
  congr 1
  have e : f + 1 * (j - f) = j := by omega
  rw [e, List.flatMap_cons, List.flatMap_nil, List.append_nil]
theorem setsUp_pre (k f : Nat) : ∀ (d j : Nat), f ≤ j → setsUp k f j <+: setsUp k f (j + d)
  | 0, _, _ => List.prefix_refl _
  | d + 1, j, h => by
    rw [← Nat.add_assoc, setsUp_succ k f (j + d) (by omega)]
    exact (setsUp_pre k f d j h).trans (List.prefix_append _ _)
theorem setsI_succ (k f : Nat) : setsI (k + 1) f = setsUp k f 8 := rfl
theorem setsUp_le (k f j : Nat) (h : f ≤ j) (h8 : j ≤ 8) : setsUp k f j <+: setsI (k + 1) f := by
  have := setsUp_pre k f (8 - j) j h
  rwa [show j + (8 - j) = 8 by omega] at this
/-- What is known of a set. -/
theorem sets_ok : ∀ (k f : Nat), ∀ s ∈ setsI k f, s.length = k ∧ ∀ i ∈ s, (f : Int) ≤ i ∧ i ≤ 7
  | 0, f, s, h => by
    obtain rfl : s = [] := by simpa [setsI] using h
    exact ⟨rfl, by simp⟩
  | k + 1, f, s, h => by
    simp only [setsI, setsUpW, List.mem_flatMap, List.mem_range'_1, List.mem_map] at h
    obtain ⟨j, ⟨hj1, hj2⟩, t, ht, rfl⟩ := h
    obtain ⟨h1, h2⟩ := sets_ok k (j + 1) t ht
    refine ⟨by simp [h1], fun i hi => ?_⟩
    rcases List.mem_cons.1 hi with rfl | hi
    · omega
    · have := h2 i hi
      omega
/-- A set as it is handed over. -/
abbrev SetX := Value × List Int
def SetFx (k f : Nat) (x : SetX) (V : World) : Prop := Sl encI TT V x.1 x.2 ∧ x.2 ∈ setsI k f
theorem esets_any (f k : Int) (w : World) :
    Calls Tryd.prog 30 #[.int .i64 f, .int .i64 k] w fun e w' => e = .returned (.func (.func 62) #[] #[.pointer (some ⟨w.heap.size + 1, 0, none⟩), .pointer (some ⟨w.heap.size, 0, none⟩)]) ∧ w' = (w.alloc (.cells #[.int .i64 f] 3)).alloc (.cells #[.int .i64 k] 3) := by
  go_enter Tryd.func30, Tryd.ntmps30
  go_wp2
  go_ret
  exact ⟨rfl, rfl⟩
theorem info_int0 : (Tryd.prog.info? 3).map (fun i => (i.zero, i.size, i.bytes)) = some (some (.int .i64 0), 1, 8) := by kernel_rfl
theorem el_int0 : ElemOk Tryd.prog 60 3 1 8 := ElemOk.mk' (by decide) Tryd.underlying60 info_int0 rfl
theorem Acc.madeI (w : World) (e : TypeId) {B : Nat} (hB : B ≤ w.heap.size) (X : Nat → Prop) (hX : X w.heap.size) (z : Int) (hz : I64 z) : Acc encI B e X (w.alloc (.cells #[.int .i64 z] e)) (.slice (some ⟨w.heap.size, 0, none⟩) 1 1) [z] :=
  ⟨fun g hg => by simp [Value.ownBlock] at hg; subst hg; exact hX, [[.int .i64 z]], rfl, fun i hi hi' => by
    obtain rfl : i = 0 := by simp at hi; omega
    exact ⟨rfl, hz⟩, ⟨by simp [encI], .inr ⟨w.heap.size, 1, #[.int .i64 z], rfl, hB, heap_alloc_new w _, Nat.le_refl _, by decide, rfl, by simp [encI]⟩⟩⟩
theorem grown_two0 {w : World} {a b : Obj} : w.grownBy ((w.alloc a).alloc b) none := (World.grownBy_alloc w a none).trans (World.grownBy_alloc _ b none)
theorem flat_ones : ∀ (ys : List Int), (ys.map fun y => [Value.int .i64 y]).flatten = ys.map fun y => .int .i64 y
  | [] => rfl
  | y :: ys => by rw [List.map_cons, List.flatten_cons, flat_ones ys]; rfl
/-- A slice of one number, full. -/
def oneI (z : Int) : Pv := ⟨fun v w => ∃ g, v = .slice (some ⟨g, 0, none⟩) 1 1 ∧ Bk w g 3 #[.int .i64 z], fun ⟨g, e, h⟩ hg => ⟨g, e, h.grown hg (by simp)⟩⟩
section
variable {P : Program} {Z : Nat → Prop} {w : World}
/-- What is put behind it goes into new memory. -/
theorem wp_one {o : Oper} {a : Act} {K : Act → World → Prop} {Q : Exit → Act → World → Prop} (s x : Operand) (t : TypeId) {e : TypeId} {bytes g m c : Nat} {A : Option Addr} {z : Int} {ys : List Int}
    (ho : o.op = .call { callee := .builtin .append, args := #[s, x], argTypes := #[t, t] }) (hE : ElemOk P t e 1 bytes) (hs : a.eval s = .slice (some ⟨g, 0, none⟩) 1 1) (hb : Bk w g 3 #[.int .i64 z]) (hz : I64 z)
    (hx : a.eval x = .slice A m c) (hys : Sl encI Z w (.slice A m c) ys) (hlen : (1 + ys.length) * bytes ≤ 140737488355328) (h : ∀ v' w', Sl encI TT w' v' (z :: ys) → w.grownBy w' none → K (a.put o.dst v') w') : o.wp P a w K Q := by
  have hE' := hE
  obtain ⟨hby, ht, i, zz, hi, hz0, hz1, hz2, hz3⟩ := hE'
  have hcz : w.cell? ⟨g, 0, none⟩ = some (.int .i64 z) := hb.cell 0
  have hone : Sl encI TT w (.slice (some ⟨g, 0, none⟩) 1 1) [z] := Sl.block (E := encI) (xs := [z]) hb trivial [[.int .i64 z]] rfl (fun k hk hk' => by
    obtain rfl : k = 0 := by simp at hk; omega
    exact ⟨rfl, hz⟩) rfl (by simp) (by decide)
  have hm : m = ys.length := by
    obtain ⟨A', c', e', _, _⟩ := hys.form
    injection e' with _ e' _
  suffices hrun : ∃ v' w', (Builtin.append_ #[t, t] o.type #[.slice (some ⟨g, 0, none⟩) 1 1, .slice A m c]).run P w = .ok v' w' ∧ Sl encI TT w' v' (z :: ys) ∧ w.grownBy w' none by
    obtain ⟨v', w', hr, h2, h3⟩ := hrun
    unfold Oper.wp execOp
    simp only [ho, resolve, invoke, builtin, Sem.run_bind, Sem.run_pure, Result.andThen_ok, List.map_toArray, List.map_cons, List.map_nil, hs, hx, hr]
    exact h v' w' h2 h3
  rcases Nat.eq_zero_or_pos ys.length with h0 | hpos
  · have hy : ys = [] := List.eq_nil_of_length_eq_zero h0
    subst hy
    obtain rfl : m = 0 := hm
    cases A with
    | none => exact ⟨_, w, by simp [Builtin.append_, run_underlying ht, sizeOf, typeInfo, hi, Builtin.lenOf, Builtin.firstCells, storeCells], hone, World.grownBy.refl _ _⟩
    | some ad =>
      have hr := run_append_room_cells (P := P) w t o.type e i ht hi g 0 1 1 ad 0 c [] (by simp) (by simp) (by simp) (by omega) (by simp) (by simp)
      exact ⟨_, _, hr, hone, World.grownBy.refl _ _⟩
  · obtain ⟨g2, o2, eA, _, _⟩ := hys.addr hpos
    subst eA
    have hg1 : 1 < 1 + m := by omega
    have h63 : 1 + m ≤ maxLen := by
      have : (1 + m) * 1 ≤ (1 + m) * bytes := Nat.mul_le_mul_left _ hby
      rw [← hm] at hlen
      unfold maxLen
      omega
    obtain ⟨v', w', hr, h2, h3⟩ := run_append_arg_grows (P := P) w t o.type e i zz 1 bytes ht hi hz0 hz1 hz2 hz3 (by decide) ⟨g, 0, none⟩ 1 1 [.int .i64 z] rfl (fun j u hu => by
      obtain rfl : j = 0 := by
        rcases j with _ | j
        · rfl
        · simp at hu
      obtain rfl : Value.int .i64 z = u := by simpa using hu
      exact hcz) ⟨g2, o2, none⟩ m c (ys.map fun y => .int .i64 y) (by simp [hm]) (fun j u hu => by
      rw [List.getElem?_map, Option.map_eq_some_iff] at hu
      obtain ⟨y, hy, rfl⟩ := hu
      obtain ⟨hj, rfl⟩ := List.getElem?_eq_some_iff.1 hy
      obtain ⟨g3, o3, c3, e3, _, _, h4⟩ := hys.atI hj
      injection e3 with e3 _ _
      injection e3 with e3
      injection e3 with e3 e4 _
      subst e3 e4
      rw [Addr.add_lit]
      exact h4.1) hg1 h63 (by rw [hm]; exact hlen)
    refine ⟨v', w', hr, ?_, h3⟩
    have hall : ∀ y ∈ ys, I64 y := fun y hy => by
      obtain ⟨j, hj, rfl⟩ := List.getElem_of_mem hy
      obtain ⟨_, _, _, _, _, _, h4⟩ := hys.atI hj
      exact h4.2
    have hacc : Acc encI w.heap.size e (fun _ => True) w' v' (z :: ys) := ⟨fun _ _ => trivial, (z :: ys).map fun y => [.int .i64 y], by simp, fun k hk hk' => by
      rw [List.getElem_map]
      refine ⟨rfl, ?_⟩
      rcases List.mem_cons.1 (List.getElem_mem hk) with h | h
      · rw [h]; exact hz
      · exact hall _ h, by
      have e1 : ((z :: ys).map fun y => [Value.int .i64 y]).flatten = [Value.int .i64 z] ++ ys.map fun y => .int .i64 y := by
        rw [List.map_cons, List.flatten_cons, flat_ones]
      rw [e1, show (z :: ys).length = 1 + m by simp [hm]; omega]
      exact h2⟩
    exact hacc.sl.more fun _ _ _ => trivial
end
theorem Boxed.firm {B b : Nat} {V V' : World} {t : TypeId} {v : Value} (h : Boxed V b t v) (hk : Firm B V V') : Boxed V' b t v := hk.same _ _ h (.inr rfl)
def leftI (v : Value) (w : World) : Nat := match v with
  | .pointer (some p) => match w.cell? p with
    | some (.int _ j) => (9 - j).toNat
    | _ => 0
  | _ => 0
theorem leftI_at {B : Nat} {w : World} {j : Nat} (h : w.cell? ⟨B, 0, none⟩ = some (.int .i64 j)) : leftI (.pointer (some ⟨B, 0, none⟩)) w = (9 - (j : Int)).toNat := by simp [leftI, h]
set_option maxRecDepth 100000 in
set_option maxHeartbeats 2000000 in
theorem sets_ends : ∀ (k n f Bn Bf : Nat) (w1 : World), 1 ≤ f → f ≤ 8 → k ≤ 3 → Boxed w1 Bn 3 (.int .i64 k) → Boxed w1 Bf 3 (.int .i64 f) →
    SeqEnds Fence.wide n Tryd.prog 62 #[.pointer (some ⟨Bn, 0, none⟩), .pointer (some ⟨Bf, 0, none⟩)] (fun x : SetX => #[x.1]) (SetFx k f) (fun ys => ys.map (·.2) = setsI k f) (fun pre => pre.map (·.2) <+: setsI k f) w1 := by
  intro k
  induction k with
  | zero =>
    intro n f Bn Bf w1 hf1 hf8 _ hbn hbf l J Jx W hW hJ hJx hY h0
    refine callsIn_of_wp_marks Tryd.func62 rfl trivial ?_ rfl
    simp only [Tryd.ntmps62, List.size_toArray, List.length_cons, List.length_nil, Nat.reduceAdd, Nat.reduceSub, Array.replicate_succ, Array.replicate_zero, List.push_toArray, List.append_toArray, List.nil_append, List.cons_append]
    have hcn : (W.alloc (.cells #[.func (.yield l) #[] #[]] 81)).cell? ⟨Bn, 0, none⟩ = some (.int .i64 0) := (hbn.kept (hW.trans (World.grownBy_alloc _ _ none)) (by simp)).cell
    have hc3 : (W.alloc (.cells #[.func (.yield l) #[] #[]] 81)).cell? ⟨W.heap.size, 0, none⟩ = some (.func (.yield l) #[] #[]) := (Boxed.new W 81 (.func (.yield l) #[] #[])).cell
    have h0' := hJ.alloc (.cells #[.func (.yield l) #[] #[]] 81) h0
    obtain ⟨fn, tmps, assign, body, hy, hR⟩ := hY [] (.slice none 0 0, []) _ h0' ⟨Sl.nil _ _ _, by simp [setsI]⟩
    dsimp only at hy
    gi_wp2
    refine ⟨fun h => absurd h (by simp [Fence.wide]), ?_⟩
    refine hR.mono ?_
    rintro e W' (⟨rfl, hJ', hk⟩ | ⟨rfl, hJ', hk⟩)
    · gi_wp2
      exact ⟨_, results_none rfl _ _ _, ⟨_, rfl⟩, .inl ⟨[(.slice none 0 0, [])], rfl, hJ'⟩⟩
    · gi_wp2
      exact ⟨_, results_none rfl _ _ _, ⟨_, rfl⟩, .inr ⟨[(.slice none 0 0, [])], List.prefix_refl _, hJ'⟩⟩
  | succ k ih =>
    intro n f Bn Bf w1 hf1 hf8 hk3 hbn hbf l J Jx W hW hJ hJx hY h0
    have hbn : Boxed w1 Bn 3 (.int .i64 ((k : Int) + 1)) := hbn
    have HBN := Lib.hid (hbn.kept hW (by simp))
    have HBF := Lib.hid (hbf.kept hW (by simp))
    have hcn : (W.alloc (.cells #[.func (.yield l) #[] #[]] 81)).cell? ⟨Bn, 0, none⟩ = some (.int .i64 ((k : Int) + 1)) := (HBN.out.kept (World.grownBy_alloc _ _ none) (by simp)).cell
    have hcf : (W.alloc (.cells #[.func (.yield l) #[] #[]] 81)).cell? ⟨Bf, 0, none⟩ = some (.int .i64 (f : Int)) := (HBF.out.kept (World.grownBy_alloc _ _ none) (by simp)).cell
    have hk0 : ((k : Int) + 1 == 0) = false := by simp; omega
    have hkI : (k : Int) ≤ 2 := by omega
    have hkJ : (0 : Int) ≤ (k : Int) := Int.natCast_nonneg k
    have HFK : Hid (1 ≤ f ∧ f ≤ 8 ∧ k + 1 ≤ 3) := Lib.hid ⟨hf1, hf8, hk3⟩
    have HH0 := Lib.hid h0
    clear hbn hbf h0 hf1 hf8 hk3
    refine callsIn_of_wp_marks Tryd.func62 rfl trivial ?_ rfl
    simp only [Tryd.ntmps62, List.size_toArray, List.length_cons, List.length_nil, Nat.reduceAdd, Nat.reduceSub, Array.replicate_succ, Array.replicate_zero, List.push_toArray, List.append_toArray, List.nil_append, List.cons_append]
    gi_wp2
    obtain ⟨W2, hW2⟩ : ∃ y, y = (W.alloc (.cells #[.func (.yield l) #[] #[]] 81)).alloc (.cells #[.int .i64 (f : Int)] 3) := ⟨_, rfl⟩
    have HG2 : Hid (W.grownBy W2 none) := Lib.hid (by rw [hW2]; exact grown_two0)
    have HBY : Hid (Boxed W2 W.heap.size 81 (.func (.yield l) #[] #[])) := Lib.hid (by rw [hW2]; exact (Boxed.new W _ _).alloc _)
    have HBI : Hid (Boxed W2 (W.heap.size + 1) 3 (.int .i64 (f : Int))) := Lib.hid (by
      rw [hW2]
      have h := Boxed.new (W.alloc (.cells #[.func (.yield l) #[] #[]] 81)) 3 (.int .i64 (f : Int))
      rw [World.size_alloc] at h
      exact h)
    have HBN2 := Lib.hid (HBN.out.kept HG2.out (by simp))
    rw [← hW2]
    clear hW2 hcn hcf HBF HBN
    refine wpIn_loop (fun a' wr => ∃ (j Bi : Nat) (pre : List SetX) (Ds : List Nat) (u5 u11 u12 u13 u14 u15 u16 u17 u18 u19 u20 u21 u22 u23 u24 u25 u26 u27 u28 : Value), a' = { tmps := #[.func (.yield l) #[] #[], .pointer (some ⟨Bn, 0, none⟩), .pointer (some ⟨Bf, 0, none⟩), .pointer (some ⟨W.heap.size, 0, none⟩), .pointer (some ⟨Bi, 0, none⟩), u5, .int .i64 ((k : Int) + 1), .bool false, undef, undef, .int .i64 (f : Int), u11, u12, u13, u14, u15, u16, u17, u18, u19, u20, u21, u22, u23, u24, u25, u26, u27, u28], defers := marks Ds } ∧ Hid ((f ≤ j ∧ j ≤ 8) ∧ Boxed wr Bi 3 (.int .i64 (j : Int)) ∧ pre.map (·.2) = setsUp k f j ∧ J pre wr ∧ MarksAt W.heap.size Ds wr ∧ W.heap.size ≤ wr.heap.size ∧ Boxed wr Bn 3 (.int .i64 ((k : Int) + 1)) ∧ Boxed wr W.heap.size 81 (.func (.yield l) #[] #[]))) (fun a' wr => leftI (a'.tmps.getD 4 undef) wr) ?_ ?_
    · exact ⟨f, W.heap.size + 1, [], [], undef, undef, undef, undef, undef, undef, undef, undef, undef, undef, undef, undef, undef, undef, undef, undef, undef, undef, undef, rfl, Lib.hid ⟨⟨Nat.le_refl _, HFK.out.2.1⟩, HBI.out, (setsUp_self k f).symm, hJ _ W W2 none HH0.out HG2.out (by simp), MarksAt.nil _ _, HG2.out.size, HBN2.out, HBY.out⟩⟩
    · clear HBI HBN2 HBY HG2 HH0
      rintro a' wr ⟨j, Bi, pre, Ds, u5, u11, u12, u13, u14, u15, u16, u17, u18, u19, u20, u21, u22, u23, u24, u25, u26, u27, u28, rfl, HX⟩
      have hci : wr.cell? ⟨Bi, 0, none⟩ = some (.int .i64 (j : Int)) := HX.out.2.1.cell
      have hcn : wr.cell? ⟨Bn, 0, none⟩ = some (.int .i64 ((k : Int) + 1)) := HX.out.2.2.2.2.2.2.1.cell
      have hj0 : (0 : Int) ≤ (j : Int) := Int.natCast_nonneg j
      have hmu : leftI (.pointer (some ⟨Bi, 0, none⟩)) wr = (9 - (j : Int)).toNat := leftI_at hci
      by_cases hj : j < 8
      · have hjI : (j : Int) ≤ 7 := by omega
        have HJL : Hid (j < 8) := Lib.hid hj
        clear hj
        gi_wp2_with (refine ⟨trivial, fun h => absurd h (by simp [Fence.wide]), ?_⟩; refine (callsIn_wide.2 (esets_any _ _ _)).mono ?_; rintro e w' ⟨rfl, rfl⟩)
        obtain ⟨w2, hw2⟩ : ∃ y, y = (wr.alloc (.cells #[.int .i64 ((j : Int) + 1)] 3)).alloc (.cells #[.int .i64 (k : Int)] 3) := ⟨_, rfl⟩
        have HG : Hid (wr.grownBy w2 none ∧ w2.heap.size = wr.heap.size + 2) := Lib.hid (by rw [hw2]; exact ⟨grown_two0, by simp⟩)
        have HB1 : Hid (Boxed w2 wr.heap.size 3 (.int .i64 ((j + 1 : Nat) : Int))) := Lib.hid (by rw [hw2]; exact (Boxed.new wr _ _).alloc _)
        have HB2 : Hid (Boxed w2 (wr.heap.size + 1) 3 (.int .i64 (k : Int))) := Lib.hid (by
          rw [hw2]
          have h := Boxed.new (wr.alloc (.cells #[.int .i64 ((j : Int) + 1)] 3)) 3 (.int .i64 (k : Int))
          rw [World.size_alloc] at h
          exact h)
        rw [← hw2]
        clear hw2
        have HDs : Hid (∀ D ∈ Ds, D < w2.heap.size) := Lib.hid (fun D hD => by have := HX.out.2.2.2.2.1.lt D hD; have := HG.out.2; omega)
        have HWS : Hid (W.heap.size ≤ w2.heap.size) := Lib.hid (by have := HX.out.2.2.2.2.2.1; have := HG.out.2; omega)
        refine wpIn_rangeFunc_ends (F := Fence.wide) rfl (fun h => absurd h (by simp [Fence.wide])) (gf := 62) (lb := #[.pointer (some ⟨wr.heap.size + 1, 0, none⟩), .pointer (some ⟨wr.heap.size, 0, none⟩)]) rfl trivial (enters_of Tryd.func62 (by kernel_rfl) rfl)
          (ih (n - 1) (j + 1) (wr.heap.size + 1) wr.heap.size w2 (by omega) (by have := HJL.out; omega) (by have := HFK.out; omega) HB2.out HB1.out) (World.grownBy.refl _ _) (fun _ => rfl)
          (fun pre' V => ∃ out : List SetX, out.map (·.2) = pre'.map (fun y : SetX => (j : Int) :: y.2) ∧ J (pre ++ out) V ∧ MarksAt W.heap.size Ds V ∧ Boxed V Bi 3 (.int .i64 (j : Int)) ∧ Boxed V Bn 3 (.int .i64 ((k : Int) + 1)) ∧ Boxed V W.heap.size 81 (.func (.yield l) #[] #[]) ∧ w2.heap.size ≤ V.heap.size)
          (fun pre' V => ∃ out : List SetX, out.map (·.2) = pre'.map (fun y : SetX => (j : Int) :: y.2) ∧ Jx (pre ++ out) V ∧ MarksAt W.heap.size Ds V)
          ?hI ?hIx ?h0 (fun x a' V => a' = { tmps := #[.func (.yield l) #[] #[], .pointer (some ⟨Bn, 0, none⟩), .pointer (some ⟨Bf, 0, none⟩), .pointer (some ⟨W.heap.size, 0, none⟩), .pointer (some ⟨Bi, 0, none⟩), x.1, .int .i64 ((k : Int) + 1), .bool false, undef, undef, .int .i64 (f : Int), .int .i64 (j : Int), .bool true, u13, u14, .int .i64 (j : Int), .int .i64 ((j : Int) + 1), .int .i64 ((k : Int) + 1), .int .i64 (k : Int), .func (.func 62) #[] #[.pointer (some ⟨wr.heap.size + 1, 0, none⟩), .pointer (some ⟨wr.heap.size, 0, none⟩)], x.1, u21, u22, u23, u24, u25, u26, u27, u28], defers := [] } ∧ SetFx k (j + 1) x V) ?hAx ?assign ?body ?done ?stop
        case hI =>
          rintro s A B row ⟨out, e, hJo, hM, hb1, hb2, hb3, hs⟩ hg hr
          have hr' : ∀ r, row = some r → ∃ o : Obj, A.heap[r]? = some o ∧ o.isCells = false := fun r e => (hr r e).2
          exact ⟨out, e, hJ _ A B row hJo hg (fun r e => ⟨Nat.le_trans HWS.out (hr r e).1, (hr r e).2⟩), hM.grown hg (fun r e hD => by have := (hr r e).1; have := HDs.out r hD; omega), hb1.kept hg (boxNe hb1 hr'), hb2.kept hg (boxNe hb2 hr'), hb3.kept hg (boxNe hb3 hr'), Nat.le_trans hs hg.size⟩
        case hIx =>
          rintro s A B row ⟨out, e, hJo, hM⟩ hg hr
          exact ⟨out, e, hJx _ A B row hJo hg (fun r e => ⟨Nat.le_trans HWS.out (hr r e).1, (hr r e).2⟩), hM.grown hg (fun r e hD => by have := (hr r e).1; have := HDs.out r hD; omega)⟩
        case h0 => exact ⟨[], rfl, by rw [List.append_nil]; exact hJ _ wr w2 none HX.out.2.2.2.1 HG.out.1 (by simp), HX.out.2.2.2.2.1.grown HG.out.1 (by simp), HX.out.2.1.kept HG.out.1 (by simp), HX.out.2.2.2.2.2.2.1.kept HG.out.1 (by simp), HX.out.2.2.2.2.2.2.2.kept HG.out.1 (by simp), Nat.le_refl _⟩
        case hAx => exact fun x a' _ A B row h hg hr => ⟨h.1, h.2.1.keepc hg (fun r e => (hr r e).2), h.2.2⟩
        case assign =>
          intro l2 pre' x V K hi hfx hK
          gi_wp2
          exact hK _ _ (Firm.refl _ _) hi ⟨rfl, hfx⟩
        case body =>
          rintro l2 pre' ⟨v, s⟩ a' V hl2 ⟨out, e1, hJo, hM, hbi, hbn, hb3, hs⟩ ⟨rfl, hsl, hmem⟩
          obtain ⟨A, c, hv, _, _⟩ := Sl.form hsl
          have hv : v = .slice A s.length c := hv
          subst hv
          obtain ⟨m, hm⟩ : ∃ y, y = s.length := ⟨_, rfl⟩
          have HSL : Hid (Sl encI TT V (.slice A m c) s) := Lib.hid (by rw [hm]; exact hsl)
          have HMEM : Hid (s ∈ setsI k (j + 1)) := Lib.hid hmem
          have HM9 : Hid (s.length ≤ 3) := Lib.hid (by have h9 : s.length = k := (sets_ok _ _ _ hmem).1; have := HFK.out; omega)
          dsimp only
          rw [← hm]
          have HE1 := Lib.hid e1
          have HJO := Lib.hid hJo
          have HM := Lib.hid hM
          have HBI := Lib.hid hbi
          have HBN := Lib.hid hbn
          have HB3 := Lib.hid hb3
          have HVS := Lib.hid hs
          clear hm hsl hmem e1 hJo hM hbi hbn hb3 hs hci hcn
          gi_wp2
          have HDR : Hid (V.grownBy V.drew none) := Lib.hid (grown_drewN' V 1)
          refine wpIn_round_mono 5 (by kernel_rfl) (by kernel_rfl) (by kernel_rfl) ?_
          -- op 0 (slot 21): load
          refine MonoR.step (Pv.eq (.func (.yield l) #[] #[])) [] (by kernel_rfl) (fun w' hw' => ?_) ?_
          · refine ask_do rfl fun K hK => ?_
            have c1 := (HBI.out.kept (HDR.out.trans hw') (by simp)).cell
            have c2 := (HB3.out.kept (HDR.out.trans hw') (by simp)).cell
            go_simp
            exact hK _ _ rfl rfl (World.grownBy.refl _ none)
          -- op 1 (slot 22): load
          refine MonoR.step (Pv.eq (.int .i64 (j : Int))) [] (by kernel_rfl) (fun w' hw' => ?_) ?_
          · refine ask_do rfl fun K hK => ?_
            have c1 := (HBI.out.kept (HDR.out.trans hw') (by simp)).cell
            have c2 := (HB3.out.kept (HDR.out.trans hw') (by simp)).cell
            go_simp
            exact hK _ _ rfl rfl (World.grownBy.refl _ none)
          -- op 2 (slot 23): buildSlice
          refine MonoR.step (oneI (j : Int)) [(1, 22)] (by kernel_rfl) (fun w' hw' => ?_) ?_
          · intro x22 h22
            have e22 : x22 = .int .i64 (j : Int) := h22
            clear h22
            subst e22
            refine ask_do rfl fun K hK => ?_
            go_simp
            exact hK _ _ rfl ⟨_, rfl, Bk.new _ _ _⟩ (World.grownBy_alloc _ _ none)
          -- op 3 (slot 24): move
          refine MonoR.step (Pv.eq (.slice A m c)) [] (by kernel_rfl) (fun w' hw' => ?_) ?_
          · refine ask_do rfl fun K hK => ?_
            go_simp
            exact hK _ _ rfl rfl (World.grownBy.refl _ none)
          -- op 4 (slot 25): call
          refine MonoR.step (Pv.sl (encI) TT ((j : Int) :: s)) [(2, 23), (3, 24)] (by kernel_rfl) (fun w' hw' => ?_) ?_
          · intro x23 h23
            have h23 : ∃ g, x23 = .slice (some ⟨g, 0, none⟩) 1 1 ∧ Bk w' g 3 #[.int .i64 (j : Int)] := h23
            intro x24 h24
            have e24 : x24 = .slice A m c := h24
            clear h24
            subst e24
            refine ask_do rfl fun K hK => ?_
            obtain ⟨g9, e9, hb9⟩ := h23
            subst e9
            exact wp_one (.tmp 23) (.tmp 24) 60 rfl el_int0 rfl hb9 ⟨by omega, by omega⟩ rfl (HSL.out.kept (HDR.out.trans hw')) (by have := HM9.out; omega) fun v' w3 hs hg => hK _ _ rfl hs hg
          
          intro V5 hV5
          intro y0 k0 y1 k1 y2 k2 y3 k3 y4 k4
          have e0 : y0 = .func (.yield l) #[] #[] := k0
          have hs5 : Sl encI TT V5 y4 ((j : Int) :: s) := k4
          subst e0
          have HG5 : Hid (V.grownBy V5 none) := Lib.hid (HDR.out.trans hV5)
          clear k0 k1 k2 k3 k4 hV5
          show wpListIn _ _ _ _ _ _ _ _
          simp only [Act.put, List.setIfInBounds_toArray, List.set_cons_zero, List.set_cons_succ]
          obtain ⟨A5, c5, e5, _, _⟩ := hs5.form
          have HS5 := Lib.hid hs5
          obtain ⟨m5, hm5⟩ : ∃ y, y = ((j : Int) :: s).length := ⟨_, rfl⟩
          rw [← hm5] at e5
          subst e5
          clear hs5 hm5
          have HMEM' : Hid ((j : Int) :: s ∈ setsI (k + 1) f) := Lib.hid ((setsUp_le k f (j + 1) (by have := HX.out.1; omega) (by have := HJL.out; omega)).subset (by
            rw [setsUp_succ k f j HX.out.1.1]
            exact List.mem_append_right _ (List.mem_map.2 ⟨s, HMEM.out, rfl⟩)))
          obtain ⟨fn, tmps, assign, body, hy, hR⟩ := hY (pre ++ out) (.slice A5 m5 c5, (j : Int) :: s) V5 (hJ _ V V5 none HJO.out HG5.out (by simp)) ⟨HS5.out, HMEM'.out⟩
          dsimp only at hy
          gi_wp2
          refine ⟨fun h => absurd h (by simp [Fence.wide]), ?_⟩
          refine (round_any hR).mono ?_
          rintro e V6 (⟨rfl, hJ6, hk6⟩ | ⟨rfl, hJ6, hk6⟩)
          · gi_wp2
            have hf5 : Firm W.heap.size V V5 := Firm.of_grown _ HG5.out
            have hf6 := hf5.trans hk6
            exact ⟨hf6.more HWS.out, out ++ [(.slice A5 m5 c5, (j : Int) :: s)], by simp [HE1.out], by rw [← List.append_assoc]; exact hJ6, HM.out.from hf6.from, Boxed.firm HBI.out hf6, Boxed.firm HBN.out hf6, Boxed.firm HB3.out hf6, Nat.le_trans HVS.out hf6.size⟩
          · gi_wp2
            have hf5 : Firm W.heap.size V V5 := Firm.of_grown _ HG5.out
            exact ⟨keepsFrom_more (hf5.from.trans hk6) HWS.out, out ++ [(.slice A5 m5 c5, (j : Int) :: s)], by simp [HE1.out], by rw [← List.append_assoc]; exact hJ6, HM.out.from (hf5.from.trans hk6)⟩
        case done =>
          rintro D xs V hD hS ⟨out, e1, hJo, hM, hbi, hbn, hb3, hs⟩ hdf
          have HM' := Lib.hid (hM.cons hdf (Nat.le_trans HWS.out hD) (fun h => by have := HDs.out D h; omega))
          have HBN := Lib.hid hbn
          have HB3 := Lib.hid hb3
          have HJO := Lib.hid hJo
          have HPR : Hid ((pre ++ out).map (·.2) = setsUp k f (j + 1)) := Lib.hid (by
            rw [List.map_append, HX.out.2.2.1, setsUp_succ k f j HX.out.1.1, e1, ← hS, List.map_map]
            rfl)
          have HVS : Hid (W.heap.size ≤ V.heap.size) := Lib.hid (Nat.le_trans HWS.out hs)
          have hcb := hbi.cell
          clear hJo hM hbi hbn hb3 hs hdf e1 hS hci hcn
          gi_wp2
          have hbx := Boxed.new V 3 (.int .i64 ((j : Int) + 1))
          have hgx : V.grownBy (V.alloc (.cells #[.int .i64 ((j : Int) + 1)] 3)) none := World.grownBy_alloc _ _ none
          refine ⟨⟨j + 1, V.heap.size, pre ++ out, D :: Ds, _, _, _, _, _, _, _, _, _, _, _, _, _, _, _, _, _, _, _, rfl, Lib.hid ⟨⟨by have := HX.out.1; omega, by have := HJL.out; omega⟩, hbx, HPR.out, hJ _ V _ none HJO.out hgx (by simp), HM'.out.grown hgx (by simp), Nat.le_trans HVS.out hgx.size, HBN.out.kept hgx (by simp), HB3.out.kept hgx (by simp)⟩⟩, ?_⟩
          show leftI (.pointer (some ⟨V.heap.size, 0, none⟩)) _ < leftI (.pointer (some ⟨Bi, 0, none⟩)) wr
          rw [hmu, leftI_at (j := j + 1) hbx.cell]
          have := HJL.out
          omega
        case stop =>
          rintro D pre' V hD hSp ⟨out, e1, hJo, hM⟩ hdf
          have hM' := hM.cons hdf (Nat.le_trans HWS.out hD) (fun h => by have := HDs.out D h; omega)
          gi_wp2
          refine marks_leave (Ds := D :: Ds) hM' ⟨_, results_none rfl _ _ _, ⟨_, rfl⟩, .inr ⟨pre ++ out, ?_, shut_own hJx hM' hJo⟩⟩
          refine List.IsPrefix.trans ?_ (setsUp_le k f (j + 1) (by have := HX.out.1; omega) (by have := HJL.out; omega))
          rw [List.map_append, HX.out.2.2.1, setsUp_succ k f j HX.out.1.1, e1]
          obtain ⟨tl, htl⟩ := hSp
          exact ⟨tl.map ((j : Int) :: ·), by rw [← htl, List.map_append, List.append_assoc, List.map_map]; rfl⟩
      · have hjI : ¬ (j : Int) ≤ 7 := by omega
        gi_wp2
        refine marks_leave HX.out.2.2.2.2.1 ⟨_, results_none rfl _ _ _, ⟨_, rfl⟩, .inl ⟨pre, ?_, shut_own hJ HX.out.2.2.2.2.1 HX.out.2.2.2.1⟩⟩
        have h8 : j = 8 := by have := HX.out.1.2; omega
        rw [HX.out.2.2.1, h8]
        rfl
end Go.Proofs.YtlhjbllfcbojmaaDoor

namespace Go.Proofs.YtlhjbllfcbojmaaDoor
open Go

section
variable {P : Program} {ops : Array Oper} {Q : Exit → Act → World → Prop} {n : Nat} {a0 : Act} {w0 : World}

def ToldC (u : Value) (dst : Option Tmp) (ds : List Deferred) (K : World → Prop) : Exit → Act → World → Prop := fun e a' w' => e = .normal ∧ a'.defers = ds ∧ (match dst with | some d => a'.eval (.tmp d) | none => undef) = u ∧ K w'
def FlagR (P : Program) (ops : Array Oper) (n : Nat) (a0 : Act) (C : Array Bool → World → Prop) (us : List Value) : Nat → Nat → List Oper → Prop
  | 0, _, _ => True
  | _ + 1, _, [] => False
  | k + 1, i, o :: os => (∃ js : List (Nat × Tmp), (pairB ops i js && lookB ops n i js) = true ∧ ∀ D w, D.size = ops.size → D.getD i false = false → (∀ k, av ops i n k = false → D.getD k false = false) → C D w → Ask P ops (us.map Pv.eq) (ToldC (us.getD i undef) o.dst a0.defers (C (D.setIfInBounds i true))) o w js a0) ∧ FlagR P ops n a0 C us k (i + 1) os
theorem FlagR.out {C : Array Bool → World → Prop} {us : List Value} : ∀ {k i : Nat} {os : List Oper}, FlagR P ops n a0 C us k i os → ∀ m o, m < k → os[m]? = some o → ∃ js : List (Nat × Tmp), (pairB ops (i + m) js && lookB ops n (i + m) js) = true ∧ ∀ D w, D.size = ops.size → D.getD (i + m) false = false → (∀ k, av ops (i + m) n k = false → D.getD k false = false) → C D w → Ask P ops (us.map Pv.eq) (ToldC (us.getD (i + m) undef) o.dst a0.defers (C (D.setIfInBounds (i + m) true))) o w js a0
  | 0, _, _, _, m, o, hm, _ => by omega
  | _ + 1, _, [], h, _, _, _, _ => h.elim
  | k + 1, i, o :: os, h, m, o', hm, ho => by
    cases m with
    | zero =>
      obtain rfl : o = o' := by simpa using ho
      exact h.1
    | succ m =>
      have := FlagR.out h.2 m o' (by omega) (by simpa using ho)
      rwa [show i + 1 + m = i + (m + 1) by omega] at this
theorem FlagR.step {C : Array Bool → World → Prop} {us : List Value} {k i : Nat} {o : Oper} {os : List Oper} (js : List (Nat × Tmp)) (hc : (pairB ops i js && lookB ops n i js) = true) (hA : ∀ D w, D.size = ops.size → D.getD i false = false → (∀ k, av ops i n k = false → D.getD k false = false) → C D w → Ask P ops (us.map Pv.eq) (ToldC (us.getD i undef) o.dst a0.defers (C (D.setIfInBounds i true))) o w js a0) (h : FlagR P ops n a0 C us k (i + 1) os) : FlagR P ops n a0 C us (k + 1) i (o :: os) := ⟨⟨js, hc, hA⟩, h⟩
structure FInv (ops : Array Oper) (n : Nat) (a0 : Act) (C : Array Bool → World → Prop) (us : List Value) (D : Array Bool) (a : Act) (w : World) : Prop where
  head : HeadInv .any ops n D
  cls : C D w
  tsize : a.tmps.size = a0.tmps.size
  defers : a.defers = a0.defers
  rest : ∀ t, (∀ j, j < n → D.getD j false = true → dstAt ops j ≠ some t) → a.tmps[t]? = a0.tmps[t]?
  known : ∀ j u, D.getD j false = true → us[j]? = some u → valOf (dstAt ops j) a = u
theorem toldC_letsOut {u : Value} {dst : Option Tmp} {ds : List Deferred} {K : World → Prop} : ¬ LetsOut (ToldC u dst ds K) := by
  rintro ⟨a, w', e, _⟩
  cases e
theorem toldC_op {u : Value} {K : World → Prop} {o : Oper} {a b : Act} {w : World} (hs : ∀ cs b, o.op ≠ .select cs b) (hd : ∀ d, o.dst = some d → d < a.tmps.size) (hsz : b.tmps.size = a.tmps.size) (hlook : ∀ t ∈ o.looksAt ops, b.tmps[t]? = a.tmps[t]?) {i : Nat} (hi : ops[i]? = some o)
    (hdf : b.defers = a0.defers) (h : wpList P ops (ToldC u o.dst a0.defers K) [o] b w) : wpOp P ops Q i (fun a' w' => ∃ v, a' = a.put o.dst v ∧ (match o.dst with | some _ => v | none => undef) = u ∧ K w') a w := by
  have hex : execOp b.eval o = execOp a.eval o := execOp_congr o hs fun x hx => by
    cases x with
    | tmp t => exact eval_of _ _ _ (hlook t (List.mem_append_left _ (List.mem_filterMap.2 ⟨.tmp t, by simpa using hx, rfl⟩)))
    | _ => rfl
  have hwn : Region.wanted o (yielded ops b.tmps) = Region.wanted o (yielded ops a.tmps) := by
    unfold Region.wanted
    cases hg : o.guard with
    | none => rfl
    | some gw =>
      obtain ⟨g, want⟩ := gw
      have hy : yielded ops b.tmps g = yielded ops a.tmps g := by
        unfold yielded
        cases ht : (ops[g]?).bind (·.dst) with
        | none => rfl
        | some t => simp only [Option.bind_some, hlook t (by simp [Oper.looksAt, hg, ht])]
      simp only [hy]
  have fin : ∀ v w', ToldC u o.dst a0.defers K .normal (b.put o.dst v) w' → ∃ v', a.put o.dst v = a.put o.dst v' ∧ (match o.dst with | some _ => v' | none => undef) = u ∧ K w' := by
    rintro v w' ⟨_, _, h1, h2⟩
    refine ⟨v, rfl, ?_, h2⟩
    cases hdd : o.dst with
    | none => rw [hdd] at h1; exact h1
    | some d =>
      rw [hdd] at h1
      have hlt := hd d hdd
      have : (b.put (some d) v).eval (.tmp d) = v := by simp [Act.put, Act.eval, Array.getD_eq_getD_getElem?, hsz, hlt]
      simp only [this] at h1
      exact h1
  unfold wpOp
  simp only [hi]
  simp only [wpList, hwn] at h
  split
  · rename_i hw
    rw [if_pos hw] at h
    rcases h with h | h
    · left
      unfold Oper.wp at h ⊢
      rw [hex] at h
      generalize (execOp a.eval o).run P w = r at *
      cases r with
      | ok x w' =>
        cases x with
        | value v => exact fin v w' h
        | skip => exact fin undef w' h
        | enter f args =>
          refine Calls.mono h fun e w'' he => ?_
          cases e with
          | returned u => exact fin u w'' he
          | panicked c => exact absurd he.1 (by simp)
          | outgrown => exact absurd he toldC_letsOut
        | row row args => exact Rows.mono h fun u w'' he => fin u w'' he
        | defer d =>
          obtain ⟨_, h1, _⟩ := h
          have h1 : (Act.put { b with defers := d :: b.defers } o.dst undef).defers = a0.defers := h1
          rw [put_defers, ← hdf] at h1
          exact absurd (congrArg List.length h1) (by simp)
        | _ => exact h.elim
      | halt x w' =>
        cases x with
        | panic v => exact absurd h.1 (by simp)
        | _ => exact h.elim
    · exact absurd h.2 toldC_letsOut
  · rename_i hw
    rw [if_neg hw] at h
    exact fin undef w h
theorem finv_step {C : Array Bool → World → Prop} {us : List Value} {D : Array Bool} {a a' : Act} {w w' : World} {i : Nat} {o : Oper} {v : Value} (inv : FInv ops n a0 C us D a w) (hd : distB ops n a0.tmps.size = true) (hi : i ∈ Region.ready .any ops D) (hin : i < n) (ho : ops[i]? = some o) (hnl : us.length ≤ n)
    (ha : a' = a.put o.dst v) (hv : (match o.dst with | some _ => v | none => undef) = us.getD i undef) (hg : C (D.setIfInBounds i true) w') : FInv ops n a0 C us (D.setIfInBounds i true) a' w' := by
  subst ha
  have hdi : dstAt ops i = o.dst := by simp [dstAt, ho]
  have hun : D.getD i true = false := (mem_ready.1 hi).1
  have hlt : i < D.size := by
    rcases Nat.lt_or_ge i D.size with h' | h'
    · exact h'
    · simp [Array.getElem?_eq_none h'] at hun
  refine ⟨inv.head.set hi hin, hg, (put_size _ _ _).trans inv.tsize, (put_defers _ _ _).trans inv.defers, fun t ht => ?_, fun j W hj hW => ?_⟩
  · have h1 : o.dst ≠ some t := fun e => ht i hin (by simp [hlt]) (hdi.trans e)
    refine Eq.trans ?_ (inv.rest t fun j hj hD => ht j hj (getD_set_true hD))
    cases hdd : o.dst with
    | none => rfl
    | some d => exact put_at _ _ _ _ (fun e => h1 (by rw [hdd, e]))
  · by_cases e : i = j
    · subst e
      have hWe : us.getD i undef = W := by rw [List.getD_eq_getElem?_getD, hW]; rfl
      rw [hWe] at hv
      rw [hdi]
      cases hdd : o.dst with
      | none => rw [hdd] at hv; exact hv
      | some d =>
        rw [hdd] at hv
        have hds := list_all_range hd hin
        rw [hdi, hdd] at hds
        simp only [Bool.and_eq_true, decide_eq_true_eq] at hds
        have : (a.put (some d) v).eval (.tmp d) = v := by simp [Act.put, Act.eval, Array.getD_eq_getD_getElem?, inv.tsize, hds.1]
        show (a.put (some d) v).eval (.tmp d) = W
        rw [this]
        exact hv
    · have hjn : j < n := by have := (List.getElem?_eq_some_iff.1 hW).1; omega
      rw [getD_set_ne false e] at hj
      have h1 := inv.known j W hj hW
      cases hdj : dstAt ops j with
      | none => rw [hdj] at h1; exact h1
      | some dj =>
        rw [hdj] at h1
        have h1 : a.eval (.tmp dj) = W := h1
        show (a.put o.dst v).eval (.tmp dj) = W
        cases hdd : o.dst with
        | none => exact h1
        | some d =>
          have hds := list_all_range hd hin
          rw [hdi, hdd] at hds
          simp only [Bool.and_eq_true, decide_eq_true_eq] at hds
          have h2 := list_all_range hds.2 hjn
          simp only [Bool.or_eq_true, beq_iff_eq, bne_iff_ne, ne_eq] at h2
          have h3 : d ≠ dj := fun e' => (h2.resolve_left (fun e2 => e e2.symm)) (by rw [hdj, e'])
          rw [eval_of _ a dj (put_at a d dj v h3)]
          exact h1
/-- The law. -/
theorem wpAny_flag {l : List Oper} (n : Nat) (C : Array Bool → World → Prop) (us : List Value) (hB : monoB l.toArray n a0.tmps.size = true) (hul : us.length = n) (hC0 : C (Array.replicate l.toArray.size false) w0)
    (h : FlagR P l.toArray n a0 C us n 0 l) (hF : ∀ D w, (∀ i, i < n → D.getD i false = true) → C D w → FinN P l.toArray Q w (us.map Pv.eq) l a0) : wpAny P .any l.toArray Q l.toArray.size (Array.replicate l.toArray.size false) a0 w0 := by
  simp only [monoB, Bool.and_eq_true, decide_eq_true_eq] at hB
  obtain ⟨⟨⟨⟨hsel, hn⟩, htail⟩, htopo⟩, hdist⟩ := hB
  simp only [tailB, Bool.and_eq_true] at htail
  obtain ⟨hblk, hseq⟩ := htail
  have hnl : n ≤ l.length := by simpa using hn
  have htl : (l.take n).length = n := by simp; omega
  have hVn : us.length = n := hul
  have hdl : (l.drop n).length = l.toArray.size - n := by simp
  have hnext : ∀ i o, i < n → l.toArray[i]? = some o → (l.take n)[i]? = some o := fun i o hi ho => by
    rw [List.getElem?_take, if_pos hi]
    simpa using ho
  have key : ∀ m D a w, FInv l.toArray n a0 C us D a w → cnt D n = m → wpAny P .any l.toArray Q (m + (l.toArray.size - n)) D a w := by
    intro m
    induction m with
    | zero =>
      intro D a w inv hc
      have hall := cnt_zero hc
      have hD : D = Array.replicate n true ++ Array.replicate (l.toArray.size - n) false := by
        have hsz := inv.head.size
        refine Array.ext (by simp [hsz]; omega) fun i h1 h2 => ?_
        rw [Array.getElem_append]
        by_cases hi : i < n
        · have := hall i hi
          simp [h1] at this
          simp [hi, this]
        · have := inv.head.tail i (by omega) (by omega)
          simp [h1] at this
          simp [hi, this]
      have hlen : (us.map Pv.eq).length = (l.take n).length := by rw [List.length_map, hul, htl]
      have hk : ∀ (k : Nat) (V : Pv) (o : Oper), (us.map Pv.eq)[k]? = some V → (l.take n)[k]? = some o → V.p (match o.dst with | some d => a.eval (.tmp d) | none => undef) w := by
        intro k V o hv ho
        rw [List.getElem?_map] at hv
        obtain ⟨u, hu, rfl⟩ := Option.map_eq_some_iff.1 hv
        have hkn : k < n := by have := (List.getElem?_eq_some_iff.1 hu).1; omega
        have h1 := inv.known k u (hall k hkn) hu
        have h2 : dstAt l.toArray k = o.dst := by
          have : l[k]? = some o := by rw [List.getElem?_take, if_pos hkn] at ho; exact ho
          simp [dstAt, this]
        rw [h2] at h1
        refine Eq.trans ?_ h1
        unfold valOf; cases o.dst <;> rfl
      have hcut := FinN.cut (Vs := us.map Pv.eq) (os := l) (by rw [List.length_map]; omega) (hF D w hall inv.cls)
      rw [show (us.map Pv.eq).length = n by rw [List.length_map]; exact hul] at hcut
      have hfin := Fin'.all hlen hk hcut
      have hon : onto a ((l.take n).map (·.dst)) a0 = a := by
        refine act_ext (fun t => onto_at a t _ _ inv.tsize.symm ?_) ((onto_defers _ _ _).trans inv.defers.symm)
        by_cases ht : some t ∈ (l.take n).map (·.dst)
        · exact .inl ht
        · refine .inr (inv.rest t fun j hj _ e => ht ?_).symm
          have hjl : j < l.length := by omega
          have : l[j].dst = some t := by simpa [dstAt, hjl] using e
          exact List.mem_map.2 ⟨l[j], List.mem_iff_getElem?.2 ⟨j, by rw [List.getElem?_take, if_pos hj, List.getElem?_eq_getElem hjl]⟩, this⟩
      rw [hon] at hfin
      have := wpAny_of_seq (md := .any) (Q' := Q) (l.drop n) n D a w (fun j => by simp [List.getElem?_drop]) (by rw [hdl, hD]; exact hseq) hfin
      rw [hdl] at this
      rwa [Nat.zero_add]
    | succ m ih =>
      intro D a w inv hc
      have hready : ∀ i ∈ Region.ready .any l.toArray D, i < n := by
        intro i hi
        rcases Nat.lt_or_ge i n with h' | h'
        · exact h'
        · obtain ⟨hu, oi, hoi, hall⟩ := mem_ready.1 hi
          have hlt : i < l.toArray.size := (Array.getElem?_eq_some_iff.1 hoi).1
          exfalso
          obtain ⟨k, hk, hkd⟩ : ∃ k, k < n ∧ D.getD k false = false := by
            refine Classical.byContradiction fun hno => ?_
            have : ∀ k, k ≤ n → cnt D k = 0 := by
              intro k
              induction k with
              | zero => intro _; rfl
              | succ k ihk =>
                intro hk
                have h1 : D.getD k false = true := by
                  refine Classical.byContradiction fun hx => hno ⟨k, by omega, by simpa using hx⟩
                simp only [cnt, h1, ihk (by omega)]
                rfl
            rw [this n (Nat.le_refl _)] at hc
            omega
          have hb := list_all_range hblk hlt
          simp only [Bool.or_eq_true, decide_eq_true_eq] at hb
          have hb := list_all_range (hb.resolve_left (by omega)) hk
          simp only [Bool.not_eq_true'] at hb
          have hik : i ≠ k := by omega
          have : av l.toArray k n i = true := by
            have hav := fun f j hj => av_of (ops := l.toArray) inv.head.closed inv.head.size hkd f j hj
            cases hn0 : n with
            | zero => simp [av, hik]
            | succ f =>
              simp only [av, hoi, Option.map_some, Option.getD_some, Bool.and_eq_true, bne_iff_ne]
              refine ⟨hik, ?_⟩
              rw [Array.all_eq_true_iff_forall_mem]
              intro e he
              by_cases hbd : Region.binds .any e = true
              · simp [hbd, hav f e.on (hall e he hbd)]
              · simp [hbd]
          rw [hb] at this
          cases this
      have hne : Region.ready .any l.toArray D ≠ [] := by
        have hex : ∃ k, k < n ∧ D.getD k false = false ∧ ∀ j, j < k → D.getD j false = true := by
          have : ∀ k, k ≤ n → (∃ q, q < k ∧ D.getD q false = false ∧ ∀ j, j < q → D.getD j false = true) ∨ (cnt D k = 0) := by
            intro k
            induction k with
            | zero => intro _; exact .inr rfl
            | succ k ihk =>
              intro hk
              rcases ihk (by omega) with ⟨q, h1, h2⟩ | h0
              · exact .inl ⟨q, by omega, h2⟩
              · cases hq : D.getD k false with
                | true => right; simp only [cnt, hq, h0]; rfl
                | false => exact .inl ⟨k, by omega, hq, cnt_zero h0⟩
          rcases this n (Nat.le_refl _) with ⟨q, h1, h2⟩ | h0
          · exact ⟨q, h1, h2⟩
          · omega
        obtain ⟨k, hk, hkd, hbel⟩ := hex
        have hkl : k < l.toArray.size := by omega
        have ho : l.toArray[k]? = some l.toArray[k] := Array.getElem?_eq_getElem hkl
        have : k ∈ Region.ready .any l.toArray D := by
          refine mem_ready.2 ⟨getD_in (by rw [inv.head.size]; exact hkl) hkd, _, ho, fun e he hb => hbel _ ?_⟩
          have ht := list_all_range htopo hk
          simp only [ho, Option.map_some, Option.getD_some] at ht
          have := Array.all_eq_true_iff_forall_mem.1 ht e he
          simpa [hb] using this
        intro e
        rw [e] at this
        cases this
      rw [show m + 1 + (l.toArray.size - n) = (m + (l.toArray.size - n)) + 1 by omega]
      refine ⟨fun e => absurd e hne, fun i hi => ?_⟩
      have hin := hready i hi
      obtain ⟨hu, o, ho, hall⟩ := mem_ready.1 hi
      obtain ⟨js, hchk, hask⟩ := FlagR.out h i o hin (by simpa using ho)
      simp only [Nat.zero_add, Bool.and_eq_true] at hchk hask
      obtain ⟨hpair, hlook⟩ := hchk
      have hdst : ∀ d, o.dst = some d → d < a.tmps.size := by
        intro d hd
        have := list_all_range hdist hin
        have h2 : dstAt l.toArray i = some d := by simp only [dstAt, ho]; exact hd
        rw [h2] at this
        simp only [Bool.and_eq_true, decide_eq_true_eq] at this
        rw [inv.tsize]
        exact this.1
      have hjs : ∀ x : Nat × Tmp, x ∈ js → dstAt l.toArray x.1 = some x.2 ∧ D.getD x.1 false = true ∧ x.1 < i := by
        intro x hx
        have := List.all_eq_true.1 hpair x hx
        simp only [Bool.and_eq_true, beq_iff_eq] at this
        obtain ⟨oj, hoj, e, he, hb, hon⟩ := Region.waitsFor_spec this.2
        obtain rfl : o = oj := Option.some.inj (ho.symm.trans hoj)
        have ht := list_all_range htopo hin
        simp only [ho, Option.map_some, Option.getD_some] at ht
        have ht := Array.all_eq_true_iff_forall_mem.1 ht e he
        simp only [hb, Bool.not_true, Bool.false_or, decide_eq_true_eq] at ht
        exact ⟨this.1, by rw [← hon]; exact hall e he hb, by rw [← hon]; exact ht⟩
      have hA := hask D w inv.head.size (getD_both hu) (fun k hk => by
        cases hdk : D.getD k false with
        | false => rfl
        | true => rw [av_of (ops := l.toArray) inv.head.closed inv.head.size (getD_both hu) n k hdk] at hk; cases hk) inv.cls
      have hW := Ask.all (b := a) (fun x hx => by
        obtain ⟨h1, h2, h3⟩ := hjs x hx
        have hxl : x.1 < us.length := by omega
        have h4 : us[x.1]? = some us[x.1] := List.getElem?_eq_getElem hxl
        have h5 := inv.known x.1 _ h2 h4
        rw [h1] at h5
        have : (us.map Pv.eq).getD x.1 Pv.any = Pv.eq us[x.1] := by
          rw [List.getD_eq_getElem?_getD, List.getElem?_map, h4]
          rfl
        rw [this]
        exact h5) hA
      have hop := toldC_op (Q := Q) (ops := l.toArray) (a0 := a0) (a := a) (Region.noSelect_spec hsel i o · · ho) hdst ((onto_size _ _ _).trans inv.tsize.symm) (fun t ht => by
        refine onto_at a t _ _ inv.tsize.symm ?_
        have h1 : (o.looksAt l.toArray).all (fun t => js.any (·.2 == t) || keptB l.toArray n i t) = true := by
          simpa only [lookB, ho, Option.map_some, Option.getD_some] using hlook
        have h2 := List.all_eq_true.1 h1 t ht
        simp only [Bool.or_eq_true] at h2
        rcases h2 with h2 | h2
        · left
          obtain ⟨x, hx, hxt⟩ := List.any_eq_true.1 h2
          exact List.mem_map.2 ⟨x, hx, by rw [beq_iff_eq.1 hxt]⟩
        · right
          refine (inv.rest t fun j hj hD e => ?_).symm
          have h3 := list_all_range h2 hj
          simp only [Bool.or_eq_true, bne_iff_ne, ne_eq, beq_iff_eq] at h3
          rcases h3 with (h3 | h3) | h3
          · exact h3 e
          · obtain ⟨oj, hoj, e', he', hb', hon⟩ := Region.waitsFor_spec h3
            have := inv.head.closed j oj hoj hD e' he' hb'
            rw [hon, getD_both hu] at this
            cases this
          · subst h3
            rw [getD_both hu] at hD
            cases hD) ho (onto_defers _ _ _) hW
      refine wpOp_mono (fun a' w' hk => ?_) hop
      obtain ⟨v, ha, hv, hg⟩ := hk
      exact ih _ a' w' (finv_step inv hdist hi hin ho (by omega) ha hv hg) (by have := (cnt_set (D := D) (i := i) n).2 hin hu; omega)
  have h0 := key n (Array.replicate l.toArray.size false) a0 w0 ⟨⟨by simp, (fun j oj _ hD => by rw [getD_replicate_false] at hD; cases hD), fun t _ ht => by simp only [List.size_toArray] at ht ⊢; simp [ht]⟩, hC0, rfl, rfl, fun _ _ => rfl, (fun j V hD => by rw [getD_replicate_false] at hD; cases hD)⟩ (cnt_false _ n)
  rwa [show n + (l.toArray.size - n) = l.toArray.size by omega] at h0
theorem askc_do {u : Value} {K : World → Prop} {ds : List Deferred} {o : Oper} {a : Act} {w : World} (hw : Region.wanted o (yielded ops a.tmps) = true)
    (h : ∀ K' : Act → World → Prop, (∀ a' w', a'.defers = ds → (match o.dst with | some d => a'.eval (.tmp d) | none => undef) = u → K w' → K' a' w') → o.wp P a w K' (ToldC u o.dst ds K)) : wpList P ops (ToldC u o.dst ds K) [o] a w := by
  unfold wpList
  rw [if_pos hw]
  exact .inl (h _ fun a' w' h1 h2 h3 => ⟨rfl, h1, h2, h3⟩)
end
end Go.Proofs.YtlhjbllfcbojmaaDoor

namespace Go.Proofs.YtlhjbllfcbojmaaDoor
open Go.RowKit

theorem add_gr (a b m : Int) (w : World) (ha : U64 a) (hb : U64 b) :
    Calls Tryd.prog 71 #[.int .u64 a, .int .u64 b, .int .u64 m] w fun e w' => e = .returned (.int .u64 (addI a b m)) ∧ w.grownBy w' none :=
  (add_any a b m w ha hb).mono fun _ _ ⟨he, n, hn⟩ => ⟨he, by rw [hn]; exact grownBy_drewN (World.grownBy.refl w none) n⟩
theorem sub_gr (a b m : Int) (w : World) (ha : U64 a) (hb : U64 b) :
    Calls Tryd.prog 20 #[.int .u64 a, .int .u64 b, .int .u64 m] w fun e w' => e = .returned (.int .u64 (subI a b m)) ∧ w.grownBy w' none :=
  (sub_any a b m w ha hb).mono fun _ _ ⟨he, n, hn⟩ => ⟨he, by rw [hn]; exact grownBy_drewN (World.grownBy.refl w none) n⟩
theorem mul_gr (a b m : Int) (w : World) (ha : U64 a) (hb : U64 b) :
    Calls Tryd.prog 21 #[.int .u64 a, .int .u64 b, .int .u64 m] w fun e w' => e = .returned (.int .u64 (mulI a b m)) ∧ w.grownBy w' none :=
  (mul_any a b m w ha hb).mono fun _ _ ⟨he, n, hn⟩ => ⟨he, by rw [hn]; exact grownBy_drewN (World.grownBy.refl w none) n⟩
theorem emod_U64 (a m : Int) (ha : U64 a) (hm : 0 < m) : U64 (a % m) := by
  obtain ⟨a0, a1⟩ := ha
  have h1 := Int.emod_nonneg a (show m ≠ 0 by omega)
  have h3 := Int.mul_nonneg (Int.le_of_lt hm) (Int.ediv_nonneg a0 (Int.le_of_lt hm))
  have h4 := Int.mul_ediv_add_emod a m
  exact ⟨h1, by omega⟩
end Go.Proofs.YtlhjbllfcbojmaaDoor

namespace Go.Proofs.YtlhjbllfcbojmaaDoor
open Go Go.RowKit Go.Shelf

attribute [local go_sem] Oper.semAt_some
/-- How far the i-th place, and another one, are from the first k, but for the i-th. -/
def othersUp (q : Int) (xs : List Int) (i : Nat) (at_ : Int) (k : Nat) : List (Int × Int) := ((List.range k).filter fun j => j != i).map fun j => (subI (xs[i]?.getD 0) (xs[j]?.getD 0) q, subI at_ (xs[j]?.getD 0) q)
def othersI (q : Int) (xs : List Int) (i : Nat) (at_ : Int) : List (Int × Int) := othersUp q xs i at_ xs.length
theorem othersUp_skip (q : Int) (xs : List Int) (i : Nat) (at_ : Int) : othersUp q xs i at_ (i + 1) = othersUp q xs i at_ i := by simp [othersUp, List.range_succ]
theorem othersUp_snoc (q : Int) (xs : List Int) (i : Nat) (at_ : Int) (k : Nat) (h : k ≠ i) : othersUp q xs i at_ (k + 1) = othersUp q xs i at_ k ++ [(subI (xs[i]?.getD 0) (xs[k]?.getD 0) q, subI at_ (xs[k]?.getD 0) q)] := by simp [othersUp, List.range_succ, h]
theorem othersUp_length (q : Int) (xs : List Int) (i : Nat) (at_ : Int) (k : Nat) : (othersUp q xs i at_ k).length ≤ k := by
  simp only [othersUp, List.length_map]
  exact Nat.le_trans (List.length_filter_le _ _) (by simp)
set_option maxHeartbeats 400000 in
theorem others_any (A : Option Addr) (n c : Nat) (i at_ q : Int) (w : World) :
    Calls Tryd.prog 94 #[.slice A n c, .int .i64 i, .int .u64 at_, .int .u64 q] w fun e w' => e = .returned (.func (.func 95) #[] #[.pointer (some ⟨w.heap.size, 0, none⟩), .pointer (some ⟨w.heap.size + 1, 0, none⟩), .pointer (some ⟨w.heap.size + 1 + 1 + 1, 0, none⟩), .pointer (some ⟨w.heap.size + 1 + 1, 0, none⟩)]) ∧ w' = (((w.alloc (.cells #[.slice A n c] 84)).alloc (.cells #[.int .i64 i] 3)).alloc (.cells #[.int .u64 at_] 22)).alloc (.cells #[.int .u64 q] 22) := by
  go_enter Tryd.func94, Tryd.ntmps94
  go_wp2
  go_ret
  exact ⟨rfl, rfl⟩
/-- What a round keeps: what lay below n₀, and four boxes. -/
def Kp4 (n₀ B1 B2 B3 B4 : Nat) (A B : World) : Prop := Below n₀ A B ∧ B.heap[B1]? = A.heap[B1]? ∧ B.heap[B2]? = A.heap[B2]? ∧ B.heap[B3]? = A.heap[B3]? ∧ B.heap[B4]? = A.heap[B4]?
theorem Kp4.refl (n₀ B1 B2 B3 B4 : Nat) (A : World) : Kp4 n₀ B1 B2 B3 B4 A A := ⟨Below.refl _ _, rfl, rfl, rfl, rfl⟩
theorem Kp4.trans {n₀ B1 B2 B3 B4 : Nat} {A B C : World} (h : Kp4 n₀ B1 B2 B3 B4 A B) (k : Kp4 n₀ B1 B2 B3 B4 B C) : Kp4 n₀ B1 B2 B3 B4 A C := ⟨h.1.trans k.1, k.2.1.trans h.2.1, k.2.2.1.trans h.2.2.1, k.2.2.2.1.trans h.2.2.2.1, k.2.2.2.2.trans h.2.2.2.2⟩
theorem Kp4.grown {n₀ B1 B2 B3 B4 : Nat} {A B : World} (hg : A.grownBy B none) (hn : n₀ ≤ A.heap.size) (h1 : B1 < A.heap.size) (h2 : B2 < A.heap.size) (h3 : B3 < A.heap.size) (h4 : B4 < A.heap.size) : Kp4 n₀ B1 B2 B3 B4 A B :=
  ⟨(below_grown hg).mono hn, hg.block _ h1 (by simp), hg.block _ h2 (by simp), hg.block _ h3 (by simp), hg.block _ h4 (by simp)⟩
theorem Kp4.b {n₀ B1 B2 B3 B4 : Nat} {w : World} (hn : n₀ ≤ w.heap.size) (h1 : B1 < w.heap.size) (h2 : B2 < w.heap.size) (h3 : B3 < w.heap.size) (h4 : B4 < w.heap.size) (W : World) (l : Nat) (o o' : Obj) (hl : w.heap.size ≤ l) (h : W.heap[l]? = some o) (k1 : o.isCells = false) (k2 : o.isWalk = false) : Kp4 n₀ B1 B2 B3 B4 W (W.putObj l o') := by
  have hlt := (Array.getElem?_eq_some_iff.1 h).1
  have hg := grownBy_putObj' W l o'
  exact ⟨belowK_b hn W l o o' hl h k1 k2, hg.block _ (by omega) (fun e => by injection e with e; omega), hg.block _ (by omega) (fun e => by injection e with e; omega), hg.block _ (by omega) (fun e => by injection e with e; omega), hg.block _ (by omega) (fun e => by injection e with e; omega)⟩
set_option maxRecDepth 100000 in
set_option maxHeartbeats 2000000 in
theorem others_goes (nn : Nat) (hn : 1 ≤ nn) (B1 B2 B3 B4 : Nat) (v : Value) (xs : List Int) (i : Nat) (at_ q : Int) (X : Nat → Prop) (w₀ w1 : World) (h01 : Below w₀.heap.size w₀ w1) (hb1 : Boxed w1 B1 84 v) (hb2 : Boxed w1 B2 3 (.int .i64 i)) (hb3 : Boxed w1 B3 22 (.int .u64 q)) (hb4 : Boxed w1 B4 22 (.int .u64 at_)) (hxs : Sl encU X w₀ v xs) (hi : i < xs.length) (hu : U64 at_) :
    SeqGoes Fence.wide nn Tryd.prog 95 #[.pointer (some ⟨B1, 0, none⟩), .pointer (some ⟨B2, 0, none⟩), .pointer (some ⟨B3, 0, none⟩), .pointer (some ⟨B4, 0, none⟩)] (fun x : Int × Int => #[.int .u64 x.1, .int .u64 x.2]) (fun x _ => U64 x.1 ∧ U64 x.2) (Kp4 w₀.heap.size B1 B2 B3 B4) (fun ys => ys = othersI q xs i at_) xs.length w1 := by
  intro l J W hW hJ hY h0
  refine callsIn_of_wp Tryd.func95 rfl trivial ?_ rfl
  simp only [Tryd.ntmps95, List.size_toArray, List.length_cons, List.length_nil, Nat.reduceAdd, Nat.reduceSub, Array.replicate_succ, Array.replicate_zero, List.push_toArray, List.append_toArray, List.nil_append, List.cons_append]
  have HW1 : Hid (Boxed W B1 84 v) := Lib.hid ((hW.5 B1 hb1.lt).trans hb1)
  have HW2 : Hid (Boxed W B2 3 (.int .i64 i)) := Lib.hid ((hW.5 B2 hb2.lt).trans hb2)
  have HW3 : Hid (Boxed W B3 22 (.int .u64 q)) := Lib.hid ((hW.5 B3 hb3.lt).trans hb3)
  have HW4 : Hid (Boxed W B4 22 (.int .u64 at_)) := Lib.hid ((hW.5 B4 hb4.lt).trans hb4)
  have HG0 : Hid (w₀.grownBy W none) := Lib.hid (grown_of_below (h01.trans (hW.mono h01.size)))
  have HXS := Lib.hid hxs
  have HUA := Lib.hid hu
  obtain ⟨g, o, c, _, e, _, _, _, _⟩ := hxs.at (k := i) hi
  subst e
  obtain ⟨n, hnn⟩ : ∃ n, n = xs.length := ⟨_, rfl⟩
  have HN := Lib.hid hnn
  rw [← hnn] at HXS HW1 hY hi
  have ca := HW1.out.cell
  have hn9 : n ≤ 9223372036854775807 := by rw [hnn]; exact hxs.bound
  have HH0 := Lib.hid h0
  have hinI : (i : Int) < (n : Int) := by omega
  have hi0 : (0 : Int) ≤ (i : Int) := by omega
  clear hb1 hb2 hb3 hb4 hxs h0 hnn hu
  gi_wp2
  gi_loopw [10] (fun s10 wr => ∃ (k : Nat) (pre : List (Int × Int)), k ≤ n ∧ s10 = .int .i64 k ∧ Hid (pre = othersUp q xs i at_ k ∧ J pre wr ∧ Kp4 w₀.heap.size B1 B2 B3 B4 W wr)) (fun s10 _ => n - (intOf s10).toNat)
  case atStart => exact ⟨0, [], by omega, rfl, Lib.hid ⟨rfl, HH0.out, Kp4.refl _ _ _ _ _ _⟩⟩
  case round =>
    rename World => wr
    obtain ⟨k, pre, hk, rfl, HX⟩ := hrel
    by_cases hlt : k < n
    · have hki : (k : Int) < (n : Int) := by omega
      have hk0 : (0 : Int) ≤ (k : Int) := by omega
      have hpl : pre.length ≤ k := by rw [HX.out.1]; exact othersUp_length _ _ _ _ _
      have hJk : J pre wr.drew := hJ _ wr wr.drew none HX.out.2.1 (grownBy_drewN (World.grownBy.refl wr none) 1) (by simp)
      have HGr : Hid (w₀.grownBy wr.drew none) := Lib.hid (grownBy_drewN (grown_of_below ((below_grown HG0.out).trans HX.out.2.2.1)) 1)
      have HB1 : Hid (Boxed wr.drew B1 84 (.slice (some ⟨g, o, none⟩) n c)) := Lib.hid (HX.out.2.2.2.1.trans HW1.out)
      have HB2 : Hid (Boxed wr.drew B2 3 (.int .i64 i)) := Lib.hid (HX.out.2.2.2.2.1.trans HW2.out)
      have HB3 : Hid (Boxed wr.drew B3 22 (.int .u64 q)) := Lib.hid (HX.out.2.2.2.2.2.1.trans HW3.out)
      have HB4 : Hid (Boxed wr.drew B4 22 (.int .u64 at_)) := Lib.hid (HX.out.2.2.2.2.2.2.trans HW4.out)
      have HKD : Hid (Kp4 w₀.heap.size B1 B2 B3 B4 W wr.drew) := Lib.hid (HX.out.2.2.trans ⟨⟨rfl, rfl, rfl, Nat.le_refl _, fun _ _ => rfl⟩, rfl, rfl, rfl, rfl⟩)
      have hcell : ∀ j (hj : j < xs.length), ∀ w', wr.drew.grownBy w' none → w'.cell? ⟨g, o + j, none⟩ = some (.int .u64 xs[j]) ∧ U64 xs[j] := fun j hj w' hw => by
        obtain ⟨g', o', c', e, _, _, hcu, hu⟩ := (HXS.out.kept (HGr.out.trans hw)).atU hj
        injection e with e1 e2 e3
        injection e1 with e1
        injection e1 with e4 e5
        subst e4 e5
        exact ⟨hcu, hu⟩
      have hkx : k < xs.length := by rw [← HN.out]; exact hlt
      have hix : i < xs.length := by rw [← HN.out]; exact hi
      have hck : wr.cell? ⟨g, o + k, none⟩ = some (.int .u64 xs[k]) := (hcell k hkx wr.drew (World.grownBy.refl _ _)).1
      have HUK := Lib.hid (hcell k hkx wr.drew (World.grownBy.refl _ _)).2
      have HUI := Lib.hid (hcell i hix wr.drew (World.grownBy.refl _ _)).2
      have HXI : Hid (∀ w', wr.drew.grownBy w' none → w'.cell? ⟨g, o + i, none⟩ = some (.int .u64 xs[i])) := Lib.hid (fun w' hw => (hcell i hix w' hw).1)
      clear hcell ca
      by_cases hki2 : k = i
      · subst hki2
        have HPN : Hid (pre = othersUp q xs k at_ (k + 1)) := Lib.hid (by rw [othersUp_skip]; exact HX.out.1)
        have hd : ((k : Int) != (k : Int)) = false := by simp
        have HJD := Lib.hid (fun w' (hw : wr.drew.grownBy w' none) => hJ pre wr.drew w' none hJk hw (by simp))
        have HKE := Lib.hid (fun w' (hw : wr.drew.grownBy w' none) => HKD.out.trans (Kp4.grown hw HGr.out.size HB1.out.lt HB2.out.lt HB3.out.lt HB4.out.lt))
        generalize xs[k] = xk at *
        clear hJk HX
        gi_wp2
        refine wpIn_wide.2 ?_
        refine wp_region_mono 19 (by kernel_rfl) (by kernel_rfl) ?_
        -- op 0 (slot 15): move
        refine MonoR.step (Pv.eq (.int .i64 (k : Int))) [] (by kernel_rfl) (fun w' hw' => ?_) ?_
        · refine ask_do rfl fun K hK => ?_
          go_simp
          exact hK _ _ rfl rfl (World.grownBy.refl _ none)
        -- op 1 (slot 16): load
        refine MonoR.step (Pv.eq (.int .i64 (k : Int))) [] (by kernel_rfl) (fun w' hw' => ?_) ?_
        · refine ask_do rfl fun K hK => ?_
          have h1c := (HB1.out.kept hw' (by simp)).cell
          have h2c := (HB2.out.kept hw' (by simp)).cell
          have h3c := (HB3.out.kept hw' (by simp)).cell
          have h4c := (HB4.out.kept hw' (by simp)).cell
          go_simp
          exact hK _ _ rfl rfl (World.grownBy.refl _ none)
        -- op 2 (slot 17): binOp
        refine MonoR.step (Pv.eq (.bool false)) [(0, 15), (1, 16)] (by kernel_rfl) (fun w' hw' => ?_) ?_
        · rintro _ rfl
          rintro _ rfl
          refine ask_do rfl fun K hK => ?_
          go_simp
          exact hK _ _ rfl rfl (World.grownBy.refl _ none)
        -- op 3 (slot 18): move
        refine MonoR.step (Pv.eq (.bool false)) [(2, 17)] (by kernel_rfl) (fun w' hw' => ?_) ?_
        · rintro _ rfl
          refine ask_do rfl fun K hK => ?_
          go_simp
          exact hK _ _ rfl rfl (World.grownBy.refl _ none)
        -- op 4 (slot 19): move [(3, 'true')]
        refine MonoR.step (Pv.eq (undef)) [(3, 18)] (by kernel_rfl) (fun w' hw' => ?_) ?_
        · rintro _ rfl
          exact ask_skip rfl rfl rfl
        -- op 5 (slot 20): load [(3, 'true')]
        refine MonoR.step (Pv.eq (undef)) [(3, 18)] (by kernel_rfl) (fun w' hw' => ?_) ?_
        · rintro _ rfl
          exact ask_skip rfl rfl rfl
        -- op 6 (slot 21): load [(3, 'true')]
        refine MonoR.step (Pv.eq (undef)) [(3, 18)] (by kernel_rfl) (fun w' hw' => ?_) ?_
        · rintro _ rfl
          exact ask_skip rfl rfl rfl
        -- op 7 (slot 22): indexAddr [(3, 'true')]
        refine MonoR.step (Pv.eq (undef)) [(3, 18), (5, 20), (6, 21)] (by kernel_rfl) (fun w' hw' => ?_) ?_
        · rintro _ rfl
          rintro _ rfl
          rintro _ rfl
          exact ask_skip rfl rfl rfl
        -- op 8 (slot 23): load [(3, 'true')]
        refine MonoR.step (Pv.eq (undef)) [(3, 18), (7, 22)] (by kernel_rfl) (fun w' hw' => ?_) ?_
        · rintro _ rfl
          rintro _ rfl
          exact ask_skip rfl rfl rfl
        -- op 9 (slot 24): move [(3, 'true')]
        refine MonoR.step (Pv.eq (undef)) [(3, 18)] (by kernel_rfl) (fun w' hw' => ?_) ?_
        · rintro _ rfl
          exact ask_skip rfl rfl rfl
        -- op 10 (slot 25): load [(3, 'true')]
        refine MonoR.step (Pv.eq (undef)) [(3, 18)] (by kernel_rfl) (fun w' hw' => ?_) ?_
        · rintro _ rfl
          exact ask_skip rfl rfl rfl
        -- op 11 (slot 26): call [(3, 'true')]
        refine MonoR.step (Pv.eq (undef)) [(3, 18), (8, 23), (9, 24), (10, 25)] (by kernel_rfl) (fun w' hw' => ?_) ?_
        · rintro _ rfl
          rintro _ rfl
          rintro _ rfl
          rintro _ rfl
          exact ask_skip rfl rfl rfl
        -- op 12 (slot 27): load [(3, 'true')]
        refine MonoR.step (Pv.eq (undef)) [(3, 18)] (by kernel_rfl) (fun w' hw' => ?_) ?_
        · rintro _ rfl
          exact ask_skip rfl rfl rfl
        -- op 13 (slot 28): move [(3, 'true')]
        refine MonoR.step (Pv.eq (undef)) [(3, 18)] (by kernel_rfl) (fun w' hw' => ?_) ?_
        · rintro _ rfl
          exact ask_skip rfl rfl rfl
        -- op 14 (slot 29): load [(3, 'true')]
        refine MonoR.step (Pv.eq (undef)) [(3, 18)] (by kernel_rfl) (fun w' hw' => ?_) ?_
        · rintro _ rfl
          exact ask_skip rfl rfl rfl
        -- op 15 (slot 30): call [(3, 'true')]
        refine MonoR.step (Pv.eq (undef)) [(3, 18), (12, 27), (13, 28), (14, 29)] (by kernel_rfl) (fun w' hw' => ?_) ?_
        · rintro _ rfl
          rintro _ rfl
          rintro _ rfl
          rintro _ rfl
          exact ask_skip rfl rfl rfl
        -- op 16 (slot 31): call [(3, 'true')]
        refine MonoR.step (Pv.eq (undef)) [(3, 18), (4, 19), (11, 26), (15, 30)] (by kernel_rfl) (fun w' hw' => ?_) ?_
        · rintro _ rfl
          rintro _ rfl
          rintro _ rfl
          rintro _ rfl
          exact ask_skip rfl rfl rfl
        -- op 17 (slot 32): unOp [(3, 'true')]
        refine MonoR.step (Pv.eq (undef)) [(3, 18), (16, 31)] (by kernel_rfl) (fun w' hw' => ?_) ?_
        · rintro _ rfl
          rintro _ rfl
          exact ask_skip rfl rfl rfl
        -- op 18 (slot 33): pick
        refine MonoR.step (Pv.eq (.bool false)) [(3, 18), (17, 32)] (by kernel_rfl) (fun w' hw' => ?_) ?_
        · rintro _ rfl
          rintro _ rfl
          refine ask_do rfl fun K hK => ?_
          go_simp
          exact hK _ _ rfl rfl (World.grownBy.refl _ none)
        intro w3 hw3
        iterate 18 (intro _ _)
        rintro _ rfl
        have HJ3 := Lib.hid (HJD.out w3 hw3)
        have HK3 := Lib.hid (HKE.out w3 hw3)
        clear hw3
        refine wpList_nil ?_
        simp only [Act.put, List.setIfInBounds_toArray, List.set_cons_zero, List.set_cons_succ]
        go_wp2_with fail
        gi_wp2
        exact ⟨⟨k + 1, pre, by omega, by go_num, Lib.hid ⟨HPN.out, HJ3.out, HK3.out⟩⟩, by simp [intOf]; omega⟩
      · have HPN : Hid (pre ++ [(subI xs[i] xs[k] q, subI at_ xs[k] q)] = othersUp q xs i at_ (k + 1)) := Lib.hid (by rw [othersUp_snoc _ _ _ _ _ hki2, HX.out.1, List.getElem?_eq_getElem hkx, List.getElem?_eq_getElem hix]; rfl)
        have hd : ((k : Int) != (i : Int)) = true := by simp; omega
        have HRY := Lib.hid (fun w' (hw : wr.drew.grownBy w' none) => hY pre (subI xs[i] xs[k] q, subI at_ xs[k] q) w' (hJ pre wr.drew w' none hJk hw (by simp)) ⟨subI_U64 _ _ _, subI_U64 _ _ _⟩ (by omega))
        have HKE := Lib.hid (fun w' (hw : wr.drew.grownBy w' none) => HKD.out.trans (Kp4.grown hw HGr.out.size HB1.out.lt HB2.out.lt HB3.out.lt HB4.out.lt))
        obtain ⟨xk, hxk⟩ : ∃ y, y = xs[k] := ⟨_, rfl⟩
        obtain ⟨xi, hxi⟩ : ∃ y, y = xs[i] := ⟨_, rfl⟩
        rw [← hxk] at hck HUK HPN HRY
        rw [← hxi] at HUI HXI HPN HRY
        clear hJk HX hxk hxi
        gi_wp2
        refine wpIn_region_mono 16 (by kernel_rfl) (by kernel_rfl) (by kernel_rfl) ?_
        -- op 0 (slot 15): move
        refine MonoR.step (Pv.eq (.int .i64 (k : Int))) [] (by kernel_rfl) (fun w' hw' => ?_) ?_
        · refine ask_do rfl fun K hK => ?_
          go_simp
          exact hK _ _ rfl rfl (World.grownBy.refl _ none)
        -- op 1 (slot 16): load
        refine MonoR.step (Pv.eq (.int .i64 (i : Int))) [] (by kernel_rfl) (fun w' hw' => ?_) ?_
        · refine ask_do rfl fun K hK => ?_
          have h1c := (HB1.out.kept hw' (by simp)).cell
          have h2c := (HB2.out.kept hw' (by simp)).cell
          have h3c := (HB3.out.kept hw' (by simp)).cell
          have h4c := (HB4.out.kept hw' (by simp)).cell
          have hxi := HXI.out w' hw'
          go_simp
          exact hK _ _ rfl rfl (World.grownBy.refl _ none)
        -- op 2 (slot 17): binOp
        refine MonoR.step (Pv.eq (.bool true)) [(0, 15), (1, 16)] (by kernel_rfl) (fun w' hw' => ?_) ?_
        · rintro _ rfl
          rintro _ rfl
          refine ask_do rfl fun K hK => ?_
          go_simp
          exact hK _ _ rfl rfl (World.grownBy.refl _ none)
        -- op 3 (slot 18): move
        refine MonoR.step (Pv.eq (.bool true)) [(2, 17)] (by kernel_rfl) (fun w' hw' => ?_) ?_
        · rintro _ rfl
          refine ask_do rfl fun K hK => ?_
          go_simp
          exact hK _ _ rfl rfl (World.grownBy.refl _ none)
        -- op 4 (slot 19): move [(3, 'true')]
        refine MonoR.step (Pv.eq (.func (.yield l) #[] #[])) [(3, 18)] (by kernel_rfl) (fun w' hw' => ?_) ?_
        · rintro _ rfl
          refine ask_do rfl fun K hK => ?_
          go_simp
          exact hK _ _ rfl rfl (World.grownBy.refl _ none)
        -- op 5 (slot 20): load [(3, 'true')]
        refine MonoR.step (Pv.eq (.slice (some ⟨g, o, none⟩) n c)) [(3, 18)] (by kernel_rfl) (fun w' hw' => ?_) ?_
        · rintro _ rfl
          refine ask_do rfl fun K hK => ?_
          have h1c := (HB1.out.kept hw' (by simp)).cell
          have h2c := (HB2.out.kept hw' (by simp)).cell
          have h3c := (HB3.out.kept hw' (by simp)).cell
          have h4c := (HB4.out.kept hw' (by simp)).cell
          have hxi := HXI.out w' hw'
          go_simp
          exact hK _ _ rfl rfl (World.grownBy.refl _ none)
        -- op 6 (slot 21): load [(3, 'true')]
        refine MonoR.step (Pv.eq (.int .i64 (i : Int))) [(3, 18)] (by kernel_rfl) (fun w' hw' => ?_) ?_
        · rintro _ rfl
          refine ask_do rfl fun K hK => ?_
          have h1c := (HB1.out.kept hw' (by simp)).cell
          have h2c := (HB2.out.kept hw' (by simp)).cell
          have h3c := (HB3.out.kept hw' (by simp)).cell
          have h4c := (HB4.out.kept hw' (by simp)).cell
          have hxi := HXI.out w' hw'
          go_simp
          exact hK _ _ rfl rfl (World.grownBy.refl _ none)
        -- op 7 (slot 22): indexAddr [(3, 'true')]
        refine MonoR.step (Pv.eq (.pointer (some ⟨g, o + i, none⟩))) [(3, 18), (5, 20), (6, 21)] (by kernel_rfl) (fun w' hw' => ?_) ?_
        · rintro _ rfl
          rintro _ rfl
          rintro _ rfl
          refine ask_do rfl fun K hK => ?_
          go_simp
          exact hK _ _ rfl rfl (World.grownBy.refl _ none)
        -- op 8 (slot 23): load [(3, 'true')]
        refine MonoR.step (Pv.eq (.int .u64 xi)) [(3, 18), (7, 22)] (by kernel_rfl) (fun w' hw' => ?_) ?_
        · rintro _ rfl
          rintro _ rfl
          refine ask_do rfl fun K hK => ?_
          have h1c := (HB1.out.kept hw' (by simp)).cell
          have h2c := (HB2.out.kept hw' (by simp)).cell
          have h3c := (HB3.out.kept hw' (by simp)).cell
          have h4c := (HB4.out.kept hw' (by simp)).cell
          have hxi := HXI.out w' hw'
          go_simp
          exact hK _ _ rfl rfl (World.grownBy.refl _ none)
        -- op 9 (slot 24): move [(3, 'true')]
        refine MonoR.step (Pv.eq (.int .u64 xk)) [(3, 18)] (by kernel_rfl) (fun w' hw' => ?_) ?_
        · rintro _ rfl
          refine ask_do rfl fun K hK => ?_
          go_simp
          exact hK _ _ rfl rfl (World.grownBy.refl _ none)
        -- op 10 (slot 25): load [(3, 'true')]
        refine MonoR.step (Pv.eq (.int .u64 q)) [(3, 18)] (by kernel_rfl) (fun w' hw' => ?_) ?_
        · rintro _ rfl
          refine ask_do rfl fun K hK => ?_
          have h1c := (HB1.out.kept hw' (by simp)).cell
          have h2c := (HB2.out.kept hw' (by simp)).cell
          have h3c := (HB3.out.kept hw' (by simp)).cell
          have h4c := (HB4.out.kept hw' (by simp)).cell
          have hxi := HXI.out w' hw'
          go_simp
          exact hK _ _ rfl rfl (World.grownBy.refl _ none)
        -- op 11 (slot 26): call [(3, 'true')]
        refine MonoR.step (Pv.eq (.int .u64 (subI xi xk q))) [(3, 18), (8, 23), (9, 24), (10, 25)] (by kernel_rfl) (fun w' hw' => ?_) ?_
        · rintro _ rfl
          rintro _ rfl
          rintro _ rfl
          rintro _ rfl
          refine ask_do rfl fun K hK => ?_
          go_simp
          refine (sub_gr xi xk q w' HUI.out HUK.out).mono ?_
          rintro e w3 ⟨rfl, hg⟩
          exact hK _ _ rfl rfl hg
        -- op 12 (slot 27): load [(3, 'true')]
        refine MonoR.step (Pv.eq (.int .u64 at_)) [(3, 18)] (by kernel_rfl) (fun w' hw' => ?_) ?_
        · rintro _ rfl
          refine ask_do rfl fun K hK => ?_
          have h1c := (HB1.out.kept hw' (by simp)).cell
          have h2c := (HB2.out.kept hw' (by simp)).cell
          have h3c := (HB3.out.kept hw' (by simp)).cell
          have h4c := (HB4.out.kept hw' (by simp)).cell
          have hxi := HXI.out w' hw'
          go_simp
          exact hK _ _ rfl rfl (World.grownBy.refl _ none)
        -- op 13 (slot 28): move [(3, 'true')]
        refine MonoR.step (Pv.eq (.int .u64 xk)) [(3, 18)] (by kernel_rfl) (fun w' hw' => ?_) ?_
        · rintro _ rfl
          refine ask_do rfl fun K hK => ?_
          go_simp
          exact hK _ _ rfl rfl (World.grownBy.refl _ none)
        -- op 14 (slot 29): load [(3, 'true')]
        refine MonoR.step (Pv.eq (.int .u64 q)) [(3, 18)] (by kernel_rfl) (fun w' hw' => ?_) ?_
        · rintro _ rfl
          refine ask_do rfl fun K hK => ?_
          have h1c := (HB1.out.kept hw' (by simp)).cell
          have h2c := (HB2.out.kept hw' (by simp)).cell
          have h3c := (HB3.out.kept hw' (by simp)).cell
          have h4c := (HB4.out.kept hw' (by simp)).cell
          have hxi := HXI.out w' hw'
          go_simp
          exact hK _ _ rfl rfl (World.grownBy.refl _ none)
        -- op 15 (slot 30): call [(3, 'true')]
        refine MonoR.step (Pv.eq (.int .u64 (subI at_ xk q))) [(3, 18), (12, 27), (13, 28), (14, 29)] (by kernel_rfl) (fun w' hw' => ?_) ?_
        · rintro _ rfl
          rintro _ rfl
          rintro _ rfl
          rintro _ rfl
          refine ask_do rfl fun K hK => ?_
          go_simp
          refine (sub_gr at_ xk q w' HUA.out HUK.out).mono ?_
          rintro e w3 ⟨rfl, hg⟩
          exact hK _ _ rfl rfl hg
        intro w3 hw3
        intro y0 e0 y1 e1 y2 e2 y3 e3 y4 e4 y5 e5 y6 e6 y7 e7 y8 e8 y9 e9 y10 e10 y11 e11 y12 e12 y13 e13 y14 e14 y15 e15
        show wpListIn Fence.wide nn Tryd.prog _ _ _ _ w3
        have e0 : y0 = .int .i64 (k : Int) := e0
        subst e0
        have e1 : y1 = .int .i64 (i : Int) := e1
        subst e1
        have e2 : y2 = .bool true := e2
        subst e2
        have e3 : y3 = .bool true := e3
        subst e3
        have e4 : y4 = .func (.yield l) #[] #[] := e4
        subst e4
        have e5 : y5 = .slice (some ⟨g, o, none⟩) n c := e5
        subst e5
        have e6 : y6 = .int .i64 (i : Int) := e6
        subst e6
        have e7 : y7 = .pointer (some ⟨g, o + i, none⟩) := e7
        subst e7
        have e8 : y8 = .int .u64 xi := e8
        subst e8
        have e9 : y9 = .int .u64 xk := e9
        subst e9
        have e10 : y10 = .int .u64 q := e10
        subst e10
        have e11 : y11 = .int .u64 (subI xi xk q) := e11
        subst e11
        have e12 : y12 = .int .u64 at_ := e12
        subst e12
        have e13 : y13 = .int .u64 xk := e13
        subst e13
        have e14 : y14 = .int .u64 q := e14
        subst e14
        have e15 : y15 = .int .u64 (subI at_ xk q) := e15
        subst e15
        simp only [Act.put, List.setIfInBounds_toArray, List.set_cons_zero, List.set_cons_succ]
        have hyy := HRY.out w3 hw3
        clear HRY
        unfold YieldAt at hyy
        try dsimp only at hyy
        refine Exists.elim hyy fun fn hyy1 => Exists.elim hyy1 fun tmps hyy2 => Exists.elim hyy2 fun assign hyy3 => Exists.elim hyy3 fun body hyy4 => ?_
        clear hyy hyy1 hyy2 hyy3
        have hy := hyy4.1
        have hR := hyy4.2
        clear hyy4
        have HR := Lib.hid hR
        have HK3 := Lib.hid (HKE.out w3 hw3)
        clear hw3 hR
        gi_wp2_with ((with_reducible refine HR.out.mono ?_); rintro e W' ⟨rfl, hJ2, hK2⟩)
        exact ⟨⟨k + 1, _, by omega, by go_num, Lib.hid ⟨HPN.out, hJ2, HK3.out.trans hK2⟩⟩, by simp [intOf]; omega⟩
    · obtain rfl : k = n := by omega
      gi_wp2
      go_end0
      exact ⟨⟨_, rfl⟩, pre, by rw [HX.out.1, HN.out]; rfl, HX.out.2.1⟩
end Go.Proofs.YtlhjbllfcbojmaaDoor

namespace Go.Proofs.YtlhjbllfcbojmaaDoor
open Go Go.RowKit Go.Shelf

attribute [local go_sem] Oper.semAt_some
theorem wpIn_round_any {P : Program} {ops : Array Oper} {R : Act → World → Prop} {Q : Exit → Act → World → Prop} {l0 n id : Nat} {a : Act} {w : World} (hm : P.follows .mixedOrders = true) (hdf : noDefer ops = true) (hR : ∀ a w, R a w → Q .normal a w)
    (h : wpAny P .any ops (Only R) ops.size (Array.replicate ops.size false) a w.drew) : (Code.region id ops true).wpIn (Fence.wide.inRound l0) n P Q a w :=
  wpIn_region_any hm (wpAnyIn_of_any (noDefer_spec hdf) hR _ _ _ _ h)
end Go.Proofs.YtlhjbllfcbojmaaDoor

namespace Go.Proofs.YtlhjbllfcbojmaaDoor
open Go Go.RowKit Go.Shelf

attribute [local go_sem] Oper.semAt_some
/-- The product of numbers modulo q. -/
def prodI (q : Int) (l : List Int) : Int := l.foldl (fun s y => mulI s y q) (1 % q)
theorem prodI_snoc (q : Int) (l : List Int) (y : Int) : prodI q (l ++ [y]) = mulI (prodI q l) y q := by simp [prodI]
open Classical in
/-- What share tells. -/
noncomputable def shareV (q : Int) (xs : List Int) (i : Nat) (at_ : Int) : Value :=
  if HasInv (prodI q ((othersI q xs i at_).map (·.1))) q then .tuple #[.int .u64 (invI (prodI q ((othersI q xs i at_).map (·.1))) q), .int .u64 (prodI q ((othersI q xs i at_).map (·.2))), .int .i64 0]
  else .tuple #[.int .u64 0, .int .u64 (prodI q ((othersI q xs i at_).map (·.2))), .int .i64 5]
/-- Two new boxes. -/
def TwoB (w wx : World) (q : Int) (B1 B2 : Nat) : Prop := w.heap.size < B1 ∧ w.heap.size < B2 ∧ B1 ≠ B2 ∧ Boxed wx w.heap.size 22 (.int .u64 q) ∧ Boxed wx B1 22 (.int .u64 (1 % q)) ∧ Boxed wx B2 22 (.int .u64 (1 % q)) ∧ w.grownBy wx none
theorem prodI_fold (q : Int) (hq : mayB q = true) : ∀ (l : List Int) (s : Int), 0 ≤ s ∧ s < q → 0 ≤ l.foldl (fun s y => mulI s y q) s ∧ l.foldl (fun s y => mulI s y q) s < q
  | [], _, h => h
  | y :: l, s, _ => prodI_fold q hq l _ (mulI_bd s y q hq)
theorem prodI_bd (q : Int) (hq : mayB q = true) (l : List Int) : 0 ≤ prodI q l ∧ prodI q l < q := by
  refine prodI_fold q hq l _ ?_
  simp [mayB] at hq
  exact emod_bd 1 q hq.1
theorem prodI_U64 (q : Int) (hq : mayB q = true) (l : List Int) : U64 (prodI q l) := by
  have h := prodI_bd q hq l
  simp [mayB] at hq
  exact ⟨h.1, by omega⟩
/-- The four boxes of others. -/
theorem four_boxes (w : World) (t1 t2 t3 t4 : TypeId) (v1 v2 v3 v4 : Value) (W0 : World) (h : W0 = (((w.alloc (.cells #[v1] t1)).alloc (.cells #[v2] t2)).alloc (.cells #[v3] t3)).alloc (.cells #[v4] t4)) :
    Boxed W0 w.heap.size t1 v1 ∧ Boxed W0 (w.heap.size + 1) t2 v2 ∧ Boxed W0 (w.heap.size + 1 + 1) t3 v3 ∧ Boxed W0 (w.heap.size + 1 + 1 + 1) t4 v4 ∧ w.grownBy W0 none ∧ W0.heap.size = w.heap.size + 1 + 1 + 1 + 1 := by
  subst h
  have b2 := ((Boxed.new (w.alloc (.cells #[v1] t1)) t2 v2).alloc (.cells #[v3] t3)).alloc (.cells #[v4] t4)
  have b3 := (Boxed.new ((w.alloc (.cells #[v1] t1)).alloc (.cells #[v2] t2)) t3 v3).alloc (.cells #[v4] t4)
  have b4 := Boxed.new (((w.alloc (.cells #[v1] t1)).alloc (.cells #[v2] t2)).alloc (.cells #[v3] t3)) t4 v4
  simp only [World.size_alloc] at b2 b3 b4
  exact ⟨(((Boxed.new w t1 v1).alloc _).alloc _).alloc _, b2, b3, b4, (((World.grownBy_alloc w _ none).trans (World.grownBy_alloc _ _ none)).trans (World.grownBy_alloc _ _ none)).trans (World.grownBy_alloc _ _ none), by simp⟩
/-- The round of share: what it was begun with. -/
structure ShE where
  w : World
  W0 : World
  W : World
  q : Int
  p1 : Int
  p2 : Int
  p1' : Int
  p2' : Int
  B1 : Nat
  B2 : Nat
  C1 : Nat
  C2 : Nat
  C3 : Nat
  C4 : Nat
structure ShE.Ok (e : ShE) : Prop where
  b1 : e.w.heap.size < e.B1
  b2 : e.w.heap.size < e.B2
  b12 : e.B1 ≠ e.B2
  c1 : e.B1 < e.C1 ∧ e.B2 < e.C1 ∧ e.C1 < e.W0.heap.size
  c2 : e.B1 < e.C2 ∧ e.B2 < e.C2 ∧ e.C2 < e.W0.heap.size
  c3 : e.B1 < e.C3 ∧ e.B2 < e.C3 ∧ e.C3 < e.W0.heap.size
  c4 : e.B1 < e.C4 ∧ e.B2 < e.C4 ∧ e.C4 < e.W0.heap.size
/-- Where the world stands, by what was written. -/
structure ShE.At (e : ShE) (x y : Bool) (V : World) : Prop where
  q : Boxed V e.w.heap.size 22 (.int .u64 e.q)
  one : Boxed V e.B1 22 (.int .u64 (if x then e.p1' else e.p1))
  two : Boxed V e.B2 22 (.int .u64 (if y then e.p2' else e.p2))
  from' : KeepsFrom e.W0.heap.size e.W V
  kp : Kp4 e.w.heap.size e.C1 e.C2 e.C3 e.C4 e.W V
  bl : Below e.w.heap.size e.w V
  sz : e.W0.heap.size ≤ V.heap.size
theorem ShE.At.grown {e : ShE} (k : e.Ok) {x y : Bool} {V V' : World} (h : e.At x y V) (hg : V.grownBy V' none) : e.At x y V' := by
  have h1 := k.c1
  have h2 := k.c2
  have h3 := k.c3
  have h4 := k.c4
  have h5 := h.sz
  have h6 := k.b1
  exact ⟨h.q.kept hg (by simp), h.one.kept hg (by simp), h.two.kept hg (by simp), h.from'.trans ((keeps_none hg).from _), h.kp.trans (Kp4.grown hg (by omega) (by omega) (by omega) (by omega) (by omega)), h.bl.trans ((below_grown hg).mono (by omega)), Nat.le_trans h.sz hg.size⟩
theorem ShE.At.set1 {e : ShE} (k : e.Ok) {x y : Bool} {V : World} (h : e.At x y V) : e.At true y (V.setCell ⟨e.B1, 0, none⟩ (.int .u64 e.p1')) := by
  have h1 := k.c1
  have h2 := k.c2
  have h3 := k.c3
  have h4 := k.c4
  have h6 := k.b1
  have h7 := k.b12
  exact ⟨h.q.other (by omega) _, h.one.set _, h.two.other (by omega) _, h.from'.trans ((KeepsOthers.setCell _ _ _).from _), h.kp.trans ⟨(Below.refl _ V).setCell (p := ⟨e.B1, 0, none⟩) (by simp; omega) _, Below.heap_setCell V _ _ _ (by simp; omega), Below.heap_setCell V _ _ _ (by simp; omega), Below.heap_setCell V _ _ _ (by simp; omega), Below.heap_setCell V _ _ _ (by simp; omega)⟩, h.bl.setCell (p := ⟨e.B1, 0, none⟩) (by simp; omega) _, by have := h.sz; simp; omega⟩
theorem ShE.At.set2 {e : ShE} (k : e.Ok) {x y : Bool} {V : World} (h : e.At x y V) : e.At x true (V.setCell ⟨e.B2, 0, none⟩ (.int .u64 e.p2')) := by
  have h1 := k.c1
  have h2 := k.c2
  have h3 := k.c3
  have h4 := k.c4
  have h6 := k.b2
  have h7 := k.b12
  exact ⟨h.q.other (by omega) _, h.one.other (by omega) _, h.two.set _, h.from'.trans ((KeepsOthers.setCell _ _ _).from _), h.kp.trans ⟨(Below.refl _ V).setCell (p := ⟨e.B2, 0, none⟩) (by simp; omega) _, Below.heap_setCell V _ _ _ (by simp; omega), Below.heap_setCell V _ _ _ (by simp; omega), Below.heap_setCell V _ _ _ (by simp; omega), Below.heap_setCell V _ _ _ (by simp; omega)⟩, h.bl.setCell (p := ⟨e.B2, 0, none⟩) (by simp; omega) _, by have := h.sz; simp; omega⟩
/-- .. told by what was listed. -/
def ShE.C (e : ShE) (D : Array Bool) (V : World) : Prop := e.At (D.getD 8 false) (D.getD 9 false) V
theorem ShE.C.grown {e : ShE} (k : e.Ok) {D : Array Bool} {V V' : World} (h : e.C D V) (hg : V.grownBy V' none) (i : Nat) (h8 : i ≠ 8) (h9 : i ≠ 9) : e.C (D.setIfInBounds i true) V' := by
  unfold ShE.C
  rw [getD_set_ne false h8, getD_set_ne false h9]
  exact ShE.At.grown k h hg
theorem ShE.C.set1 {e : ShE} (k : e.Ok) {D : Array Bool} {V : World} (h : e.C D V) (hs : D.size = 10) : e.C (D.setIfInBounds 8 true) (V.setCell ⟨e.B1, 0, none⟩ (.int .u64 e.p1')) := by
  unfold ShE.C
  rw [getD_set_ne false (show 8 ≠ 9 by omega), show (D.setIfInBounds 8 true).getD 8 false = true by simp [hs]]
  exact ShE.At.set1 k h
theorem ShE.C.set2 {e : ShE} (k : e.Ok) {D : Array Bool} {V : World} (h : e.C D V) (hs : D.size = 10) : e.C (D.setIfInBounds 9 true) (V.setCell ⟨e.B2, 0, none⟩ (.int .u64 e.p2')) := by
  unfold ShE.C
  rw [getD_set_ne false (show 9 ≠ 8 by omega), show (D.setIfInBounds 9 true).getD 9 false = true by simp [hs]]
  exact ShE.At.set2 k h
theorem ShE.C.one {e : ShE} {D : Array Bool} {V : World} (h : e.C D V) (h8 : D.getD 8 false = false) : Boxed V e.B1 22 (.int .u64 e.p1) := by
  have := ShE.At.one h
  rw [h8] at this
  exact this
theorem ShE.C.two {e : ShE} {D : Array Bool} {V : World} (h : e.C D V) (h9 : D.getD 9 false = false) : Boxed V e.B2 22 (.int .u64 e.p2) := by
  have := ShE.At.two h
  rw [h9] at this
  exact this
theorem shareV_of (q : Int) (xs : List Int) (i : Nat) (at_ : Int) : ∃ x e : Int, invRes (prodI q ((othersI q xs i at_).map (·.1))) q = .tuple #[.int .u64 x, .int .i64 e] ∧ shareV q xs i at_ = .tuple #[.int .u64 x, .int .u64 (prodI q ((othersI q xs i at_).map (·.2))), .int .i64 e] := by
  unfold shareV invRes
  split
  · exact ⟨_, _, rfl, rfl⟩
  · exact ⟨_, _, rfl, rfl⟩
theorem others_bx (A : Option Addr) (n c : Nat) (i at_ q : Int) (w : World) :
    Calls Tryd.prog 94 #[.slice A n c, .int .i64 i, .int .u64 at_, .int .u64 q] w fun e w' => e = .returned (.func (.func 95) #[] #[.pointer (some ⟨w.heap.size, 0, none⟩), .pointer (some ⟨w.heap.size + 1, 0, none⟩), .pointer (some ⟨w.heap.size + 1 + 1 + 1, 0, none⟩), .pointer (some ⟨w.heap.size + 1 + 1, 0, none⟩)]) ∧ (Boxed w' w.heap.size 84 (.slice A n c) ∧ Boxed w' (w.heap.size + 1) 3 (.int .i64 i) ∧ Boxed w' (w.heap.size + 1 + 1) 22 (.int .u64 at_) ∧ Boxed w' (w.heap.size + 1 + 1 + 1) 22 (.int .u64 q) ∧ w.grownBy w' none ∧ w'.heap.size = w.heap.size + 1 + 1 + 1 + 1) :=
  (others_any A n c i at_ q w).mono fun _ _ h => ⟨h.1, four_boxes _ _ _ _ _ _ _ _ _ _ h.2⟩
theorem twoB_one (w : World) (q : Int) : TwoB w (((w.alloc (.cells #[.int .u64 q] 22)).alloc (.cells #[.int .u64 (1 % q)] 22)).alloc (.cells #[.int .u64 (1 % q)] 22)).drew q (w.heap.size + 1) (w.heap.size + 1 + 1) := by
  have b1 := (Boxed.new (w.alloc (.cells #[.int .u64 q] 22)) 22 (.int .u64 (1 % q))).alloc (.cells #[.int .u64 (1 % q)] 22)
  have b2 := Boxed.new ((w.alloc (.cells #[.int .u64 q] 22)).alloc (.cells #[.int .u64 (1 % q)] 22)) 22 (.int .u64 (1 % q))
  simp only [World.size_alloc] at b1 b2
  exact ⟨by omega, by omega, by omega, (((Boxed.new w 22 (.int .u64 q)).alloc _).alloc _), b1, b2, grownBy_drewN (((World.grownBy_alloc w _ none).trans (World.grownBy_alloc _ _ none)).trans (World.grownBy_alloc _ _ none)) 1⟩
theorem twoB_two (w : World) (q : Int) : TwoB w (((w.alloc (.cells #[.int .u64 q] 22)).alloc (.cells #[.int .u64 (1 % q)] 22)).alloc (.cells #[.int .u64 (1 % q)] 22)).drew q (w.heap.size + 1 + 1) (w.heap.size + 1) := by
  obtain ⟨h1, h2, h3, h4, h5, h6, h7⟩ := twoB_one w q
  exact ⟨h2, h1, h3.symm, h4, h6, h5, h7⟩
set_option maxRecDepth 100000 in
set_option maxHeartbeats 2000000 in
theorem polyShare_any (v : Value) (xs : List Int) (i : Nat) (at_ q : Int) (X : Nat → Prop) (w : World) (hxs : Sl encU X w v xs) (hi : i < xs.length) (hu : U64 at_) (hq : mayB q = true) :
    Calls Tryd.prog 90 #[v, .int .i64 i, .int .u64 at_, .int .u64 q] w fun e w' => e = .returned (shareV q xs i at_) ∧ w.grownBy w' none := by
  have HQ := Lib.hid hq
  simp [mayB] at hq
  obtain ⟨hq0, hq1⟩ := hq
  have hqn : ¬ q = 0 := by omega
  have HX := Lib.hid hxs
  have HI := Lib.hid hi
  have HU := Lib.hid hu
  have HR := Lib.hid (emod_bd 1 q hq0)
  have HT : Hid (Int.tmod 1 q = 1 % q) := Lib.hid (Int.tmod_eq_emod_of_nonneg (by decide))
  obtain ⟨A1, c1, rfl, _, _⟩ := hxs.form
  obtain ⟨rx, re, hre, hrs⟩ := shareV_of q xs i at_
  rw [hrs]
  have HRE := Lib.hid hre
  clear hxs hi hu hre hrs
  refine (callsIn_wide (n := 4)).1 ?_
  refine callsIn_of_wp_marks Tryd.func90 rfl trivial ?_ rfl
  refine wpIn_wide.2 ?_
  simp only [Tryd.ntmps90, List.size_toArray, List.length_cons, List.length_nil, Nat.reduceAdd, Nat.reduceSub, Array.replicate_succ, Array.replicate_zero, List.push_toArray, List.append_toArray, List.nil_append, List.cons_append]
  go_upto_region 1 with fail
  go_cut [11, 12] from 17 to 20 (fun s11 s12 wx => ∃ B1 B2 : Nat, s11 = .pointer (some ⟨B1, 0, none⟩) ∧ s12 = .pointer (some ⟨B2, 0, none⟩) ∧ Hid (TwoB w wx q B1 B2))
  case first =>
    go_region_held3 (fun w' => w'.cell? ⟨w.heap.size, 0, none⟩ = some (.int .u64 q)) (go_keep) (fail)
    all_goals (go_wp2_with fail)
    all_goals (rw [HT.out]; go_meet)
    · exact ⟨_, _, rfl, rfl, Lib.hid (twoB_one w q)⟩
    · exact ⟨_, _, rfl, rfl, Lib.hid (twoB_two w q)⟩
  case rest =>
    obtain ⟨B1, B2, rfl, rfl, HB⟩ := hcut
    rename World => wc
    obtain ⟨kb1, kb2, kb12, kq, kp1, kp2, kg⟩ := HB.out
    have kqc := kq.cell
    have HC : Hid (TwoB w wc q B1 B2) := HB
    have HW : Hid (w.grownBy wc none) := Lib.hid kg
    clear HB kq kp1 kp2 kg
    have hlen : xs.length ≤ c1 := by assumption
    go_wp2_with ((with_reducible refine (others_bx A1 xs.length c1 i at_ q wc).mono ?_); rintro e W0 ⟨rfl, hW0⟩)
    have HD := Lib.hid hW0
    clear hW0
    have HB1 : Hid (Boxed W0 B1 22 (.int .u64 (1 % q)) ∧ Boxed W0 B2 22 (.int .u64 (1 % q)) ∧ Boxed W0 w.heap.size 22 (.int .u64 q) ∧ Below w.heap.size w W0 ∧ B1 < wc.heap.size ∧ B2 < wc.heap.size ∧ w.heap.size ≤ wc.heap.size) := by
      obtain ⟨_, _, _, z4, z1, z2, z3⟩ := HC.out
      have hg := HD.out.2.2.2.2.1
      exact Lib.hid ⟨z1.kept hg (by simp), z2.kept hg (by simp), z4.kept hg (by simp), below_grown (HW.out.trans hg), z1.lt, z2.lt, HW.out.size⟩
    have hs0 : W0.heap.size = wc.heap.size + 1 + 1 + 1 + 1 := HD.out.2.2.2.2.2
    have hs1 := HB1.out.2.2.2.2.1
    have hs2 := HB1.out.2.2.2.2.2.1
    have hs3 := HB1.out.2.2.2.2.2.2
    refine (wpIn_wide (n := 3)).1 ?_
    refine wpIn_rangeFunc_goes rfl (by omega) (gf := 95) (lb := #[.pointer (some ⟨wc.heap.size, 0, none⟩), .pointer (some ⟨wc.heap.size + 1, 0, none⟩), .pointer (some ⟨wc.heap.size + 1 + 1 + 1, 0, none⟩), .pointer (some ⟨wc.heap.size + 1 + 1, 0, none⟩)]) rfl trivial (enters_of Tryd.func95 (by kernel_rfl) rfl)
      (others_goes (3 - 1) (by omega) _ _ _ _ _ xs i at_ q X w W0 HB1.out.2.2.2.1 HD.out.1 HD.out.2.1 HD.out.2.2.2.1 HD.out.2.2.1 HX.out HI.out HU.out) Kp4.trans (Kp4.b (by omega) (by omega) (by omega) (by omega) (by omega)) (Below.refl _ _) (fun _ => rfl)
      (fun pre W => Boxed W w.heap.size 22 (.int .u64 q) ∧ Boxed W B1 22 (.int .u64 (prodI q (pre.map (·.1)))) ∧ Boxed W B2 22 (.int .u64 (prodI q (pre.map (·.2)))) ∧ Below w.heap.size w W ∧ W0.heap.size ≤ W.heap.size)
      (fun pre X' Y row hs hg hrow => by
        obtain ⟨s1, s2, s3, s4, s5⟩ := hs
        have hr' := fun r e => (hrow r e).2
        exact ⟨s1.kept hg (boxNe s1 hr'), s2.kept hg (boxNe s2 hr'), s3.kept hg (boxNe s3 hr'), s4.grown hg s4.size (fun k e => by have := (hrow k e).1; omega), Nat.le_trans s5 hg.size⟩)
      ⟨HB1.out.2.2.1, HB1.out.1, HB1.out.2.1, HB1.out.2.2.2.1, Nat.le_refl _⟩
      (fun e a' W => (U64 e.1 ∧ U64 e.2) ∧ a' = { tmps := #[.slice A1 xs.length c1, .int .i64 i, .int .u64 at_, .int .u64 q, undef, undef, undef, .pointer (some ⟨w.heap.size, 0, none⟩), .int .u64 0, .int .u64 0, .int .i64 0, .pointer (some ⟨B1, 0, none⟩), .pointer (some ⟨B2, 0, none⟩), .int .u64 e.1, .int .u64 e.2, undef, undef, u17, u18, u19, u20, .slice A1 xs.length c1, .int .i64 i, .int .u64 at_, .int .u64 q, .func (.func 95) #[] #[.pointer (some ⟨wc.heap.size, 0, none⟩), .pointer (some ⟨wc.heap.size + 1, 0, none⟩), .pointer (some ⟨wc.heap.size + 1 + 1 + 1, 0, none⟩), .pointer (some ⟨wc.heap.size + 1 + 1, 0, none⟩)], .int .u64 e.1, .int .u64 e.2, undef, undef, undef, undef, undef, undef, undef, undef, undef, undef, undef, undef, undef, undef, undef, undef, undef], defers := [] })
      (fun e a' _ X' Y row hs hg hrow => hs)
      ?assign ?body ?done
    case assign =>
      rintro l pre ⟨own, far⟩ W K hi hfx hK
      have hk2 := hK _ W (KeepsFrom.refl _ _) (Kp4.refl _ _ _ _ _ _) hi ⟨hfx, rfl⟩
      clear hK hi hfx
      gi_wp2
      exact hk2
    case body =>
      rintro l pre ⟨own, far⟩ a' W hl ⟨hbq, hb1, hb2, hbl, hws⟩ ⟨⟨hu1, hu2⟩, rfl⟩ hlt
      obtain ⟨p1, hp1⟩ : ∃ p1, p1 = prodI q (pre.map (·.1)) := ⟨_, rfl⟩
      obtain ⟨p2, hp2⟩ : ∃ p2, p2 = prodI q (pre.map (·.2)) := ⟨_, rfl⟩
      rw [← hp1] at hb1
      rw [← hp2] at hb2
      have HSN : Hid (prodI q ((pre ++ [(own, far)]).map (·.1)) = mulI p1 own q ∧ prodI q ((pre ++ [(own, far)]).map (·.2)) = mulI p2 far q) := Lib.hid ⟨by rw [List.map_append, hp1]; exact prodI_snoc _ _ _, by rw [List.map_append, hp2]; exact prodI_snoc _ _ _⟩
      have HP : Hid (U64 p1 ∧ U64 p2 ∧ U64 own ∧ U64 far) := Lib.hid ⟨by rw [hp1]; exact prodI_U64 _ HQ.out _, by rw [hp2]; exact prodI_U64 _ HQ.out _, hu1, hu2⟩
      clear hp1 hp2 hu1 hu2 hlt
      obtain ⟨E, hE⟩ : ∃ E : ShE, E = { w := w, W0 := W0, W := W, q := q, p1 := p1, p2 := p2, p1' := mulI p1 own q, p2' := mulI p2 far q, B1 := B1, B2 := B2, C1 := wc.heap.size, C2 := wc.heap.size + 1, C3 := wc.heap.size + 1 + 1 + 1, C4 := wc.heap.size + 1 + 1 } := ⟨_, rfl⟩
      have HE : Hid (E.Ok ∧ E.p1 = p1 ∧ E.p2 = p2 ∧ E.w = w ∧ E.q = q ∧ E.w.heap.size = w.heap.size ∧ E.B1 = B1 ∧ E.B2 = B2 ∧ E.p1' = mulI p1 own q ∧ E.p2' = mulI p2 far q) := Lib.hid (by subst hE; exact ⟨⟨kb1, kb2, kb12, ⟨hs1, hs2, by show wc.heap.size < W0.heap.size; omega⟩, ⟨by show B1 < wc.heap.size + 1; omega, by show B2 < wc.heap.size + 1; omega, by show wc.heap.size + 1 < W0.heap.size; omega⟩, ⟨by show B1 < wc.heap.size + 1 + 1 + 1; omega, by show B2 < wc.heap.size + 1 + 1 + 1; omega, by show wc.heap.size + 1 + 1 + 1 < W0.heap.size; omega⟩, ⟨by show B1 < wc.heap.size + 1 + 1; omega, by show B2 < wc.heap.size + 1 + 1; omega, by show wc.heap.size + 1 + 1 < W0.heap.size; omega⟩⟩, rfl, rfl, rfl, rfl, rfl, rfl, rfl, rfl, rfl⟩)
      have HC0 : Hid (∀ D : Array Bool, D.getD 8 false = false → D.getD 9 false = false → E.C D W.drew) := Lib.hid (fun D h8 h9 => by
        subst hE
        unfold ShE.C
        rw [h8, h9]
        exact ⟨hbq, hb1, hb2, (keeps_none (grown_drewN' W 1)).from _, Kp4.grown (grown_drewN' W 1) (by show w.heap.size ≤ W.heap.size; omega) (by show wc.heap.size < W.heap.size; omega) (by show wc.heap.size + 1 < W.heap.size; omega) (by show wc.heap.size + 1 + 1 + 1 < W.heap.size; omega) (by show wc.heap.size + 1 + 1 < W.heap.size; omega), hbl.trans ((below_grown (grown_drewN' W 1)).mono (by show w.heap.size ≤ W.heap.size; omega)), hws⟩)
      have HF : Hid (∀ D V, D.getD 8 false = true → D.getD 9 false = true → E.C D V → KeepsFrom W0.heap.size W V ∧ Kp4 w.heap.size wc.heap.size (wc.heap.size + 1) (wc.heap.size + 1 + 1 + 1) (wc.heap.size + 1 + 1) W V ∧ Boxed V w.heap.size 22 (.int .u64 q) ∧ Boxed V B1 22 (.int .u64 (prodI q ((pre ++ [(own, far)]).map (·.1)))) ∧ Boxed V B2 22 (.int .u64 (prodI q ((pre ++ [(own, far)]).map (·.2)))) ∧ Below w.heap.size w V ∧ W0.heap.size ≤ V.heap.size) := Lib.hid (fun D V h8 h9 h => by
        rw [HSN.out.1, HSN.out.2]
        subst hE
        unfold ShE.C at h
        rw [h8, h9] at h
        exact ⟨h.from', h.kp, h.q, ShE.At.one h, ShE.At.two h, h.bl, h.sz⟩)
      clear hE hbq hb1 hb2 hbl hws
      dsimp only
      gi_wp2
      refine wpIn_round_any (l0 := l) (R := fun _ V => KeepsFrom W0.heap.size W V ∧ Kp4 w.heap.size wc.heap.size (wc.heap.size + 1) (wc.heap.size + 1 + 1 + 1) (wc.heap.size + 1 + 1) W V ∧ Boxed V w.heap.size 22 (.int .u64 q) ∧ Boxed V B1 22 (.int .u64 (prodI q ((pre ++ [(own, far)]).map (·.1)))) ∧ Boxed V B2 22 (.int .u64 (prodI q ((pre ++ [(own, far)]).map (·.2)))) ∧ Below w.heap.size w V ∧ W0.heap.size ≤ V.heap.size) (by kernel_rfl) (by kernel_rfl) (fun a w h => ⟨rfl, h⟩) ?_
      refine wpAny_flag 10 E.C [.int .u64 p1, .int .u64 own, .int .u64 q, .int .u64 (mulI p1 own q), .int .u64 p2, .int .u64 far, .int .u64 q, .int .u64 (mulI p2 far q), undef, undef] (by kernel_rfl) rfl (HC0.out _ (by kernel_rfl) (by kernel_rfl)) ?_ ?_
      -- op 0 (slot 28): load
      refine FlagR.step [] (by kernel_rfl) (fun D V hsz hD hav hC => ?_) ?_
      · refine askc_do rfl fun K hK => ?_
        have hb := (ShE.C.one hC (hav 8 (by kernel_rfl))).cell
        rw [HE.out.2.1, HE.out.2.2.2.2.2.2.1] at hb
        go_simp
        exact hK _ _ rfl rfl (ShE.C.grown HE.out.1 hC (World.grownBy.refl _ none) 0 (by decide) (by decide))
      -- op 1 (slot 29): move
      refine FlagR.step [] (by kernel_rfl) (fun D V hsz hD hav hC => ?_) ?_
      · refine askc_do rfl fun K hK => ?_
        go_simp
        exact hK _ _ rfl rfl (ShE.C.grown HE.out.1 hC (World.grownBy.refl _ none) 1 (by decide) (by decide))
      -- op 2 (slot 30): load
      refine FlagR.step [] (by kernel_rfl) (fun D V hsz hD hav hC => ?_) ?_
      · refine askc_do rfl fun K hK => ?_
        have hb := hC.q.cell
        rw [HE.out.2.2.2.2.1, HE.out.2.2.2.2.2.1] at hb
        go_simp
        exact hK _ _ rfl rfl (ShE.C.grown HE.out.1 hC (World.grownBy.refl _ none) 2 (by decide) (by decide))
      -- op 3 (slot 31): call
      refine FlagR.step [(0, 28), (1, 29), (2, 30)] (by kernel_rfl) (fun D V hsz hD hav hC => ?_) ?_
      · rintro _ rfl
        rintro _ rfl
        rintro _ rfl
        refine askc_do rfl fun K hK => ?_
        go_simp
        refine (mul_gr p1 own q V HP.out.1 HP.out.2.2.1).mono ?_
        rintro e V2 ⟨rfl, hg⟩
        exact hK _ _ rfl rfl (ShE.C.grown HE.out.1 hC hg 3 (by decide) (by decide))
      -- op 4 (slot 32): load
      refine FlagR.step [] (by kernel_rfl) (fun D V hsz hD hav hC => ?_) ?_
      · refine askc_do rfl fun K hK => ?_
        have hb := (ShE.C.two hC (hav 9 (by kernel_rfl))).cell
        rw [HE.out.2.2.1, HE.out.2.2.2.2.2.2.2.1] at hb
        go_simp
        exact hK _ _ rfl rfl (ShE.C.grown HE.out.1 hC (World.grownBy.refl _ none) 4 (by decide) (by decide))
      -- op 5 (slot 33): move
      refine FlagR.step [] (by kernel_rfl) (fun D V hsz hD hav hC => ?_) ?_
      · refine askc_do rfl fun K hK => ?_
        go_simp
        exact hK _ _ rfl rfl (ShE.C.grown HE.out.1 hC (World.grownBy.refl _ none) 5 (by decide) (by decide))
      -- op 6 (slot 34): load
      refine FlagR.step [] (by kernel_rfl) (fun D V hsz hD hav hC => ?_) ?_
      · refine askc_do rfl fun K hK => ?_
        have hb := hC.q.cell
        rw [HE.out.2.2.2.2.1, HE.out.2.2.2.2.2.1] at hb
        go_simp
        exact hK _ _ rfl rfl (ShE.C.grown HE.out.1 hC (World.grownBy.refl _ none) 6 (by decide) (by decide))
      -- op 7 (slot 35): call
      refine FlagR.step [(4, 32), (5, 33), (6, 34)] (by kernel_rfl) (fun D V hsz hD hav hC => ?_) ?_
      · rintro _ rfl
        rintro _ rfl
        rintro _ rfl
        refine askc_do rfl fun K hK => ?_
        go_simp
        refine (mul_gr p2 far q V HP.out.2.1 HP.out.2.2.2).mono ?_
        rintro e V2 ⟨rfl, hg⟩
        exact hK _ _ rfl rfl (ShE.C.grown HE.out.1 hC hg 7 (by decide) (by decide))
      -- op 8 (slot none): store
      refine FlagR.step [(3, 31)] (by kernel_rfl) (fun D V hsz hD hav hC => ?_) ?_
      · rintro _ rfl
        refine askc_do rfl fun K hK => ?_
        have hc0 := ShE.C.one hC (hav 8 (by kernel_rfl))
        have hcc := hc0.cell
        have hcf := hc0.frozen
        rw [HE.out.2.1] at hcc
        rw [HE.out.2.2.2.2.2.2.1] at hcc hcf
        have hfin := ShE.C.set1 HE.out.1 hC hsz
        rw [HE.out.2.2.2.2.2.2.1, HE.out.2.2.2.2.2.2.2.2.1] at hfin
        go_simp
        exact hK _ _ rfl rfl hfin
      -- op 9 (slot none): store
      refine FlagR.step [(7, 35)] (by kernel_rfl) (fun D V hsz hD hav hC => ?_) ?_
      · rintro _ rfl
        refine askc_do rfl fun K hK => ?_
        have hc0 := ShE.C.two hC (hav 9 (by kernel_rfl))
        have hcc := hc0.cell
        have hcf := hc0.frozen
        rw [HE.out.2.2.1] at hcc
        rw [HE.out.2.2.2.2.2.2.2.1] at hcc hcf
        have hfin := ShE.C.set2 HE.out.1 hC hsz
        rw [HE.out.2.2.2.2.2.2.2.1, HE.out.2.2.2.2.2.2.2.2.2] at hfin
        go_simp
        exact hK _ _ rfl rfl hfin
      · trivial
      · intro D V hall hC
        have hfin := HF.out D V (hall 8 (by omega)) (hall 9 (by omega)) hC
        clear hC hall
        intro x0 _ x1 _ x2 _ x3 _ x4 _ x5 _ x6 _ x7 _ x8 _ x9 _
        refine wpList_nil ?_
        exact ⟨rfl, hfin⟩
    case done =>
      rintro D zs W hD rfl ⟨hbq, hb1, hb2, hbl, hws⟩ hK
      have hre := HRE.out
      have HIN := Lib.hid (fun w' => inv_may (prodI q ((othersI q xs i at_).map (·.1))) q w' (prodI_U64 q HQ.out _) HQ.out)
      rw [hre] at HIN
      have c1' := hb1.cell
      have c2' := hb2.cell
      have cq' := hbq.cell
      have HK := Lib.hid (And.intro hbl (And.intro hK hD))
      clear hbq hb1 hb2 hbl hK hre
      go_wp2_with ((with_reducible refine (HIN.out _).mono ?_); rintro e W5 ⟨rfl, n5, rfl⟩)
      go_region_held3 (fun w' => w'.cell? ⟨B2, 0, none⟩ = some (.int .u64 (prodI q ((othersI q xs i at_).map (·.2))))) (go_keep) (fail)
      all_goals (go_wp2_with fail)
      obtain ⟨hbl, hK, hD⟩ := HK.out
      refine ⟨by simp, .inl ⟨_, _, rfl, run_takeDeferred (w := (W.drewN n5).drew) hK, ?_⟩⟩
      have hle : w.heap.size ≤ W0.heap.size := by omega
      have hfin : w.grownBy (((W.drewN n5).drew).putObj D (.deferred none)) none := grownBy_drewN (grown_of_below (hbl.trans (belowK_b (w := W0) hle W D _ (.deferred none) hD hK rfl rfl))) (n5 + 1)
      exact ⟨_, results_tmp3 rfl _ _ _, rfl, hfin⟩
end Go.Proofs.YtlhjbllfcbojmaaDoor

namespace Go.Proofs.YtlhjbllfcbojmaaDoor
open Go Go.RowKit Go.Shelf Go.Maps

theorem pmay_any (m : Int) (w : World) (hm : U64 m) :
    Calls Tryd.prog 93 #[.int .u64 m] w fun e w' => e = .returned (.bool (mayB m)) ∧ w = w' := by
  have hm0 := hm.1
  have hm1 := hm.2
  clear hm
  by_cases h0 : 0 < m
  · by_cases h1 : m ≤ 2305843009213693952
    · have hr : mayB m = true := by simp [mayB, h0, h1]
      rw [hr]
      clear hr
      have h2 : decide (m ≤ 2305843009213693952) = true := by simpa using h1
      go_enter Tryd.func93, Tryd.ntmps93
      go_wp2
      go_ret
      exact ⟨rfl, rfl⟩
    · have hr : mayB m = false := by simp [mayB, h1]
      rw [hr]
      clear hr
      have h2 : decide (m ≤ 2305843009213693952) = false := by simpa using h1
      go_enter Tryd.func93, Tryd.ntmps93
      go_wp2
      go_ret
      exact ⟨by simp, rfl⟩
  · have hr : mayB m = false := by simp [mayB, h0]
    rw [hr]
    clear hr
    go_enter Tryd.func93, Tryd.ntmps93
    go_wp2
    go_ret
    exact ⟨rfl, rfl⟩
/-- The numbers of a list, each once. -/
def seenL (l : List Int) : List Int := l.foldl (fun s x => bif s.contains x then s else s ++ [x]) []
theorem seenL_snoc (l : List Int) (x : Int) : seenL (l ++ [x]) = bif (seenL l).contains x then seenL l else seenL l ++ [x] := by simp only [seenL, List.foldl_append, List.foldl_cons, List.foldl_nil]
/-- What is wrong with places. -/
def unlikeI (xs : List Int) (q : Int) : Int := if mayB q = false then 1 else if 1024 < xs.length then 40 else if (seenL (xs.map (· % q))).length < xs.length then 6 else 0
theorem lawU : Keyed Tryd.prog 22 := int_keyed Tryd.underlying22
theorem zeroI (w : World) : (zeroValue 3).run Tryd.prog w = .ok (.int .i64 0) w := by kernel_rfl
/-- A map of what was met. -/
def Met' (D : DataW Unit) (pre : List Int) : Prop := Maps.Tidy D ∧ Maps.size D = (seenL pre).length ∧ ∀ x, Maps.has D (.int .u64 x) = (seenL pre).contains x
theorem Met'.nil : Met' (.map []) [] := ⟨tidy_empty, rfl, fun _ => rfl⟩
theorem Met'.put {D : DataW Unit} {pre : List Int} (h : Met' D pre) (x : Int) (d : DataW Unit) : Met' (D.put (.int .u64 x) d) (pre ++ [x]) := by
  obtain ⟨h1, h2, h3⟩ := h
  have hk : WideAt.IsKeyLit (.int .u64 x) := trivial
  refine ⟨h1.put hk d, ?_, fun y => ?_⟩
  · rw [size_put h1, h3 x, seenL_snoc]
    cases (seenL pre).contains x
    · simp [h2]
    · simp [h2]
  · rw [seenL_snoc]
    by_cases e : y = x
    · subst e
      rw [has_put_same h1.isMap hk]
      cases hc : (seenL pre).contains y
      · simp
      · simp only [cond_true, hc]
    · rw [has_put_other (by intro e'; injection e' with _ e'; exact e e'), h3 y]
      cases (seenL pre).contains x
      · have e' : (y == x) = false := by simpa using e
        simp [e]
      · rfl
theorem run_makeMap_hint (n : Int) (w : World) : (Instr.makeMap 108 (some (.int .i64 n))).run Tryd.prog w = .ok (.map (some w.heap.size)) (w.alloc (.map #[] 0)) := by
  simp [Instr.makeMap, run_underlying Tryd.underlying108, asInt, asIntOf, Result.andThen]
set_option maxRecDepth 100000 in
set_option maxHeartbeats 1000000 in
theorem unlike_any (v : Value) (xs : List Int) (q : Int) (X : Nat → Prop) (w : World) (h : Sl encU X w v xs) (hq : U64 q) :
    Calls Tryd.prog 89 #[v, .int .u64 q] w fun e w' => e = .returned (.int .i64 (unlikeI xs q)) ∧ w.grownBy w' none := by
  have H := Lib.hid h
  have HQ := Lib.hid hq
  obtain ⟨A, c, rfl, hc1, hc2⟩ := h.form
  clear h hq
  cases hm : mayB q with
  | false =>
    have hr : unlikeI xs q = 1 := by simp [unlikeI, hm]
    rw [hr]
    have HM := Lib.hid hm
    clear hr hm
    go_enter Tryd.func89, Tryd.ntmps89
    go_wp2_with ((with_reducible refine (pmay_any q _ HQ.out).mono ?_); rw [HM.out]; rintro e w' ⟨rfl, rfl⟩)
    go_ret
    exact ⟨rfl, World.grownBy.refl _ none⟩
  | true =>
    have HM := Lib.hid hm
    have hq0 : 0 < q := by simp [mayB] at hm; exact hm.1
    have hqn : ¬ q = 0 := by omega
    by_cases hl : 1024 < xs.length
    · have hr : unlikeI xs q = 40 := by simp [unlikeI, hm, hl]
      rw [hr]
      clear hr hm
      generalize xs.length = n at *
      go_enter Tryd.func89, Tryd.ntmps89
      go_wp2_with ((with_reducible refine (pmay_any q _ HQ.out).mono ?_); rw [HM.out]; rintro e w' ⟨rfl, rfl⟩)
      go_ret
      exact ⟨rfl, World.grownBy.refl _ none⟩
    · obtain ⟨res, hr⟩ : ∃ res, res = unlikeI xs q := ⟨_, rfl⟩
      have HRES : Hid (res = if (seenL (xs.map (· % q))).length < xs.length then 6 else 0) := Lib.hid (by rw [hr]; simp [unlikeI, hm, hl])
      rw [← hr]
      clear hr hm
      have HR0 : Hid (Met' (.map []) ((xs.take 0).map (· % q))) := Lib.hid Met'.nil
      have HT : Hid (∀ k (hk : k < xs.length), (xs.take (k + 1)).map (· % q) = (xs.take k).map (· % q) ++ [xs[k] % q]) := Lib.hid (fun k hk => by rw [List.take_succ_eq_append_getElem hk, List.map_append]; rfl)
      obtain ⟨n, hn⟩ : ∃ n, n = xs.length := ⟨_, rfl⟩
      have HN := Lib.hid hn
      rw [← hn] at hc1 hl ⊢
      clear hn
      have hmm := @run_makeMap_hint
      go_enter Tryd.func89, Tryd.ntmps89
      go_wp2_with ((with_reducible refine (pmay_any q _ HQ.out).mono ?_); rw [HM.out]; rintro e w' ⟨rfl, rfl⟩)
      go_loopg [21] n (fun g s21 wx => ∃ (k : Nat) (D : DataW Unit), k + g = n ∧ s21 = .int .i64 k ∧ Hid (wx.ownsMap Tryd.prog 22 (plainElem Tryd.prog 3) w.heap.size k D ∧ Met' D ((xs.take k).map (· % q)) ∧ Below w.heap.size w wx))
      case atStart => exact ⟨0, .map [], by omega, rfl, Lib.hid ⟨World.ownsMap_made _ _ _ _, HR0.out, (Below.refl _ _).alloc (Nat.le_refl _) _⟩⟩
      case round =>
        obtain ⟨k, D, hk, rfl, HR⟩ := hrel
        cases gk with
        | zero =>
          obtain rfl : k = n := by omega
          have hsz : Maps.size D = (seenL (xs.map (· % q))).length := by rw [HR.out.2.1.2.1, HN.out, List.take_length]
          have HS := Lib.hid hsz
          have HBL := Lib.hid HR.out.2.2
          have hown := HR.out.1
          clear HR hsz
          by_cases hlt : (seenL (xs.map (· % q))).length < k
          · rw [← HS.out] at hlt
            have hlt' : decide (((Maps.size D : Nat) : Int) < (k : Int)) = true := by simpa using hlt
            go_wp2_with (first | (at_len; refine wpList_len_own _ rfl _ 108 rfl 22 3 Tryd.underlying108 _ w.heap.size k D rfl hown ?_) | go_in)
            go_ret
            exact ⟨by rw [HRES.out, ← HS.out, ← HN.out]; simp [hlt], grown_of_below HBL.out⟩
          · rw [← HS.out] at hlt
            have hlt' : decide (((Maps.size D : Nat) : Int) < (k : Int)) = false := by simpa using hlt
            go_wp2_with (first | (at_len; refine wpList_len_own _ rfl _ 108 rfl 22 3 Tryd.underlying108 _ w.heap.size k D rfl hown ?_) | go_in)
            go_ret
            exact ⟨by rw [HRES.out, ← HS.out, ← HN.out]; simp [hlt], grown_of_below HBL.out⟩
        | succ m =>
          have hkn : (k : Int) < (n : Int) := by omega
          have hkl : k < xs.length := by rw [← HN.out]; omega
          have hown := HR.out.1
          obtain ⟨g, of, c', e, _, _, hcell, hu⟩ := ((H.out.kept (grown_of_below HR.out.2.2)).atU hkl)
          injection e with e1 e2 e3
          subst e1 e3
          have hb := emod_bd xs[k] q hq0
          have HP : Hid (Met' (D.put (.int .u64 (Int.tmod xs[k] q)) (.lit (.int .i64 0))) ((xs.take (k + 1)).map (· % q))) := Lib.hid (by rw [HT.out k hkl, Int.tmod_eq_emod_of_nonneg hu.1]; exact HR.out.2.1.put _ _)
          have hwf : (Lit.int .u64 (Int.tmod xs[k] q)).wf = true := by rw [Int.tmod_eq_emod_of_nonneg hu.1]; exact WalkArith.wf_u64 ⟨hb.1, by have := (emod_U64 xs[k] q hu hq0).2; omega⟩
          have HBL := Lib.hid HR.out.2.2
          have HT' := Lib.hid (HT.out k hkl)
          have HME := Lib.hid HR.out.2.1
          have HUX := Lib.hid hu
          have HWF := Lib.hid hwf
          clear HP HR hb hu hwf
          have HMP : Hid (∀ d, Met' (D.put (.int .u64 (Int.tmod xs[k] q)) d) ((xs.take (k + 1)).map (· % q))) := Lib.hid (fun d => by rw [HT'.out, Int.tmod_eq_emod_of_nonneg HUX.out.1]; exact HME.out.put _ d)
          clear HT' HME HUX
          generalize xs[k] = xk at *
          go_wp2_with (first
            | (at_lookup; refine wpList_lookup_own_int _ rfl _ _ 108 rfl 22 3 .i64 lawU Tryd.underlying108 Tryd.underlying3 (zeroI _) w.heap.size k D rfl hown _ _ rfl (keyOf_int_mk Tryd.underlying22 HWF.out) ?_; intro c0 hat hwc)
            | (at_mapUpdate; refine wpList_mapUpdate_own _ rfl _ _ _ 108 rfl 22 3 lawU Tryd.underlying108 _ w.heap.size k D rfl hown (by unfold maxLen; omega) _ _ _ rfl rfl (keyOf_int_mk Tryd.underlying22 HWF.out) _ [] (plainElem_int Tryd.underlying3 (wrap64_wf _)) ?_; intro w1 hown1 hgrow1)
            | go_in)
          go_roundg m
          case measure => omega
          case rel => exact ⟨k + 1, _, by omega, by go_num, Lib.hid ⟨hown1, HMP.out _, HBL.out.grown hgrow1 HBL.out.size (fun j hj => by cases hj; exact Nat.le_refl _)⟩⟩
end Go.Proofs.YtlhjbllfcbojmaaDoor

namespace Go.Proofs.YtlhjbllfcbojmaaDoor
open Go Go.RowKit Go.Shelf

def underI (q : Int) (xs : List Int) (at_ : Int) (i : Nat) : Int := prodI q ((othersI q xs i at_).map (·.1))
def overI (q : Int) (xs : List Int) (at_ : Int) (i : Nat) : Int := prodI q ((othersI q xs i at_).map (·.2))
theorem shareV_yes {q : Int} {xs : List Int} {i : Nat} {at_ : Int} (h : HasInv (underI q xs at_ i) q) : shareV q xs i at_ = .tuple #[.int .u64 (invI (underI q xs at_ i) q), .int .u64 (overI q xs at_ i), .int .i64 0] := by
  unfold shareV
  exact if_pos h
theorem shareV_no {q : Int} {xs : List Int} {i : Nat} {at_ : Int} (h : ¬ HasInv (underI q xs at_ i) q) : shareV q xs i at_ = .tuple #[.int .u64 0, .int .u64 (overI q xs at_ i), .int .i64 5] := by
  unfold shareV
  exact if_neg h
/-- A weight. -/
noncomputable def wAt (q : Int) (xs : List Int) (at_ : Int) (i : Nat) : Int := mulI (invI (underI q xs at_ i) q) (overI q xs at_ i) q
open Classical in
/-- What is wrong with weights. -/
noncomputable def wErr (q : Int) (xs : List Int) (at_ : Int) : Int := if unlikeI xs q = 0 then (if ∀ i, i < xs.length → HasInv (underI q xs at_ i) q then 0 else 5) else unlikeI xs q
noncomputable def wList (q : Int) (xs : List Int) (at_ : Int) : List Int := if wErr q xs at_ = 0 then (List.range xs.length).map (wAt q xs at_) else []
theorem unlikeI_zero {xs : List Int} {q : Int} (h : unlikeI xs q = 0) : mayB q = true ∧ xs.length ≤ 1024 := by
  unfold unlikeI at h
  split at h
  · omega
  · split at h
    · omega
    · exact ⟨by simpa using ‹¬ mayB q = false›, by omega⟩
theorem invI_U64 {a q : Int} (hq : mayB q = true) (h : HasInv a q) : U64 (invI a q) := by
  have := invI_spec h
  simp [mayB] at hq
  exact ⟨this.1, by omega⟩
set_option maxRecDepth 100000 in
set_option maxHeartbeats 1000000 in
theorem weights_any (v : Value) (xs : List Int) (at_ q : Int) (X : Nat → Prop) (w : World) (h : Sl encU X w v xs) (hu : U64 at_) (hq : U64 q) :
    Calls Tryd.prog 84 #[v, .int .u64 at_, .int .u64 q] w (GivesE encU (fun g => w.heap.size ≤ g) w (wList q xs at_) (wErr q xs at_)) := by
  have H := Lib.hid h
  have HA := Lib.hid hu
  have HUN := Lib.hid (unlike_any v xs q X w h hq)
  obtain ⟨A, c, rfl, hc1, hc2⟩ := h.form
  clear h hu
  obtain ⟨we, hwe⟩ : ∃ we, we = wErr q xs at_ := ⟨_, rfl⟩
  obtain ⟨wl, hwl⟩ : ∃ wl, wl = wList q xs at_ := ⟨_, rfl⟩
  rw [← hwe, ← hwl]
  have HWL : Hid ((we = 0 → wl = (List.range xs.length).map (wAt q xs at_)) ∧ (¬ we = 0 → wl = [])) := Lib.hid ⟨fun e => by rw [hwl, wList, ← hwe, if_pos e], fun e => by rw [hwl, wList, ← hwe, if_neg e]⟩
  clear hwl
  by_cases hun : unlikeI xs q = 0
  · obtain ⟨hm, hl⟩ := unlikeI_zero hun
    have HM := Lib.hid hm
    have HWE : Hid (((∀ i, i < xs.length → HasInv (underI q xs at_ i) q) → we = 0) ∧ (∀ i, i < xs.length → ¬ HasInv (underI q xs at_ i) q → we = 5)) := Lib.hid ⟨fun e => by rw [hwe, wErr, if_pos hun, if_pos e], fun i hi e => by rw [hwe, wErr, if_pos hun, if_neg (fun hx => e (hx i hi))]⟩
    rw [hun] at HUN
    have HLN : Hid (xs.length ≤ 1024) := Lib.hid hl
    clear hwe hun hm
    go_enter Tryd.func84, Tryd.ntmps84
    go_wp2_with (refine HUN.out.mono ?_; rintro e w1 ⟨rfl, hg1⟩)
    have HG1 := Lib.hid hg1
    clear hg1 HUN
    go_wp2_with fail
    go_loopg [9, 22] xs.length (fun g s9 s22 wx => ∃ j : Nat, j + g = xs.length ∧ s22 = .int .i64 j ∧ Hid (Acc encU w.heap.size 22 (fun g => w.heap.size ≤ g) wx s9 ((List.range j).map (wAt q xs at_)) ∧ w.grownBy wx none ∧ ∀ i, i < j → HasInv (underI q xs at_ i) q))
    case atStart => exact ⟨0, by omega, rfl, Lib.hid ⟨Acc.nil _ _ _ _ _, HG1.out, fun i hi => absurd hi (by omega)⟩⟩
    case round =>
      obtain ⟨j, hj, rfl, HX⟩ := hrel
      cases gk with
      | zero =>
        obtain rfl : j = xs.length := by omega
        have h0 : we = 0 := HWE.out.1 HX.out.2.2
        subst h0
        have HR : Hid (Sl encU (fun g => w.heap.size ≤ g) wr u9 wl ∧ w.grownBy wr none) := Lib.hid ⟨by have := HX.out.1.sl; rwa [← HWL.out.1 rfl] at this, HX.out.2.1⟩
        clear HX HWL HWE
        go_wp2
        go_ret2
        exact ⟨_, rfl, HR.out.1, HR.out.2⟩
      | succ m =>
        have hjn : (j : Int) < (xs.length : Int) := by omega
        have hjN : j < xs.length := by omega
        have HS := Lib.hid (polyShare_any _ xs j at_ q X wr (H.out.kept HX.out.2.1) hjN HA.out HM.out)
        by_cases hi : HasInv (underI q xs at_ j) q
        · rw [shareV_yes hi] at HS
          have HU1 := Lib.hid (invI_U64 HM.out hi)
          have HU2 : Hid (U64 (overI q xs at_ j)) := Lib.hid (prodI_U64 q HM.out _)
          have HU3 : Hid (U64 (wAt q xs at_ j)) := Lib.hid (by have := mulI_bd (invI (underI q xs at_ j) q) (overI q xs at_ j) q HM.out; have h2 := HM.out; simp [mayB] at h2; exact ⟨this.1, by unfold wAt; omega⟩)
          have HSN : Hid ((List.range (j + 1)).map (wAt q xs at_) = (List.range j).map (wAt q xs at_) ++ [wAt q xs at_ j]) := Lib.hid (by simp [List.range_succ])
          have HI : Hid (∀ i, i < j + 1 → HasInv (underI q xs at_ i) q) := Lib.hid (fun i hi' => by
            rcases Nat.lt_or_ge i j with h' | h'
            · exact HX.out.2.2 i h'
            · obtain rfl : i = j := by omega
              exact hi)
          have HAC := Lib.hid HX.out.1
          have HG := Lib.hid HX.out.2.1
          have HLB : Hid ((((List.range j).map (wAt q xs at_)).length + 1) * 8 ≤ 140737488355328) := Lib.hid (by simp; omega)
          clear hi HX
          have hwv : mulI (invI (underI q xs at_ j) q) (overI q xs at_ j) q = wAt q xs at_ j := rfl
          have HMU := Lib.hid (fun w' => mul_gr (invI (underI q xs at_ j) q) (overI q xs at_ j) q w' HU1.out HU2.out)
          rw [hwv] at HMU
          clear hwv
          generalize xs.length = n at *
          go_wp2_with (go_at_call 90; refine HS.out.mono ?_; rintro e2 w2 ⟨rfl, hg2⟩)
          have HG2 := Lib.hid (HG.out.trans hg2)
          have HA2 := Lib.hid (HAC.out.kept hg2)
          clear hg2 HS
          go_wp2_with fail
          refine (HMU.out _).mono ?_
          rintro e3 w3 ⟨rfl, hg3⟩
          have HG3 := Lib.hid (HG2.out.trans hg3)
          have HA3 := Lib.hid (HA2.out.kept hg3)
          clear hg3 HMU
          go_wp2_with (at_builtin; refine wpList_pushG rfl (.tmp 37) (.tmp 42) rfl (E := encU) el_u64 HG3.out HA3.out (fun _ h => h) ⟨rfl, HU3.out⟩ HLB.out rfl rfl ?_)
          intro v2 w4 hacc2 hg4 hgo
          have HFIN : Hid (Acc encU w.heap.size 22 (fun g => w.heap.size ≤ g) w4 v2 ((List.range (j + 1)).map (wAt q xs at_)) ∧ w.grownBy w4 none ∧ ∀ i, i < j + 1 → HasInv (underI q xs at_ i) q) := Lib.hid ⟨by rw [HSN.out]; simpa using hacc2, hg4, HI.out⟩
          clear hacc2 hg4 hgo
          go_wp2_with fail
          go_roundg m
          case measure => omega
          case rel => exact ⟨j + 1, by omega, by go_num, HFIN⟩
        · rw [shareV_no hi] at HS
          have h5 : we = 5 := HWE.out.2 j hjN hi
          subst h5
          have HG := Lib.hid HX.out.2.1
          have HL0 := Lib.hid (HWL.out.2 (by decide))
          clear hi HX HWL HWE
          go_wp2_with (go_at_call 90; refine HS.out.mono ?_; rintro e2 w2 ⟨rfl, hg2⟩)
          have HG2 := Lib.hid (HG.out.trans hg2)
          clear hg2 HS
          go_wp2_with fail
          go_ret2
          exact ⟨_, rfl, by rw [HL0.out]; exact Sl.nil _ _ _, HG2.out⟩
  · have h0 : we = unlikeI xs q := by rw [hwe, wErr, if_neg hun]
    have HL0 := Lib.hid (HWL.out.2 (by rw [h0]; exact hun))
    clear HWL hwe
    rw [← h0] at HUN hun
    clear h0
    go_enter Tryd.func84, Tryd.ntmps84
    go_wp2_with (refine HUN.out.mono ?_; rintro e w1 ⟨rfl, hg1⟩)
    have HG1 := Lib.hid hg1
    clear hg1 HUN
    go_wp2_with fail
    go_ret2
    exact ⟨_, rfl, by rw [HL0.out]; exact Sl.nil _ _ _, HG1.out⟩
end Go.Proofs.YtlhjbllfcbojmaaDoor

namespace Go.Proofs.YtlhjbllfcbojmaaDoor
open Go Go.RowKit Go.Shelf

attribute [local go_sem] Oper.semAt_some
end Go.Proofs.YtlhjbllfcbojmaaDoor

namespace Go.Proofs.YtlhjbllfcbojmaaDoor
open Go Go.RowKit

/-- A call that found whether there is one. -/
def FoundB (b : Bool) (w : World) (e : Ending) (w' : World) : Prop := ∃ n : Int, e = .returned (.int .i64 n) ∧ decide (0 ≤ n) = b ∧ I64 n ∧ w.grownBy w' none
end Go.Proofs.YtlhjbllfcbojmaaDoor

namespace Go.Proofs.YtlhjbllfcbojmaaDoor
open Go Go.RowKit

def secretsI (p : Par) : Int := wrap64 (p.K * wrap64 (p.D + 1))
end Go.Proofs.YtlhjbllfcbojmaaDoor

namespace Go.Proofs.YtlhjbllfcbojmaaDoor
open Go Go.RowKit Go.Shelf

theorem ssecrets_any (p : Par) (w : World) :
    Calls Tryd.prog 64 #[p.v] w fun e w' => e = .returned (.int .i64 (secretsI p)) ∧ w.grownBy w' none := by
  go_enter Tryd.func64, Tryd.ntmps64
  go_wp2
  go_ret
  exact ⟨rfl, World.grownBy_alloc w _ none⟩
/-- Whether K and D are within their bounds. -/
def smallB (p : Par) : Bool := decide (0 ≤ p.K ∧ 0 ≤ p.D ∧ p.K ≤ 2 ∧ p.D ≤ 4)
set_option maxHeartbeats 1000000 in
theorem ssmall_any (p : Par) (w : World) :
    Calls Tryd.prog 65 #[p.v] w fun e w' => e = .returned (.bool (smallB p)) ∧ w.grownBy w' none := by
  obtain ⟨b, hb⟩ : ∃ b, b = smallB p := ⟨_, rfl⟩
  have HB : Hid ((b = true) = (0 ≤ p.K ∧ 0 ≤ p.D ∧ p.K ≤ 2 ∧ p.D ≤ 4)) := Lib.hid (by rw [hb, smallB]; simp)
  rw [← hb]
  clear hb
  by_cases h0 : 0 ≤ min p.K p.D
  · have d0 : decide (min p.K p.D ≥ 0) = true := by simpa using h0
    by_cases h1 : p.K ≤ 2
    · have d1 : decide (p.K ≤ 2) = true := by simpa using h1
      by_cases h2 : p.D ≤ 4
      · have d2 : decide (p.D ≤ 4) = true := by simpa using h2
        obtain rfl : b = true := by rw [HB.out]; omega
        clear h0 h1 h2 HB
        go_enter Tryd.func65, Tryd.ntmps65
        go_wp2
        go_ret
        exact ⟨by simp [*], World.grownBy_alloc w _ none⟩
      · have d2 : decide (p.D ≤ 4) = false := by simpa using h2
        obtain rfl : b = false := by rw [← Bool.not_eq_true, HB.out]; omega
        clear h0 h1 h2 HB
        go_enter Tryd.func65, Tryd.ntmps65
        go_wp2
        go_ret
        exact ⟨by simp [*], World.grownBy_alloc w _ none⟩
    · have d1 : decide (p.K ≤ 2) = false := by simpa using h1
      obtain rfl : b = false := by rw [← Bool.not_eq_true, HB.out]; omega
      clear h0 h1 HB
      go_enter Tryd.func65, Tryd.ntmps65
      go_wp2
      go_ret
      exact ⟨by simp [*], World.grownBy_alloc w _ none⟩
  · have d0 : decide (min p.K p.D ≥ 0) = false := by simpa using h0
    obtain rfl : b = false := by rw [← Bool.not_eq_true, HB.out]; omega
    clear h0 HB
    go_enter Tryd.func65, Tryd.ntmps65
    go_wp2
    go_ret
    exact ⟨by simp [*], World.grownBy_alloc w _ none⟩
end Go.Proofs.YtlhjbllfcbojmaaDoor

namespace Go.Proofs.YtlhjbllfcbojmaaDoor
open Go Go.RowKit Go.Shelf

set_option maxRecDepth 100000 in
set_option maxHeartbeats 400000 in
theorem allP_any (v : Value) (ls : List (List (Int × Int))) (s : Nat) (X : Nat → Prop) (w : World) (h : Sl (encS encP) X w v ls) (hs : ∀ x ∈ ls, s < x.length) (hb : ls.length ≤ 100000) (hb2 : s ≤ 100000) :
    Calls Tryd.prog 73 #[v, .int .i64 s] w (Gives encP (fun g => w.heap.size ≤ g) w (ls.map fun x => x[s]?.getD (0, 0))) := by
  have H := Lib.hid h
  have HS := Lib.hid hs
  have HB := Lib.hid hb
  obtain ⟨A, c, rfl, hc1, hc2⟩ := h.form
  have hs0 : (0 : Int) ≤ (s : Int) := by omega
  clear h hs hb
  go_enter Tryd.func73, Tryd.ntmps73
  go_wp2_with fail
  go_loopg [5, 10] ls.length (fun g s5 s10 wx => ∃ j : Nat, j + g = ls.length ∧ s10 = .int .i64 j ∧ Hid (Acc encP w.heap.size 26 (fun g => w.heap.size ≤ g) wx s5 ((ls.take j).map fun x => x[s]?.getD (0, 0)) ∧ w.grownBy wx none))
  case atStart => exact ⟨0, by omega, rfl, Lib.hid ⟨Acc.nil _ _ _ _ _, World.grownBy.refl _ none⟩⟩
  case round =>
    obtain ⟨j, hj, rfl, HX⟩ := hrel
    cases gk with
    | zero =>
      obtain rfl : j = ls.length := by omega
      have HR : Hid (Sl encP (fun g => w.heap.size ≤ g) wr u5 (ls.map fun x => x[s]?.getD (0, 0)) ∧ w.grownBy wr none) := Lib.hid ⟨by have := HX.out.1.sl; rwa [List.take_length] at this, HX.out.2⟩
      clear HX
      go_wp2
      go_ret
      exact ⟨_, rfl, HR.out.1, HR.out.2⟩
    | succ m =>
      have hjn : (j : Int) < (ls.length : Int) := by omega
      have hjN : j < ls.length := by omega
      obtain ⟨hacc, hg⟩ := HX.out
      obtain ⟨g, o, c', u, e, _, _, hcu0, hsu⟩ := H.out.atS hjN
      injection e with e1 e2 e3
      subst e1 e3
      have hcu : wr.cell? ⟨g, o + j, none⟩ = some u := cell_kept hcu0 hg (by simp)
      have hsl : s < ls[j].length := HS.out _ (List.getElem_mem hjN)
      have hslI : (s : Int) < (ls[j].length : Int) := by omega
      obtain ⟨A1, c1, e1, hc3, hc4⟩ := hsu.form
      subst e1
      obtain ⟨g2, o2, c2, e2, _, _, hcx, hcx2, hux⟩ := (hsu.kept hg).atP hsl
      injection e2 with e21 e22 e23
      subst e21 e23
      have HREP : Hid (encP.rep (fun g => (fun g => w.heap.size ≤ g) g ∧ some g ≠ u5.ownBlock) wr [.int .u64 ls[j][s].1, .int .u64 ls[j][s].2] ls[j][s]) := Lib.hid ⟨rfl, hux⟩
      have HSN : Hid ((ls.take (j + 1)).map (fun x => x[s]?.getD (0, 0)) = (ls.take j).map (fun x => x[s]?.getD (0, 0)) ++ [ls[j][s]]) := Lib.hid (by rw [List.take_succ_eq_append_getElem hjN, List.map_append]; simp [hsl])
      have HAC := Lib.hid hacc
      have HG := Lib.hid hg
      have HLB : Hid ((((ls.take j).map fun x => x[s]?.getD (0, 0)).length + 1) * 16 ≤ 140737488355328) := Lib.hid (by have := HB.out; simp; omega)
      clear hacc hg hsu HX hcu0 hux
      generalize ls[j][s] = y at *
      generalize ls[j].length = n1 at *
      go_wp2_with (at_builtin; refine wpList_pushG rfl (.tmp 14) (.tmp 19) rfl (E := encP) el_pair HG.out HAC.out (fun _ h => h) HREP.out HLB.out rfl rfl ?_)
      intro v2 w2 hacc2 hg2 hgo
      have HFIN : Hid (Acc encP w.heap.size 26 (fun g => w.heap.size ≤ g) w2 v2 ((ls.take (j + 1)).map fun x => x[s]?.getD (0, 0)) ∧ w.grownBy w2 none) := Lib.hid ⟨by rw [HSN.out]; simpa using hacc2, hg2⟩
      clear hacc2 hg2 hgo
      go_wp2_with fail
      go_roundg m
      case measure => omega
      case rel => exact ⟨j + 1, by omega, by go_num, HFIN⟩
end Go.Proofs.YtlhjbllfcbojmaaDoor

namespace Go.Proofs.YtlhjbllfcbojmaaDoor
open Go Go.RowKit Go.Shelf

set_option maxRecDepth 100000 in
set_option maxHeartbeats 400000 in
theorem sweights_any (v : Value) (at_ : List Int) (q : Int) (X : Nat → Prop) (w : World) (h : Sl encI X w v at_) (hm : ∀ i ∈ at_, 1 ≤ i ∧ i ≤ 7) (hq : U64 q) (hb : at_.length ≤ 100000) :
    Calls Tryd.prog 68 #[v, .int .u64 q] w (GivesE encU (fun g => w.heap.size ≤ g) w (wList q at_ 0) (wErr q at_ 0)) := by
  have H := Lib.hid h
  have HM := Lib.hid hm
  have HQ := Lib.hid hq
  have HB := Lib.hid hb
  obtain ⟨A, c, rfl, hc1, hc2⟩ := h.form
  clear h hm hq hb
  go_enter Tryd.func68, Tryd.ntmps68
  go_wp2_with fail
  go_loopg [6, 11] at_.length (fun g s6 s11 wx => ∃ j : Nat, j + g = at_.length ∧ s11 = .int .i64 j ∧ Hid (Acc encU w.heap.size 22 (fun g => w.heap.size ≤ g) wx s6 (at_.take j) ∧ w.grownBy wx none))
  case atStart => exact ⟨0, by omega, rfl, Lib.hid ⟨Acc.nil _ _ _ _ _, World.grownBy.refl _ none⟩⟩
  case round =>
    obtain ⟨j, hj, rfl, HX⟩ := hrel
    cases gk with
    | zero =>
      obtain rfl : j = at_.length := by omega
      have HR : Hid (Sl encU (fun g => w.heap.size ≤ g) wr u6 at_ ∧ w.grownBy wr none) := Lib.hid ⟨by have := HX.out.1.sl; rwa [List.take_length] at this, HX.out.2⟩
      have HW := Lib.hid (weights_any u6 at_ 0 q _ wr HR.out.1 ⟨by decide, by decide⟩ HQ.out)
      have HS := Lib.hid HR.out.2.size
      clear HX
      go_wp2_with fail
      refine HW.out.mono ?_
      rintro e w1 ⟨v1, rfl, hs1, hg1⟩
      have HF : Hid (Sl encU (fun g => w.heap.size ≤ g) w1 v1 (wList q at_ 0) ∧ w.grownBy w1 none) := Lib.hid ⟨hs1.more fun g _ h => Nat.le_trans HS.out h, HR.out.2.trans hg1⟩
      clear hs1 hg1
      go_wp2
      go_ret2
      exact ⟨_, rfl, HF.out.1, HF.out.2⟩
    | succ m =>
      have hjn : (j : Int) < (at_.length : Int) := by omega
      have hjN : j < at_.length := by omega
      obtain ⟨hacc, hg⟩ := HX.out
      obtain ⟨g, o, c', e, _, _, hcu, _⟩ := (H.out.kept hg).atI hjN
      injection e with e1 e2 e3
      subst e1 e3
      have hi := HM.out _ (List.getElem_mem hjN)
      have HSN : Hid (at_.take (j + 1) = at_.take j ++ [at_[j]]) := Lib.hid (List.take_succ_eq_append_getElem hjN)
      have HU : Hid (U64 at_[j]) := Lib.hid ⟨by omega, by omega⟩
      have HAC := Lib.hid hacc
      have HG := Lib.hid hg
      have HLB : Hid (((at_.take j).length + 1) * 8 ≤ 140737488355328) := Lib.hid (by have := HB.out; simp; omega)
      clear hacc hg HX
      obtain ⟨hi1, hi2⟩ := hi
      generalize at_[j] = y at *
      have hcv : IntKind.u64.wrap y = y := IntWalk.u64_in _ (by omega)
      generalize at_.length = n at *
      go_wp2_with (at_builtin; refine wpList_pushG rfl (.tmp 15) (.tmp 18) rfl (E := encU) el_u64 HG.out HAC.out (fun _ h => h) ⟨rfl, HU.out⟩ HLB.out rfl rfl ?_)
      intro v2 w2 hacc2 hg2 hgo
      have HFIN : Hid (Acc encU w.heap.size 22 (fun g => w.heap.size ≤ g) w2 v2 (at_.take (j + 1)) ∧ w.grownBy w2 none) := Lib.hid ⟨by rw [HSN.out]; simpa using hacc2, hg2⟩
      clear hacc2 hg2 hgo
      go_wp2_with fail
      go_roundg m
      case measure => omega
      case rel => exact ⟨j + 1, by omega, by go_num, HFIN⟩
end Go.Proofs.YtlhjbllfcbojmaaDoor

namespace Go.Proofs.YtlhjbllfcbojmaaDoor
open Go Go.RowKit Go.Shelf

end Go.Proofs.YtlhjbllfcbojmaaDoor

namespace Go.Proofs.YtlhjbllfcbojmaaDoor
open Go Go.RowKit

/-- No index. -/
def memBad (i : Int) : Bool := decide (i < 1) || decide (7 < i)
theorem memOne_any (i : Int) (w : World) :
    Calls Tryd.prog 82 #[.int .i64 i] w fun e w' => e = .returned (.bool (memBad i)) ∧ w.grownBy w' none := by
  by_cases h1 : i < 1
  · have hr : memBad i = true := by simp [memBad, h1]
    rw [hr]
    clear hr
    go_enter Tryd.func82, Tryd.ntmps82
    go_wp2
    go_ret
    exact ⟨by simp, World.grownBy.refl _ none⟩
  · by_cases h2 : 7 < i
    · have hr : memBad i = true := by simp [memBad, h2]
      rw [hr]
      clear hr
      go_enter Tryd.func82, Tryd.ntmps82
      go_wp2
      go_ret
      exact ⟨by simp [*], World.grownBy.refl _ none⟩
    · have hr : memBad i = false := by simp [memBad, h1, h2]
      rw [hr]
      clear hr
      go_enter Tryd.func82, Tryd.ntmps82
      go_wp2
      go_ret
      exact ⟨by simp [*], World.grownBy.refl _ none⟩
set_option maxHeartbeats 400000 in
theorem indexMem  (v : Value) (l : List (Int)) (X : Nat → Prop) (w : World)  (h : Sl encI X w v l) :
    Calls Tryd.prog 88 #[v, .func (.func 82) #[] #[]] w (FoundB (l.any fun x => memBad x) w) := by
  have H := Lib.hid h
  have hl := h.bound
  obtain ⟨A, c, rfl, _, _⟩ := h.form
  clear h 
  go_enter Tryd.func88, Tryd.ntmps88
  go_wp2_with fail
  go_loopg [8] l.length (fun n s8 wx => ∃ j : Nat, j + n = l.length ∧ s8 = .int .i64 j ∧ Hid (w.grownBy wx none ∧ ∀ i (h : i < l.length), i < j → memBad l[i] = false))
  case atStart => exact ⟨0, by omega, rfl, Lib.hid ⟨World.grownBy.refl w none, fun i hi h => absurd h (by omega)⟩⟩
  case round =>
    obtain ⟨j, hj, rfl, HX⟩ := hrel
    cases gk with
    | zero =>
      obtain rfl : j = l.length := by omega
      have HE : Hid (FoundB (l.any fun x => memBad x) w (.returned (.int .i64 (-1))) wr) := Lib.hid ⟨-1, rfl, by
        have : (l.any fun x => memBad x) = false := by
          rw [List.any_eq_false]
          intro b hb
          obtain ⟨i, hi, rfl⟩ := List.getElem_of_mem hb
          simp [HX.out.2 i hi hi]
        rw [this]
        rfl, ⟨by decide, by decide⟩, HX.out.1⟩
      clear HX
      go_wp2
      go_ret
      exact HE.out
    | succ k =>
      have hjn : (j : Int) < (l.length : Int) := by omega
      have hjN : j < l.length := by omega
      obtain ⟨g, o, c', e, _, _, hcu, hu⟩ := (H.out.kept HX.out.1).atI hjN
      injection e with e1 e2 e3
      subst e1 e3
      have HC := Lib.hid (memOne_any l[j] wr)
      have HV : Hid (memBad l[j] = false ∨ memBad l[j] = true) := Lib.hid (by cases memBad l[j] <;> simp)
      have HR : Hid (memBad l[j] = false → ∀ i (h : i < l.length), i < j + 1 → memBad l[i] = false) := Lib.hid (fun h i hi hl => by
        rcases Nat.lt_or_ge i j with h1 | h1
        · exact HX.out.2 i hi h1
        · obtain rfl : i = j := by omega
          exact h)
      have HN : Hid (memBad l[j] = true → (l.any fun x => memBad x) = true) := Lib.hid (fun h => List.any_eq_true.2 ⟨_, List.getElem_mem hjN, by simp [h]⟩)
      have HG := Lib.hid HX.out.1
      clear HX hu e2
      generalize memBad l[j] = b at *
      generalize l[j] = x at *
      rcases HV.out with rfl | rfl
      · go_wp2_with fail
        refine HC.out.mono ?_
        rintro e w1 ⟨rfl, hg⟩
        have HG1 := Lib.hid (HG.out.trans hg)
        clear hg
        go_wp2
        go_roundg k
        case measure => omega
        case rel => exact ⟨j + 1, by omega, by go_num, Lib.hid ⟨HG1.out, HR.out (by simp)⟩⟩
      · have HE : Hid (∀ w1, w.grownBy w1 none → FoundB (l.any fun x => memBad x) w (.returned (.int .i64 j)) w1) := Lib.hid (fun w1 hg => ⟨j, rfl, by rw [HN.out rfl]; simp, ⟨by omega, by omega⟩, hg⟩)
        go_wp2_with fail
        refine HC.out.mono ?_
        rintro e w1 ⟨rfl, hg⟩
        have HG1 := Lib.hid (HG.out.trans hg)
        clear hg
        go_wp2
        go_ret
        exact HE.out _ HG1.out
set_option maxHeartbeats 400000 in
theorem containsMem  (v : Value) (l : List (Int)) (X : Nat → Prop) (w : World)  (h : Sl encI X w v l) :
    Calls Tryd.prog 81 #[v, .func (.func 82) #[] #[]] w fun e w' => e = .returned (.bool (l.any fun x => memBad x)) ∧ w.grownBy w' none := by
  have HC := Lib.hid (indexMem  v l X w  h)
  obtain ⟨A, c, rfl, _, _⟩ := h.form
  clear h 
  go_enter Tryd.func81, Tryd.ntmps81
  go_wp2_with fail
  refine HC.out.mono ?_
  rintro e w1 ⟨r, rfl, hr, _, hg⟩
  have HG := Lib.hid hg
  have HR := Lib.hid hr
  clear hg hr
  go_wp2
  go_ret
  exact ⟨ret_bool HR.out, HG.out⟩
/-- All are indices, and there are some. -/
def membersB (at_ : List Int) : Bool := decide (0 < at_.length) && !at_.any fun i => memBad i
theorem membersB_yes {at_ : List Int} (h : membersB at_ = true) : 0 < at_.length ∧ ∀ i ∈ at_, 1 ≤ i ∧ i ≤ 7 := by
  simp [membersB, memBad] at h
  exact ⟨h.1, fun i hi => h.2 i hi⟩
set_option maxHeartbeats 400000 in
theorem members_any (v : Value) (at_ : List Int) (X : Nat → Prop) (w : World) (h : Sl encI X w v at_) :
    Calls Tryd.prog 66 #[v] w fun e w' => e = .returned (.bool (membersB at_)) ∧ w.grownBy w' none := by
  have HC := Lib.hid (containsMem v at_ X w h)
  obtain ⟨A, c, rfl, _, _⟩ := h.form
  clear h
  by_cases h0 : 0 < at_.length
  · have hr : membersB at_ = !at_.any fun i => memBad i := by simp [membersB, h0]
    rw [hr]
    clear hr
    have hI : (0 : Int) < (at_.length : Int) := by omega
    generalize (at_.any fun i => memBad i) = b at *
    generalize at_.length = n at *
    go_enter Tryd.func66, Tryd.ntmps66
    go_wp2_with fail
    refine HC.out.mono ?_
    rintro e w1 ⟨rfl, hg⟩
    have HG := Lib.hid hg
    clear hg
    go_wp2
    go_ret
    exact ⟨by simp, HG.out⟩
  · have hr : membersB at_ = false := by simp [membersB, h0]
    rw [hr]
    clear hr
    have hI : ¬ (0 : Int) < (at_.length : Int) := by omega
    generalize at_.length = n at *
    go_enter Tryd.func66, Tryd.ntmps66
    go_wp2
    go_ret
    exact ⟨by simp [*], World.grownBy.refl _ none⟩
/-- A list of a column that is too short or too long. -/
def shortB (p : Par) (x : List Int) : Bool := !((x.length : Int) == wrap64 (p.T + 1))
/-- A member's list that is too short or too long. -/
def oddB (p : Par) (x : List (Int × Int)) : Bool := !((x.length : Int) == secretsI p)
theorem odd_any (p : Par) (B : Nat) (v : Value) (x : List (Int × Int)) (X : Nat → Prop) (w : World) (hb : Bk w B 24 p.cells) (h : Sl encP X w v x) :
    Calls Tryd.prog 63 #[v, .pointer (some ⟨B, 0, none⟩)] w fun e w' => e = .returned (.bool (oddB p x)) ∧ w.grownBy w' none := by
  obtain ⟨A, c, rfl, _, _⟩ := h.form
  have hc := hb.prule
  have HS := Lib.hid (ssecrets_any p w)
  obtain ⟨r, hr⟩ : ∃ r, r = oddB p x := ⟨_, rfl⟩
  have HR := Lib.hid hr
  rw [← hr]
  clear h hb hr
  go_enter Tryd.func63, Tryd.ntmps63
  go_wp2_with fail
  refine HS.out.mono ?_
  rintro e w1 ⟨rfl, hg⟩
  have HG := Lib.hid hg
  clear hg hc
  go_wp2
  go_ret
  exact ⟨ret_bool (by rw [HR.out]; rfl), HG.out⟩
set_option maxHeartbeats 400000 in
theorem indexOdd (p : Par) (B : Nat) (v : Value) (l : List (List (Int × Int))) (X : Nat → Prop) (w : World) (hb : Bk w B 24 p.cells) (h : Sl (encS encP) X w v l) :
    Calls Tryd.prog 83 #[v, .func (.func 63) #[] #[.pointer (some ⟨B, 0, none⟩)]] w (FoundB (l.any fun x => oddB p x) w) := by
  have Hhb := Lib.hid hb
  have H := Lib.hid h
  have hl := h.bound
  obtain ⟨A, c, rfl, _, _⟩ := h.form
  clear h hb
  go_enter Tryd.func83, Tryd.ntmps83
  go_wp2_with fail
  go_loopg [8] l.length (fun n s8 wx => ∃ j : Nat, j + n = l.length ∧ s8 = .int .i64 j ∧ Hid (w.grownBy wx none ∧ ∀ i (h : i < l.length), i < j → oddB p l[i] = false))
  case atStart => exact ⟨0, by omega, rfl, Lib.hid ⟨World.grownBy.refl w none, fun i hi h => absurd h (by omega)⟩⟩
  case round =>
    obtain ⟨j, hj, rfl, HX⟩ := hrel
    cases gk with
    | zero =>
      obtain rfl : j = l.length := by omega
      have HE : Hid (FoundB (l.any fun x => oddB p x) w (.returned (.int .i64 (-1))) wr) := Lib.hid ⟨-1, rfl, by
        have : (l.any fun x => oddB p x) = false := by
          rw [List.any_eq_false]
          intro b hb
          obtain ⟨i, hi, rfl⟩ := List.getElem_of_mem hb
          simp [HX.out.2 i hi hi]
        rw [this]
        rfl, ⟨by decide, by decide⟩, HX.out.1⟩
      clear HX
      go_wp2
      go_ret
      exact HE.out
    | succ k =>
      have hjn : (j : Int) < (l.length : Int) := by omega
      have hjN : j < l.length := by omega
      obtain ⟨g, o, c', u, e, _, _, hcu, hu⟩ := (H.out.kept HX.out.1).atS hjN
      injection e with e1 e2 e3
      subst e1 e3
      have HC := Lib.hid (odd_any p B u l[j] X wr (Hhb.out.grown HX.out.1 (by simp)) hu)
      have HV : Hid (oddB p l[j] = false ∨ oddB p l[j] = true) := Lib.hid (by cases oddB p l[j] <;> simp)
      have HR : Hid (oddB p l[j] = false → ∀ i (h : i < l.length), i < j + 1 → oddB p l[i] = false) := Lib.hid (fun h i hi hl => by
        rcases Nat.lt_or_ge i j with h1 | h1
        · exact HX.out.2 i hi h1
        · obtain rfl : i = j := by omega
          exact h)
      have HN : Hid (oddB p l[j] = true → (l.any fun x => oddB p x) = true) := Lib.hid (fun h => List.any_eq_true.2 ⟨_, List.getElem_mem hjN, by simp [h]⟩)
      obtain ⟨A7, c7, e7, _, _⟩ := hu.form
      generalize l[j].length = n7 at e7
      subst e7
      have HG := Lib.hid HX.out.1
      clear HX hu e2
      generalize oddB p l[j] = b at *
      generalize l[j] = x at *
      rcases HV.out with rfl | rfl
      · go_wp2_with fail
        refine HC.out.mono ?_
        rintro e w1 ⟨rfl, hg⟩
        have HG1 := Lib.hid (HG.out.trans hg)
        clear hg
        go_wp2
        go_roundg k
        case measure => omega
        case rel => exact ⟨j + 1, by omega, by go_num, Lib.hid ⟨HG1.out, HR.out (by simp)⟩⟩
      · have HE : Hid (∀ w1, w.grownBy w1 none → FoundB (l.any fun x => oddB p x) w (.returned (.int .i64 j)) w1) := Lib.hid (fun w1 hg => ⟨j, rfl, by rw [HN.out rfl]; simp, ⟨by omega, by omega⟩, hg⟩)
        go_wp2_with fail
        refine HC.out.mono ?_
        rintro e w1 ⟨rfl, hg⟩
        have HG1 := Lib.hid (HG.out.trans hg)
        clear hg
        go_wp2
        go_ret
        exact HE.out _ HG1.out
set_option maxHeartbeats 400000 in
theorem containsOdd (p : Par) (B : Nat) (v : Value) (l : List (List (Int × Int))) (X : Nat → Prop) (w : World) (hb : Bk w B 24 p.cells) (h : Sl (encS encP) X w v l) :
    Calls Tryd.prog 67 #[v, .func (.func 63) #[] #[.pointer (some ⟨B, 0, none⟩)]] w fun e w' => e = .returned (.bool (l.any fun x => oddB p x)) ∧ w.grownBy w' none := by
  have HC := Lib.hid (indexOdd p B v l X w hb h)
  obtain ⟨A, c, rfl, _, _⟩ := h.form
  clear h hb
  go_enter Tryd.func67, Tryd.ntmps67
  go_wp2_with fail
  refine HC.out.mono ?_
  rintro e w1 ⟨r, rfl, hr, _, hg⟩
  have HG := Lib.hid hg
  have HR := Lib.hid hr
  clear hg hr
  go_wp2
  go_ret
  exact ⟨ret_bool HR.out, HG.out⟩
end Go.Proofs.YtlhjbllfcbojmaaDoor

namespace Go.Proofs.YtlhjbllfcbojmaaDoor
open Go.RowKit

end Go.Proofs.YtlhjbllfcbojmaaDoor

namespace Go.Proofs.YtlhjbllfcbojmaaDoor
open Go Go.RowKit

set_option maxRecDepth 100000 in
set_option maxHeartbeats 400000 in
theorem sum2_any (p : Par) (gp : Nat) (x : Int × Int) (k : Int) (w : World) (hb : Bk w gp 24 p.cells) (hu1 : U64 x.1) (hu2 : U64 x.2) (hu3 : U64 k) (hu4 : True) :
    Calls Tryd.prog 69 #[.agg #[.int .u64 x.1, .int .u64 x.2], .int .u64 k, .pointer (some ⟨gp, 0, none⟩)] w fun e w' => e = .returned (.agg #[.int .u64 (mulI x.1 k p.Q), .int .u64 (mulI x.2 k p.Q)]) ∧ w.grownBy w' none := by
  have HP : Hid (Bk ((w.alloc (.cells #[.int .u64 x.1, .int .u64 x.2] 26)).alloc (.cells #[.int .u64 0, .int .u64 0] 26)) gp 24 p.cells) := Lib.hid ((hb.alloc _).alloc _)
  have HX0 : Hid (Bk ((w.alloc (.cells #[.int .u64 x.1, .int .u64 x.2] 26)).alloc (.cells #[.int .u64 0, .int .u64 0] 26)) (w.heap.size) 26 #[.int .u64 x.1, .int .u64 x.2]) := Lib.hid (by have := (Bk.new w 26 #[.int .u64 x.1, .int .u64 x.2]).alloc (.cells #[.int .u64 0, .int .u64 0] 26); simpa using this)
  have HR : Hid (Bk ((w.alloc (.cells #[.int .u64 x.1, .int .u64 x.2] 26)).alloc (.cells #[.int .u64 0, .int .u64 0] 26)) (w.heap.size + 1) 26 #[.int .u64 0, .int .u64 0]) := Lib.hid (by have := Bk.new (w.alloc (.cells #[.int .u64 x.1, .int .u64 x.2] 26)) 26 #[.int .u64 0, .int .u64 0]; simpa using this)
  have HG : Hid (w.grownBy ((w.alloc (.cells #[.int .u64 x.1, .int .u64 x.2] 26)).alloc (.cells #[.int .u64 0, .int .u64 0] 26)) none ∧ w.heap.size + 1 < ((w.alloc (.cells #[.int .u64 x.1, .int .u64 x.2] 26)).alloc (.cells #[.int .u64 0, .int .u64 0] 26)).heap.size) := Lib.hid ⟨(World.grownBy_alloc w _ none).trans (World.grownBy_alloc _ _ none), by simp⟩
  have HU := Lib.hid (And.intro hu1 (And.intro hu2 (And.intro hu3 hu4)))
  clear hb hu1 hu2 hu3 hu4
  go_enter Tryd.func69, Tryd.ntmps69
  go_wp2_with fail
  obtain ⟨W, hW⟩ : ∃ W, W = ((w.alloc (.cells #[.int .u64 x.1, .int .u64 x.2] 26)).alloc (.cells #[.int .u64 0, .int .u64 0] 26)) := ⟨_, rfl⟩
  rw [← hW] at HP HR HG HX0 ⊢
  clear hW
  refine wp_region_mono 13 (by kernel_rfl) (by kernel_rfl) ?_
  refine MonoR.step (Pv.eq (.pointer (some ⟨w.heap.size, 0, none⟩))) [] (by kernel_rfl) (fun w' hw' => ?_) ?_
  · refine ask_do rfl fun K hK => ?_
    go_simp
    exact hK _ _ rfl rfl (World.grownBy.refl _ none)
  refine MonoR.step (Pv.eq (.int .u64 x.1)) [(0, 6)] (by kernel_rfl) (fun w' hw' => ?_) ?_
  · rintro _ rfl
    refine ask_do rfl fun K hK => ?_
    have hq := (HP.out.grown ((grown_drewN' W 1).trans hw') (by simp)).prule
    have hx0 := (HX0.out.grown ((grown_drewN' W 1).trans hw') (by simp)).cell
    have hx0a := hx0 0; have hx0b := hx0 1; simp at hx0a hx0b
    go_simp
    exact hK _ _ rfl rfl (World.grownBy.refl _ none)
  refine MonoR.step (Pv.eq (.int .u64 k)) [] (by kernel_rfl) (fun w' hw' => ?_) ?_
  · refine ask_do rfl fun K hK => ?_
    go_simp
    exact hK _ _ rfl rfl (World.grownBy.refl _ none)
  refine MonoR.step (Pv.eq (.pointer (some ⟨gp, 1, none⟩))) [] (by kernel_rfl) (fun w' hw' => ?_) ?_
  · refine ask_do rfl fun K hK => ?_
    go_simp
    exact hK _ _ rfl rfl (World.grownBy.refl _ none)
  refine MonoR.step (Pv.eq (.int .u64 p.Q)) [(3, 9)] (by kernel_rfl) (fun w' hw' => ?_) ?_
  · rintro _ rfl
    refine ask_do rfl fun K hK => ?_
    have hq := (HP.out.grown ((grown_drewN' W 1).trans hw') (by simp)).prule
    have hx0 := (HX0.out.grown ((grown_drewN' W 1).trans hw') (by simp)).cell
    have hx0a := hx0 0; have hx0b := hx0 1; simp at hx0a hx0b
    go_simp
    exact hK _ _ rfl rfl (World.grownBy.refl _ none)
  refine MonoR.step (Pv.eq (.int .u64 (mulI x.1 k p.Q))) [(1, 7), (2, 8), (4, 10)] (by kernel_rfl) (fun w' hw' => ?_) ?_
  · rintro _ rfl
    rintro _ rfl
    rintro _ rfl
    refine ask_do rfl fun K hK => ?_
    go_simp
    refine (mul_gr x.1 k p.Q w' HU.out.1 HU.out.2.2.1).mono ?_
    rintro e w3 ⟨rfl, hg⟩
    exact hK _ _ rfl rfl hg
  refine MonoR.step (Pv.eq (.pointer (some ⟨w.heap.size, 1, none⟩))) [] (by kernel_rfl) (fun w' hw' => ?_) ?_
  · refine ask_do rfl fun K hK => ?_
    go_simp
    exact hK _ _ rfl rfl (World.grownBy.refl _ none)
  refine MonoR.step (Pv.eq (.int .u64 x.2)) [(6, 12)] (by kernel_rfl) (fun w' hw' => ?_) ?_
  · rintro _ rfl
    refine ask_do rfl fun K hK => ?_
    have hq := (HP.out.grown ((grown_drewN' W 1).trans hw') (by simp)).prule
    have hx0 := (HX0.out.grown ((grown_drewN' W 1).trans hw') (by simp)).cell
    have hx0a := hx0 0; have hx0b := hx0 1; simp at hx0a hx0b
    go_simp
    exact hK _ _ rfl rfl (World.grownBy.refl _ none)
  refine MonoR.step (Pv.eq (.int .u64 k)) [] (by kernel_rfl) (fun w' hw' => ?_) ?_
  · refine ask_do rfl fun K hK => ?_
    go_simp
    exact hK _ _ rfl rfl (World.grownBy.refl _ none)
  refine MonoR.step (Pv.eq (.pointer (some ⟨gp, 1, none⟩))) [] (by kernel_rfl) (fun w' hw' => ?_) ?_
  · refine ask_do rfl fun K hK => ?_
    go_simp
    exact hK _ _ rfl rfl (World.grownBy.refl _ none)
  refine MonoR.step (Pv.eq (.int .u64 p.Q)) [(9, 15)] (by kernel_rfl) (fun w' hw' => ?_) ?_
  · rintro _ rfl
    refine ask_do rfl fun K hK => ?_
    have hq := (HP.out.grown ((grown_drewN' W 1).trans hw') (by simp)).prule
    have hx0 := (HX0.out.grown ((grown_drewN' W 1).trans hw') (by simp)).cell
    have hx0a := hx0 0; have hx0b := hx0 1; simp at hx0a hx0b
    go_simp
    exact hK _ _ rfl rfl (World.grownBy.refl _ none)
  refine MonoR.step (Pv.eq (.int .u64 (mulI x.2 k p.Q))) [(7, 13), (8, 14), (10, 16)] (by kernel_rfl) (fun w' hw' => ?_) ?_
  · rintro _ rfl
    rintro _ rfl
    rintro _ rfl
    refine ask_do rfl fun K hK => ?_
    go_simp
    refine (mul_gr x.2 k p.Q w' HU.out.2.1 HU.out.2.2.1).mono ?_
    rintro e w3 ⟨rfl, hg⟩
    exact hK _ _ rfl rfl hg
  refine MonoR.step (Pv.eq (.agg #[.int .u64 (mulI x.1 k p.Q), .int .u64 (mulI x.2 k p.Q)])) [(5, 11), (11, 17)] (by kernel_rfl) (fun w' hw' => ?_) ?_
  · rintro _ rfl
    rintro _ rfl
    refine ask_do rfl fun K hK => ?_
    go_simp
    exact hK _ _ rfl rfl (World.grownBy.refl _ none)
  intro w3 hw3
  intro y0 e0 y1 e1 y2 e2 y3 e3 y4 e4 y5 e5 y6 e6 y7 e7 y8 e8 y9 e9 y10 e10 y11 e11 y12 e12
  have e0 : y0 = .pointer (some ⟨w.heap.size, 0, none⟩) := e0
  subst e0
  have e1 : y1 = .int .u64 x.1 := e1
  subst e1
  have e2 : y2 = .int .u64 k := e2
  subst e2
  have e3 : y3 = .pointer (some ⟨gp, 1, none⟩) := e3
  subst e3
  have e4 : y4 = .int .u64 p.Q := e4
  subst e4
  have e5 : y5 = .int .u64 (mulI x.1 k p.Q) := e5
  subst e5
  have e6 : y6 = .pointer (some ⟨w.heap.size, 1, none⟩) := e6
  subst e6
  have e7 : y7 = .int .u64 x.2 := e7
  subst e7
  have e8 : y8 = .int .u64 k := e8
  subst e8
  have e9 : y9 = .pointer (some ⟨gp, 1, none⟩) := e9
  subst e9
  have e10 : y10 = .int .u64 p.Q := e10
  subst e10
  have e11 : y11 = .int .u64 (mulI x.2 k p.Q) := e11
  subst e11
  have e12 : y12 = .agg #[.int .u64 (mulI x.1 k p.Q), .int .u64 (mulI x.2 k p.Q)] := e12
  subst e12
  simp only [Act.put, List.setIfInBounds_toArray, List.set_cons_zero, List.set_cons_succ]
  have hr3 := HR.out.grown ((grown_drewN' W 1).trans hw3) (by simp)
  have hc0 := hr3.cell 0
  have hc1 := hr3.cell 1
  have hf0 := hr3.free 0
  have hf1 := hr3.free 1
  simp at hc0 hc1
  have hk5 := (hr3.set 0 (.int .u64 (mulI x.1 k p.Q))).set 1 (.int .u64 (mulI x.2 k p.Q))
  have hk0 := hk5.cell 0
  have hk1 := hk5.cell 1
  simp at hk0 hk1
  have HF : Hid (w.grownBy ((w3.setCell ⟨w.heap.size + 1, 0, none⟩ (.int .u64 (mulI x.1 k p.Q))).setCell ⟨w.heap.size + 1, 1, none⟩ (.int .u64 (mulI x.2 k p.Q))) none) := Lib.hid (grown_of_below (((below_grown (HG.out.1.trans ((grown_drewN' W 1).trans hw3))).setCell (p := ⟨w.heap.size + 1, 0, none⟩) (by simp <;> omega) _).setCell (p := ⟨w.heap.size + 1, 1, none⟩) (by simp <;> omega) _))
  clear hw3 hr3 hk5
  refine wpList_plain rfl fun K hK => ?_
  go_simp
  refine hK _ _ (wpList_nil ?_)
  go_wp2_with fail
  refine bodyPost_ret (v := .agg #[.int .u64 (mulI x.1 k p.Q), .int .u64 (mulI x.2 k p.Q)]) (by simp [results, Tryd.results69, go_sem, *]) rfl ⟨rfl, HF.out⟩
set_option maxRecDepth 100000 in
set_option maxHeartbeats 400000 in
theorem sum3_any (p : Par) (gp : Nat) (x y : Int × Int) (w : World) (hb : Bk w gp 24 p.cells) (hu1 : U64 x.1) (hu2 : U64 x.2) (hu3 : U64 y.1) (hu4 : U64 y.2) :
    Calls Tryd.prog 70 #[.agg #[.int .u64 x.1, .int .u64 x.2], .agg #[.int .u64 y.1, .int .u64 y.2], .pointer (some ⟨gp, 0, none⟩)] w fun e w' => e = .returned (.agg #[.int .u64 (addI x.1 y.1 p.Q), .int .u64 (addI x.2 y.2 p.Q)]) ∧ w.grownBy w' none := by
  have HP : Hid (Bk (((w.alloc (.cells #[.int .u64 x.1, .int .u64 x.2] 26)).alloc (.cells #[.int .u64 y.1, .int .u64 y.2] 26)).alloc (.cells #[.int .u64 0, .int .u64 0] 26)) gp 24 p.cells) := Lib.hid (((hb.alloc _).alloc _).alloc _)
  have HX0 : Hid (Bk (((w.alloc (.cells #[.int .u64 x.1, .int .u64 x.2] 26)).alloc (.cells #[.int .u64 y.1, .int .u64 y.2] 26)).alloc (.cells #[.int .u64 0, .int .u64 0] 26)) (w.heap.size) 26 #[.int .u64 x.1, .int .u64 x.2]) := Lib.hid (by have := (Bk.new w 26 #[.int .u64 x.1, .int .u64 x.2]).alloc (.cells #[.int .u64 y.1, .int .u64 y.2] 26) |>.alloc (.cells #[.int .u64 0, .int .u64 0] 26); simpa using this)
  have HX1 : Hid (Bk (((w.alloc (.cells #[.int .u64 x.1, .int .u64 x.2] 26)).alloc (.cells #[.int .u64 y.1, .int .u64 y.2] 26)).alloc (.cells #[.int .u64 0, .int .u64 0] 26)) (w.heap.size + 1) 26 #[.int .u64 y.1, .int .u64 y.2]) := Lib.hid (by have := (Bk.new (w.alloc (.cells #[.int .u64 x.1, .int .u64 x.2] 26)) 26 #[.int .u64 y.1, .int .u64 y.2]).alloc (.cells #[.int .u64 0, .int .u64 0] 26); simpa using this)
  have HR : Hid (Bk (((w.alloc (.cells #[.int .u64 x.1, .int .u64 x.2] 26)).alloc (.cells #[.int .u64 y.1, .int .u64 y.2] 26)).alloc (.cells #[.int .u64 0, .int .u64 0] 26)) (w.heap.size + 1 + 1) 26 #[.int .u64 0, .int .u64 0]) := Lib.hid (by have := Bk.new ((w.alloc (.cells #[.int .u64 x.1, .int .u64 x.2] 26)).alloc (.cells #[.int .u64 y.1, .int .u64 y.2] 26)) 26 #[.int .u64 0, .int .u64 0]; simpa using this)
  have HG : Hid (w.grownBy (((w.alloc (.cells #[.int .u64 x.1, .int .u64 x.2] 26)).alloc (.cells #[.int .u64 y.1, .int .u64 y.2] 26)).alloc (.cells #[.int .u64 0, .int .u64 0] 26)) none ∧ w.heap.size + 1 + 1 < (((w.alloc (.cells #[.int .u64 x.1, .int .u64 x.2] 26)).alloc (.cells #[.int .u64 y.1, .int .u64 y.2] 26)).alloc (.cells #[.int .u64 0, .int .u64 0] 26)).heap.size) := Lib.hid ⟨((World.grownBy_alloc w _ none).trans (World.grownBy_alloc _ _ none)).trans (World.grownBy_alloc _ _ none), by simp⟩
  have HU := Lib.hid (And.intro hu1 (And.intro hu2 (And.intro hu3 hu4)))
  clear hb hu1 hu2 hu3 hu4
  go_enter Tryd.func70, Tryd.ntmps70
  go_wp2_with fail
  obtain ⟨W, hW⟩ : ∃ W, W = (((w.alloc (.cells #[.int .u64 x.1, .int .u64 x.2] 26)).alloc (.cells #[.int .u64 y.1, .int .u64 y.2] 26)).alloc (.cells #[.int .u64 0, .int .u64 0] 26)) := ⟨_, rfl⟩
  rw [← hW] at HP HR HG HX0 HX1 ⊢
  clear hW
  refine wp_region_mono 15 (by kernel_rfl) (by kernel_rfl) ?_
  refine MonoR.step (Pv.eq (.pointer (some ⟨w.heap.size, 0, none⟩))) [] (by kernel_rfl) (fun w' hw' => ?_) ?_
  · refine ask_do rfl fun K hK => ?_
    go_simp
    exact hK _ _ rfl rfl (World.grownBy.refl _ none)
  refine MonoR.step (Pv.eq (.int .u64 x.1)) [(0, 6)] (by kernel_rfl) (fun w' hw' => ?_) ?_
  · rintro _ rfl
    refine ask_do rfl fun K hK => ?_
    have hq := (HP.out.grown ((grown_drewN' W 1).trans hw') (by simp)).prule
    have hx0 := (HX0.out.grown ((grown_drewN' W 1).trans hw') (by simp)).cell
    have hx1 := (HX1.out.grown ((grown_drewN' W 1).trans hw') (by simp)).cell
    have hx0a := hx0 0; have hx0b := hx0 1; simp at hx0a hx0b; have hx1a := hx1 0; have hx1b := hx1 1; simp at hx1a hx1b
    go_simp
    exact hK _ _ rfl rfl (World.grownBy.refl _ none)
  refine MonoR.step (Pv.eq (.pointer (some ⟨w.heap.size + 1, 0, none⟩))) [] (by kernel_rfl) (fun w' hw' => ?_) ?_
  · refine ask_do rfl fun K hK => ?_
    go_simp
    exact hK _ _ rfl rfl (World.grownBy.refl _ none)
  refine MonoR.step (Pv.eq (.int .u64 y.1)) [(2, 8)] (by kernel_rfl) (fun w' hw' => ?_) ?_
  · rintro _ rfl
    refine ask_do rfl fun K hK => ?_
    have hq := (HP.out.grown ((grown_drewN' W 1).trans hw') (by simp)).prule
    have hx0 := (HX0.out.grown ((grown_drewN' W 1).trans hw') (by simp)).cell
    have hx1 := (HX1.out.grown ((grown_drewN' W 1).trans hw') (by simp)).cell
    have hx0a := hx0 0; have hx0b := hx0 1; simp at hx0a hx0b; have hx1a := hx1 0; have hx1b := hx1 1; simp at hx1a hx1b
    go_simp
    exact hK _ _ rfl rfl (World.grownBy.refl _ none)
  refine MonoR.step (Pv.eq (.pointer (some ⟨gp, 1, none⟩))) [] (by kernel_rfl) (fun w' hw' => ?_) ?_
  · refine ask_do rfl fun K hK => ?_
    go_simp
    exact hK _ _ rfl rfl (World.grownBy.refl _ none)
  refine MonoR.step (Pv.eq (.int .u64 p.Q)) [(4, 10)] (by kernel_rfl) (fun w' hw' => ?_) ?_
  · rintro _ rfl
    refine ask_do rfl fun K hK => ?_
    have hq := (HP.out.grown ((grown_drewN' W 1).trans hw') (by simp)).prule
    have hx0 := (HX0.out.grown ((grown_drewN' W 1).trans hw') (by simp)).cell
    have hx1 := (HX1.out.grown ((grown_drewN' W 1).trans hw') (by simp)).cell
    have hx0a := hx0 0; have hx0b := hx0 1; simp at hx0a hx0b; have hx1a := hx1 0; have hx1b := hx1 1; simp at hx1a hx1b
    go_simp
    exact hK _ _ rfl rfl (World.grownBy.refl _ none)
  refine MonoR.step (Pv.eq (.int .u64 (addI x.1 y.1 p.Q))) [(1, 7), (3, 9), (5, 11)] (by kernel_rfl) (fun w' hw' => ?_) ?_
  · rintro _ rfl
    rintro _ rfl
    rintro _ rfl
    refine ask_do rfl fun K hK => ?_
    go_simp
    refine (add_gr x.1 y.1 p.Q w' HU.out.1 HU.out.2.2.1).mono ?_
    rintro e w3 ⟨rfl, hg⟩
    exact hK _ _ rfl rfl hg
  refine MonoR.step (Pv.eq (.pointer (some ⟨w.heap.size, 1, none⟩))) [] (by kernel_rfl) (fun w' hw' => ?_) ?_
  · refine ask_do rfl fun K hK => ?_
    go_simp
    exact hK _ _ rfl rfl (World.grownBy.refl _ none)
  refine MonoR.step (Pv.eq (.int .u64 x.2)) [(7, 13)] (by kernel_rfl) (fun w' hw' => ?_) ?_
  · rintro _ rfl
    refine ask_do rfl fun K hK => ?_
    have hq := (HP.out.grown ((grown_drewN' W 1).trans hw') (by simp)).prule
    have hx0 := (HX0.out.grown ((grown_drewN' W 1).trans hw') (by simp)).cell
    have hx1 := (HX1.out.grown ((grown_drewN' W 1).trans hw') (by simp)).cell
    have hx0a := hx0 0; have hx0b := hx0 1; simp at hx0a hx0b; have hx1a := hx1 0; have hx1b := hx1 1; simp at hx1a hx1b
    go_simp
    exact hK _ _ rfl rfl (World.grownBy.refl _ none)
  refine MonoR.step (Pv.eq (.pointer (some ⟨w.heap.size + 1, 1, none⟩))) [] (by kernel_rfl) (fun w' hw' => ?_) ?_
  · refine ask_do rfl fun K hK => ?_
    go_simp
    exact hK _ _ rfl rfl (World.grownBy.refl _ none)
  refine MonoR.step (Pv.eq (.int .u64 y.2)) [(9, 15)] (by kernel_rfl) (fun w' hw' => ?_) ?_
  · rintro _ rfl
    refine ask_do rfl fun K hK => ?_
    have hq := (HP.out.grown ((grown_drewN' W 1).trans hw') (by simp)).prule
    have hx0 := (HX0.out.grown ((grown_drewN' W 1).trans hw') (by simp)).cell
    have hx1 := (HX1.out.grown ((grown_drewN' W 1).trans hw') (by simp)).cell
    have hx0a := hx0 0; have hx0b := hx0 1; simp at hx0a hx0b; have hx1a := hx1 0; have hx1b := hx1 1; simp at hx1a hx1b
    go_simp
    exact hK _ _ rfl rfl (World.grownBy.refl _ none)
  refine MonoR.step (Pv.eq (.pointer (some ⟨gp, 1, none⟩))) [] (by kernel_rfl) (fun w' hw' => ?_) ?_
  · refine ask_do rfl fun K hK => ?_
    go_simp
    exact hK _ _ rfl rfl (World.grownBy.refl _ none)
  refine MonoR.step (Pv.eq (.int .u64 p.Q)) [(11, 17)] (by kernel_rfl) (fun w' hw' => ?_) ?_
  · rintro _ rfl
    refine ask_do rfl fun K hK => ?_
    have hq := (HP.out.grown ((grown_drewN' W 1).trans hw') (by simp)).prule
    have hx0 := (HX0.out.grown ((grown_drewN' W 1).trans hw') (by simp)).cell
    have hx1 := (HX1.out.grown ((grown_drewN' W 1).trans hw') (by simp)).cell
    have hx0a := hx0 0; have hx0b := hx0 1; simp at hx0a hx0b; have hx1a := hx1 0; have hx1b := hx1 1; simp at hx1a hx1b
    go_simp
    exact hK _ _ rfl rfl (World.grownBy.refl _ none)
  refine MonoR.step (Pv.eq (.int .u64 (addI x.2 y.2 p.Q))) [(8, 14), (10, 16), (12, 18)] (by kernel_rfl) (fun w' hw' => ?_) ?_
  · rintro _ rfl
    rintro _ rfl
    rintro _ rfl
    refine ask_do rfl fun K hK => ?_
    go_simp
    refine (add_gr x.2 y.2 p.Q w' HU.out.2.1 HU.out.2.2.2).mono ?_
    rintro e w3 ⟨rfl, hg⟩
    exact hK _ _ rfl rfl hg
  refine MonoR.step (Pv.eq (.agg #[.int .u64 (addI x.1 y.1 p.Q), .int .u64 (addI x.2 y.2 p.Q)])) [(6, 12), (13, 19)] (by kernel_rfl) (fun w' hw' => ?_) ?_
  · rintro _ rfl
    rintro _ rfl
    refine ask_do rfl fun K hK => ?_
    go_simp
    exact hK _ _ rfl rfl (World.grownBy.refl _ none)
  intro w3 hw3
  intro y0 e0 y1 e1 y2 e2 y3 e3 y4 e4 y5 e5 y6 e6 y7 e7 y8 e8 y9 e9 y10 e10 y11 e11 y12 e12 y13 e13 y14 e14
  have e0 : y0 = .pointer (some ⟨w.heap.size, 0, none⟩) := e0
  subst e0
  have e1 : y1 = .int .u64 x.1 := e1
  subst e1
  have e2 : y2 = .pointer (some ⟨w.heap.size + 1, 0, none⟩) := e2
  subst e2
  have e3 : y3 = .int .u64 y.1 := e3
  subst e3
  have e4 : y4 = .pointer (some ⟨gp, 1, none⟩) := e4
  subst e4
  have e5 : y5 = .int .u64 p.Q := e5
  subst e5
  have e6 : y6 = .int .u64 (addI x.1 y.1 p.Q) := e6
  subst e6
  have e7 : y7 = .pointer (some ⟨w.heap.size, 1, none⟩) := e7
  subst e7
  have e8 : y8 = .int .u64 x.2 := e8
  subst e8
  have e9 : y9 = .pointer (some ⟨w.heap.size + 1, 1, none⟩) := e9
  subst e9
  have e10 : y10 = .int .u64 y.2 := e10
  subst e10
  have e11 : y11 = .pointer (some ⟨gp, 1, none⟩) := e11
  subst e11
  have e12 : y12 = .int .u64 p.Q := e12
  subst e12
  have e13 : y13 = .int .u64 (addI x.2 y.2 p.Q) := e13
  subst e13
  have e14 : y14 = .agg #[.int .u64 (addI x.1 y.1 p.Q), .int .u64 (addI x.2 y.2 p.Q)] := e14
  subst e14
  simp only [Act.put, List.setIfInBounds_toArray, List.set_cons_zero, List.set_cons_succ]
  have hr3 := HR.out.grown ((grown_drewN' W 1).trans hw3) (by simp)
  have hc0 := hr3.cell 0
  have hc1 := hr3.cell 1
  have hf0 := hr3.free 0
  have hf1 := hr3.free 1
  simp at hc0 hc1
  have hk5 := (hr3.set 0 (.int .u64 (addI x.1 y.1 p.Q))).set 1 (.int .u64 (addI x.2 y.2 p.Q))
  have hk0 := hk5.cell 0
  have hk1 := hk5.cell 1
  simp at hk0 hk1
  have HF : Hid (w.grownBy ((w3.setCell ⟨w.heap.size + 1 + 1, 0, none⟩ (.int .u64 (addI x.1 y.1 p.Q))).setCell ⟨w.heap.size + 1 + 1, 1, none⟩ (.int .u64 (addI x.2 y.2 p.Q))) none) := Lib.hid (grown_of_below (((below_grown (HG.out.1.trans ((grown_drewN' W 1).trans hw3))).setCell (p := ⟨w.heap.size + 1 + 1, 0, none⟩) (by simp <;> omega) _).setCell (p := ⟨w.heap.size + 1 + 1, 1, none⟩) (by simp <;> omega) _))
  clear hw3 hr3 hk5
  refine wpList_plain rfl fun K hK => ?_
  go_simp
  refine hK _ _ (wpList_nil ?_)
  go_wp2_with fail
  refine bodyPost_ret (v := .agg #[.int .u64 (addI x.1 y.1 p.Q), .int .u64 (addI x.2 y.2 p.Q)]) (by simp [results, Tryd.results70, go_sem, *]) rfl ⟨rfl, HF.out⟩
end Go.Proofs.YtlhjbllfcbojmaaDoor

namespace Go.Proofs.YtlhjbllfcbojmaaDoor
open Go.RowKit

def triedL : List Int := [2, 3, 5, 7, 11, 13, 17, 19, 23, 29, 31, 37]
/-- The two tables, where their variables lie. -/
def TabsAt (w : World) : Prop := (∀ j, j < Lib.deBruijn64tab.length → w.cell? ⟨3, j, none⟩ = some (.int .u8 (Lib.deBruijn64tab.getD j 0))) ∧ (∀ j, j < 12 → w.cell? ⟨0, j, none⟩ = some (.int .u64 (triedL.getD j 0)))
theorem TabsAt.drewN {w : World} (h : TabsAt w) (n : Nat) : TabsAt (w.drewN n) := h

set_option maxHeartbeats 400000 in
theorem tz64_core (x k idx : Nat) (w : World) (hx0 : ((x : Int) == 0) = false)
    (key : IntKind.u64.wrap (bits BinOp.and IntKind.u64 (x : Int) (IntKind.u64.wrap (-(x : Int))) * 285870213051353865) / 288230376151711744 = (idx : Int))
    (hi : idx < 64) (hk : k < 64) (hcell : w.cell? ⟨3, idx, none⟩ = some (.int .u8 k)) :
    Calls Tryd.prog 77 #[.int .u64 x] w fun e w' => e = .returned (.int .i64 k) ∧ w' = w := by
  go_enter Tryd.func77, Tryd.ntmps77
  go_wp2_with (simp only [key])
  go_ret
  exact ⟨rfl, rfl⟩

theorem tz64_key (x a : Nat) (hx : x < 18446744073709551616) (hx0 : x ≠ 0) (hlow : x &&& (18446744073709551616 - x) = a) :
    IntKind.u64.wrap (bits BinOp.and IntKind.u64 (x : Int) (IntKind.u64.wrap (-(x : Int))) * 285870213051353865) / 288230376151711744 = ((a * 285870213051353865 % 18446744073709551616 / 288230376151711744 : Nat) : Int) := by
  have e1 : IntKind.u64.wrap (-(x : Int)) = ((18446744073709551616 - x : Nat) : Int) := by rw [IntKind.wrap_u64]; omega
  rw [e1, bits_and_u64_nat x _ hx (by omega), hlow, IntKind.wrap_u64]
  omega

theorem tz64_any (x : Int) (w : World) (h0 : 0 < x) (h1 : x < 18446744073709551616) (hT : TabsAt w) :
    Calls Tryd.prog 77 #[.int .u64 x] w fun e w' => e = .returned (.int .i64 (Lib.ctz 64 x.toNat)) ∧ w' = w := by
  obtain ⟨n, rfl⟩ := Int.eq_ofNat_of_zero_le (show 0 ≤ x by omega)
  rw [Int.toNat_natCast]
  have hx0 : n ≠ 0 := by omega
  have hx : n < 18446744073709551616 := by omega
  obtain ⟨hlow, hk⟩ := Lib.lowest_bit 64 n hx0 hx
  obtain ⟨hi, htab⟩ := Lib.deBruijn64_at _ hk
  have hcell := hT.1 _ hi
  rw [htab] at hcell
  exact tz64_core n _ _ w (by simp; omega) (tz64_key n _ hx hx0 hlow) hi hk hcell

/-- Squares until n - 1 is met. -/
def witB (n : Int) : Nat → Int → Bool
  | 0, _ => false
  | k + 1, x => x == n - 1 || witB n k (mulI x x n)
def passB (n a : Int) (t : Nat) : Bool := powI a ((n - 1) / 2 ^ t) n == 1 || witB n t (powI a ((n - 1) / 2 ^ t) n)
def goB (n : Int) (t : Nat) : List Int → Bool
  | [] => true
  | a :: l => if n % a = 0 then decide (n = a) else if passB n a t then goB n t l else false
def primeB (n : Int) : Bool := if n < 2 ∨ 2305843009213693952 < n then false else goB n (Lib.ctz 64 (n - 1).toNat) triedL

set_option maxHeartbeats 400000 in
theorem prime_out (n : Int) (w : World) (h : n < 2 ∨ 2305843009213693952 < n) :
    Calls Tryd.prog 54 #[.int .u64 n] w fun e w' => e = .returned (.bool false) ∧ ∃ k, w' = w.drewN k := by
  by_cases h2 : n < 2
  · clear h
    have h2' : decide (n < 2) = true := by simpa using h2
    go_enter Tryd.func54, Tryd.ntmps54
    go_wp2
    go_step3
    go_wp2
    (try rw [Exit.noGoto_ret])
    go_ret
    exact ⟨rfl, 0, rfl⟩
  · have h2' : decide (n < 2) = false := by simpa using h2
    have h3 : 2305843009213693952 < n := h.resolve_left h2
    have h3' : decide (2305843009213693952 < n) = true := by simpa using h3
    clear h
    go_enter Tryd.func54, Tryd.ntmps54
    go_wp2
    go_step3
    go_wp2
    (try rw [Exit.noGoto_ret])
    go_ret
    exact ⟨rfl, 0, rfl⟩

theorem powI_U64 (a e m : Int) : U64 (powI a e m) := by
  cases hm : mayB m with
  | false => simp [powI, hm, U64]
  | true =>
    simp only [powI, hm, if_true]
    simp [mayB] at hm
    have := emod_bd (a ^ e.toNat) m hm.1
    unfold U64
    omega
/-- The k-th of the numbers: what it is, and how the walk reads it. -/
theorem tried_at : ∀ k : Nat, k < 12 → ∃ p : Int, triedL.drop k = p :: triedL.drop (k + 1) ∧ 2 ≤ p ∧ p ≤ 37 ∧
    ∀ w, (Instr.index 96 (.agg #[.int .u64 2, .int .u64 3, .int .u64 5, .int .u64 7, .int .u64 11, .int .u64 13, .int .u64 17, .int .u64 19, .int .u64 23, .int .u64 29, .int .u64 31, .int .u64 37]) (.int .i64 k)).run Tryd.prog w = .ok (.int .u64 p) w := by
  intro k hk
  match k, hk with
  | 0, _ => exact ⟨2, rfl, by decide, by decide, fun _ => by kernel_rfl⟩
  | 1, _ => exact ⟨3, rfl, by decide, by decide, fun _ => by kernel_rfl⟩
  | 2, _ => exact ⟨5, rfl, by decide, by decide, fun _ => by kernel_rfl⟩
  | 3, _ => exact ⟨7, rfl, by decide, by decide, fun _ => by kernel_rfl⟩
  | 4, _ => exact ⟨11, rfl, by decide, by decide, fun _ => by kernel_rfl⟩
  | 5, _ => exact ⟨13, rfl, by decide, by decide, fun _ => by kernel_rfl⟩
  | 6, _ => exact ⟨17, rfl, by decide, by decide, fun _ => by kernel_rfl⟩
  | 7, _ => exact ⟨19, rfl, by decide, by decide, fun _ => by kernel_rfl⟩
  | 8, _ => exact ⟨23, rfl, by decide, by decide, fun _ => by kernel_rfl⟩
  | 9, _ => exact ⟨29, rfl, by decide, by decide, fun _ => by kernel_rfl⟩
  | 10, _ => exact ⟨31, rfl, by decide, by decide, fun _ => by kernel_rfl⟩
  | 11, _ => exact ⟨37, rfl, by decide, by decide, fun _ => by kernel_rfl⟩

set_option maxHeartbeats 400000 in
theorem prime_in (n : Int) (w : World) (h2 : 2 ≤ n) (h3 : n ≤ 2305843009213693952) (hT : TabsAt w) :
    Calls Tryd.prog 54 #[.int .u64 n] w fun e w' => e = .returned (.bool (goB n (Lib.ctz 64 (n - 1).toNat) triedL)) ∧ ∃ k, w' = w.drewN k := by
  have h2' : decide (n < 2) = false := by simp; omega
  have h3' : decide (2305843009213693952 < n) = false := by simp; omega
  have HT := Lib.hid hT
  obtain ⟨t, ht⟩ : ∃ t, t = Lib.ctz 64 (n - 1).toNat := ⟨_, rfl⟩
  have ht64 : t < 64 := by rw [ht]; exact (Lib.lowest_bit 64 (n - 1).toNat (by omega) (by omega)).2
  have HZ := Lib.hid (tz64_any (n - 1) w (by omega) (by omega) hT)
  rw [← ht] at HZ ⊢
  clear ht hT
  go_enter Tryd.func54, Tryd.ntmps54
  go_wp2
  go_step3
  go_wp2_with fail
  refine HZ.out.mono ?_
  rintro e w' ⟨rfl, hw'⟩
  rw [hw']
  clear hw'
  go_wp2_with fail
  go_step3
  have k0 : w.cell? ⟨0, 0, none⟩ = some (.int .u64 2) := HT.out.2 0 (by decide)
  have k1 : w.cell? ⟨0, 1, none⟩ = some (.int .u64 3) := HT.out.2 1 (by decide)
  have k2 : w.cell? ⟨0, 2, none⟩ = some (.int .u64 5) := HT.out.2 2 (by decide)
  have k3 : w.cell? ⟨0, 3, none⟩ = some (.int .u64 7) := HT.out.2 3 (by decide)
  have k4 : w.cell? ⟨0, 4, none⟩ = some (.int .u64 11) := HT.out.2 4 (by decide)
  have k5 : w.cell? ⟨0, 5, none⟩ = some (.int .u64 13) := HT.out.2 5 (by decide)
  have k6 : w.cell? ⟨0, 6, none⟩ = some (.int .u64 17) := HT.out.2 6 (by decide)
  have k7 : w.cell? ⟨0, 7, none⟩ = some (.int .u64 19) := HT.out.2 7 (by decide)
  have k8 : w.cell? ⟨0, 8, none⟩ = some (.int .u64 23) := HT.out.2 8 (by decide)
  have k9 : w.cell? ⟨0, 9, none⟩ = some (.int .u64 29) := HT.out.2 9 (by decide)
  have k10 : w.cell? ⟨0, 10, none⟩ = some (.int .u64 31) := HT.out.2 10 (by decide)
  have k11 : w.cell? ⟨0, 11, none⟩ = some (.int .u64 37) := HT.out.2 11 (by decide)
  go_wp2_with fail
  clear k0 k1 k2 k3 k4 k5 k6 k7 k8 k9 k10 k11
  go_loopg [17] 12 (fun g s17 wx => ∃ k : Nat, k + g = 12 ∧ s17 = .int .i64 k ∧ Hid (goB n t (triedL.drop k) = goB n t triedL) ∧ ∃ q, wx = w.drewN q)
  case atStart => exact ⟨0, rfl, rfl, Lib.hid rfl, 0, rfl⟩
  case round =>
    obtain ⟨k, hkg, rfl, HG, q, rfl⟩ := hrel
    cases gk with
    | zero =>
      obtain rfl : k = 12 := by omega
      have HE : Hid (true = goB n t triedL) := Lib.hid HG.out
      go_wp2
      (try rw [Exit.noGoto_ret])
      go_ret
      exact ⟨congrArg Ending.returned (congrArg Value.bool HE.out), _, rfl⟩
    | succ g =>
      have hk : k < 12 := by omega
      obtain ⟨p, hd, hp2, hp37, hidx⟩ := tried_at k hk
      have HG2 : Hid (goB n t (p :: triedL.drop (k + 1)) = goB n t triedL) := Lib.hid (by rw [← hd]; exact HG.out)
      clear HG hd
      by_cases hdv : n % p = 0
      · have HE : Hid ((n == p) = goB n t triedL) := Lib.hid (by rw [← HG2.out]; simp only [goB, hdv, if_true]; rfl)
        go_wp2
        (try rw [Exit.noGoto_ret])
        go_ret
        exact ⟨congrArg Ending.returned (congrArg Value.bool HE.out), _, rfl⟩
      · have hdv' : (n % p == 0) = false := by simpa using hdv
        have e0 : 0 ≤ (n - 1) / 2 ^ t := Int.ediv_nonneg (by omega) (Int.le_of_lt (Int.pow_pos (by decide)))
        have e1 : (n - 1) / 2 ^ t ≤ n - 1 := Int.ediv_le_self _ (by omega)
        have HP := Lib.hid (fun w => pow_any p ((n - 1) / 2 ^ t) n w ⟨by omega, by omega⟩ ⟨e0, by omega⟩)
        have hG3 := HG2.out
        simp only [goB, hdv, if_false] at hG3
        have HX := powI_U64 p ((n - 1) / 2 ^ t) n
        unfold passB at hG3
        generalize powI p ((n - 1) / 2 ^ t) n = x0 at HP hG3 HX
        have HU := Lib.hid HX
        clear HX hdv HG2
        by_cases hx1 : x0 = 1
        · have HN : Hid (goB n t (triedL.drop (k + 1)) = goB n t triedL) := Lib.hid (by rw [← hG3]; simp [hx1])
          clear hG3
          have hx1' : (x0 == 1) = true := by simpa using hx1
          clear hx1
          go_wp2_with fail
          refine (HP.out _).mono ?_
          rintro e w' ⟨rfl, n1, rfl⟩
          go_wp2
          go_roundg g
          case measure => omega
          case rel => exact ⟨k + 1, by omega, by go_num, HN, _, rfl⟩
        · have hx1' : (x0 == 1) = false := by simpa using hx1
          have HN : Hid ((if witB n t x0 then goB n t (triedL.drop (k + 1)) else false) = goB n t triedL) := Lib.hid (by rw [← hG3]; simp [hx1'])
          clear hG3 hx1
          go_wp2_with fail
          refine (HP.out _).mono ?_
          rintro e w' ⟨rfl, n1, rfl⟩
          go_wp2_with fail
          clear hidx
          go_loopg [6, 37] t (fun h s6 s37 wx => ∃ (x : Int) (j : Nat), j + h = t ∧ s6 = .int .u64 x ∧ Hid (U64 x) ∧ s37 = .int .i64 j ∧ Hid (witB n h x = witB n t x0) ∧ ∃ q, wx = w.drewN q)
          case atStart => exact ⟨x0, 0, by omega, rfl, HU, rfl, Lib.hid rfl, _, rfl⟩
          case round =>
            obtain ⟨x, j, hj, rfl, hx, rfl, hW, q2, rfl⟩ := hrel
            cases gk with
            | zero =>
              obtain rfl : j = t := by omega
              have HE : Hid (false = goB n j triedL) := Lib.hid (by
                have := HN.out
                rw [← hW.out] at this
                simpa [witB] using this)
              go_wp2
              (try rw [Exit.noGoto_ret])
              go_ret
              exact ⟨congrArg Ending.returned (congrArg Value.bool HE.out), _, rfl⟩
            | succ h =>
              have hjt : (j : Int) < (t : Int) := by omega
              by_cases hxn : x = n - 1
              · have HE : Hid (goB n t (triedL.drop (k + 1)) = goB n t triedL) := Lib.hid (by
                  have := HN.out
                  rw [← hW.out] at this
                  simpa [witB, hxn] using this)
                have hxn' : (x == n - 1) = true := by simpa using hxn
                clear hxn hx1'
                go_wp2
                go_roundg g
                case measure => omega
                case rel => exact ⟨k + 1, by omega, by go_num, HE, _, rfl⟩
              · have hxn' : (x == n - 1) = false := by simpa using hxn
                have HW2 : Hid (witB n h (mulI x x n) = witB n t x0) := Lib.hid (by
                  have := hW.out
                  simpa [witB, hxn'] using this)
                have HX2 := Lib.hid (mulI_U64 x x n)
                clear hxn
                go_wp2_with fail
                refine (mul_any x x n _ hx.out hx.out).mono ?_
                rintro e w' ⟨rfl, n2, rfl⟩
                go_wp2
                go_roundg h
                case measure => omega
                case rel => exact ⟨mulI x x n, j + 1, by omega, rfl, HX2, by go_num, HW2, _, rfl⟩

theorem prime_any (n : Int) (w : World) (hT : TabsAt w) :
    Calls Tryd.prog 54 #[.int .u64 n] w fun e w' => e = .returned (.bool (primeB n)) ∧ ∃ k, w' = w.drewN k := by
  by_cases h : n < 2 ∨ 2305843009213693952 < n
  · rw [show primeB n = false by simp only [primeB, if_pos h]]
    exact prime_out n w h
  · rw [show primeB n = goB n (Lib.ctz 64 (n - 1).toNat) triedL by simp only [primeB, if_neg h]]
    exact prime_in n w (by omega) (by omega) hT
end Go.Proofs.YtlhjbllfcbojmaaDoor

namespace Go.Proofs.YtlhjbllfcbojmaaDoor
open Go.ChangeShapes Go.WideShapes Go.RowKit

theorem u64_wf {a : Int} (h : (Lit.int .u64 a).wf = true) : U64 a := by
  have := bounds_u64 h
  unfold U64
  omega
theorem i64_wf {a : Int} (h : (Lit.int .i64 a).wf = true) : I64 a := by
  have := bounds_i64 h
  unfold I64
  omega
/-- Whatever is read at this type reads so. -/
def Reads {α : Type} (E : Enc α) (t : TypeId) : Prop :=
  ∀ {H : Type} {enc : TypeId × Value → H} {w : World} {base : Nat} {spare : Nat → Bool} {held : Bool} {fuel : Nat} {cs : List Value} {x : DataW H × List MemPlace},
    DataW.trod enc Tryd.prog w base spare held fuel t cs = some x → ∃ a, E.rep (fun _ => True) w cs a
theorem reads_pair {t u : TypeId} {f0 f1 : Field} (ht : Tryd.prog.underlying t = some (.struct #[f0, f1])) (h0 : f0.type = u ∧ f0.offset = 0) (h1 : f1.type = u ∧ f1.offset = 1)
    (hu : Tryd.prog.underlying u = some (.int .u64)) (hc : Tryd.prog.cellsOf t = 2) (hcu : Tryd.prog.cellsOf u = 1) : Reads encP t := by
  intro H enc w base spare held fuel cs x h
  obtain ⟨y0, y1, n, _, hl, e0, e1⟩ := trod_struct2 ht h
  rw [h0.1, h0.2, hcu] at e0
  rw [h1.1, h1.2, hcu] at e1
  obtain ⟨a, ea, _, wa⟩ := DataW.trod_int hu e0
  obtain ⟨b, eb, _, wb⟩ := DataW.trod_int hu e1
  rw [hc] at hl
  match cs, hl with
  | [c0, c1], _ =>
    simp at ea eb
    subst ea eb
    exact ⟨(a, b), rfl, u64_wf wa, u64_wf wb⟩
end Go.Proofs.YtlhjbllfcbojmaaDoor

namespace Go.Proofs.YtlhjbllfcbojmaaDoor
open Go.RowKit

def withinB (x lo hi : Int) : Bool := decide (lo ≤ x) && decide (x ≤ hi)
theorem withinB_iff (x lo hi : Int) : withinB x lo hi = true ↔ lo ≤ x ∧ x ≤ hi := by simp [withinB]
set_option maxHeartbeats 400000 in
theorem within_eq (x lo hi : Int) (b : Bool) (h : withinB x lo hi = b) (w : World) :
    Calls Tryd.prog 46 #[.int .i64 x, .int .i64 lo, .int .i64 hi] w fun e w' => e = .returned (.bool b) ∧ w' = w := by
  subst h
  by_cases h1 : lo ≤ x
  · by_cases h2 : x ≤ hi
    · have HE : Hid (withinB x lo hi = true) := Lib.hid (by simp [withinB, h1, h2])
      go_enter Tryd.func46, Tryd.ntmps46
      go_wp2
      go_ret
      exact ⟨ret_bool HE.out.symm, rfl⟩
    · have HE : Hid (withinB x lo hi = false) := Lib.hid (by simp [withinB, h2])
      have h2' : decide (x ≤ hi) = false := by simpa using h2
      clear h2
      go_enter Tryd.func46, Tryd.ntmps46
      go_wp2
      go_ret
      exact ⟨ret_bool HE.out.symm, rfl⟩
  · have HE : Hid (withinB x lo hi = false) := Lib.hid (by simp [withinB, h1])
    have h1' : decide (lo ≤ x) = false := by simpa using h1
    clear h1
    go_enter Tryd.func46, Tryd.ntmps46
    go_wp2
    go_ret
    exact ⟨ret_bool HE.out.symm, rfl⟩

def m1 (p : Par) : Bool := decide (2 ≤ p.P) && decide (p.P ≤ 2305843009213693952) && decide (2 ≤ p.Q) && ((p.P - 1) % p.Q == 0)
def m2 (p : Par) : Bool := withinB p.T 1 2
def m3 (p : Par) : Bool := withinB p.N (3 * p.T + 1) 7 && decide (p.N < p.Q)
def m4 (p : Par) : Bool := withinB p.Nodes p.N 8
def m5 (p : Par) : Bool := withinB p.K 1 2 && withinB p.D 1 4
def m6 (p : Par) : Bool := withinB p.R 1 p.D
def m7 (p : Par) : Bool := withinB p.M 1 1048576 && withinB p.X 1 1048576
def m8 (p : Par) : Bool := decide (2 * (p.D * p.M * p.X + p.M) < p.Q)
def m9 (p : Par) : Bool := primeB p.Q && primeB p.P
def m10 (p : Par) : Bool := decide (p.G ≠ 1) && isB p p.G && decide (p.H ≠ 1) && isB p p.H
def mayP (p : Par) : Bool := m1 p && m2 p && m3 p && m4 p && m5 p && m6 p && m7 p && m8 p && m9 p && m10 p

set_option maxHeartbeats 400000 in
theorem may_1 (p : Par) (g : Nat) (w : World) (hp : p.ok) (hb : Bk w g 24 p.cells) :
    Calls Tryd.prog 44 #[.pointer (some ⟨g, 0, none⟩)] w fun e w' => e = .returned (.bool (m1 p)) ∧ w.grownBy w' none := by
  have hc := hb.prule
  obtain ⟨p0, p1⟩ := hp.P
  obtain ⟨q0, q1⟩ := hp.Q
  clear hb hp
  by_cases h1 : 2 ≤ p.P
  · by_cases h2 : p.P ≤ 2305843009213693952
    · by_cases h3 : 2 ≤ p.Q
      · have HE : Hid (m1 p = ((p.P - 1) % p.Q == 0)) := Lib.hid (by simp [m1, h1, h2, h3])
        go_enter Tryd.func44, Tryd.ntmps44
        go_wp2
        go_ret
        exact ⟨ret_bool HE.out.symm, World.grownBy.refl w none⟩
      · have HE : Hid (m1 p = false) := Lib.hid (by simp [m1, h3])
        have h3' : decide (2 ≤ p.Q) = false := by simpa using h3
        clear h3
        go_enter Tryd.func44, Tryd.ntmps44
        go_wp2
        go_ret
        exact ⟨ret_bool HE.out.symm, World.grownBy.refl w none⟩
    · have HE : Hid (m1 p = false) := Lib.hid (by simp [m1, h2])
      have h2' : decide (p.P ≤ 2305843009213693952) = false := by simpa using h2
      clear h2
      go_enter Tryd.func44, Tryd.ntmps44
      go_wp2
      go_ret
      exact ⟨ret_bool HE.out.symm, World.grownBy.refl w none⟩
  · have HE : Hid (m1 p = false) := Lib.hid (by simp [m1, h1])
    have h1' : decide (2 ≤ p.P) = false := by simpa using h1
    clear h1
    go_enter Tryd.func44, Tryd.ntmps44
    go_wp2
    go_ret
    exact ⟨ret_bool HE.out.symm, World.grownBy.refl w none⟩
set_option maxHeartbeats 400000 in
theorem may_2 (p : Par) (g : Nat) (w : World) (hb : Bk w g 24 p.cells) :
    Calls Tryd.prog 45 #[.pointer (some ⟨g, 0, none⟩)] w fun e w' => e = .returned (.bool (m2 p)) ∧ w.grownBy w' none := by
  have hc := hb.prule
  have HW := Lib.hid (fun w => within_eq p.T 1 2 _ rfl w)
  clear hb
  go_enter Tryd.func45, Tryd.ntmps45
  go_wp2_with fail
  refine (HW.out _).mono ?_
  rintro e w' ⟨rfl, rfl⟩
  go_wp2
  go_ret
  exact ⟨rfl, World.grownBy.refl _ none⟩
set_option maxHeartbeats 400000 in
theorem may_3 (p : Par) (g : Nat) (w : World) (hp : p.ok) (hb : Bk w g 24 p.cells) (h2 : m2 p = true) :
    Calls Tryd.prog 47 #[.pointer (some ⟨g, 0, none⟩)] w fun e w' => e = .returned (.bool (m3 p)) ∧ w.grownBy w' none := by
  have hc := hb.prule
  obtain ⟨t0, t1⟩ := (withinB_iff _ _ _).1 h2
  obtain ⟨q0, q1⟩ := hp.Q
  clear hb hp h2
  cases hN : withinB p.N (3 * p.T + 1) 7 with
  | true =>
    obtain ⟨n0, n1⟩ := (withinB_iff _ _ _).1 hN
    have HW := Lib.hid (fun w => within_eq p.N (3 * p.T + 1) 7 _ hN w)
    have HE : Hid (m3 p = decide (p.N < p.Q)) := Lib.hid (by simp [m3, hN])
    clear hN
    go_enter Tryd.func47, Tryd.ntmps47
    go_wp2_with fail
    refine (HW.out _).mono ?_
    rintro e w' ⟨rfl, rfl⟩
    go_wp2
    go_ret
    exact ⟨ret_bool HE.out.symm, World.grownBy.refl _ none⟩
  | false =>
    have HW := Lib.hid (fun w => within_eq p.N (3 * p.T + 1) 7 _ hN w)
    have HE : Hid (m3 p = false) := Lib.hid (by simp [m3, hN])
    clear hN
    go_enter Tryd.func47, Tryd.ntmps47
    go_wp2_with fail
    refine (HW.out _).mono ?_
    rintro e w' ⟨rfl, rfl⟩
    go_wp2
    go_ret
    exact ⟨ret_bool HE.out.symm, World.grownBy.refl _ none⟩
set_option maxHeartbeats 400000 in
theorem may_4 (p : Par) (g : Nat) (w : World) (hb : Bk w g 24 p.cells) :
    Calls Tryd.prog 48 #[.pointer (some ⟨g, 0, none⟩)] w fun e w' => e = .returned (.bool (m4 p)) ∧ w.grownBy w' none := by
  have hc := hb.prule
  have HW := Lib.hid (fun w => within_eq p.Nodes p.N 8 _ rfl w)
  clear hb
  go_enter Tryd.func48, Tryd.ntmps48
  go_wp2_with fail
  refine (HW.out _).mono ?_
  rintro e w' ⟨rfl, rfl⟩
  go_wp2
  go_ret
  exact ⟨rfl, World.grownBy.refl _ none⟩
set_option maxHeartbeats 400000 in
theorem may_5 (p : Par) (g : Nat) (w : World) (hb : Bk w g 24 p.cells) :
    Calls Tryd.prog 49 #[.pointer (some ⟨g, 0, none⟩)] w fun e w' => e = .returned (.bool (m5 p)) ∧ w.grownBy w' none := by
  have hc := hb.prule
  clear hb
  cases hN : withinB p.K 1 2 with
  | true =>
    have HW := Lib.hid (fun w => within_eq p.K 1 2 _ hN w)
    have HV := Lib.hid (fun w => within_eq p.D 1 4 _ rfl w)
    have HE : Hid (m5 p = withinB p.D 1 4) := Lib.hid (by simp [m5, hN])
    clear hN
    go_enter Tryd.func49, Tryd.ntmps49
    go_wp2_with fail
    refine (HW.out _).mono ?_
    rintro e w' ⟨rfl, rfl⟩
    go_wp2_with fail
    refine (HV.out _).mono ?_
    rintro e w' ⟨rfl, rfl⟩
    go_wp2
    go_ret
    exact ⟨ret_bool HE.out.symm, World.grownBy.refl _ none⟩
  | false =>
    have HW := Lib.hid (fun w => within_eq p.K 1 2 _ hN w)
    have HE : Hid (m5 p = false) := Lib.hid (by simp [m5, hN])
    clear hN
    go_enter Tryd.func49, Tryd.ntmps49
    go_wp2_with fail
    refine (HW.out _).mono ?_
    rintro e w' ⟨rfl, rfl⟩
    go_wp2
    go_ret
    exact ⟨ret_bool HE.out.symm, World.grownBy.refl _ none⟩
set_option maxHeartbeats 400000 in
theorem may_6 (p : Par) (g : Nat) (w : World) (hb : Bk w g 24 p.cells) :
    Calls Tryd.prog 50 #[.pointer (some ⟨g, 0, none⟩)] w fun e w' => e = .returned (.bool (m6 p)) ∧ w.grownBy w' none := by
  have hc := hb.prule
  have HW := Lib.hid (fun w => within_eq p.R 1 p.D _ rfl w)
  clear hb
  go_enter Tryd.func50, Tryd.ntmps50
  go_wp2_with fail
  refine (HW.out _).mono ?_
  rintro e w' ⟨rfl, rfl⟩
  go_wp2
  go_ret
  exact ⟨rfl, World.grownBy.refl _ none⟩
set_option maxHeartbeats 400000 in
theorem may_7 (p : Par) (g : Nat) (w : World) (hb : Bk w g 24 p.cells) :
    Calls Tryd.prog 51 #[.pointer (some ⟨g, 0, none⟩)] w fun e w' => e = .returned (.bool (m7 p)) ∧ w.grownBy w' none := by
  have hc := hb.prule
  clear hb
  cases hN : withinB p.M 1 1048576 with
  | true =>
    have HW := Lib.hid (fun w => within_eq p.M 1 1048576 _ hN w)
    have HV := Lib.hid (fun w => within_eq p.X 1 1048576 _ rfl w)
    have HE : Hid (m7 p = withinB p.X 1 1048576) := Lib.hid (by simp [m7, hN])
    clear hN
    go_enter Tryd.func51, Tryd.ntmps51
    go_wp2_with fail
    refine (HW.out _).mono ?_
    rintro e w' ⟨rfl, rfl⟩
    go_wp2_with fail
    refine (HV.out _).mono ?_
    rintro e w' ⟨rfl, rfl⟩
    go_wp2
    go_ret
    exact ⟨ret_bool HE.out.symm, World.grownBy.refl _ none⟩
  | false =>
    have HW := Lib.hid (fun w => within_eq p.M 1 1048576 _ hN w)
    have HE : Hid (m7 p = false) := Lib.hid (by simp [m7, hN])
    clear hN
    go_enter Tryd.func51, Tryd.ntmps51
    go_wp2_with fail
    refine (HW.out _).mono ?_
    rintro e w' ⟨rfl, rfl⟩
    go_wp2
    go_ret
    exact ⟨ret_bool HE.out.symm, World.grownBy.refl _ none⟩
theorem mul_bd (a b x y : Int) (ha0 : 0 ≤ a) (ha : a ≤ x) (hb0 : 0 ≤ b) (hb : b ≤ y) : 0 ≤ a * b ∧ a * b ≤ x * y :=
  ⟨Int.mul_nonneg ha0 hb0, Int.mul_le_mul ha hb hb0 (by omega)⟩
set_option maxHeartbeats 400000 in
theorem may_8 (p : Par) (g : Nat) (w : World) (hp : p.ok) (hb : Bk w g 24 p.cells) (h5 : m5 p = true) (h7 : m7 p = true) :
    Calls Tryd.prog 52 #[.pointer (some ⟨g, 0, none⟩)] w fun e w' => e = .returned (.bool (m8 p)) ∧ w.grownBy w' none := by
  have hc := hb.prule
  simp only [m5, m7, Bool.and_eq_true, withinB_iff] at h5 h7
  obtain ⟨_, d0, d1⟩ := h5
  obtain ⟨⟨a0, a1⟩, x0, x1⟩ := h7
  obtain ⟨q0, q1⟩ := hp.Q
  obtain ⟨e0, e1⟩ := mul_bd p.D p.M 4 1048576 (by omega) d1 (by omega) a1
  obtain ⟨f0, f1⟩ := mul_bd (p.D * p.M) p.X (4 * 1048576) 1048576 e0 e1 (by omega) x1
  have HE : Hid (m8 p = decide (2 * (p.D * p.M * p.X + p.M) < p.Q)) := Lib.hid rfl
  clear hb hp
  go_enter Tryd.func52, Tryd.ntmps52
  go_wp2
  go_ret
  exact ⟨ret_bool HE.out.symm, World.grownBy.refl _ none⟩
end Go.Proofs.YtlhjbllfcbojmaaDoor

namespace Go.Proofs.YtlhjbllfcbojmaaDoor
open Go.RowKit

theorem cell_lt {w : World} {g o : Nat} {v : Value} (h : w.cell? ⟨g, o, none⟩ = some v) : g < w.heap.size := by
  rcases Nat.lt_or_ge g w.heap.size with hlt | hge
  · exact hlt
  · simp [World.cell?, Array.getElem?_eq_none hge] at h
theorem TabsAt.kept {w w' : World} (h : TabsAt w) (hg : w.grownBy w' none) : TabsAt w' :=
  ⟨fun j hj => by have := h.1 j hj; rw [World.cell?_of_block (w := w) (hg.block _ (cell_lt this) (by simp))]; exact this,
   fun j hj => by have := h.2 j hj; rw [World.cell?_of_block (w := w) (hg.block _ (cell_lt this) (by simp))]; exact this⟩
set_option maxHeartbeats 400000 in
theorem may_9 (p : Par) (g : Nat) (w : World) (hT : TabsAt w) (hb : Bk w g 24 p.cells) :
    Calls Tryd.prog 53 #[.pointer (some ⟨g, 0, none⟩)] w fun e w' => e = .returned (.bool (m9 p)) ∧ w.grownBy w' none := by
  have hc := hb.prule
  have HQ := prime_any p.Q w hT
  have HP := Lib.hid (fun k => prime_any p.P (w.drewN k) (hT.drewN k))
  clear hb hT
  cases hQ : primeB p.Q with
  | true =>
    rw [hQ] at HQ
    have HQ2 := Lib.hid HQ
    have HE : Hid (m9 p = primeB p.P) := Lib.hid (by simp [m9, hQ])
    clear hQ HQ
    go_enter Tryd.func53, Tryd.ntmps53
    go_wp2_with fail
    refine HQ2.out.mono ?_
    rintro e w' ⟨rfl, k, rfl⟩
    go_wp2_with fail
    refine (HP.out k).mono ?_
    rintro e w' ⟨rfl, k2, rfl⟩
    go_wp2
    go_ret
    exact ⟨ret_bool HE.out.symm, grownBy_drewN (World.grownBy.refl w none) _⟩
  | false =>
    rw [hQ] at HQ
    have HQ2 := Lib.hid HQ
    have HE : Hid (m9 p = false) := Lib.hid (by simp [m9, hQ])
    clear hQ HQ
    go_enter Tryd.func53, Tryd.ntmps53
    go_wp2_with fail
    refine HQ2.out.mono ?_
    rintro e w' ⟨rfl, k, rfl⟩
    go_wp2
    go_ret
    exact ⟨ret_bool HE.out.symm, grownBy_drewN (World.grownBy.refl w none) _⟩
theorem is_eq (p : Par) (x : Int) (b : Bool) (h : isB p x = b) (w : World) (hp : p.ok) (h1 : U64 x) :
    Calls Tryd.prog 56 #[p.v, .int .u64 x] w fun e' w' => e' = .returned (.bool b) ∧ w.grownBy w' none := h ▸ is_any p x w hp h1
set_option maxHeartbeats 400000 in
theorem may_10 (p : Par) (g : Nat) (w : World) (hp : p.ok) (hb : Bk w g 24 p.cells) :
    Calls Tryd.prog 55 #[.pointer (some ⟨g, 0, none⟩)] w fun e w' => e = .returned (.bool (m10 p)) ∧ w.grownBy w' none := by
  have hc := hb.prule
  have HB := Lib.hid hb
  by_cases h1 : p.G = 1
  · have h1' : (p.G != 1) = false := by simpa using h1
    have HE : Hid (m10 p = false) := Lib.hid (by simp [m10, h1])
    clear h1 hp hb
    go_enter Tryd.func55, Tryd.ntmps55
    go_wp2
    go_ret
    exact ⟨ret_bool HE.out.symm, World.grownBy.refl w none⟩
  · have h1' : (p.G != 1) = true := by simpa using h1
    cases hG : isB p p.G with
    | false =>
      have HI := Lib.hid (fun w => is_eq p p.G _ hG w hp hp.G)
      have HE : Hid (m10 p = false) := Lib.hid (by simp [m10, hG])
      clear h1 hp hb hG
      go_enter Tryd.func55, Tryd.ntmps55
      go_wp2_with fail
      refine (HI.out _).mono ?_
      rintro e w1 ⟨rfl, hg⟩
      have HG := Lib.hid hg
      clear hg
      go_wp2
      go_ret
      exact ⟨ret_bool HE.out.symm, HG.out⟩
    | true =>
      have HI := Lib.hid (fun w => is_eq p p.G _ hG w hp hp.G)
      by_cases h2 : p.H = 1
      · have h2' : (p.H != 1) = false := by simpa using h2
        have HE : Hid (m10 p = false) := Lib.hid (by simp [m10, h2])
        clear h1 h2 hp hb hG
        go_enter Tryd.func55, Tryd.ntmps55
        go_wp2_with fail
        refine (HI.out _).mono ?_
        rintro e w1 ⟨rfl, hg⟩
        have HG := Lib.hid hg
        have hc1 := (HB.out.grown hg (by simp)).prule
        clear hg
        go_wp2
        go_ret
        exact ⟨ret_bool HE.out.symm, HG.out⟩
      · have h2' : (p.H != 1) = true := by simpa using h2
        have HJ := Lib.hid (fun w => is_any p p.H w hp hp.H)
        have HE : Hid (m10 p = isB p p.H) := Lib.hid (by simp [m10, hG, h1, h2])
        clear h1 h2 hp hb hG
        go_enter Tryd.func55, Tryd.ntmps55
        go_wp2_with fail
        refine (HI.out _).mono ?_
        rintro e w1 ⟨rfl, hg⟩
        have HG := Lib.hid hg
        have hc1 := (HB.out.grown hg (by simp)).prule
        clear hg
        go_wp2_with fail
        refine (HJ.out _).mono ?_
        rintro e w2 ⟨rfl, hg⟩
        have HG2 := Lib.hid (HG.out.trans hg)
        clear hg
        go_wp2
        go_ret
        exact ⟨ret_bool HE.out.symm, HG2.out⟩
def ms (p : Par) : List Bool := [m1 p, m2 p, m3 p, m4 p, m5 p, m6 p, m7 p, m8 p, m9 p, m10 p]
def fvs (g : Nat) : List Value := [.func (.func 44) #[] #[.pointer (some ⟨g, 0, none⟩)], .func (.func 45) #[] #[.pointer (some ⟨g, 0, none⟩)], .func (.func 47) #[] #[.pointer (some ⟨g, 0, none⟩)], .func (.func 48) #[] #[.pointer (some ⟨g, 0, none⟩)], .func (.func 49) #[] #[.pointer (some ⟨g, 0, none⟩)], .func (.func 50) #[] #[.pointer (some ⟨g, 0, none⟩)], .func (.func 51) #[] #[.pointer (some ⟨g, 0, none⟩)], .func (.func 52) #[] #[.pointer (some ⟨g, 0, none⟩)], .func (.func 53) #[] #[.pointer (some ⟨g, 0, none⟩)], .func (.func 55) #[] #[.pointer (some ⟨g, 0, none⟩)]]

set_option maxHeartbeats 400000 in
theorem ask_1 (p : Par) (g : Nat) (w : World) (hp : p.ok) (_hT : TabsAt w) (hb : Bk w g 24 p.cells)  :
    Calls Tryd.prog 58 #[.func (.func 44) #[] #[.pointer (some ⟨g, 0, none⟩)]] w fun e w' => e = .returned (.bool (!m1 p)) ∧ w.grownBy w' none := by
  have HM := Lib.hid (may_1 p g w hp hb)
  clear hp _hT hb
  go_enter Tryd.func58, Tryd.ntmps58
  go_wp2_with fail
  refine HM.out.mono ?_
  rintro e w1 ⟨rfl, hg⟩
  have HG := Lib.hid hg
  clear hg
  go_wp2
  go_ret
  exact ⟨rfl, HG.out⟩
set_option maxHeartbeats 400000 in
theorem ask_2 (p : Par) (g : Nat) (w : World) (_hp : p.ok) (_hT : TabsAt w) (hb : Bk w g 24 p.cells)  :
    Calls Tryd.prog 58 #[.func (.func 45) #[] #[.pointer (some ⟨g, 0, none⟩)]] w fun e w' => e = .returned (.bool (!m2 p)) ∧ w.grownBy w' none := by
  have HM := Lib.hid (may_2 p g w hb)
  clear _hp _hT hb
  go_enter Tryd.func58, Tryd.ntmps58
  go_wp2_with fail
  refine HM.out.mono ?_
  rintro e w1 ⟨rfl, hg⟩
  have HG := Lib.hid hg
  clear hg
  go_wp2
  go_ret
  exact ⟨rfl, HG.out⟩
set_option maxHeartbeats 400000 in
theorem ask_3 (p : Par) (g : Nat) (w : World) (hp : p.ok) (_hT : TabsAt w) (hb : Bk w g 24 p.cells) (h2 : m2 p = true) :
    Calls Tryd.prog 58 #[.func (.func 47) #[] #[.pointer (some ⟨g, 0, none⟩)]] w fun e w' => e = .returned (.bool (!m3 p)) ∧ w.grownBy w' none := by
  have HM := Lib.hid (may_3 p g w hp hb h2)
  clear hp _hT hb h2
  go_enter Tryd.func58, Tryd.ntmps58
  go_wp2_with fail
  refine HM.out.mono ?_
  rintro e w1 ⟨rfl, hg⟩
  have HG := Lib.hid hg
  clear hg
  go_wp2
  go_ret
  exact ⟨rfl, HG.out⟩
set_option maxHeartbeats 400000 in
theorem ask_4 (p : Par) (g : Nat) (w : World) (_hp : p.ok) (_hT : TabsAt w) (hb : Bk w g 24 p.cells)  :
    Calls Tryd.prog 58 #[.func (.func 48) #[] #[.pointer (some ⟨g, 0, none⟩)]] w fun e w' => e = .returned (.bool (!m4 p)) ∧ w.grownBy w' none := by
  have HM := Lib.hid (may_4 p g w hb)
  clear _hp _hT hb
  go_enter Tryd.func58, Tryd.ntmps58
  go_wp2_with fail
  refine HM.out.mono ?_
  rintro e w1 ⟨rfl, hg⟩
  have HG := Lib.hid hg
  clear hg
  go_wp2
  go_ret
  exact ⟨rfl, HG.out⟩
set_option maxHeartbeats 400000 in
theorem ask_5 (p : Par) (g : Nat) (w : World) (_hp : p.ok) (_hT : TabsAt w) (hb : Bk w g 24 p.cells)  :
    Calls Tryd.prog 58 #[.func (.func 49) #[] #[.pointer (some ⟨g, 0, none⟩)]] w fun e w' => e = .returned (.bool (!m5 p)) ∧ w.grownBy w' none := by
  have HM := Lib.hid (may_5 p g w hb)
  clear _hp _hT hb
  go_enter Tryd.func58, Tryd.ntmps58
  go_wp2_with fail
  refine HM.out.mono ?_
  rintro e w1 ⟨rfl, hg⟩
  have HG := Lib.hid hg
  clear hg
  go_wp2
  go_ret
  exact ⟨rfl, HG.out⟩
set_option maxHeartbeats 400000 in
theorem ask_6 (p : Par) (g : Nat) (w : World) (_hp : p.ok) (_hT : TabsAt w) (hb : Bk w g 24 p.cells)  :
    Calls Tryd.prog 58 #[.func (.func 50) #[] #[.pointer (some ⟨g, 0, none⟩)]] w fun e w' => e = .returned (.bool (!m6 p)) ∧ w.grownBy w' none := by
  have HM := Lib.hid (may_6 p g w hb)
  clear _hp _hT hb
  go_enter Tryd.func58, Tryd.ntmps58
  go_wp2_with fail
  refine HM.out.mono ?_
  rintro e w1 ⟨rfl, hg⟩
  have HG := Lib.hid hg
  clear hg
  go_wp2
  go_ret
  exact ⟨rfl, HG.out⟩
set_option maxHeartbeats 400000 in
theorem ask_7 (p : Par) (g : Nat) (w : World) (_hp : p.ok) (_hT : TabsAt w) (hb : Bk w g 24 p.cells)  :
    Calls Tryd.prog 58 #[.func (.func 51) #[] #[.pointer (some ⟨g, 0, none⟩)]] w fun e w' => e = .returned (.bool (!m7 p)) ∧ w.grownBy w' none := by
  have HM := Lib.hid (may_7 p g w hb)
  clear _hp _hT hb
  go_enter Tryd.func58, Tryd.ntmps58
  go_wp2_with fail
  refine HM.out.mono ?_
  rintro e w1 ⟨rfl, hg⟩
  have HG := Lib.hid hg
  clear hg
  go_wp2
  go_ret
  exact ⟨rfl, HG.out⟩
set_option maxHeartbeats 400000 in
theorem ask_8 (p : Par) (g : Nat) (w : World) (hp : p.ok) (_hT : TabsAt w) (hb : Bk w g 24 p.cells) (h5 : m5 p = true) (h7 : m7 p = true) :
    Calls Tryd.prog 58 #[.func (.func 52) #[] #[.pointer (some ⟨g, 0, none⟩)]] w fun e w' => e = .returned (.bool (!m8 p)) ∧ w.grownBy w' none := by
  have HM := Lib.hid (may_8 p g w hp hb h5 h7)
  clear hp _hT hb h5 h7
  go_enter Tryd.func58, Tryd.ntmps58
  go_wp2_with fail
  refine HM.out.mono ?_
  rintro e w1 ⟨rfl, hg⟩
  have HG := Lib.hid hg
  clear hg
  go_wp2
  go_ret
  exact ⟨rfl, HG.out⟩
set_option maxHeartbeats 400000 in
theorem ask_9 (p : Par) (g : Nat) (w : World) (_hp : p.ok) (hT : TabsAt w) (hb : Bk w g 24 p.cells)  :
    Calls Tryd.prog 58 #[.func (.func 53) #[] #[.pointer (some ⟨g, 0, none⟩)]] w fun e w' => e = .returned (.bool (!m9 p)) ∧ w.grownBy w' none := by
  have HM := Lib.hid (may_9 p g w hT hb)
  clear _hp hT hb
  go_enter Tryd.func58, Tryd.ntmps58
  go_wp2_with fail
  refine HM.out.mono ?_
  rintro e w1 ⟨rfl, hg⟩
  have HG := Lib.hid hg
  clear hg
  go_wp2
  go_ret
  exact ⟨rfl, HG.out⟩
set_option maxHeartbeats 400000 in
theorem ask_10 (p : Par) (g : Nat) (w : World) (hp : p.ok) (_hT : TabsAt w) (hb : Bk w g 24 p.cells)  :
    Calls Tryd.prog 58 #[.func (.func 55) #[] #[.pointer (some ⟨g, 0, none⟩)]] w fun e w' => e = .returned (.bool (!m10 p)) ∧ w.grownBy w' none := by
  have HM := Lib.hid (may_10 p g w hp hb)
  clear hp _hT hb
  go_enter Tryd.func58, Tryd.ntmps58
  go_wp2_with fail
  refine HM.out.mono ?_
  rintro e w1 ⟨rfl, hg⟩
  have HG := Lib.hid hg
  clear hg
  go_wp2
  go_ret
  exact ⟨rfl, HG.out⟩
theorem ask_any (p : Par) (g : Nat) (w : World) (hp : p.ok) (hT : TabsAt w) (hb : Bk w g 24 p.cells) : ∀ (j : Nat) (_h : j < (fvs g).length) (h' : j < (ms p).length), (∀ i (hi : i < j), (ms p)[i]'(by omega) = true) →
    Calls Tryd.prog 58 #[(fvs g)[j]] w fun e w' => e = .returned (.bool (!(ms p)[j])) ∧ w.grownBy w' none
  | 0, _, _, _ => ask_1 p g w hp hT hb
  | 1, _, _, _ => ask_2 p g w hp hT hb
  | 2, _, _, hh => ask_3 p g w hp hT hb (hh 1 (by omega))
  | 3, _, _, _ => ask_4 p g w hp hT hb
  | 4, _, _, _ => ask_5 p g w hp hT hb
  | 5, _, _, _ => ask_6 p g w hp hT hb
  | 6, _, _, _ => ask_7 p g w hp hT hb
  | 7, _, _, hh => ask_8 p g w hp hT hb (hh 4 (by omega)) (hh 6 (by omega))
  | 8, _, _, _ => ask_9 p g w hp hT hb
  | 9, _, _, _ => ask_10 p g w hp hT hb
  | n + 10, h, _, _ => absurd h (by simp [fvs])
theorem mayP_all (p : Par) : mayP p = (ms p).all id := by simp [mayP, ms, Bool.and_assoc]
/-- What IndexFunc tells of the asks. -/
def Found (p : Par) (w : World) (e : Ending) (w' : World) : Prop := ∃ n : Int, e = .returned (.int .i64 n) ∧ decide (0 ≤ n) = !mayP p ∧ w.grownBy w' none
set_option maxHeartbeats 400000 in
theorem index_any (p : Par) (g ga : Nat) (t : TypeId) (w : World) (hp : p.ok) (hT : TabsAt w) (hb : Bk w g 24 p.cells) (ha : Bk w ga t (fvs g).toArray) :
    Calls Tryd.prog 78 #[.slice (some ⟨ga, 0, none⟩) 10 10, .func (.func 58) #[] #[]] w (Found p w) := by
  have HP := Lib.hid hp
  have HT := Lib.hid hT
  have HB := Lib.hid hb
  have HA := Lib.hid ha
  clear hp hT hb ha
  go_enter Tryd.func78, Tryd.ntmps78
  go_wp2_with fail
  go_loopg [8] 10 (fun n s8 wx => ∃ j : Nat, j + n = 10 ∧ s8 = .int .i64 j ∧ Hid (w.grownBy wx none ∧ ∀ i (_ : i < j) (h : i < (ms p).length), (ms p)[i] = true))
  case atStart => exact ⟨0, by omega, rfl, Lib.hid ⟨World.grownBy.refl w none, fun i hi => absurd hi (by omega)⟩⟩
  case round =>
    obtain ⟨j, hj, rfl, HX⟩ := hrel
    cases gk with
    | zero =>
      obtain rfl : j = 10 := by omega
      have HE : Hid (Found p w (.returned (.int .i64 (-1))) wr) := Lib.hid ⟨-1, rfl, by
        have : mayP p = true := by
          rw [mayP_all, List.all_eq_true]
          intro b hb
          obtain ⟨i, hi, rfl⟩ := List.getElem_of_mem hb
          exact HX.out.2 i (by simp [ms] at hi; omega) hi
        rw [this]
        rfl, HX.out.1⟩
      clear HX
      go_wp2
      go_ret
      exact HE.out
    | succ k =>
      have hjn : (j : Int) < 10 := by omega
      have hj1 : j < (fvs g).length := by simp [fvs]; omega
      have hj2 : j < (ms p).length := by simp [ms]; omega
      have hcell : wr.cell? ⟨ga, j, none⟩ = some (fvs g)[j] := by
        rw [(HA.out.grown HX.out.1 (by simp)).cell j, List.getElem?_toArray]
        exact List.getElem?_eq_getElem hj1
      have HC := Lib.hid (ask_any p g wr HP.out (HT.out.kept HX.out.1) (HB.out.grown HX.out.1 (by simp)) j hj1 hj2 (fun i hi => HX.out.2 i hi (by omega)))
      have HV : Hid ((ms p)[j] = true ∨ (ms p)[j] = false) := Lib.hid (by cases (ms p)[j] <;> simp)
      have HR : Hid ((ms p)[j] = true → ∀ i (_ : i < j + 1) (h : i < (ms p).length), (ms p)[i] = true) := Lib.hid (fun h i hi hl => by
        rcases Nat.lt_or_ge i j with h1 | h1
        · exact HX.out.2 i h1 hl
        · obtain rfl : i = j := by omega
          exact h)
      have HN : Hid ((ms p)[j] = false → mayP p = false) := Lib.hid (fun h => by
        rw [mayP_all, Bool.eq_false_iff]
        intro hall
        rw [List.all_eq_true] at hall
        have := hall _ (List.getElem_mem hj2)
        simp [h] at this)
      have HG := Lib.hid HX.out.1
      generalize (fvs g)[j] = fv at *
      generalize (ms p)[j] = b at *
      clear HX hj1 hj2
      rcases HV.out with rfl | rfl
      · go_wp2_with fail
        refine HC.out.mono ?_
        rintro e w1 ⟨rfl, hg⟩
        have HG1 := Lib.hid (HG.out.trans hg)
        clear hg
        go_wp2
        go_roundg k
        case measure => omega
        case rel => exact ⟨j + 1, by omega, by go_num, Lib.hid ⟨HG1.out, HR.out (by simp)⟩⟩
      · have HE : Hid (∀ w1, w.grownBy w1 none → Found p w (.returned (.int .i64 j)) w1) := Lib.hid (fun w1 hg => ⟨j, rfl, by rw [HN.out rfl]; simp, hg⟩)
        go_wp2_with fail
        refine HC.out.mono ?_
        rintro e w1 ⟨rfl, hg⟩
        have HG1 := Lib.hid (HG.out.trans hg)
        clear hg
        go_wp2
        go_ret
        exact HE.out _ HG1.out
set_option maxHeartbeats 400000 in
theorem contains_any (p : Par) (g ga : Nat) (t : TypeId) (w : World) (hp : p.ok) (hT : TabsAt w) (hb : Bk w g 24 p.cells) (ha : Bk w ga t (fvs g).toArray) :
    Calls Tryd.prog 57 #[.slice (some ⟨ga, 0, none⟩) 10 10, .func (.func 58) #[] #[]] w fun e w' => e = .returned (.bool (!mayP p)) ∧ w.grownBy w' none := by
  have HI := Lib.hid (index_any p g ga t w hp hT hb ha)
  clear hp hT hb ha
  go_enter Tryd.func57, Tryd.ntmps57
  go_wp2_with fail
  refine HI.out.mono ?_
  rintro e w1 ⟨n, rfl, hn, hg⟩
  have HN := Lib.hid hn
  have HG := Lib.hid hg
  clear hn hg
  go_wp2
  go_ret
  exact ⟨ret_bool HN.out, HG.out⟩
set_option maxHeartbeats 400000 in
theorem may_any (p : Par) (w : World) (hp : p.ok) (hT : TabsAt w) :
    Calls Tryd.prog 26 #[p.v] w fun e w' => e = .returned (.bool (mayP p)) ∧ w.grownBy w' none := by
  have hg1 : w.grownBy (w.alloc (Obj.cells p.cells 24)) none := World.grownBy_alloc w _ none
  have hg2 := World.grownBy_alloc (w.alloc (Obj.cells p.cells 24)) (Obj.cells (fvs w.heap.size).toArray 42) none
  have HC := Lib.hid (contains_any p w.heap.size (w.heap.size + 1) 42 ((w.alloc (Obj.cells p.cells 24)).alloc (Obj.cells (fvs w.heap.size).toArray 42)) hp (hT.kept (hg1.trans hg2)) ((Bk.new w _ _).alloc _)
    (by have := Bk.new (w.alloc (Obj.cells p.cells 24)) 42 (fvs w.heap.size).toArray; rwa [World.size_alloc] at this))
  have HGR := Lib.hid (hg1.trans hg2)
  clear hp hT hg1 hg2
  unfold fvs at HC HGR
  go_enter Tryd.func26, Tryd.ntmps26
  go_wp2_with fail
  refine HC.out.mono ?_
  rintro e w1 ⟨rfl, hg⟩
  have HG := Lib.hid (HGR.out.trans hg)
  clear hg
  go_wp2
  go_ret
  exact ⟨ret_bool (by simp), HG.out⟩
end Go.Proofs.YtlhjbllfcbojmaaDoor
