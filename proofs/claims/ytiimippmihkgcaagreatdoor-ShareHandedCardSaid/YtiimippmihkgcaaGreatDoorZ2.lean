/- Inverses modulo m, by Euclid's steps. No program in sight. mod.Inv, walked. The reference's Add, Sub, Mul, Pow (consistoryref01), walked: they answer what mod's do. group.Power, Commit, At, Is, walked. Sums, differences, products modulo a number, and inverses, as calls that leave what was there as it was. A drawn region in the round of a range over a function, at the wide fence, walked by the plain laws. The law for drawn regions, in a walk that meets rounds (the wide fence): the tail may call yield. A range over a function whose body never leaves, where what is handed over lies in memory that the iterator has just laid: the body is told what is known of it in the world in which it is called. pedersen.pairs, an iterator over two lists, walked. pedersen.pairs over lists of lists, and of lists of lists of lists; pairs itself; walked. What slices hold. pedersen.Share, turned, RowComs, ColComs, Fits; slices.Equal of numbers; walked. pedersen.pairs' contracts and pedersen.Coms. poly.others, an iterator over how far places are from each other, walked (printed by mk_poly.py). pedersen.Coms, walked: a range over a function within a range over a function. poly.share, walked. poly.may and poly.unlike, walked: what is wrong with places (a map of those met). poly.Weights, walked. -/
import Derived.Test.YtiimippmihkgcaaGreatDoorZ1
import Derived.Deep.RegionHeld3
import Derived.Deep.RegionWith
import Derived.Deep.DeepCutAuto
import Derived.RangeFuncNested
import Derived.RangeFuncCalls
import Derived.OwnWalkIn
import Derived.OrdersIn
import Derived.TacticsIn
import Derived.RangeFuncBound
import Derived.RangeFuncLeaves
import Derived.Shelf.Abstract
import Derived.Shelf.RegionOpen
import Derived.WalkKit
import Derived.TacticsInMore
import Derived.LoopNIn
import Derived.LoopIn
import Derived.Stop.RegionWithIn
import Derived.Deep.OwnRows
import Derived.IntWalk
import Derived.BigQuiet
import Derived.Maps.OwnOps
import Derived.Maps.OwnSet
import Derived.Maps.Views
namespace Go.Proofs.YtiimippmihkgcaaGreatDoor
def HasInv (a m : Int) : Prop := ∃ x, 0 ≤ x ∧ x < m ∧ Cg m (a * x) 1
open Classical in
noncomputable def invI (a m : Int) : Int := if h : HasInv a m then Classical.choose h else 0
theorem invI_spec {a m : Int} (h : HasInv a m) : 0 ≤ invI a m ∧ invI a m < m ∧ Cg m (a * invI a m) 1 := by
  unfold invI
  rw [dif_pos h]
  exact Classical.choose_spec h
theorem inv_unique {a m x y : Int} (hx0 : 0 ≤ x) (hx : x < m) (h : Cg m (a * x) 1) (hy0 : 0 ≤ y) (hy : y < m) (k : Cg m (a * y) 1) : x = y := by
  refine Cg.eq (m := m) ?_ hx0 hx hy0 hy
  have e1 : Cg m (x * (a * y)) x := (k.mul_left x).trans (Cg.of_eq (Int.mul_one x))
  have e2 : Cg m (y * (a * x)) y := (h.mul_left y).trans (Cg.of_eq (Int.mul_one y))
  exact e1.symm.trans ((Cg.of_eq (by rw [← Int.mul_assoc, ← Int.mul_assoc, Int.mul_comm x a, Int.mul_comm y a, Int.mul_assoc, Int.mul_assoc, Int.mul_comm x y])).trans e2)
theorem invI_eq {a m x : Int} (hx0 : 0 ≤ x) (hx : x < m) (h : Cg m (a * x) 1) : invI a m = x := by
  have s := invI_spec ⟨x, hx0, hx, h⟩
  exact inv_unique s.1 s.2.1 s.2.2 hx0 hx h

/-- What the loop of Inv keeps. -/
structure InvRel (a m r s x y : Int) : Prop where
  fst : Cg m (a * x) r
  snd : Cg m (a * y) s
  dvd : ∀ d : Int, (d ∣ r ∧ d ∣ s) → (d ∣ a ∧ d ∣ m)

theorem dvd_of_mod {d a m : Int} (h : d ∣ a % m) (k : d ∣ m) : d ∣ a := by
  rw [← Int.mul_ediv_add_emod a m]
  exact Int.dvd_add (Int.dvd_trans k (Int.dvd_mul_right _ _)) h

theorem InvRel.start (a m : Int) : InvRel a m m (a % m) 0 (1 % m) := by
  refine ⟨?_, ?_, fun d h => ⟨dvd_of_mod h.2 h.1, h.1⟩⟩
  · rw [Int.mul_zero]
    exact (Cg.of_dvd (by rw [Int.sub_zero]; exact Int.dvd_refl m)).symm
  · exact (((Cg.mod m 1).mul_left a).trans (Cg.of_eq (Int.mul_one a))).trans (Cg.mod m a).symm

theorem InvRel.next {a m r s x y z : Int} (h : InvRel a m r s x y) (hz : Cg m z (x - r / s * y)) : InvRel a m s (r % s) y z := by
  refine ⟨h.snd, ?_, fun d k => h.dvd d ⟨dvd_of_mod k.2 k.1, k.1⟩⟩
  have e := Int.mul_ediv_add_emod r s
  have e1 : r % s = r - r / s * s := by rw [Int.mul_comm (r / s)]; omega
  rw [e1]
  refine (hz.mul_left a).trans ?_
  rw [Int.mul_sub]
  refine h.fst.sub ?_
  rw [← Int.mul_assoc, Int.mul_comm a, Int.mul_assoc]
  exact h.snd.mul_left _

theorem InvRel.yes {a m x y : Int} (h : InvRel a m 1 0 x y) (hx0 : 0 ≤ x) (hx : x < m) : HasInv a m ∧ x = invI a m :=
  ⟨⟨x, hx0, hx, h.fst⟩, (invI_eq hx0 hx h.fst).symm⟩
theorem InvRel.no {a m r x y : Int} (h : InvRel a m r 0 x y) (h0 : 0 < r) (h1 : r ≠ 1) : ¬ HasInv a m := by
  rintro ⟨z, _, _, hz⟩
  obtain ⟨d1, d2⟩ := h.dvd r ⟨Int.dvd_refl r, Int.dvd_zero r⟩
  have k := Int.dvd_trans d2 hz.dvd
  have k1 : r ∣ a * z := Int.dvd_trans d1 (Int.dvd_mul_right a z)
  have k2 : r ∣ 1 := by
    have := Int.dvd_sub k1 k
    rwa [show a * z - (a * z - 1) = 1 by omega] at this
  have := Int.le_of_dvd (by decide) k2
  omega
end Go.Proofs.YtiimippmihkgcaaGreatDoor

namespace Go.Proofs.YtiimippmihkgcaaGreatDoor
open Go.RowKit
theorem subI_yes (a b m : Int) (hm : mayB m = true) : subI a b m = (a - b) % m := by
  simp only [subI, hm, if_true]
  show Cg m (a % m + m - b % m) (a - b)
  refine Cg.sub ?_ (Cg.mod m b)
  unfold Cg
  rw [Int.add_emod_right, Int.emod_emod_of_dvd _ (Int.dvd_refl m)]
theorem subI_bd (a b m : Int) (hm : mayB m = true) : 0 ≤ subI a b m ∧ subI a b m < m := by
  rw [subI_yes a b m hm]
  simp [mayB] at hm
  exact emod_bd _ _ hm.1
theorem addI_yes (a b m : Int) (hm : mayB m = true) : addI a b m = (a + b) % m := by
  simp only [addI, hm, if_true]
  exact (Cg.mod m a).add (Cg.mod m b)
theorem addI_bd (a b m : Int) (hm : mayB m = true) : 0 ≤ addI a b m ∧ addI a b m < m := by
  rw [addI_yes a b m hm]
  simp [mayB] at hm
  exact emod_bd _ _ hm.1
theorem addI_U64 (a b m : Int) : U64 (addI a b m) := by
  cases hm : mayB m with
  | false => simp [addI, hm, U64]
  | true =>
    have := addI_bd a b m hm
    simp [mayB] at hm
    unfold U64
    omega
theorem subI_U64 (a b m : Int) : U64 (subI a b m) := by
  cases hm : mayB m with
  | false => simp [subI, hm, U64]
  | true =>
    have := subI_bd a b m hm
    simp [mayB] at hm
    unfold U64
    omega
theorem U64.of_lt {a m : Int} (h0 : 0 ≤ a) (h1 : a < m) (hm : m ≤ 2305843009213693952) : U64 a := by unfold U64; omega

theorem inv_arg (a m : Int) (w : World) (hm : mayB m = false) :
    Calls Tryz.prog 136 #[.int .u64 a, .int .u64 m] w fun e' w' => e' = .returned (.tuple #[.int .u64 0, .int .i64 1]) ∧ ∃ n, w' = w.drewN n := by
  have H := Lib.hid hm
  clear hm
  go_enter Tryz.func136, Tryz.ntmps136
  go_wp2_with (go_at_call 111; refine (may_no _ _ H.out).mono ?_; rintro e w' ⟨rfl, rfl⟩)
  go_ret2
  exact ⟨rfl, 0, rfl⟩

open Classical in
/-- What Inv answers where m may be. -/
noncomputable def invRes (a m : Int) : Value := if HasInv a m then .tuple #[.int .u64 (invI a m), .int .i64 0] else .tuple #[.int .u64 0, .int .i64 5]
theorem invRes_yes {a m x : Int} (h : HasInv a m ∧ x = invI a m) : .tuple #[.int .u64 x, .int .i64 0] = invRes a m := by
  unfold invRes
  rw [if_pos h.1, h.2]
theorem invRes_no {a m : Int} (h : ¬ HasInv a m) : .tuple #[.int .u64 0, .int .i64 5] = invRes a m := by
  unfold invRes
  rw [if_neg h]

set_option maxHeartbeats 400000 in
theorem inv_may (a m : Int) (w : World) (ha : U64 a) (hm : mayB m = true) :
    Calls Tryz.prog 136 #[.int .u64 a, .int .u64 m] w fun e' w' => e' = .returned (invRes a m) ∧ ∃ n, w' = w.drewN n := by
  have H := Lib.hid hm
  simp [mayB] at hm
  obtain ⟨hm0, hm1⟩ := hm
  obtain ⟨e1, e2⟩ := emod_bd 1 m hm0
  obtain ⟨e3, e4⟩ := emod_bd a m hm0
  obtain ⟨ha0, ha1⟩ := ha
  have HP := Lib.hid (InvRel.start a m)
  go_enter Tryz.func136, Tryz.ntmps136
  go_wp2_with (go_at_call 111; refine (may_yes _ _ H.out).mono ?_; rintro e w' ⟨rfl, rfl⟩)
  go_quiet (fail)
  go_wp2
  go_quiet (fail)
  go_wp2_with fail
  go_loopw [6, 7, 8, 9] (fun sr ss sx sy wr => ∃ r s x y : Int, sr = .int .u64 r ∧ ss = .int .u64 s ∧ sx = .int .u64 x ∧ sy = .int .u64 y ∧ 0 < r ∧ r ≤ m ∧ 0 ≤ s ∧ s ≤ m ∧ 0 ≤ x ∧ x < m ∧ 0 ≤ y ∧ y < m ∧ Hid (InvRel a m r s x y) ∧ ∃ n, wr = w.drewN n) (fun _ ss _ _ _ => (intOf ss).toNat)
  case atStart => exact ⟨_, _, _, _, rfl, rfl, rfl, rfl, by omega, by omega, by omega, by omega, by omega, by omega, by omega, by omega, HP, _, World.drewN_drewN _ _ _⟩
  case round =>
    obtain ⟨r, s, x, y, rfl, rfl, rfl, rfl, hr0, hr1, hs0, hs1, hx0, hx1, hy0, hy1, hp, n, rfl⟩ := hrel
    by_cases h0 : s = 0
    · subst h0
      by_cases h1 : r = 1
      · subst h1
        have HR := Lib.hid (invRes_yes (hp.out.yes hx0 hx1))
        go_wp2
        go_ret2
        exact ⟨congrArg Ending.returned HR.out, _, rfl⟩
      · have h1' : (r != 1) = true := by simpa using h1
        have HR := Lib.hid (invRes_no (hp.out.no hr0 h1))
        clear h1
        go_wp2
        go_ret2
        exact ⟨congrArg Ending.returned HR.out, _, rfl⟩
    · have h0' : (s != 0) = true := by simpa using h0
      have q0 : 0 ≤ r / s := Int.ediv_nonneg (by omega) hs0
      have q1 : r / s ≤ r := Int.ediv_le_self s (by omega)
      obtain ⟨b0, b1⟩ := emod_bd r s (by omega)
      have HQ : Hid (U64 (r / s)) := Lib.hid ⟨q0, by omega⟩
      have HY : Hid (U64 y) := Lib.hid ⟨hy0, by omega⟩
      have HX : Hid (U64 x) := Lib.hid ⟨hx0, by omega⟩
      have HM := Lib.hid (mulI_U64 (r / s) y m)
      have HS := subI_bd x (mulI (r / s) y m) m H.out
      obtain ⟨z0, z1⟩ := HS
      have HN := Lib.hid (hp.out.next (z := subI x (mulI (r / s) y m) m) (by rw [subI_yes x _ m H.out]; exact (Cg.mod m _).trans ((Cg.refl m x).sub (mulI_cg _ _ m H.out))))
      clear h0
      go_wp2
      go_quiet (fail)
      go_wp2_with fail
      refine (mul_any _ _ m _ HQ.out HY.out).mono ?_
      rintro e w' ⟨rfl, n1, rfl⟩
      go_wp2_with fail
      refine (sub_any _ _ m _ HX.out HM.out).mono ?_
      rintro e w' ⟨rfl, n2, rfl⟩
      go_wp2
      go_roundw
      case rel => exact ⟨_, _, _, _, rfl, rfl, rfl, rfl, by omega, by omega, by omega, by omega, by omega, by omega, by omega, by omega, HN, _, rfl⟩
      case measure => simp [intOf]; omega
end Go.Proofs.YtiimippmihkgcaaGreatDoor

namespace Go.Proofs.YtiimippmihkgcaaGreatDoor
open Go.RowKit

theorem addI_no (a b m : Int) (hm : mayB m = false) : addI a b m = 0 := by simp [addI, hm]
theorem may_cases {m : Int} (h : mayB m = false) (h0 : 0 ≤ m) : m = 0 ∨ 2305843009213693952 < m := by
  simp [mayB] at h
  omega
theorem add_carry (x y m : Int) (x0 : 0 ≤ x) (x1 : x < m) (y0 : 0 ≤ y) (y1 : y < m) : (m ≤ x + y → (x + y) % m = x + y - m) ∧ (x + y < m → (x + y) % m = x + y) := by
  refine ⟨fun h => ?_, fun h => Int.emod_eq_of_lt (by omega) h⟩
  rw [show x + y = (x + y - m) + m * 1 by omega, Int.add_mul_emod_self_left, Int.emod_eq_of_lt (by omega) (by omega)]
  omega

theorem sub_borrow (x y m : Int) (x0 : 0 ≤ x) (x1 : x < m) (y0 : 0 ≤ y) (y1 : y < m) : (y ≤ x → (x + m - y) % m = x - y) ∧ (x < y → (x + m - y) % m = m - (y - x)) := by
  refine ⟨fun h => ?_, fun h => ?_⟩
  · rw [show x + m - y = (x - y) + m * 1 by omega, Int.add_mul_emod_self_left, Int.emod_eq_of_lt (by omega) (by omega)]
  · rw [Int.emod_eq_of_lt (by omega) (by omega)]
    omega

/-- What the loop of the reference's Mul keeps. -/
def RMul (m a0 b0 o a b : Int) : Prop := Cg m (o + a * b) (a0 * b0)
theorem RMul.odd {m a0 b0 o a b : Int} (hm : mayB m = true) (h : RMul m a0 b0 o a b) (h2 : b % 2 = 1) : RMul m a0 b0 (addI o a m) (addI a a m) (b / 2) := by
  unfold RMul at *
  have e1 : Cg m (addI o a m) (o + a) := by rw [addI_yes _ _ _ hm]; exact Cg.mod _ _
  have e2 : Cg m (addI a a m) (a + a) := by rw [addI_yes _ _ _ hm]; exact Cg.mod _ _
  refine ((e1.add (e2.mul_right _)).trans (Cg.of_eq ?_)).trans h
  have hb : b = 2 * (b / 2) + 1 := by omega
  generalize b / 2 = k at *
  subst hb
  rw [Int.mul_add, Int.mul_one, Int.add_mul, ← Int.mul_assoc, Int.mul_comm a 2, Int.mul_assoc]
  omega
theorem RMul.even {m a0 b0 o a b : Int} (hm : mayB m = true) (h : RMul m a0 b0 o a b) (h2 : b % 2 = 0) : RMul m a0 b0 o (addI a a m) (b / 2) := by
  unfold RMul at *
  have e2 : Cg m (addI a a m) (a + a) := by rw [addI_yes _ _ _ hm]; exact Cg.mod _ _
  refine (((Cg.refl m o).add (e2.mul_right _)).trans (Cg.of_eq ?_)).trans h
  have hb : b = 2 * (b / 2) := by omega
  generalize b / 2 = k at *
  subst hb
  rw [Int.add_mul, ← Int.mul_assoc, Int.mul_comm a 2, Int.mul_assoc]
  omega
theorem RMul.done {m a0 b0 o a : Int} (hm : mayB m = true) (h : RMul m a0 b0 o a 0) (h0 : 0 ≤ o) (h1 : o < m) : o = mulI a0 b0 m := by
  unfold RMul Cg at h
  rw [Int.mul_zero, Int.add_zero, Int.emod_eq_of_lt h0 h1] at h
  rw [mulI_yes _ _ _ hm, h]

theorem powI_U64' (a e m : Int) : U64 (powI a e m) := by
  cases hm : mayB m with
  | false => simp [powI, hm, U64]
  | true =>
    simp only [powI, hm, if_true]
    simp [mayB] at hm
    have := emod_bd (a ^ e.toNat) m hm.1
    unfold U64
    omega
theorem pow_zero' (a m : Int) : addI 1 0 m = powI a 0 m := by
  cases hm : mayB m with
  | false => simp [powI, addI, hm]
  | true => rw [addI_yes _ _ _ hm]; simp [powI, hm]
theorem pow_even (a e m : Int) (he : 0 ≤ e) (h2 : e % 2 = 0) : mulI (powI a (e / 2) m) (powI a (e / 2) m) m = powI a e m := by
  cases hm : mayB m with
  | false => simp [powI, mulI, hm]
  | true =>
    rw [mulI_yes _ _ _ hm]
    simp only [powI, hm, if_true]
    refine ((Cg.mod m _).mul (Cg.mod m _)).trans (Cg.of_eq ?_)
    rw [toNat_even e he h2, ← Int.pow_add]
    congr 1
    omega
theorem pow_odd (a e m : Int) (he : 0 ≤ e) (h2 : e % 2 = 1) : mulI (mulI (powI a (e / 2) m) (powI a (e / 2) m) m) a m = powI a e m := by
  cases hm : mayB m with
  | false => simp [powI, mulI, hm]
  | true =>
    rw [mulI_yes _ _ _ hm, mulI_yes _ _ _ hm]
    simp only [powI, hm, if_true]
    refine (((Cg.mod m _).trans ((Cg.mod m _).mul (Cg.mod m _))).mul_right a).trans (Cg.of_eq ?_)
    rw [toNat_odd e he h2, Int.pow_succ, ← Int.pow_add]
    congr 2
    omega

end Go.Proofs.YtiimippmihkgcaaGreatDoor

namespace Go.Proofs.YtiimippmihkgcaaGreatDoor
open Go.RowKit

theorem Sl.ofBk {w : World} {g : Nat} {t : TypeId} {l : List Int} (h : Bk w g t (nums l).toArray) (hu : ∀ x ∈ l, U64 x) (hl : l.length ≤ 9223372036854775807) : Sl encU (fun _ => True) w (.slice (some ⟨g, 0, none⟩) l.length l.length) l := by
  refine ⟨_, _, rfl, Nat.le_refl _, hl, fun _ => ⟨g, 0, rfl, h.lt, trivial, fun i hi => ⟨_, ⟨rfl, hu _ (List.getElem_mem hi)⟩, fun j u hj => ?_⟩⟩⟩
  have hj0 : j = 0 := by
    have := (List.getElem?_eq_some_iff.1 hj).1
    simp at this
    exact this
  subst hj0
  simp at hj
  subst hj
  rw [h.cell]
  simp [nums, encU, hi]
theorem cells_of {w w' : World} (hg : w.grownBy w' none) {n : Nat} (hn : n ≤ w.heap.size) : ∀ b o, b < n → w'.cell? ⟨b, o, none⟩ = w.cell? ⟨b, o, none⟩ := fun b o h => World.cell?_of_block (hg.block b (by omega) (by simp))
theorem cells_alloc {w' W : World} {n : Nat} (h : ∀ b o, b < n → w'.cell? ⟨b, o, none⟩ = W.cell? ⟨b, o, none⟩) (hn : n ≤ w'.heap.size) (ob : Obj) : ∀ b o, b < n → (w'.alloc ob).cell? ⟨b, o, none⟩ = W.cell? ⟨b, o, none⟩ := fun b o hb => (World.cell?_alloc_lt w' ob ⟨b, o, none⟩ (by simp; omega)).trans (h b o hb)
theorem times_two (p : Par) (a b : Int) (w : World) (ha : U64 a) (hb : U64 b) :
    Calls Tryz.prog 63 #[p.v, .slice (some ⟨w.heap.size, 0, none⟩) 2 2] (w.alloc (Obj.cells #[.int .u64 a, .int .u64 b] 22)) fun e w' => e = .returned (.int .u64 (timesI p.P [a, b])) ∧ w.grownBy w' none :=
  (times_any p _ [a, b] (fun _ => True) _ (Sl.ofBk (t := 22) (Bk.new w 22 (nums [a, b]).toArray) (by intro y hy; simp at hy; rcases hy with rfl | rfl <;> assumption) (by simp))).mono fun _ _ ⟨he, hg⟩ => ⟨he, (World.grownBy_alloc w _ none).trans hg⟩
theorem times_nil (p : Par) (w : World) :
    Calls Tryz.prog 63 #[p.v, .slice none 0 0] w fun e w' => e = .returned (.int .u64 (timesI p.P [])) ∧ w.grownBy w' none :=
  times_any p _ [] (fun _ => True) w (Sl.nil _ _ _)
set_option maxHeartbeats 400000 in
theorem power_any (p : Par) (x e : Int) (w : World) (hx : U64 x) (he : U64 e) :
    Calls Tryz.prog 61 #[p.v, .int .u64 x, .int .u64 e] w fun e' w' => e' = .returned (.int .u64 (powI x e p.P)) ∧ w.grownBy w' none := by
  go_enter Tryz.func61, Tryz.ntmps61
  go_wp2_with fail
  refine (pow_any x e p.P _ hx he).mono ?_
  rintro e w' ⟨rfl, n, rfl⟩
  go_wp2
  go_ret
  exact ⟨rfl, grownBy_drewN (World.grownBy_alloc w _ none) n⟩
def commitI (p : Par) (x : Int × Int) : Int := timesI p.P [powI p.G x.1 p.P, powI p.H x.2 p.P]
set_option maxHeartbeats 400000 in
theorem commit_any (p : Par) (x : Int × Int) (w : World) (hp : p.ok) (h1 : U64 x.1) (h2 : U64 x.2) :
    Calls Tryz.prog 82 #[p.v, .agg #[.int .u64 x.1, .int .u64 x.2]] w fun e' w' => e' = .returned (.int .u64 (commitI p x)) ∧ w.grownBy w' none := by
  have HG : Hid (U64 p.G) := Lib.hid hp.G
  have HH : Hid (U64 p.H) := Lib.hid hp.H
  have H1 := Lib.hid h1
  have H2 := Lib.hid h2
  have HU := Lib.hid (powI_U64' p.G x.1 p.P)
  have HL := Lib.hid (powI_U64' p.H x.2 p.P)
  clear hp h1 h2
  go_enter Tryz.func82, Tryz.ntmps82
  go_wp2_with fail
  go_region_held3 (fun w' => ∀ b o, b < w.heap.size + 2 → w'.cell? ⟨b, o, none⟩ = ((w.alloc (Obj.cells p.cells 24)).alloc (Obj.cells #[.int .u64 x.1, .int .u64 x.2] 70)).cell? ⟨b, o, none⟩) (first | assumption | exact cells_alloc (by assumption) (by assumption) _ | go_keep)
    (first
    | (go_at_call 61; (with_reducible refine (power_any p p.G x.1 _ HG.out H1.out).mono ?_); rintro e w1 ⟨rfl, hg⟩; have HG1 := Lib.hid hg; have hc1 := cells_of (n := w.heap.size + 2) hg (by simp); clear hg)
    | (go_at_call 61; (with_reducible refine (power_any p p.H x.2 _ HH.out H2.out).mono ?_); rintro e w2 ⟨rfl, hg⟩; have HG2 := Lib.hid (HG1.out.trans hg); have hc2 := cells_of (n := w.heap.size + 2) HG2.out (by simp); have hs2 : w.heap.size + 2 ≤ w2.heap.size := Nat.le_trans (by simp) HG2.out.size; clear hg)
    | (go_at_call 63; (with_reducible refine (times_two p _ _ w2 HU.out HL.out).mono ?_); rintro e w3 ⟨rfl, hg⟩; have HG3 := Lib.hid (HG2.out.trans hg); have hc3 := cells_of (n := w.heap.size + 2) HG3.out (by simp); clear hg))
  go_wp2
  go_ret
  exact ⟨rfl, ((World.grownBy_alloc w _ none).trans (World.grownBy_alloc _ _ none)).trans (grownBy_drewN (World.grownBy.refl _ none) 1 |>.trans HG3.out)⟩
def isB (p : Par) (x : Int) : Bool := decide (1 ≤ x) && decide (x < p.P) && powI x p.Q p.P == 1
set_option maxHeartbeats 400000 in
theorem is_any (p : Par) (x : Int) (w : World) (hp : p.ok) (h1 : U64 x) :
    Calls Tryz.prog 36 #[p.v, .int .u64 x] w fun e' w' => e' = .returned (.bool (isB p x)) ∧ w.grownBy w' none := by
  have HQ : Hid (U64 p.Q) := Lib.hid hp.Q
  have H1 := Lib.hid h1
  clear hp h1
  by_cases ha : 1 ≤ x
  · by_cases hb : x < p.P
    · have HE : Hid (isB p x = (powI x p.Q p.P == 1)) := Lib.hid (by simp [isB, ha, hb])
      go_enter Tryz.func36, Tryz.ntmps36
      go_wp2_with fail
      refine (power_any p x p.Q _ H1.out HQ.out).mono ?_
      rintro e w1 ⟨rfl, hg⟩
      have HG := Lib.hid hg
      clear hg
      go_wp2
      go_ret
      exact ⟨ret_bool HE.out.symm, (World.grownBy_alloc w _ none).trans HG.out⟩
    · have HE : Hid (isB p x = false) := Lib.hid (by simp [isB, hb])
      have hb' : decide (x < p.P) = false := by simpa using hb
      clear hb
      go_enter Tryz.func36, Tryz.ntmps36
      go_wp2_with fail
      go_ret
      exact ⟨ret_bool HE.out.symm, World.grownBy_alloc w _ none⟩
  · have HE : Hid (isB p x = false) := Lib.hid (by simp [isB, ha])
    go_enter Tryz.func36, Tryz.ntmps36
    go_wp2_with fail
    go_ret
    exact ⟨ret_bool HE.out.symm, World.grownBy_alloc w _ none⟩
def atGo (p : Par) (i : Int) : List Int → Int → Int → Int
  | [], x, _ => x
  | y :: l, x, e => atGo p i l (timesI p.P [x, powI y e p.P]) (mulI e i p.Q)
def atI (p : Par) (l : List Int) (i : Int) : Int := atGo p i l (timesI p.P []) (mulI 1 1 p.Q)
theorem atGo_step (p : Par) (i : Int) (l : List Int) (j : Nat) (h : j < l.length) (x e : Int) : atGo p i (l.drop j) x e = atGo p i (l.drop (j + 1)) (timesI p.P [x, powI l[j] e p.P]) (mulI e i p.Q) := by
  rw [List.drop_eq_getElem_cons h]
  rfl
set_option maxHeartbeats 400000 in
theorem at_all (p : Par) (v : Value) (l : List Int) (i : Int) (X : Nat → Prop) (w : World) (h : Sl encU X w v l) (hi : U64 i) :
    Calls Tryz.prog 102 #[p.v, v, .int .u64 i] w fun e' w' => e' = .returned (.int .u64 (atI p l i)) ∧ w.grownBy w' none := by
  have H := Lib.hid h
  have HI := Lib.hid hi
  obtain ⟨A, c, rfl, h1, h2⟩ := h.form
  clear h hi
  go_enter Tryz.func102, Tryz.ntmps102
  go_wp2_with fail
  refine (times_nil p _).mono ?_
  rintro e w1 ⟨rfl, hg⟩
  have HG := Lib.hid hg
  have HB : Hid (Bk w1 w.heap.size 24 p.cells) := Lib.hid ((Bk.new w _ _).grown hg (by simp))
  have hc1 := HB.out.prule
  clear hg
  go_wp2_with fail
  refine (mul_any 1 1 p.Q _ (by decide) (by decide)).mono ?_
  rintro e w' ⟨rfl, n, rfl⟩
  have HS : Hid (U64 (timesI p.P []) ∧ U64 (mulI 1 1 p.Q) ∧ w.grownBy (w1.drewN n) none ∧ Bk (w1.drewN n) w.heap.size 24 p.cells ∧ atGo p i (l.drop 0) (timesI p.P []) (mulI 1 1 p.Q) = atI p l i) :=
    Lib.hid ⟨timesI_U64 _ _, mulI_U64 _ _ _, grownBy_drewN ((World.grownBy_alloc w _ none).trans HG.out) n, HB.out.drewN n, rfl⟩
  clear HB HG hc1
  go_wp2_with fail
  go_loopg [7, 8, 18] l.length (fun g sx se si wx => ∃ (j : Nat) (x e : Int), j + g = l.length ∧ si = .int .i64 j ∧ sx = .int .u64 x ∧ se = .int .u64 e ∧ Hid (U64 x ∧ U64 e ∧ w.grownBy wx none ∧ Bk wx w.heap.size 24 p.cells ∧ atGo p i (l.drop j) x e = atI p l i))
  case atStart => exact ⟨0, _, _, by omega, rfl, rfl, rfl, HS⟩
  case round =>
    obtain ⟨j, x, e, hj, rfl, rfl, rfl, HX⟩ := hrel
    cases gk with
    | zero =>
      obtain rfl : j = l.length := by omega
      have HE : Hid (x = atI p l i) := Lib.hid (by have := HX.out.2.2.2.2; rwa [List.drop_length] at this)
      have HGG := Lib.hid HX.out.2.2.1
      clear HX
      go_wp2
      go_ret
      exact ⟨ret_u64 HE.out, HGG.out⟩
    | succ k =>
      have hjn : (j : Int) < (l.length : Int) := by omega
      have hjN : j < l.length := by omega
      obtain ⟨hx, he, hg, hb, hs⟩ := HX.out
      obtain ⟨g, o, c', e', _, _, hc, hu⟩ := (H.out.kept hg).atU hjN
      injection e' with e1 e2 e3
      subst e1 e3
      have hp := hb.prule
      rw [atGo_step p i l j hjN] at hs
      have HS := Lib.hid hs
      have HXu := Lib.hid hx
      have HEu := Lib.hid he
      have HU := Lib.hid hu
      have HGr := Lib.hid hg
      have HBk := Lib.hid hb
      generalize l[j] = y at *
      clear hx he hg hb hs hu e2 HX
      go_wp2_with fail
      go_region_held3 (fun w' => ∀ o, w'.cell? ⟨w.heap.size, o, none⟩ = (#[.int .u64 p.P, .int .u64 p.Q, .int .u64 p.G, .int .u64 p.H, .int .i64 p.Nodes, .int .i64 p.N, .int .i64 p.T, .int .i64 p.K, .int .i64 p.D, .int .i64 p.R, .int .i64 p.M, .int .i64 p.X] : Array Value)[o]?) (first | assumption | exact rule_alloc (by assumption) (by assumption) _ | go_keep)
        (first
        | (go_at_call 61; (with_reducible refine (power_any p y e _ HU.out HEu.out).mono ?_); rintro e' w2 ⟨rfl, hg⟩; have HG2 := Lib.hid hg; have HB2 := Lib.hid ((HBk.out.drewN 1).grown hg (by simp)); have hp2 := HB2.out.prule; have hs2 := HB2.out.lt; clear hg)
        | (go_at_call 63; (with_reducible refine (times_two p x (powI y e p.P) w2 HXu.out (powI_U64' y e p.P)).mono ?_); rintro e' w3 ⟨rfl, hg⟩; have HG3 := Lib.hid hg; have HB3 := Lib.hid (HB2.out.grown hg (by simp)); have hp3 := HB3.out.prule; clear hg))
      go_wp2_with fail
      refine (mul_any e i p.Q _ HEu.out HI.out).mono ?_
      rintro e' w' ⟨rfl, n', rfl⟩
      go_wp2
      go_roundg k
      case measure => omega
      case rel => exact ⟨j + 1, _, _, by omega, by go_num, rfl, rfl, Lib.hid ⟨timesI_U64 _ _, mulI_U64 _ _ _, grownBy_drewN ((HGr.out.trans (grownBy_drewN (World.grownBy.refl wr none) 1)).trans (HG2.out.trans HG3.out)) n', HB3.out.drewN n', HS.out⟩⟩
end Go.Proofs.YtiimippmihkgcaaGreatDoor

namespace Go.Proofs.YtiimippmihkgcaaGreatDoor
open Go.RowKit

theorem add_gr (a b m : Int) (w : World) (ha : U64 a) (hb : U64 b) :
    Calls Tryz.prog 79 #[.int .u64 a, .int .u64 b, .int .u64 m] w fun e w' => e = .returned (.int .u64 (addI a b m)) ∧ w.grownBy w' none :=
  (add_any a b m w ha hb).mono fun _ _ ⟨he, n, hn⟩ => ⟨he, by rw [hn]; exact grownBy_drewN (World.grownBy.refl w none) n⟩
theorem sub_gr (a b m : Int) (w : World) (ha : U64 a) (hb : U64 b) :
    Calls Tryz.prog 98 #[.int .u64 a, .int .u64 b, .int .u64 m] w fun e w' => e = .returned (.int .u64 (subI a b m)) ∧ w.grownBy w' none :=
  (sub_any a b m w ha hb).mono fun _ _ ⟨he, n, hn⟩ => ⟨he, by rw [hn]; exact grownBy_drewN (World.grownBy.refl w none) n⟩
theorem mul_gr (a b m : Int) (w : World) (ha : U64 a) (hb : U64 b) :
    Calls Tryz.prog 77 #[.int .u64 a, .int .u64 b, .int .u64 m] w fun e w' => e = .returned (.int .u64 (mulI a b m)) ∧ w.grownBy w' none :=
  (mul_any a b m w ha hb).mono fun _ _ ⟨he, n, hn⟩ => ⟨he, by rw [hn]; exact grownBy_drewN (World.grownBy.refl w none) n⟩
theorem emod_U64 (a m : Int) (ha : U64 a) (hm : 0 < m) : U64 (a % m) := by
  obtain ⟨a0, a1⟩ := ha
  have h1 := Int.emod_nonneg a (show m ≠ 0 by omega)
  have h3 := Int.mul_nonneg (Int.le_of_lt hm) (Int.ediv_nonneg a0 (Int.le_of_lt hm))
  have h4 := Int.mul_ediv_add_emod a m
  exact ⟨h1, by omega⟩
end Go.Proofs.YtiimippmihkgcaaGreatDoor

namespace Go.Proofs.YtiimippmihkgcaaGreatDoor
open Go Go.RowKit

section
variable {P : Program} {ops : Array Oper} {md : Region.Mode} {R : Act → World → Prop} {Q : Exit → Act → World → Prop} {l0 n : Nat}
/-- What is said of the way that goes on alone. -/
def Only (R : Act → World → Prop) : Exit → Act → World → Prop := fun e a w => e = .normal ∧ R a w
theorem only_letsOut : ¬ LetsOut (Only R) := by
  rintro ⟨a, w, e, _⟩
  cases e
theorem operIn_of_wp {o : Oper} {a : Act} {w : World} {K K' : Act → World → Prop} (hd : ∀ c, o.op ≠ .defer c) (hK : ∀ a w, K a w → K' a w) (h : o.wp P a w K (Only R)) : o.wpIn (Fence.wide.inRound l0) n P a w K' Q := by
  refine ⟨fun _ _ => trivial, ?_⟩
  rw [Oper.semAt_plain _ _ _ hd]
  unfold Oper.wp at h
  generalize (execOp a.eval o).run P w = r at *
  cases r with
  | ok x w' =>
    cases x with
    | value v => exact hK _ _ h
    | skip => exact hK _ _ h
    | defer d => exact hK _ _ h
    | enter f args =>
      refine ⟨fun h => by simp [Fence.wide] at h, CallsIn.inRound l0 (callsIn_wide.2 ?_)⟩
      refine Calls.mono h ?_
      intro e w'' he
      cases e with
      | returned v => exact hK _ _ he
      | panicked c => exact absurd he.1 (by simp)
      | outgrown => exact absurd he only_letsOut
    | row row args =>
      refine ⟨fun h => by simp [Fence.wide] at h, fun c cs _ => ?_⟩
      obtain ⟨v, w'', r, s⟩ := h c cs
      exact ⟨v, w'', hK _ _ r, stepsIn_wide.2 s⟩
    | round l f ts c1 c2 => exact h.elim
    | _ => exact h.elim
  | halt x w' =>
    cases x with
    | panic v => exact absurd h.1 (by simp)
    | _ => exact h.elim
theorem wpAnyIn_of_any (hd : ∀ (i : Nat) (o : Oper) c, ops[i]? = some o → o.op ≠ .defer c) (hR : ∀ a w, R a w → Q .normal a w) :
    ∀ (f : Nat) (listed : Array Bool) (a : Act) (w : World), wpAny P md ops (Only R) f listed a w → wpAnyIn (Fence.wide.inRound l0) n P md ops Q f listed a w := by
  intro f
  induction f with
  | zero => intro listed a w h; exact ⟨h.1, hR _ _ h.2.2⟩
  | succ f ih =>
    intro listed a w h
    refine ⟨fun e => hR _ _ (h.1 e).2, fun i hi => ?_⟩
    have h2 := h.2 i hi
    unfold wpOp at h2
    unfold wpOpIn
    cases ho : ops[i]? with
    | none => simp only [ho] at h2 ⊢; exact ih _ _ _ h2
    | some o =>
      simp only [ho] at h2 ⊢
      split
      · rename_i hw
        rw [if_pos hw] at h2
        rcases h2 with h2 | h2
        · exact operIn_of_wp (fun c => hd i o c ho) (fun a w k => ih _ _ _ k) h2
        · exact absurd h2.2 only_letsOut
      · rename_i hw
        rw [if_neg hw] at h2
        exact ⟨fun _ _ => trivial, ih _ _ _ h2⟩
def noDefer (ops : Array Oper) : Bool := ops.all fun o => match o.op with | .defer _ => false | _ => true
theorem noDefer_spec (h : noDefer ops = true) : ∀ (i : Nat) (o : Oper) c, ops[i]? = some o → o.op ≠ .defer c := by
  intro i o c hi e
  obtain ⟨hlt, hk⟩ := Array.getElem?_eq_some_iff.1 hi
  have := Array.all_eq_true.1 h i hlt
  rw [hk, e] at this
  exact absurd this (by simp)
/-- The law. -/
theorem wpIn_round_held {S : World → Prop} {id : Nat} {a : Act} {w : World} (hm : P.follows .mixedOrders = true) (hdf : noDefer ops = true) (hS : S w.drew) (hR : ∀ a w, R a w → Q .normal a w)
    (h : S w.drew → wpAnyH P .any ops (Only R) S ops.size (Array.replicate ops.size false) a w.drew) : (Code.region id ops true).wpIn (Fence.wide.inRound l0) n P Q a w :=
  wpIn_region_any hm (wpAnyIn_of_any (noDefer_spec hdf) hR _ _ _ _ (wpAny_of_held _ _ _ _ (h hS)))
end
theorem wpAnyH_mono {P : Program} {md : Region.Mode} {ops : Array Oper} {Q : Exit → Act → World → Prop} {S S' : World → Prop} (hS : ∀ w, S' w → S w) : ∀ (fuel : Nat) (done : Array Bool) (a : Act) (w : World), wpAnyH P md ops Q S' fuel done a w → wpAnyH P md ops Q S fuel done a w := by
  intro fuel
  induction fuel with
  | zero => intro done a w h; exact h
  | succ f ih => intro done a w h; exact ⟨h.1, fun i hi => wpOp_mono (fun a' w' k => ⟨hS _ k.1, ih _ a' w' k.2⟩) (h.2 i hi)⟩
end Go.Proofs.YtiimippmihkgcaaGreatDoor

namespace Go.Proofs.YtiimippmihkgcaaGreatDoor
open Go

section
variable {P : Program} {ops : Array Oper} {md : Region.Mode} {Q : Exit → Act → World → Prop} {n nn : Nat} {a0 : Act} {w0 : World}
theorem wpAnyIn_seq {F : Fence} : ∀ (l : List Oper) (k : Nat) (listed : Array Bool) (a : Act) (w : World), (∀ j, l[j]? = ops[k + j]?) →
    Region.seqB md ops l.length k listed = true → wpListIn F nn P ops Q l a w → wpAnyIn F nn P md ops Q l.length listed a w
  | [], _, _, _, _, _, hB, h => ⟨by simpa [Region.seqB] using hB, h⟩
  | o :: l, k, listed, a, w, hl, hB, h => by
    have h0 : ops[k]? = some o := by simpa using (hl 0).symm
    simp only [List.length_cons, Region.seqB, Bool.and_eq_true, decide_eq_true_eq] at hB
    refine ⟨fun h1 => (by rw [hB.1] at h1; cases h1), fun i hi => ?_⟩
    rw [hB.1] at hi
    obtain rfl : i = k := by simpa using hi
    have hw : wpOpIn F nn P ops Q i (wpListIn F nn P ops Q l) a w := by unfold wpOpIn; simp only [h0]; exact h
    exact wpOpIn_mono (fun a' w' h' => wpAnyIn_seq l (i + 1) _ a' w' (fun j => by have := hl (j + 1); simpa [Nat.add_assoc, Nat.add_comm 1 j] using this) hB.2 h') hw
theorem told_opIn {V : Pv} {o : Oper} {a b : Act} {w : World} (hd : ∀ c, o.op ≠ .defer c) (hs : ∀ cs b, o.op ≠ .select cs b) (hdst : ∀ d, o.dst = some d → d < a.tmps.size) (hsz : b.tmps.size = a.tmps.size) (hlook : ∀ t ∈ o.looksAt ops, b.tmps[t]? = a.tmps[t]?) {i : Nat} (hi : ops[i]? = some o)
    (hdf : b.defers = a0.defers) (h : wpList P ops (Told V o.dst a0.defers w) [o] b w) : wpOpIn Fence.wide nn P ops Q i (fun a' w' => ∃ v, a' = a.put o.dst v ∧ V.p (match o.dst with | some _ => v | none => undef) w' ∧ w.grownBy w' none) a w := by
  have h2 := told_op (Q := fun _ _ _ => False) hs hdst hsz hlook hi hdf h
  unfold wpOp at h2
  unfold wpOpIn
  simp only [hi] at h2 ⊢
  split
  · rename_i hw
    rw [if_pos hw] at h2
    rcases h2 with h2 | h2
    · refine ⟨fun _ _ => trivial, ?_⟩
      rw [Oper.semAt_plain _ _ _ hd]
      unfold Oper.wp at h2
      generalize (execOp a.eval o).run P w = r at *
      cases r with
      | ok x w' =>
        cases x with
        | value v => exact h2
        | skip => exact h2
        | defer d => exact h2
        | enter f args =>
          refine ⟨fun h => by simp [Fence.wide] at h, callsIn_wide.2 (Calls.mono h2 fun e w'' he => ?_)⟩
          cases e with
          | returned v => exact he
          | panicked c => exact he.elim
          | outgrown => obtain ⟨_, _, hx⟩ := he; exact hx.elim
        | row row args =>
          refine ⟨fun h => by simp [Fence.wide] at h, fun c cs _ => ?_⟩
          obtain ⟨v, w'', r, s⟩ := h2 c cs
          exact ⟨v, w'', r, stepsIn_wide.2 s⟩
        | round l f ts c1 c2 => exact h2.elim
        | _ => exact h2.elim
      | halt x w' =>
        cases x with
        | panic v => exact h2.elim
        | _ => exact h2.elim
    · obtain ⟨_, _, _, hx⟩ := h2
      exact hx.elim
  · rename_i hw
    rw [if_neg hw] at h2
    exact ⟨fun _ _ => trivial, h2⟩
/-- The law. -/
theorem wpAnyIn_mono {l : List Oper} (n : Nat) (hnd : noDefer l.toArray = true) (hB : monoB l.toArray n a0.tmps.size = true)
    (h : Mono P l.toArray n a0 w0 (fun Vs => ∀ w, w0.grownBy w none → Fin' (fun a w => wpListIn Fence.wide nn P l.toArray Q (l.drop n) a w) w Vs (l.take n) a0) [] (l.take n)) : wpAnyIn Fence.wide nn P .any l.toArray Q l.toArray.size (Array.replicate l.toArray.size false) a0 w0 := by
  simp only [monoB, Bool.and_eq_true, decide_eq_true_eq] at hB
  obtain ⟨⟨⟨⟨hsel, hn⟩, htail⟩, htopo⟩, hdist⟩ := hB
  simp only [tailB, Bool.and_eq_true] at htail
  obtain ⟨hblk, hseq⟩ := htail
  obtain ⟨Vs, hVl, hF, hO⟩ := Mono.out h
  rw [List.nil_append] at hF
  simp only [List.nil_append, List.length_nil, Nat.zero_add] at hO
  have hnl : n ≤ l.length := by simpa using hn
  have htl : (l.take n).length = n := by simp; omega
  have hVn : Vs.length = n := hVl.trans htl
  have hdl : (l.drop n).length = l.toArray.size - n := by simp
  have hnext : ∀ i o, i < n → l.toArray[i]? = some o → (l.take n)[i]? = some o := fun i o hi ho => by
    rw [List.getElem?_take, if_pos hi]
    simpa using ho
  have key : ∀ m D a w, MInv l.toArray n a0 w0 Vs D a w → cnt D n = m → wpAnyIn Fence.wide nn P .any l.toArray Q (m + (l.toArray.size - n)) D a w := by
    intro m
    induction m with
    | zero =>
      intro D a w inv hc
      have hall := cnt_zero hc
      have hD : D = Array.replicate n true ++ Array.replicate (l.toArray.size - n) false := by
        have hsz := inv.head.size
        refine Array.ext (by simp [hsz]; omega) fun i h1 h2 => ?_
        rw [Array.getElem_append]
        by_cases hi : i < n
        · have := hall i hi
          simp [h1] at this
          simp [hi, this]
        · have := inv.head.tail i (by omega) (by omega)
          simp [h1] at this
          simp [hi, this]
      have hk : ∀ (k : Nat) (V : Pv) (o : Oper), Vs[k]? = some V → (l.take n)[k]? = some o → V.p (match o.dst with | some d => a.eval (.tmp d) | none => undef) w := by
        intro k V o hv ho
        have hkn : k < n := by have := (List.getElem?_eq_some_iff.1 hv).1; omega
        have h1 := inv.known k V (hall k hkn) hv
        have h2 : dstAt l.toArray k = o.dst := by
          have : l[k]? = some o := by rw [List.getElem?_take, if_pos hkn] at ho; exact ho
          simp [dstAt, this]
        rw [h2] at h1
        have h3 : (match o.dst with | some d => a.eval (.tmp d) | none => undef) = valOf o.dst a := by cases o.dst <;> rfl
        rw [h3]
        exact h1
      have hfin := Fin'.all hVl hk (hF w inv.grown)
      have hon : onto a ((l.take n).map (·.dst)) a0 = a := by
        refine act_ext (fun t => onto_at a t _ _ inv.tsize.symm ?_) ((onto_defers _ _ _).trans inv.defers.symm)
        by_cases ht : some t ∈ (l.take n).map (·.dst)
        · exact .inl ht
        · refine .inr (inv.rest t fun j hj _ e => ht ?_).symm
          have hjl : j < l.length := by omega
          have : l[j].dst = some t := by simpa [dstAt, hjl] using e
          exact List.mem_map.2 ⟨l[j], List.mem_iff_getElem?.2 ⟨j, by rw [List.getElem?_take, if_pos hj, List.getElem?_eq_getElem hjl]⟩, this⟩
      rw [hon] at hfin
      have := wpAnyIn_seq (md := .any) (l.drop n) n D a w (fun j => by simp [List.getElem?_drop]) (by rw [hdl, hD]; exact hseq) hfin
      rw [hdl] at this
      rwa [Nat.zero_add]
    | succ m ih =>
      intro D a w inv hc
      have hready : ∀ i ∈ Region.ready .any l.toArray D, i < n := by
        intro i hi
        rcases Nat.lt_or_ge i n with h' | h'
        · exact h'
        · obtain ⟨hu, oi, hoi, hall⟩ := mem_ready.1 hi
          have hlt : i < l.toArray.size := (Array.getElem?_eq_some_iff.1 hoi).1
          exfalso
          obtain ⟨k, hk, hkd⟩ : ∃ k, k < n ∧ D.getD k false = false := by
            refine Classical.byContradiction fun hno => ?_
            have : ∀ k, k ≤ n → cnt D k = 0 := by
              intro k
              induction k with
              | zero => intro _; rfl
              | succ k ihk =>
                intro hk
                have h1 : D.getD k false = true := by
                  refine Classical.byContradiction fun hx => hno ⟨k, by omega, by simpa using hx⟩
                simp only [cnt, h1, ihk (by omega)]
                rfl
            rw [this n (Nat.le_refl _)] at hc
            omega
          have hb := list_all_range hblk hlt
          simp only [Bool.or_eq_true, decide_eq_true_eq] at hb
          have hb := list_all_range (hb.resolve_left (by omega)) hk
          simp only [Bool.not_eq_true'] at hb
          have hik : i ≠ k := by omega
          have : av l.toArray k n i = true := by
            have hav := fun f j hj => av_of (ops := l.toArray) inv.head.closed inv.head.size hkd f j hj
            cases hn0 : n with
            | zero => simp [av, hik]
            | succ f =>
              simp only [av, hoi, Option.map_some, Option.getD_some, Bool.and_eq_true, bne_iff_ne]
              refine ⟨hik, ?_⟩
              rw [Array.all_eq_true_iff_forall_mem]
              intro e he
              by_cases hbd : Region.binds .any e = true
              · simp [hbd, hav f e.on (hall e he hbd)]
              · simp [hbd]
          rw [hb] at this
          cases this
      have hne : Region.ready .any l.toArray D ≠ [] := by
        have hex : ∃ k, k < n ∧ D.getD k false = false ∧ ∀ j, j < k → D.getD j false = true := by
          have : ∀ k, k ≤ n → (∃ q, q < k ∧ D.getD q false = false ∧ ∀ j, j < q → D.getD j false = true) ∨ (cnt D k = 0) := by
            intro k
            induction k with
            | zero => intro _; exact .inr rfl
            | succ k ihk =>
              intro hk
              rcases ihk (by omega) with ⟨q, h1, h2⟩ | h0
              · exact .inl ⟨q, by omega, h2⟩
              · cases hq : D.getD k false with
                | true => right; simp only [cnt, hq, h0]; rfl
                | false => exact .inl ⟨k, by omega, hq, cnt_zero h0⟩
          rcases this n (Nat.le_refl _) with ⟨q, h1, h2⟩ | h0
          · exact ⟨q, h1, h2⟩
          · omega
        obtain ⟨k, hk, hkd, hbel⟩ := hex
        have hkl : k < l.toArray.size := by omega
        have ho : l.toArray[k]? = some l.toArray[k] := Array.getElem?_eq_getElem hkl
        have : k ∈ Region.ready .any l.toArray D := by
          refine mem_ready.2 ⟨getD_in (by rw [inv.head.size]; exact hkl) hkd, _, ho, fun e he hb => hbel _ ?_⟩
          have ht := list_all_range htopo hk
          simp only [ho, Option.map_some, Option.getD_some] at ht
          have := Array.all_eq_true_iff_forall_mem.1 ht e he
          simpa [hb] using this
        intro e
        rw [e] at this
        cases this
      rw [show m + 1 + (l.toArray.size - n) = (m + (l.toArray.size - n)) + 1 by omega]
      refine ⟨fun e => absurd e hne, fun i hi => ?_⟩
      have hin := hready i hi
      obtain ⟨hu, o, ho, hall⟩ := mem_ready.1 hi
      obtain ⟨V, js, hV, hchk, hask⟩ := hO i o (hnext i o hin ho)
      simp only [Bool.and_eq_true] at hchk
      obtain ⟨hpair, hlook⟩ := hchk
      have hdst : ∀ d, o.dst = some d → d < a.tmps.size := by
        intro d hd
        have := list_all_range hdist hin
        have h2 : dstAt l.toArray i = some d := by simp only [dstAt, ho]; exact hd
        rw [h2] at this
        simp only [Bool.and_eq_true, decide_eq_true_eq] at this
        rw [inv.tsize]
        exact this.1
      have hjs : ∀ x : Nat × Tmp, x ∈ js → dstAt l.toArray x.1 = some x.2 ∧ D.getD x.1 false = true ∧ x.1 < i := by
        intro x hx
        have := List.all_eq_true.1 hpair x hx
        simp only [Bool.and_eq_true, beq_iff_eq] at this
        obtain ⟨oj, hoj, e, he, hb, hon⟩ := Region.waitsFor_spec this.2
        obtain rfl : o = oj := Option.some.inj (ho.symm.trans hoj)
        have ht := list_all_range htopo hin
        simp only [ho, Option.map_some, Option.getD_some] at ht
        have ht := Array.all_eq_true_iff_forall_mem.1 ht e he
        simp only [hb, Bool.not_true, Bool.false_or, decide_eq_true_eq] at ht
        exact ⟨this.1, by rw [← hon]; exact hall e he hb, by rw [← hon]; exact ht⟩
      have hA := hask w inv.grown
      have hW := Ask.all (b := a) (fun x hx => by
        obtain ⟨h1, h2, h3⟩ := hjs x hx
        have hxl : x.1 < Vs.length := by omega
        have h4 : Vs[x.1]? = some Vs[x.1] := List.getElem?_eq_getElem hxl
        have h5 := inv.known x.1 _ h2 h4
        rw [h1] at h5
        have : (Vs.take i).getD x.1 Pv.any = Vs[x.1] := by
          rw [List.getD_eq_getElem?_getD, List.getElem?_take, if_pos h3, h4]
          rfl
        rw [this]
        exact h5) hA
      have hop := told_opIn (Q := Q) (nn := nn) (ops := l.toArray) (fun c => noDefer_spec hnd i o c ho) (a0 := a0) (a := a) (Region.noSelect_spec hsel i o · · ho) hdst ((onto_size _ _ _).trans inv.tsize.symm) (fun t ht => by
        refine onto_at a t _ _ inv.tsize.symm ?_
        have h1 : (o.looksAt l.toArray).all (fun t => js.any (·.2 == t) || keptB l.toArray n i t) = true := by
          simpa only [lookB, ho, Option.map_some, Option.getD_some] using hlook
        have h2 := List.all_eq_true.1 h1 t ht
        simp only [Bool.or_eq_true] at h2
        rcases h2 with h2 | h2
        · left
          obtain ⟨x, hx, hxt⟩ := List.any_eq_true.1 h2
          exact List.mem_map.2 ⟨x, hx, by rw [beq_iff_eq.1 hxt]⟩
        · right
          refine (inv.rest t fun j hj hD e => ?_).symm
          have h3 := list_all_range h2 hj
          simp only [Bool.or_eq_true, bne_iff_ne, ne_eq, beq_iff_eq] at h3
          rcases h3 with (h3 | h3) | h3
          · exact h3 e
          · obtain ⟨oj, hoj, e', he', hb', hon⟩ := Region.waitsFor_spec h3
            have := inv.head.closed j oj hoj hD e' he' hb'
            rw [hon, getD_both hu] at this
            cases this
          · subst h3
            rw [getD_both hu] at hD
            cases hD) ho (onto_defers _ _ _) hW
      refine wpOpIn_mono (fun a' w' hk => ?_) hop
      obtain ⟨v, ha, hv, hg⟩ := hk
      exact ih _ a' w' (minv_step inv hdist hi hin ho hV (by omega) ha hv hg) (by have := (cnt_set (D := D) (i := i) n).2 hin hu; omega)
  have h0 := key n (Array.replicate l.toArray.size false) a0 w0 ⟨⟨by simp, (fun j oj _ hD => by rw [getD_replicate_false] at hD; cases hD), fun t _ ht => by simp only [List.size_toArray] at ht ⊢; simp [ht]⟩, World.grownBy.refl w0 none, rfl, rfl, fun _ _ => rfl, (fun j V hD => by rw [getD_replicate_false] at hD; cases hD)⟩ (cnt_false _ n)
  rwa [show n + (l.toArray.size - n) = l.toArray.size by omega] at h0
def FinI (nn : Nat) (P : Program) (ops : Array Oper) (Q : Exit → Act → World → Prop) (w : World) : List Pv → List Oper → Act → Prop
  | V :: Vs, o :: os, a => ∀ x, V.p x w → FinI nn P ops Q w Vs os (a.put o.dst x)
  | _, os, a => wpListIn Fence.wide nn P ops Q os a w
theorem FinI.cut {w : World} : ∀ {Vs : List Pv} {os : List Oper} {a : Act}, Vs.length ≤ os.length → FinI nn P ops Q w Vs os a → Fin' (fun a w => wpListIn Fence.wide nn P ops Q (os.drop Vs.length) a w) w Vs (os.take Vs.length) a
  | [], os, a, _, h => by
    have h : wpListIn Fence.wide nn P ops Q os a w := by cases os <;> exact h
    exact h
  | V :: Vs, [], a, hl, _ => by simp at hl
  | V :: Vs, o :: os, a, hl, h => fun x hx => FinI.cut (Vs := Vs) (os := os) (by simpa using hl) (h x hx)
theorem wpIn_region_mono {l : List Oper} {id : Nat} (n : Nat) (hm : P.follows .mixedOrders = true) (hnd : noDefer l.toArray = true) (hB : monoB l.toArray n a0.tmps.size = true)
    (h : MonoR P l.toArray n a0 w0.drew (fun Vs => ∀ w, w0.drew.grownBy w none → FinI nn P l.toArray Q w Vs l a0) n [] l) : (Code.region id l.toArray true).wpIn Fence.wide nn P Q a0 w0 := by
  refine wpIn_region_any hm ?_
  obtain ⟨hM, hn⟩ := MonoN.cut (MonoR.up h)
  refine wpAnyIn_mono n hnd hB (Mono.weak hM fun Ws hW hF w hw => ?_)
  have hl : Ws.length = n := by simp only [List.length_nil, Nat.zero_add] at hW; rw [hW]; simp; omega
  have := FinI.cut (by rw [hl]; exact hn) (hF w hw)
  rwa [hl] at this
end
end Go.Proofs.YtiimippmihkgcaaGreatDoor

namespace Go.Proofs.YtiimippmihkgcaaGreatDoor
open Go Go.RowKit

section
variable {F : Fence} {n : Nat} {P : Program}
/-- An iterator that goes to its end: of each thing x handed over, Fx x is known where yield is called. -/
def SeqGoes {α : Type} (F : Fence) (n : Nat) (P : Program) (g : Nat) (lb : Array Value) (encs : α → Array Value) (Fx : α → World → Prop) (Kp : World → World → Prop) (S : List α → Prop) (N : Nat) (w : World) : Prop :=
  ∀ (l : Nat) (J : List α → World → Prop) (W : World), Below w.heap.size w W → AbidesFrom W.heap.size J →
    (∀ pre x V, J pre V → Fx x V → pre.length < N → YieldAt F (n - 1) P l (encs x) V fun e V' => e = .returned (.bool true) ∧ J (pre ++ [x]) V' ∧ Kp V V') →
    J [] W → CallsIn F n P g (#[.func (.yield l) #[] #[]] ++ lb) W fun e W' => (∃ v, e = .returned v) ∧ ∃ xs, S xs ∧ J xs W'
/-- How the body ends. -/
def GoesOn {α : Type} (B : Nat) (Kp : World → World → Prop) (I : List α → World → Prop) (xs : List α) (W : World) : Exit → Act → World → Prop := fun e _ W' => e = .normal ∧ KeepsFrom B W W' ∧ Kp W W' ∧ I xs W'
/-- The loop's own record, and the block of what is put off. -/
structure Recs (B : Nat) (r : Loop) (W : World) : Prop where
  lp : W.heap[B + 1]? = some (.loop r)
  df : W.heap[B]? = some (.deferred (some []))
theorem Recs.from {B : Nat} {r : Loop} {W W' : World} (h : Recs B r W) (hk : KeepsFrom B W W') : Recs B r W' := ⟨hk.same _ _ (by omega) h.lp rfl, hk.same _ _ (Nat.le_refl _) h.df rfl⟩
theorem Recs.put {B : Nat} {r : Loop} {W : World} (h : Recs B r W) (r' : Loop) : Recs B r' (W.putObj (B + 1) (.loop r')) := ⟨World.putObj_heap_same (Array.getElem?_eq_some_iff.1 h.lp).1, (World.putObj_heap_other (by omega)).trans h.df⟩
theorem Recs.walk {B : Nat} {r : Loop} {W W' : World} {row : Option Nat} (h : Recs B r W) (hg : W.grownBy W' row) (hr : ∀ k, row = some k → ∃ o : Obj, W.heap[k]? = some o ∧ o.isWalk = true) : Recs B r W' := ⟨(grownBy_keeps hg hr h.lp rfl).trans h.lp, (grownBy_keeps hg hr h.df rfl).trans h.df⟩
theorem wpIn_rangeFunc_goes {α : Type} {g : Operand} {ps : Array Tmp} {assign body : Code} {Q : Exit → Act → World → Prop} {a : Act} {w : World} (hro : F.round = none) (h1 : 1 ≤ n) {gf : Nat} {lb : Array Value} (hg : a.eval g = .func (.func gf) #[] lb) (hFg : F.fn gf)
    (eg : ∀ args w, (callFunc gf args).run P w = .ok (.enter gf args) w) {encs : α → Array Value} {Fx : α → World → Prop} {Kp : World → World → Prop} {S : List α → Prop} {N : Nat} {w0 : World} (hseq : SeqGoes F (n - 1) P gf lb encs Fx Kp S N w0)
    (hKt : ∀ {A B C : World}, Kp A B → Kp B C → Kp A C) (hKb : ∀ (W : World) (l : Nat) (o o' : Obj), w.heap.size ≤ l → W.heap[l]? = some o → o.isCells = false → o.isWalk = false → Kp W (W.putObj l o')) (hb0 : Below w0.heap.size w0 w) (hps : ∀ x, (encs x).size = ps.size)
    (I : List α → World → Prop) (hI : OwnFrom w.heap.size I) (h0 : I [] w) (Ax : α → Act → World → Prop) (hAx : ∀ x a', OwnFrom w.heap.size (fun (_ : Unit) W => Ax x a' W))
    (hassign : ∀ (l : Nat) (pre : List α) (x : α) (W : World) (K : Act → World → Prop), I pre W → Fx x W → (∀ a' W', KeepsFrom w.heap.size W W' → Kp W W' → I pre W' → Ax x a' W' → K a' W') →
      assign.wpIn (F.inRound l) (n - 1 - 1) P (Exit.then K (fun _ _ _ => False)) { tmps := (ps.zip (encs x)).foldl (fun t (p, v) => t.setIfInBounds p v) a.tmps, defers := [] } W)
    (hbody : ∀ (l : Nat) (pre : List α) (x : α) (a' : Act) (W : World), w.heap.size ≤ l → I pre W → Ax x a' W → pre.length < N → body.wpIn (F.inRound l) (n - 1 - 1) P (GoesOn w.heap.size Kp I (pre ++ [x]) W) a' W)
    (hdone : ∀ (D : Nat) (xs : List α) (W : World), w.heap.size ≤ D → S xs → I xs W → W.heap[D]? = some (.deferred (some [])) → Q .normal { a with defers := { target := .collected D, args := #[] } :: a.defers } W) :
    (Code.rangeFunc g ps assign body).wpIn F n P Q a w := by
  refine wpIn_rangeFunc fun fn hfn => ?_
  rw [hro]
  let rec0 : Loop := { state := .ready, pending := none, fn, tmps := a.tmps, params := ps, assign, body, defers := w.heap.size }
  let V0 := (w.alloc (.deferred (some []))).alloc (.loop rec0)
  have hR0 : Recs w.heap.size rec0 V0 := ⟨by have := World.alloc_heap_new (w.alloc (.deferred (some []))) (.loop rec0); rwa [World.size_alloc] at this, (Below.heap_alloc _ _ _ (by simp)).trans (World.alloc_heap_new w _)⟩
  have hV0 : V0.heap.size = w.heap.size + 2 := by simp [V0]
  have hI0 : I [] V0 := hI.alloc _ (hI.alloc _ h0)
  have hB0 : Below w0.heap.size w0 V0 := hb0.trans ((((Below.refl _ w).alloc (Nat.le_refl _) _).alloc (by simp) _).mono hb0.size)
  refine ⟨w.heap.size + 1, [{ target := .collected w.heap.size, args := #[] }], V0, { target := .fn (.func gf) lb, args := #[.func (.yield (w.heap.size + 1)) #[] #[]] }, V0, gf, #[.func (.yield (w.heap.size + 1)) #[] #[]] ++ lb, V0, run_enterLoop_outer _ _ _ _ _, ?_, ?_, ?_, fun _ => h1, ?_⟩
  · simp only [resolve, hg]
    simp [go_sem]
  · intro f' hf'
    simp [Target.leads] at hf'
    subst hf'
    exact hFg
  · simp [invoke, go_sem, eg]
  refine (hseq (w.heap.size + 1) (fun pre W => I pre W ∧ Recs w.heap.size rec0 W) V0 hB0 (fun s A B row hs hgr hr => ⟨hI s A B row hs.1 hgr fun r e => ?_, hs.2.walk hgr fun r e => (hr r e).2⟩) ?_ ⟨hI0, hR0⟩).mono ?_
  · obtain ⟨h2, o, ho, hw⟩ := hr r e
    exact ⟨by rw [hV0] at h2; omega, o, ho, Obj.not_cells_of_walk hw⟩
  · rintro pre x V ⟨hi, hr⟩ hfx hlen
    refine ⟨fn, _, assign, body, run_yield hr.lp (hps x), roundIn_of_wpIn hfn (hassign _ pre x V _ hi hfx fun a' V1 hk1 hp1 hi1 hx1 => ?_)⟩
    have hr1 := hr.from hk1
    refine ⟨_, run_beginRound hr1.lp rfl, ?_⟩
    have hr2 := hr1.put { rec0 with state := .busy }
    have hp2 := hKb V1 (w.heap.size + 1) _ (.loop { rec0 with state := .busy }) (by omega) hr1.lp rfl rfl
    refine wpIn_mono (hbody _ pre x a' _ (by omega) (hI.putObj _ hi1 (by omega) hr1.lp rfl) ((hAx x a').putObj (s := ()) _ hx1 (by omega) hr1.lp rfl) hlen) ?_
    rintro e a3 V3 ⟨rfl, hk3, hp3, hi3⟩
    have hr3 := hr2.from hk3
    refine ⟨_, _, run_endRound none hr3.lp, rfl, ⟨hI.putObj _ hi3 (by omega) hr3.lp rfl, hr3.put rec0⟩, hKt hp1 (hKt (hKt hp2 hp3) (hKb _ _ _ _ (by omega) hr3.lp rfl rfl))⟩
  · rintro e V2 ⟨⟨v, rfl⟩, xs, hS, hi, hr⟩
    exact ⟨none, _, run_endLoop hr.lp (by simp [rec0]), hdone _ xs _ (Nat.le_refl _) hS (hI.putObj _ hi (by omega) hr.lp rfl) ((World.putObj_heap_other (by omega)).trans hr.df)⟩
end
end Go.Proofs.YtiimippmihkgcaaGreatDoor

namespace Go.Proofs.YtiimippmihkgcaaGreatDoor
open Go Go.RowKit Go.Shelf

attribute [local go_sem] Oper.semAt_some
set_option maxHeartbeats 400000 in
theorem atU_any (v : Value) (l : List Int) (i : Nat) (X : Nat → Prop) (w : World) (h : Sl encU X w v l) (hi : (i : Int) ≤ 9223372036854775807) :
    Calls Tryz.prog 119 #[v, .int .i64 i] w fun e w' => e = .returned (.int .u64 (l[i]?.getD 0)) ∧ w' = w := by
  obtain ⟨A, c, rfl, hc1, hc2⟩ := h.form
  have hi0 : (0 : Int) ≤ (i : Int) := by omega
  by_cases hl : i < l.length
  · obtain ⟨g, o, c', e, _, _, hcu, _⟩ := h.atU hl
    injection e with e1 e2 e3
    subst e1 e3
    have hli : (i : Int) < (l.length : Int) := by omega
    rw [show l[i]?.getD 0 = l[i] by rw [List.getElem?_eq_getElem hl]; rfl]
    clear h e2
    go_enter Tryz.func119, Tryz.ntmps119
    go_wp2
    go_ret
    exact ⟨rfl, rfl⟩
  · have hli : ¬ (i : Int) < (l.length : Int) := by omega
    have hli2 : (l.length : Int) ≤ (i : Int) := by omega
    rw [show l[i]?.getD 0 = 0 by rw [List.getElem?_eq_none (by omega)]; rfl]
    clear h
    go_enter Tryz.func119, Tryz.ntmps119
    go_wp2
    go_ret
    exact ⟨rfl, rfl⟩
/-- What two lists give, place by place. -/
def zipU (a b : List Int) : List (Int × Int) := (List.range (max a.length b.length)).map fun i => (a[i]?.getD 0, b[i]?.getD 0)
abbrev UU := { x : Int × Int // U64 x.1 ∧ U64 x.2 }
/-- What a round of the iterator keeps: what lay below n₀, and the two boxes. -/
def KpAB (n₀ Ba Bb : Nat) (A B : World) : Prop := Below n₀ A B ∧ B.heap[Ba]? = A.heap[Ba]? ∧ B.heap[Bb]? = A.heap[Bb]?
theorem KpAB.refl (n₀ Ba Bb : Nat) (A : World) : KpAB n₀ Ba Bb A A := ⟨Below.refl _ _, rfl, rfl⟩
theorem KpAB.drew (n₀ Ba Bb : Nat) (A : World) : KpAB n₀ Ba Bb A A.drew := ⟨⟨rfl, rfl, rfl, Nat.le_refl _, fun _ _ => rfl⟩, rfl, rfl⟩
theorem KpAB.trans {n₀ Ba Bb : Nat} {A B C : World} (h : KpAB n₀ Ba Bb A B) (k : KpAB n₀ Ba Bb B C) : KpAB n₀ Ba Bb A C := ⟨h.1.trans k.1, k.2.1.trans h.2.1, k.2.2.trans h.2.2⟩
theorem grown_of_below {w w' : World} (h : Below w.heap.size w w') : w.grownBy w' none := ⟨h.1, h.2, h.3, h.4, fun k hk _ => h.5 k hk⟩
theorem getD_U64 {X : Nat → Prop} {w : World} {v : Value} {l : List Int} (k : Nat) (h : Sl encU X w v l) : U64 (l[k]?.getD 0) := by
  by_cases hk : k < l.length
  · obtain ⟨_, _, _, _, _, _, _, u⟩ := h.atU hk
    rw [List.getElem?_eq_getElem hk]
    exact u
  · rw [List.getElem?_eq_none (by omega)]
    exact ⟨by decide, by decide⟩
set_option maxRecDepth 100000 in
set_option maxHeartbeats 2000000 in
theorem pairsU_in (n : Nat) (hn : 1 ≤ n) (l Ba Bb : Nat) (va vb : Value) (a b : List Int) (X : Nat → Prop) (J Jx : List UU → World → Prop) (w₀ : World)
    (hY : ∀ pre x W, J pre W → pre.length < (zipU a b).length → YieldAt Fence.wide (n - 1) Tryz.prog l #[.int .u64 x.1.1, .int .u64 x.1.2] W fun e W' =>
      (e = .returned (.bool true) ∧ J (pre ++ [x]) W' ∧ KpAB w₀.heap.size Ba Bb W W') ∨ (e = .returned (.bool false) ∧ Jx (pre ++ [x]) W'))
    (W : World) (hJ : AbidesFrom W.heap.size J) (hW0 : Below w₀.heap.size w₀ W) (hBa : Boxed W Ba 39 va) (hBb : Boxed W Bb 39 vb) (hA : Sl encU X w₀ va a) (hB : Sl encU X w₀ vb b) (h0 : J [] W) :
    CallsIn Fence.wide n Tryz.prog 118 #[.func (.yield l) #[] #[], .pointer (some ⟨Ba, 0, none⟩), .pointer (some ⟨Bb, 0, none⟩)] W fun e W' => (∃ v, e = .returned v) ∧
      ((∃ ys, ys.map Subtype.val = zipU a b ∧ J ys W') ∨ (∃ pre, True ∧ Jx pre W')) := by
  refine callsIn_of_wp Tryz.func118 rfl trivial ?_ rfl
  simp only [Tryz.ntmps118, List.size_toArray, List.length_cons, List.length_nil, Nat.reduceAdd, Nat.reduceSub, Array.replicate_succ, Array.replicate_zero, List.push_toArray, List.append_toArray, List.nil_append, List.cons_append]
  obtain ⟨A1, c1, rfl, _, _⟩ := hA.form
  obtain ⟨A2, c2, rfl, _, _⟩ := hB.form
  have ca := hBa.cell
  have cb := hBb.cell
  have HA := Lib.hid hA
  have HB := Lib.hid hB
  have HL : Hid ((zipU a b).length = max a.length b.length) := Lib.hid (by simp [zipU])
  have HAT : Hid (∀ k (h : k < (zipU a b).length), (zipU a b)[k] = (a[k]?.getD 0, b[k]?.getD 0)) := Lib.hid (fun k h => by simp [zipU])
  have hba : a.length ≤ 9223372036854775807 := hA.bound
  have hbb : b.length ≤ 9223372036854775807 := hB.bound
  have HBA := Lib.hid hBa
  have HBB := Lib.hid hBb
  have HH0 := Lib.hid h0
  clear hA hB hBa hBb h0
  by_cases hle : a.length < b.length
  · have HN : Hid (b.length = (zipU a b).length) := Lib.hid (by rw [HL.out]; omega)
    gi_wp2
    gi_loopw [10] (fun s10 wr => ∃ (k : Nat) (pre : List UU), k ≤ b.length ∧ s10 = .int .i64 k ∧ Hid (pre.map Subtype.val = (zipU a b).take k ∧ J pre wr ∧ KpAB w₀.heap.size Ba Bb W wr)) (fun s10 _ => b.length - (intOf s10).toNat)
    case atStart => exact ⟨0, [], by omega, rfl, Lib.hid ⟨rfl, HH0.out, KpAB.refl _ _ _ _⟩⟩
    case round =>
      obtain ⟨k, pre, hk, rfl, HX⟩ := hrel
      by_cases hlt : k < b.length
      · have hki : (k : Int) < (b.length : Int) := by omega
        have hkz : k < (zipU a b).length := by rw [← HN.out]; exact hlt
        have hkb : (k : Int) ≤ 9223372036854775807 := by omega
        have hpl : pre.length = k := by have := congrArg List.length HX.out.1; simpa [Nat.min_eq_left (Nat.le_of_lt hkz)] using this
        have hca : wr.cell? ⟨Ba, 0, none⟩ = some (.slice A1 a.length c1) := (World.cell?_of_block (w := W) HX.out.2.2.2.1).trans HBA.out.cell
        have hcb : wr.cell? ⟨Bb, 0, none⟩ = some (.slice A2 b.length c2) := (World.cell?_of_block (w := W) HX.out.2.2.2.2).trans HBB.out.cell
        have hJk : J pre wr.drew := hJ _ wr wr.drew none HX.out.2.1 (grownBy_drewN (World.grownBy.refl wr none) 1) (by simp)
        have HGW : Hid (w₀.grownBy wr none) := Lib.hid (grown_of_below (hW0.trans HX.out.2.2.1))
        have HSA : Hid (∀ w', wr.grownBy w' none → Sl encU X w' (.slice A1 a.length c1) a) := Lib.hid (fun w' hw => HA.out.kept (HGW.out.trans hw))
        have HSB : Hid (∀ w', wr.grownBy w' none → Sl encU X w' (.slice A2 b.length c2) b) := Lib.hid (fun w' hw => HB.out.kept (HGW.out.trans hw))
        obtain ⟨xa, hxa⟩ : ∃ x, x = a[k]?.getD 0 := ⟨_, rfl⟩
        obtain ⟨xb, hxb⟩ : ∃ x, x = b[k]?.getD 0 := ⟨_, rfl⟩
        have HUA : U64 xa := by rw [hxa]; exact getD_U64 k (HSA.out wr (World.grownBy.refl _ _))
        have HUB : U64 xb := by rw [hxb]; exact getD_U64 k (HSB.out wr (World.grownBy.refl _ _))
        obtain ⟨fn, tmps, assign, body, hy, hR⟩ := hY _ (⟨(xa, xb), HUA, HUB⟩ : UU) wr.drew hJk (by rw [hpl]; exact hkz)
        dsimp only at hy
        have HR := Lib.hid (hR.mono (R' := fun e W' => ∃ bb : Bool, e = .returned (.bool bb) ∧ Hid ((bb = true ∧ J (pre ++ [(⟨(xa, xb), HUA, HUB⟩ : UU)]) W' ∧ KpAB w₀.heap.size Ba Bb wr.drew W') ∨ (bb = false ∧ Jx (pre ++ [(⟨(xa, xb), HUA, HUB⟩ : UU)]) W'))) (fun e W' h => by
          rcases h with ⟨h1, h2, h3⟩ | ⟨h1, h2⟩
          · exact ⟨true, h1, Lib.hid (.inl ⟨rfl, h2, h3⟩)⟩
          · exact ⟨false, h1, Lib.hid (.inr ⟨rfl, h2⟩)⟩))
        have HC1 : Hid (∀ w', wr.grownBy w' none → Calls Tryz.prog 119 #[.slice A1 a.length c1, .int .i64 k] w' fun e w'' => e = .returned (.int .u64 xa) ∧ w'' = w') := Lib.hid (fun w' hw => by rw [hxa]; exact atU_any _ a k X w' (HSA.out w' hw) hkb)
        have HC2 : Hid (∀ w', wr.grownBy w' none → Calls Tryz.prog 119 #[.slice A2 b.length c2, .int .i64 k] w' fun e w'' => e = .returned (.int .u64 xb) ∧ w'' = w') := Lib.hid (fun w' hw => by rw [hxb]; exact atU_any _ b k X w' (HSB.out w' hw) hkb)
        have HPN : Hid ((pre ++ [(⟨(xa, xb), HUA, HUB⟩ : UU)]).map Subtype.val = (zipU a b).take (k + 1)) := Lib.hid (by
          rw [List.map_append, HX.out.1, List.take_succ_eq_append_getElem hkz, HAT.out k hkz, ← hxa, ← hxb]
          rfl)
        have HGD : Hid (wr.grownBy wr.drew none) := Lib.hid (grownBy_drewN (World.grownBy.refl wr none) 1)
        clear hR hJk ca cb hxa hxb
        gi_wp2
        gi_region_with (first
          | (refine ⟨trivial, ?_⟩; gi_at_call 119; (with_reducible refine (callsIn_wide.2 (HC1.out _ HGD.out)).mono ?_); rintro e w' ⟨rfl, rfl⟩)
          | (refine ⟨trivial, ?_⟩; gi_at_call 119; (with_reducible refine (callsIn_wide.2 (HC2.out _ HGD.out)).mono ?_); rintro e w' ⟨rfl, rfl⟩)
          | ((with_reducible refine HR.out.mono ?_); rintro e W' ⟨bb, rfl, hout⟩))
        all_goals (cases bb with
          | true =>
            gi_wp2
            rcases hout.out with ⟨_, hJ2, hK2⟩ | ⟨h, _⟩
            · exact ⟨⟨k + 1, _, by omega, by go_num, Lib.hid ⟨HPN.out, hJ2, HX.out.2.2.trans ((KpAB.drew _ _ _ wr).trans hK2)⟩⟩, by simp [intOf]; omega⟩
            · cases h
          | false =>
            gi_wp2
            rcases hout.out with ⟨h, _⟩ | ⟨_, hJx2⟩
            · cases h
            · refine bodyPost_ret (results_none rfl _ _ _) rfl ?_
              exact ⟨⟨_, rfl⟩, .inr ⟨_, hJx2⟩⟩)
      · obtain rfl : k = b.length := by omega
        gi_wp2
        go_end0
        exact ⟨⟨_, rfl⟩, .inl ⟨pre, by rw [HX.out.1, HN.out, List.take_length], HX.out.2.1⟩⟩
  · have HN : Hid (a.length = (zipU a b).length) := Lib.hid (by rw [HL.out]; omega)
    gi_wp2
    gi_loopw [10] (fun s10 wr => ∃ (k : Nat) (pre : List UU), k ≤ a.length ∧ s10 = .int .i64 k ∧ Hid (pre.map Subtype.val = (zipU a b).take k ∧ J pre wr ∧ KpAB w₀.heap.size Ba Bb W wr)) (fun s10 _ => a.length - (intOf s10).toNat)
    case atStart => exact ⟨0, [], by omega, rfl, Lib.hid ⟨rfl, HH0.out, KpAB.refl _ _ _ _⟩⟩
    case round =>
      obtain ⟨k, pre, hk, rfl, HX⟩ := hrel
      by_cases hlt : k < a.length
      · have hki : (k : Int) < (a.length : Int) := by omega
        have hkz : k < (zipU a b).length := by rw [← HN.out]; exact hlt
        have hkb : (k : Int) ≤ 9223372036854775807 := by omega
        have hpl : pre.length = k := by have := congrArg List.length HX.out.1; simpa [Nat.min_eq_left (Nat.le_of_lt hkz)] using this
        have hca : wr.cell? ⟨Ba, 0, none⟩ = some (.slice A1 a.length c1) := (World.cell?_of_block (w := W) HX.out.2.2.2.1).trans HBA.out.cell
        have hcb : wr.cell? ⟨Bb, 0, none⟩ = some (.slice A2 b.length c2) := (World.cell?_of_block (w := W) HX.out.2.2.2.2).trans HBB.out.cell
        have hJk : J pre wr.drew := hJ _ wr wr.drew none HX.out.2.1 (grownBy_drewN (World.grownBy.refl wr none) 1) (by simp)
        have HGW : Hid (w₀.grownBy wr none) := Lib.hid (grown_of_below (hW0.trans HX.out.2.2.1))
        have HSA : Hid (∀ w', wr.grownBy w' none → Sl encU X w' (.slice A1 a.length c1) a) := Lib.hid (fun w' hw => HA.out.kept (HGW.out.trans hw))
        have HSB : Hid (∀ w', wr.grownBy w' none → Sl encU X w' (.slice A2 b.length c2) b) := Lib.hid (fun w' hw => HB.out.kept (HGW.out.trans hw))
        obtain ⟨xa, hxa⟩ : ∃ x, x = a[k]?.getD 0 := ⟨_, rfl⟩
        obtain ⟨xb, hxb⟩ : ∃ x, x = b[k]?.getD 0 := ⟨_, rfl⟩
        have HUA : U64 xa := by rw [hxa]; exact getD_U64 k (HSA.out wr (World.grownBy.refl _ _))
        have HUB : U64 xb := by rw [hxb]; exact getD_U64 k (HSB.out wr (World.grownBy.refl _ _))
        obtain ⟨fn, tmps, assign, body, hy, hR⟩ := hY _ (⟨(xa, xb), HUA, HUB⟩ : UU) wr.drew hJk (by rw [hpl]; exact hkz)
        dsimp only at hy
        have HR := Lib.hid (hR.mono (R' := fun e W' => ∃ bb : Bool, e = .returned (.bool bb) ∧ Hid ((bb = true ∧ J (pre ++ [(⟨(xa, xb), HUA, HUB⟩ : UU)]) W' ∧ KpAB w₀.heap.size Ba Bb wr.drew W') ∨ (bb = false ∧ Jx (pre ++ [(⟨(xa, xb), HUA, HUB⟩ : UU)]) W'))) (fun e W' h => by
          rcases h with ⟨h1, h2, h3⟩ | ⟨h1, h2⟩
          · exact ⟨true, h1, Lib.hid (.inl ⟨rfl, h2, h3⟩)⟩
          · exact ⟨false, h1, Lib.hid (.inr ⟨rfl, h2⟩)⟩))
        have HC1 : Hid (∀ w', wr.grownBy w' none → Calls Tryz.prog 119 #[.slice A1 a.length c1, .int .i64 k] w' fun e w'' => e = .returned (.int .u64 xa) ∧ w'' = w') := Lib.hid (fun w' hw => by rw [hxa]; exact atU_any _ a k X w' (HSA.out w' hw) hkb)
        have HC2 : Hid (∀ w', wr.grownBy w' none → Calls Tryz.prog 119 #[.slice A2 b.length c2, .int .i64 k] w' fun e w'' => e = .returned (.int .u64 xb) ∧ w'' = w') := Lib.hid (fun w' hw => by rw [hxb]; exact atU_any _ b k X w' (HSB.out w' hw) hkb)
        have HPN : Hid ((pre ++ [(⟨(xa, xb), HUA, HUB⟩ : UU)]).map Subtype.val = (zipU a b).take (k + 1)) := Lib.hid (by
          rw [List.map_append, HX.out.1, List.take_succ_eq_append_getElem hkz, HAT.out k hkz, ← hxa, ← hxb]
          rfl)
        have HGD : Hid (wr.grownBy wr.drew none) := Lib.hid (grownBy_drewN (World.grownBy.refl wr none) 1)
        clear hR hJk ca cb hxa hxb
        gi_wp2
        gi_region_with (first
          | (refine ⟨trivial, ?_⟩; gi_at_call 119; (with_reducible refine (callsIn_wide.2 (HC1.out _ HGD.out)).mono ?_); rintro e w' ⟨rfl, rfl⟩)
          | (refine ⟨trivial, ?_⟩; gi_at_call 119; (with_reducible refine (callsIn_wide.2 (HC2.out _ HGD.out)).mono ?_); rintro e w' ⟨rfl, rfl⟩)
          | ((with_reducible refine HR.out.mono ?_); rintro e W' ⟨bb, rfl, hout⟩))
        all_goals (cases bb with
          | true =>
            gi_wp2
            rcases hout.out with ⟨_, hJ2, hK2⟩ | ⟨h, _⟩
            · exact ⟨⟨k + 1, _, by omega, by go_num, Lib.hid ⟨HPN.out, hJ2, HX.out.2.2.trans ((KpAB.drew _ _ _ wr).trans hK2)⟩⟩, by simp [intOf]; omega⟩
            · cases h
          | false =>
            gi_wp2
            rcases hout.out with ⟨h, _⟩ | ⟨_, hJx2⟩
            · cases h
            · refine bodyPost_ret (results_none rfl _ _ _) rfl ?_
              exact ⟨⟨_, rfl⟩, .inr ⟨_, hJx2⟩⟩)
      · obtain rfl : k = a.length := by omega
        gi_wp2
        go_end0
        exact ⟨⟨_, rfl⟩, .inl ⟨pre, by rw [HX.out.1, HN.out, List.take_length], HX.out.2.1⟩⟩
end Go.Proofs.YtiimippmihkgcaaGreatDoor

namespace Go.Proofs.YtiimippmihkgcaaGreatDoor
open Go Go.RowKit Go.Shelf

attribute [local go_sem] Oper.semAt_some
def zipS {α : Type} (a b : List (List α)) : List (List α × List α) := (List.range (max a.length b.length)).map fun i => (a[i]?.getD [], b[i]?.getD [])
abbrev SS {α : Type} (E : Enc α) (X : Nat → Prop) (w₀ : World) (G : List α → Prop) := { x : (Value × List α) × (Value × List α) // (Sl E X w₀ x.1.1 x.1.2 ∧ G x.1.2) ∧ (Sl E X w₀ x.2.1 x.2.2 ∧ G x.2.2) }
def SS.lists {α : Type} {E : Enc α} {X : Nat → Prop} {w₀ : World} {G : List α → Prop} (x : SS E X w₀ G) : List α × List α := (x.1.1.2, x.1.2.2)
theorem getD_G {α : Type} {G : List α → Prop} (h0 : G []) {l : List (List α)} (h : ∀ c ∈ l, G c) (k : Nat) : G (l[k]?.getD []) := by
  by_cases hk : k < l.length
  · rw [List.getElem?_eq_getElem hk]
    exact h _ (List.getElem_mem hk)
  · rw [List.getElem?_eq_none (by omega)]
    exact h0
set_option maxHeartbeats 400000 in
theorem atS_any (v : Value) (l : List (List Int)) (i : Nat) (X : Nat → Prop) (w₀ : World) (h : Sl (encS encU) X w₀ v l) (hi : (i : Int) ≤ 9223372036854775807) :
    ∃ u, Sl encU X w₀ u (l[i]?.getD []) ∧ ∀ w, w₀.grownBy w none → Calls Tryz.prog 117 #[v, .int .i64 i] w fun e w' => e = .returned u ∧ w' = w := by
  have H := Lib.hid h
  obtain ⟨A, c, rfl, hc1, hc2⟩ := h.form
  have hi0 : (0 : Int) ≤ (i : Int) := by omega
  by_cases hl : i < l.length
  · obtain ⟨g, o, c', u, e, _, _, hcu, hsu⟩ := h.atS hl
    injection e with e1 e2 e3
    subst e1 e3
    refine ⟨u, by rw [show l[i]?.getD [] = l[i] by rw [List.getElem?_eq_getElem hl]; rfl]; exact hsu, fun w hw => ?_⟩
    have hcw : w.cell? ⟨g, o + i, none⟩ = some u := by
      obtain ⟨g', o', c'', u', e', hg', _, hcu', _⟩ := h.atS hl
      injection e' with e1 e2 e3
      injection e1 with e1
      injection e1 with e1 e4
      subst e1 e4
      rw [World.cell?_of_block (w := w₀) (hw.block _ hg' (by simp))]
      exact hcu
    obtain ⟨A1, c1, rfl, _, _⟩ := hsu.form
    have hli : (i : Int) < (l.length : Int) := by omega
    clear h e2 hsu hcu
    go_enter Tryz.func117, Tryz.ntmps117
    go_wp2
    go_ret
    exact ⟨rfl, rfl⟩
  · have hli : ¬ (i : Int) < (l.length : Int) := by omega
    have hli2 : (l.length : Int) ≤ (i : Int) := by omega
    refine ⟨.slice none 0 0, by rw [show l[i]?.getD [] = [] by rw [List.getElem?_eq_none (by omega)]; rfl]; exact Sl.nil _ _ _, fun w hw => ?_⟩
    clear h
    go_enter Tryz.func117, Tryz.ntmps117
    go_wp2
    go_ret
    exact ⟨rfl, rfl⟩
set_option maxRecDepth 100000 in
set_option maxHeartbeats 2000000 in
theorem pairsS_in (n : Nat) (hn : 1 ≤ n) (l Ba Bb : Nat) (va vb : Value) (a b : List (List Int)) (X : Nat → Prop) (w₀ : World) (G : List Int → Prop) (hG0 : G []) (hGa : ∀ c ∈ a, G c) (hGb : ∀ c ∈ b, G c) (J Jx : List (SS encU X w₀ G) → World → Prop)
    (hY : ∀ pre x W, J pre W → pre.length < (zipS a b).length → YieldAt Fence.wide (n - 1) Tryz.prog l #[x.1.1.1, x.1.2.1] W fun e W' =>
      (e = .returned (.bool true) ∧ J (pre ++ [x]) W' ∧ KpAB w₀.heap.size Ba Bb W W') ∨ (e = .returned (.bool false) ∧ Jx (pre ++ [x]) W'))
    (W : World) (hJ : AbidesFrom W.heap.size J) (hW0 : Below w₀.heap.size w₀ W) (hBa : Boxed W Ba 35 va) (hBb : Boxed W Bb 35 vb) (hA : Sl (encS encU) X w₀ va a) (hB : Sl (encS encU) X w₀ vb b) (h0 : J [] W) :
    CallsIn Fence.wide n Tryz.prog 116 #[.func (.yield l) #[] #[], .pointer (some ⟨Ba, 0, none⟩), .pointer (some ⟨Bb, 0, none⟩)] W fun e W' => (∃ v, e = .returned v) ∧
      ((∃ ys, ys.map SS.lists = zipS a b ∧ J ys W') ∨ (∃ pre, True ∧ Jx pre W')) := by
  refine callsIn_of_wp Tryz.func116 rfl trivial ?_ rfl
  simp only [Tryz.ntmps116, List.size_toArray, List.length_cons, List.length_nil, Nat.reduceAdd, Nat.reduceSub, Array.replicate_succ, Array.replicate_zero, List.push_toArray, List.append_toArray, List.nil_append, List.cons_append]
  obtain ⟨A1, c1, rfl, _, _⟩ := hA.form
  obtain ⟨A2, c2, rfl, _, _⟩ := hB.form
  have ca := hBa.cell
  have cb := hBb.cell
  have HA := Lib.hid hA
  have HB := Lib.hid hB
  have HL : Hid ((zipS a b).length = max a.length b.length) := Lib.hid (by simp [zipS])
  have HAT : Hid (∀ k (h : k < (zipS a b).length), (zipS a b)[k] = (a[k]?.getD [], b[k]?.getD [])) := Lib.hid (fun k h => by simp [zipS])
  have hba : a.length ≤ 9223372036854775807 := hA.bound
  have hbb : b.length ≤ 9223372036854775807 := hB.bound
  have HBA := Lib.hid hBa
  have HBB := Lib.hid hBb
  have HH0 := Lib.hid h0
  clear hA hB hBa hBb h0
  by_cases hle : a.length < b.length
  · have HN : Hid (b.length = (zipS a b).length) := Lib.hid (by rw [HL.out]; omega)
    gi_wp2
    gi_loopw [10] (fun s10 wr => ∃ (k : Nat) (pre : List (SS encU X w₀ G)), k ≤ b.length ∧ s10 = .int .i64 k ∧ Hid (pre.map SS.lists = (zipS a b).take k ∧ J pre wr ∧ KpAB w₀.heap.size Ba Bb W wr)) (fun s10 _ => b.length - (intOf s10).toNat)
    case atStart => exact ⟨0, [], by omega, rfl, Lib.hid ⟨rfl, HH0.out, KpAB.refl _ _ _ _⟩⟩
    case round =>
      obtain ⟨k, pre, hk, rfl, HX⟩ := hrel
      by_cases hlt : k < b.length
      · have hki : (k : Int) < (b.length : Int) := by omega
        have hkz : k < (zipS a b).length := by rw [← HN.out]; exact hlt
        have hkb : (k : Int) ≤ 9223372036854775807 := by omega
        have hpl : pre.length = k := by have := congrArg List.length HX.out.1; simpa [Nat.min_eq_left (Nat.le_of_lt hkz)] using this
        have hca : wr.cell? ⟨Ba, 0, none⟩ = some (.slice A1 a.length c1) := (World.cell?_of_block (w := W) HX.out.2.2.2.1).trans HBA.out.cell
        have hcb : wr.cell? ⟨Bb, 0, none⟩ = some (.slice A2 b.length c2) := (World.cell?_of_block (w := W) HX.out.2.2.2.2).trans HBB.out.cell
        have hJk : J pre wr.drew := hJ _ wr wr.drew none HX.out.2.1 (grownBy_drewN (World.grownBy.refl wr none) 1) (by simp)
        have HGW : Hid (w₀.grownBy wr none) := Lib.hid (grown_of_below (hW0.trans HX.out.2.2.1))
        obtain ⟨va', HUA, HC1'⟩ := atS_any _ a k X w₀ HA.out hkb
        obtain ⟨vb', HUB, HC2'⟩ := atS_any _ b k X w₀ HB.out hkb
        obtain ⟨xa, hxa⟩ : ∃ x, x = a[k]?.getD [] := ⟨_, rfl⟩
        obtain ⟨xb, hxb⟩ : ∃ x, x = b[k]?.getD [] := ⟨_, rfl⟩
        rw [← hxa] at HUA
        rw [← hxb] at HUB
        have HGA : G xa := by rw [hxa]; exact getD_G hG0 hGa k
        have HGB : G xb := by rw [hxb]; exact getD_G hG0 hGb k
        obtain ⟨fn, tmps, assign, body, hy, hR⟩ := hY _ (⟨((va', xa), (vb', xb)), ⟨HUA, HGA⟩, ⟨HUB, HGB⟩⟩ : SS encU X w₀ G) wr.drew hJk (by rw [hpl]; exact hkz)
        dsimp only at hy
        have HR := Lib.hid (hR.mono (R' := fun e W' => ∃ bb : Bool, e = .returned (.bool bb) ∧ Hid ((bb = true ∧ J (pre ++ [(⟨((va', xa), (vb', xb)), ⟨HUA, HGA⟩, ⟨HUB, HGB⟩⟩ : SS encU X w₀ G)]) W' ∧ KpAB w₀.heap.size Ba Bb wr.drew W') ∨ (bb = false ∧ Jx (pre ++ [(⟨((va', xa), (vb', xb)), ⟨HUA, HGA⟩, ⟨HUB, HGB⟩⟩ : SS encU X w₀ G)]) W'))) (fun e W' h => by
          rcases h with ⟨h1, h2, h3⟩ | ⟨h1, h2⟩
          · exact ⟨true, h1, Lib.hid (.inl ⟨rfl, h2, h3⟩)⟩
          · exact ⟨false, h1, Lib.hid (.inr ⟨rfl, h2⟩)⟩))
        have HC1 := Lib.hid HC1'
        have HC2 := Lib.hid HC2'
        have HPN : Hid ((pre ++ [(⟨((va', xa), (vb', xb)), ⟨HUA, HGA⟩, ⟨HUB, HGB⟩⟩ : SS encU X w₀ G)]).map SS.lists = (zipS a b).take (k + 1)) := Lib.hid (by
          rw [List.map_append, HX.out.1, List.take_succ_eq_append_getElem hkz, HAT.out k hkz, ← hxa, ← hxb]
          rfl)
        have HGD : Hid (w₀.grownBy wr.drew none) := Lib.hid (grownBy_drewN HGW.out 1)
        clear hR hJk ca cb hxa hxb HC1' HC2'
        gi_wp2
        gi_region_with (first
          | (refine ⟨trivial, ?_⟩; gi_at_call 117; (with_reducible refine (callsIn_wide.2 (HC1.out _ HGD.out)).mono ?_); rintro e w' ⟨rfl, rfl⟩)
          | (refine ⟨trivial, ?_⟩; gi_at_call 117; (with_reducible refine (callsIn_wide.2 (HC2.out _ HGD.out)).mono ?_); rintro e w' ⟨rfl, rfl⟩)
          | ((with_reducible refine HR.out.mono ?_); rintro e W' ⟨bb, rfl, hout⟩))
        all_goals (cases bb with
          | true =>
            gi_wp2
            rcases hout.out with ⟨_, hJ2, hK2⟩ | ⟨h, _⟩
            · exact ⟨⟨k + 1, _, by omega, by go_num, Lib.hid ⟨HPN.out, hJ2, HX.out.2.2.trans ((KpAB.drew _ _ _ wr).trans hK2)⟩⟩, by simp [intOf]; omega⟩
            · cases h
          | false =>
            gi_wp2
            rcases hout.out with ⟨h, _⟩ | ⟨_, hJx2⟩
            · cases h
            · refine bodyPost_ret (results_none rfl _ _ _) rfl ?_
              exact ⟨⟨_, rfl⟩, .inr ⟨_, hJx2⟩⟩)
      · obtain rfl : k = b.length := by omega
        gi_wp2
        go_end0
        exact ⟨⟨_, rfl⟩, .inl ⟨pre, by rw [HX.out.1, HN.out, List.take_length], HX.out.2.1⟩⟩
  · have HN : Hid (a.length = (zipS a b).length) := Lib.hid (by rw [HL.out]; omega)
    gi_wp2
    gi_loopw [10] (fun s10 wr => ∃ (k : Nat) (pre : List (SS encU X w₀ G)), k ≤ a.length ∧ s10 = .int .i64 k ∧ Hid (pre.map SS.lists = (zipS a b).take k ∧ J pre wr ∧ KpAB w₀.heap.size Ba Bb W wr)) (fun s10 _ => a.length - (intOf s10).toNat)
    case atStart => exact ⟨0, [], by omega, rfl, Lib.hid ⟨rfl, HH0.out, KpAB.refl _ _ _ _⟩⟩
    case round =>
      obtain ⟨k, pre, hk, rfl, HX⟩ := hrel
      by_cases hlt : k < a.length
      · have hki : (k : Int) < (a.length : Int) := by omega
        have hkz : k < (zipS a b).length := by rw [← HN.out]; exact hlt
        have hkb : (k : Int) ≤ 9223372036854775807 := by omega
        have hpl : pre.length = k := by have := congrArg List.length HX.out.1; simpa [Nat.min_eq_left (Nat.le_of_lt hkz)] using this
        have hca : wr.cell? ⟨Ba, 0, none⟩ = some (.slice A1 a.length c1) := (World.cell?_of_block (w := W) HX.out.2.2.2.1).trans HBA.out.cell
        have hcb : wr.cell? ⟨Bb, 0, none⟩ = some (.slice A2 b.length c2) := (World.cell?_of_block (w := W) HX.out.2.2.2.2).trans HBB.out.cell
        have hJk : J pre wr.drew := hJ _ wr wr.drew none HX.out.2.1 (grownBy_drewN (World.grownBy.refl wr none) 1) (by simp)
        have HGW : Hid (w₀.grownBy wr none) := Lib.hid (grown_of_below (hW0.trans HX.out.2.2.1))
        obtain ⟨va', HUA, HC1'⟩ := atS_any _ a k X w₀ HA.out hkb
        obtain ⟨vb', HUB, HC2'⟩ := atS_any _ b k X w₀ HB.out hkb
        obtain ⟨xa, hxa⟩ : ∃ x, x = a[k]?.getD [] := ⟨_, rfl⟩
        obtain ⟨xb, hxb⟩ : ∃ x, x = b[k]?.getD [] := ⟨_, rfl⟩
        rw [← hxa] at HUA
        rw [← hxb] at HUB
        have HGA : G xa := by rw [hxa]; exact getD_G hG0 hGa k
        have HGB : G xb := by rw [hxb]; exact getD_G hG0 hGb k
        obtain ⟨fn, tmps, assign, body, hy, hR⟩ := hY _ (⟨((va', xa), (vb', xb)), ⟨HUA, HGA⟩, ⟨HUB, HGB⟩⟩ : SS encU X w₀ G) wr.drew hJk (by rw [hpl]; exact hkz)
        dsimp only at hy
        have HR := Lib.hid (hR.mono (R' := fun e W' => ∃ bb : Bool, e = .returned (.bool bb) ∧ Hid ((bb = true ∧ J (pre ++ [(⟨((va', xa), (vb', xb)), ⟨HUA, HGA⟩, ⟨HUB, HGB⟩⟩ : SS encU X w₀ G)]) W' ∧ KpAB w₀.heap.size Ba Bb wr.drew W') ∨ (bb = false ∧ Jx (pre ++ [(⟨((va', xa), (vb', xb)), ⟨HUA, HGA⟩, ⟨HUB, HGB⟩⟩ : SS encU X w₀ G)]) W'))) (fun e W' h => by
          rcases h with ⟨h1, h2, h3⟩ | ⟨h1, h2⟩
          · exact ⟨true, h1, Lib.hid (.inl ⟨rfl, h2, h3⟩)⟩
          · exact ⟨false, h1, Lib.hid (.inr ⟨rfl, h2⟩)⟩))
        have HC1 := Lib.hid HC1'
        have HC2 := Lib.hid HC2'
        have HPN : Hid ((pre ++ [(⟨((va', xa), (vb', xb)), ⟨HUA, HGA⟩, ⟨HUB, HGB⟩⟩ : SS encU X w₀ G)]).map SS.lists = (zipS a b).take (k + 1)) := Lib.hid (by
          rw [List.map_append, HX.out.1, List.take_succ_eq_append_getElem hkz, HAT.out k hkz, ← hxa, ← hxb]
          rfl)
        have HGD : Hid (w₀.grownBy wr.drew none) := Lib.hid (grownBy_drewN HGW.out 1)
        clear hR hJk ca cb hxa hxb HC1' HC2'
        gi_wp2
        gi_region_with (first
          | (refine ⟨trivial, ?_⟩; gi_at_call 117; (with_reducible refine (callsIn_wide.2 (HC1.out _ HGD.out)).mono ?_); rintro e w' ⟨rfl, rfl⟩)
          | (refine ⟨trivial, ?_⟩; gi_at_call 117; (with_reducible refine (callsIn_wide.2 (HC2.out _ HGD.out)).mono ?_); rintro e w' ⟨rfl, rfl⟩)
          | ((with_reducible refine HR.out.mono ?_); rintro e W' ⟨bb, rfl, hout⟩))
        all_goals (cases bb with
          | true =>
            gi_wp2
            rcases hout.out with ⟨_, hJ2, hK2⟩ | ⟨h, _⟩
            · exact ⟨⟨k + 1, _, by omega, by go_num, Lib.hid ⟨HPN.out, hJ2, HX.out.2.2.trans ((KpAB.drew _ _ _ wr).trans hK2)⟩⟩, by simp [intOf]; omega⟩
            · cases h
          | false =>
            gi_wp2
            rcases hout.out with ⟨h, _⟩ | ⟨_, hJx2⟩
            · cases h
            · refine bodyPost_ret (results_none rfl _ _ _) rfl ?_
              exact ⟨⟨_, rfl⟩, .inr ⟨_, hJx2⟩⟩)
      · obtain rfl : k = a.length := by omega
        gi_wp2
        go_end0
        exact ⟨⟨_, rfl⟩, .inl ⟨pre, by rw [HX.out.1, HN.out, List.take_length], HX.out.2.1⟩⟩
set_option maxHeartbeats 400000 in
theorem atM_any (v : Value) (l : List (List (List Int))) (i : Nat) (X : Nat → Prop) (w₀ : World) (h : Sl (encS (encS encU)) X w₀ v l) (hi : (i : Int) ≤ 9223372036854775807) :
    ∃ u, Sl (encS encU) X w₀ u (l[i]?.getD []) ∧ ∀ w, w₀.grownBy w none → Calls Tryz.prog 124 #[v, .int .i64 i] w fun e w' => e = .returned u ∧ w' = w := by
  have H := Lib.hid h
  obtain ⟨A, c, rfl, hc1, hc2⟩ := h.form
  have hi0 : (0 : Int) ≤ (i : Int) := by omega
  by_cases hl : i < l.length
  · obtain ⟨g, o, c', u, e, _, _, hcu, hsu⟩ := h.atS hl
    injection e with e1 e2 e3
    subst e1 e3
    refine ⟨u, by rw [show l[i]?.getD [] = l[i] by rw [List.getElem?_eq_getElem hl]; rfl]; exact hsu, fun w hw => ?_⟩
    have hcw : w.cell? ⟨g, o + i, none⟩ = some u := by
      obtain ⟨g', o', c'', u', e', hg', _, hcu', _⟩ := h.atS hl
      injection e' with e1 e2 e3
      injection e1 with e1
      injection e1 with e1 e4
      subst e1 e4
      rw [World.cell?_of_block (w := w₀) (hw.block _ hg' (by simp))]
      exact hcu
    obtain ⟨A1, c1, rfl, _, _⟩ := hsu.form
    have hli : (i : Int) < (l.length : Int) := by omega
    clear h e2 hsu hcu
    go_enter Tryz.func124, Tryz.ntmps124
    go_wp2
    go_ret
    exact ⟨rfl, rfl⟩
  · have hli : ¬ (i : Int) < (l.length : Int) := by omega
    have hli2 : (l.length : Int) ≤ (i : Int) := by omega
    refine ⟨.slice none 0 0, by rw [show l[i]?.getD [] = [] by rw [List.getElem?_eq_none (by omega)]; rfl]; exact Sl.nil _ _ _, fun w hw => ?_⟩
    clear h
    go_enter Tryz.func124, Tryz.ntmps124
    go_wp2
    go_ret
    exact ⟨rfl, rfl⟩
set_option maxRecDepth 100000 in
set_option maxHeartbeats 2000000 in
theorem pairsM_in (n : Nat) (hn : 1 ≤ n) (l Ba Bb : Nat) (va vb : Value) (a b : List (List (List Int))) (X : Nat → Prop) (w₀ : World) (G : List (List Int) → Prop) (hG0 : G []) (hGa : ∀ c ∈ a, G c) (hGb : ∀ c ∈ b, G c) (J Jx : List (SS (encS encU) X w₀ G) → World → Prop)
    (hY : ∀ pre x W, J pre W → pre.length < (zipS a b).length → YieldAt Fence.wide (n - 1) Tryz.prog l #[x.1.1.1, x.1.2.1] W fun e W' =>
      (e = .returned (.bool true) ∧ J (pre ++ [x]) W' ∧ KpAB w₀.heap.size Ba Bb W W') ∨ (e = .returned (.bool false) ∧ Jx (pre ++ [x]) W'))
    (W : World) (hJ : AbidesFrom W.heap.size J) (hW0 : Below w₀.heap.size w₀ W) (hBa : Boxed W Ba 45 va) (hBb : Boxed W Bb 45 vb) (hA : Sl (encS (encS encU)) X w₀ va a) (hB : Sl (encS (encS encU)) X w₀ vb b) (h0 : J [] W) :
    CallsIn Fence.wide n Tryz.prog 123 #[.func (.yield l) #[] #[], .pointer (some ⟨Ba, 0, none⟩), .pointer (some ⟨Bb, 0, none⟩)] W fun e W' => (∃ v, e = .returned v) ∧
      ((∃ ys, ys.map SS.lists = zipS a b ∧ J ys W') ∨ (∃ pre, True ∧ Jx pre W')) := by
  refine callsIn_of_wp Tryz.func123 rfl trivial ?_ rfl
  simp only [Tryz.ntmps123, List.size_toArray, List.length_cons, List.length_nil, Nat.reduceAdd, Nat.reduceSub, Array.replicate_succ, Array.replicate_zero, List.push_toArray, List.append_toArray, List.nil_append, List.cons_append]
  obtain ⟨A1, c1, rfl, _, _⟩ := hA.form
  obtain ⟨A2, c2, rfl, _, _⟩ := hB.form
  have ca := hBa.cell
  have cb := hBb.cell
  have HA := Lib.hid hA
  have HB := Lib.hid hB
  have HL : Hid ((zipS a b).length = max a.length b.length) := Lib.hid (by simp [zipS])
  have HAT : Hid (∀ k (h : k < (zipS a b).length), (zipS a b)[k] = (a[k]?.getD [], b[k]?.getD [])) := Lib.hid (fun k h => by simp [zipS])
  have hba : a.length ≤ 9223372036854775807 := hA.bound
  have hbb : b.length ≤ 9223372036854775807 := hB.bound
  have HBA := Lib.hid hBa
  have HBB := Lib.hid hBb
  have HH0 := Lib.hid h0
  clear hA hB hBa hBb h0
  by_cases hle : a.length < b.length
  · have HN : Hid (b.length = (zipS a b).length) := Lib.hid (by rw [HL.out]; omega)
    gi_wp2
    gi_loopw [10] (fun s10 wr => ∃ (k : Nat) (pre : List (SS (encS encU) X w₀ G)), k ≤ b.length ∧ s10 = .int .i64 k ∧ Hid (pre.map SS.lists = (zipS a b).take k ∧ J pre wr ∧ KpAB w₀.heap.size Ba Bb W wr)) (fun s10 _ => b.length - (intOf s10).toNat)
    case atStart => exact ⟨0, [], by omega, rfl, Lib.hid ⟨rfl, HH0.out, KpAB.refl _ _ _ _⟩⟩
    case round =>
      obtain ⟨k, pre, hk, rfl, HX⟩ := hrel
      by_cases hlt : k < b.length
      · have hki : (k : Int) < (b.length : Int) := by omega
        have hkz : k < (zipS a b).length := by rw [← HN.out]; exact hlt
        have hkb : (k : Int) ≤ 9223372036854775807 := by omega
        have hpl : pre.length = k := by have := congrArg List.length HX.out.1; simpa [Nat.min_eq_left (Nat.le_of_lt hkz)] using this
        have hca : wr.cell? ⟨Ba, 0, none⟩ = some (.slice A1 a.length c1) := (World.cell?_of_block (w := W) HX.out.2.2.2.1).trans HBA.out.cell
        have hcb : wr.cell? ⟨Bb, 0, none⟩ = some (.slice A2 b.length c2) := (World.cell?_of_block (w := W) HX.out.2.2.2.2).trans HBB.out.cell
        have hJk : J pre wr.drew := hJ _ wr wr.drew none HX.out.2.1 (grownBy_drewN (World.grownBy.refl wr none) 1) (by simp)
        have HGW : Hid (w₀.grownBy wr none) := Lib.hid (grown_of_below (hW0.trans HX.out.2.2.1))
        obtain ⟨va', HUA, HC1'⟩ := atM_any _ a k X w₀ HA.out hkb
        obtain ⟨vb', HUB, HC2'⟩ := atM_any _ b k X w₀ HB.out hkb
        obtain ⟨xa, hxa⟩ : ∃ x, x = a[k]?.getD [] := ⟨_, rfl⟩
        obtain ⟨xb, hxb⟩ : ∃ x, x = b[k]?.getD [] := ⟨_, rfl⟩
        rw [← hxa] at HUA
        rw [← hxb] at HUB
        have HGA : G xa := by rw [hxa]; exact getD_G hG0 hGa k
        have HGB : G xb := by rw [hxb]; exact getD_G hG0 hGb k
        obtain ⟨fn, tmps, assign, body, hy, hR⟩ := hY _ (⟨((va', xa), (vb', xb)), ⟨HUA, HGA⟩, ⟨HUB, HGB⟩⟩ : SS (encS encU) X w₀ G) wr.drew hJk (by rw [hpl]; exact hkz)
        dsimp only at hy
        have HR := Lib.hid (hR.mono (R' := fun e W' => ∃ bb : Bool, e = .returned (.bool bb) ∧ Hid ((bb = true ∧ J (pre ++ [(⟨((va', xa), (vb', xb)), ⟨HUA, HGA⟩, ⟨HUB, HGB⟩⟩ : SS (encS encU) X w₀ G)]) W' ∧ KpAB w₀.heap.size Ba Bb wr.drew W') ∨ (bb = false ∧ Jx (pre ++ [(⟨((va', xa), (vb', xb)), ⟨HUA, HGA⟩, ⟨HUB, HGB⟩⟩ : SS (encS encU) X w₀ G)]) W'))) (fun e W' h => by
          rcases h with ⟨h1, h2, h3⟩ | ⟨h1, h2⟩
          · exact ⟨true, h1, Lib.hid (.inl ⟨rfl, h2, h3⟩)⟩
          · exact ⟨false, h1, Lib.hid (.inr ⟨rfl, h2⟩)⟩))
        have HC1 := Lib.hid HC1'
        have HC2 := Lib.hid HC2'
        have HPN : Hid ((pre ++ [(⟨((va', xa), (vb', xb)), ⟨HUA, HGA⟩, ⟨HUB, HGB⟩⟩ : SS (encS encU) X w₀ G)]).map SS.lists = (zipS a b).take (k + 1)) := Lib.hid (by
          rw [List.map_append, HX.out.1, List.take_succ_eq_append_getElem hkz, HAT.out k hkz, ← hxa, ← hxb]
          rfl)
        have HGD : Hid (w₀.grownBy wr.drew none) := Lib.hid (grownBy_drewN HGW.out 1)
        clear hR hJk ca cb hxa hxb HC1' HC2'
        gi_wp2
        gi_region_with (first
          | (refine ⟨trivial, ?_⟩; gi_at_call 124; (with_reducible refine (callsIn_wide.2 (HC1.out _ HGD.out)).mono ?_); rintro e w' ⟨rfl, rfl⟩)
          | (refine ⟨trivial, ?_⟩; gi_at_call 124; (with_reducible refine (callsIn_wide.2 (HC2.out _ HGD.out)).mono ?_); rintro e w' ⟨rfl, rfl⟩)
          | ((with_reducible refine HR.out.mono ?_); rintro e W' ⟨bb, rfl, hout⟩))
        all_goals (cases bb with
          | true =>
            gi_wp2
            rcases hout.out with ⟨_, hJ2, hK2⟩ | ⟨h, _⟩
            · exact ⟨⟨k + 1, _, by omega, by go_num, Lib.hid ⟨HPN.out, hJ2, HX.out.2.2.trans ((KpAB.drew _ _ _ wr).trans hK2)⟩⟩, by simp [intOf]; omega⟩
            · cases h
          | false =>
            gi_wp2
            rcases hout.out with ⟨h, _⟩ | ⟨_, hJx2⟩
            · cases h
            · refine bodyPost_ret (results_none rfl _ _ _) rfl ?_
              exact ⟨⟨_, rfl⟩, .inr ⟨_, hJx2⟩⟩)
      · obtain rfl : k = b.length := by omega
        gi_wp2
        go_end0
        exact ⟨⟨_, rfl⟩, .inl ⟨pre, by rw [HX.out.1, HN.out, List.take_length], HX.out.2.1⟩⟩
  · have HN : Hid (a.length = (zipS a b).length) := Lib.hid (by rw [HL.out]; omega)
    gi_wp2
    gi_loopw [10] (fun s10 wr => ∃ (k : Nat) (pre : List (SS (encS encU) X w₀ G)), k ≤ a.length ∧ s10 = .int .i64 k ∧ Hid (pre.map SS.lists = (zipS a b).take k ∧ J pre wr ∧ KpAB w₀.heap.size Ba Bb W wr)) (fun s10 _ => a.length - (intOf s10).toNat)
    case atStart => exact ⟨0, [], by omega, rfl, Lib.hid ⟨rfl, HH0.out, KpAB.refl _ _ _ _⟩⟩
    case round =>
      obtain ⟨k, pre, hk, rfl, HX⟩ := hrel
      by_cases hlt : k < a.length
      · have hki : (k : Int) < (a.length : Int) := by omega
        have hkz : k < (zipS a b).length := by rw [← HN.out]; exact hlt
        have hkb : (k : Int) ≤ 9223372036854775807 := by omega
        have hpl : pre.length = k := by have := congrArg List.length HX.out.1; simpa [Nat.min_eq_left (Nat.le_of_lt hkz)] using this
        have hca : wr.cell? ⟨Ba, 0, none⟩ = some (.slice A1 a.length c1) := (World.cell?_of_block (w := W) HX.out.2.2.2.1).trans HBA.out.cell
        have hcb : wr.cell? ⟨Bb, 0, none⟩ = some (.slice A2 b.length c2) := (World.cell?_of_block (w := W) HX.out.2.2.2.2).trans HBB.out.cell
        have hJk : J pre wr.drew := hJ _ wr wr.drew none HX.out.2.1 (grownBy_drewN (World.grownBy.refl wr none) 1) (by simp)
        have HGW : Hid (w₀.grownBy wr none) := Lib.hid (grown_of_below (hW0.trans HX.out.2.2.1))
        obtain ⟨va', HUA, HC1'⟩ := atM_any _ a k X w₀ HA.out hkb
        obtain ⟨vb', HUB, HC2'⟩ := atM_any _ b k X w₀ HB.out hkb
        obtain ⟨xa, hxa⟩ : ∃ x, x = a[k]?.getD [] := ⟨_, rfl⟩
        obtain ⟨xb, hxb⟩ : ∃ x, x = b[k]?.getD [] := ⟨_, rfl⟩
        rw [← hxa] at HUA
        rw [← hxb] at HUB
        have HGA : G xa := by rw [hxa]; exact getD_G hG0 hGa k
        have HGB : G xb := by rw [hxb]; exact getD_G hG0 hGb k
        obtain ⟨fn, tmps, assign, body, hy, hR⟩ := hY _ (⟨((va', xa), (vb', xb)), ⟨HUA, HGA⟩, ⟨HUB, HGB⟩⟩ : SS (encS encU) X w₀ G) wr.drew hJk (by rw [hpl]; exact hkz)
        dsimp only at hy
        have HR := Lib.hid (hR.mono (R' := fun e W' => ∃ bb : Bool, e = .returned (.bool bb) ∧ Hid ((bb = true ∧ J (pre ++ [(⟨((va', xa), (vb', xb)), ⟨HUA, HGA⟩, ⟨HUB, HGB⟩⟩ : SS (encS encU) X w₀ G)]) W' ∧ KpAB w₀.heap.size Ba Bb wr.drew W') ∨ (bb = false ∧ Jx (pre ++ [(⟨((va', xa), (vb', xb)), ⟨HUA, HGA⟩, ⟨HUB, HGB⟩⟩ : SS (encS encU) X w₀ G)]) W'))) (fun e W' h => by
          rcases h with ⟨h1, h2, h3⟩ | ⟨h1, h2⟩
          · exact ⟨true, h1, Lib.hid (.inl ⟨rfl, h2, h3⟩)⟩
          · exact ⟨false, h1, Lib.hid (.inr ⟨rfl, h2⟩)⟩))
        have HC1 := Lib.hid HC1'
        have HC2 := Lib.hid HC2'
        have HPN : Hid ((pre ++ [(⟨((va', xa), (vb', xb)), ⟨HUA, HGA⟩, ⟨HUB, HGB⟩⟩ : SS (encS encU) X w₀ G)]).map SS.lists = (zipS a b).take (k + 1)) := Lib.hid (by
          rw [List.map_append, HX.out.1, List.take_succ_eq_append_getElem hkz, HAT.out k hkz, ← hxa, ← hxb]
          rfl)
        have HGD : Hid (w₀.grownBy wr.drew none) := Lib.hid (grownBy_drewN HGW.out 1)
        clear hR hJk ca cb hxa hxb HC1' HC2'
        gi_wp2
        gi_region_with (first
          | (refine ⟨trivial, ?_⟩; gi_at_call 124; (with_reducible refine (callsIn_wide.2 (HC1.out _ HGD.out)).mono ?_); rintro e w' ⟨rfl, rfl⟩)
          | (refine ⟨trivial, ?_⟩; gi_at_call 124; (with_reducible refine (callsIn_wide.2 (HC2.out _ HGD.out)).mono ?_); rintro e w' ⟨rfl, rfl⟩)
          | ((with_reducible refine HR.out.mono ?_); rintro e W' ⟨bb, rfl, hout⟩))
        all_goals (cases bb with
          | true =>
            gi_wp2
            rcases hout.out with ⟨_, hJ2, hK2⟩ | ⟨h, _⟩
            · exact ⟨⟨k + 1, _, by omega, by go_num, Lib.hid ⟨HPN.out, hJ2, HX.out.2.2.trans ((KpAB.drew _ _ _ wr).trans hK2)⟩⟩, by simp [intOf]; omega⟩
            · cases h
          | false =>
            gi_wp2
            rcases hout.out with ⟨h, _⟩ | ⟨_, hJx2⟩
            · cases h
            · refine bodyPost_ret (results_none rfl _ _ _) rfl ?_
              exact ⟨⟨_, rfl⟩, .inr ⟨_, hJx2⟩⟩)
      · obtain rfl : k = a.length := by omega
        gi_wp2
        go_end0
        exact ⟨⟨_, rfl⟩, .inl ⟨pre, by rw [HX.out.1, HN.out, List.take_length], HX.out.2.1⟩⟩
end Go.Proofs.YtiimippmihkgcaaGreatDoor

namespace Go.Proofs.YtiimippmihkgcaaGreatDoor
open Go.RowKit

theorem info_u64 : (Tryz.prog.info? 22).map (fun i => (i.zero, i.size, i.bytes)) = some (some (.int .u64 0), 1, 8) := by kernel_rfl
theorem info_nums : (Tryz.prog.info? 39).map (fun i => (i.zero, i.size, i.bytes)) = some (some (.slice none 0 0), 1, 24) := by kernel_rfl
theorem info_rows : (Tryz.prog.info? 35).map (fun i => (i.zero, i.size, i.bytes)) = some (some (.slice none 0 0), 1, 24) := by kernel_rfl
theorem info_pair : (Tryz.prog.info? 70).map (fun i => (i.zero, i.size, i.bytes)) = some (some (.agg #[.int .u64 0, .int .u64 0]), 2, 16) := by kernel_rfl
theorem info_pairs : (Tryz.prog.info? 51).map (fun i => (i.zero, i.size, i.bytes)) = some (some (.slice none 0 0), 1, 24) := by kernel_rfl
theorem el_u64 : ElemOk Tryz.prog 39 22 1 8 := ElemOk.mk' (by decide) Tryz.underlying39 info_u64 rfl
theorem el_nums : ElemOk Tryz.prog 35 39 1 24 := ElemOk.mk' (by decide) Tryz.underlying35 info_nums rfl
theorem el_rows : ElemOk Tryz.prog 45 35 1 24 := ElemOk.mk' (by decide) Tryz.underlying45 info_rows rfl
theorem el_pair : ElemOk Tryz.prog 51 70 2 16 := ElemOk.mk' (by decide) Tryz.underlying51 info_pair rfl
theorem el_pairs : ElemOk Tryz.prog 34 51 1 24 := ElemOk.mk' (by decide) Tryz.underlying34 info_pairs rfl
end Go.Proofs.YtiimippmihkgcaaGreatDoor

namespace Go.Proofs.YtiimippmihkgcaaGreatDoor
open Go.RowKit

theorem atGo_U64 (p : Par) (i : Int) : ∀ (l : List Int) (x e : Int), U64 x → U64 (atGo p i l x e)
  | [], _, _, h => h
  | _ :: l, _, _, _ => atGo_U64 p i l _ _ (timesI_U64 _ _)
theorem atI_U64 (p : Par) (l : List Int) (i : Int) : U64 (atI p l i) := atGo_U64 p i l _ _ (timesI_U64 _ _)
def shareI (p : Par) (coms : List (List Int)) (i : Int) : List Int := coms.map fun l => atI p l i
def wideI (l : List (List Int)) : Nat := l.foldl (fun n c => max n c.length) 0
def colI (p : Par) (l : List (List Int)) (j : Nat) : List Int := l.map fun c => c[j]?.getD (timesI p.P [])
def turnedI (p : Par) (l : List (List Int)) : List (List Int) := (List.range (wideI l)).map (colI p l)
def rowComsI (p : Par) (m : List (List (List Int))) (x : Int) : List (List Int) := m.map fun l => shareI p (turnedI p l) x
def colComsI (p : Par) (m : List (List (List Int))) (y : Int) : List (List Int) := m.map fun l => shareI p l y
theorem map_take_snoc' {α β : Type} (f : α → β) (l : List α) (j : Nat) (h : j < l.length) : (l.take (j + 1)).map f = (l.take j).map f ++ [f l[j]] := by
  rw [List.take_succ_eq_append_getElem h, List.map_append]
  rfl

set_option maxRecDepth 100000 in
set_option maxHeartbeats 400000 in
theorem share_any (p : Par) (v : Value) (ls : List (List Int)) (i : Int) (X : Nat → Prop) (w : World) (h : Sl (encS encU) X w v ls) (hi : U64 i) (hb : ls.length ≤ 100000) :
    Calls Tryz.prog 53 #[p.v, v, .int .u64 i] w (Gives encU (fun g => w.heap.size ≤ g) w (shareI p ls i)) := by
  have H := Lib.hid h
  have HI := Lib.hid hi
  obtain ⟨A, c, rfl, hc1, hc2⟩ := h.form
  have HST : Hid (Acc encU w.heap.size 22 (fun g => w.heap.size ≤ g) (w.alloc (Obj.cells p.cells 24)) (.slice none 0 0) ((ls.take 0).map fun l => atI p l i) ∧ w.grownBy (w.alloc (Obj.cells p.cells 24)) none ∧ Bk (w.alloc (Obj.cells p.cells 24)) w.heap.size 24 p.cells) := Lib.hid ⟨Acc.nil _ _ _ _ _, World.grownBy_alloc w _ none, Bk.new w _ _⟩
  clear h hi
  go_enter Tryz.func53, Tryz.ntmps53
  go_wp2_with fail
  go_loopg [7, 12] ls.length (fun g s7 s12 wx => ∃ j : Nat, j + g = ls.length ∧ s12 = .int .i64 j ∧ Hid (Acc encU w.heap.size 22 (fun g => w.heap.size ≤ g) wx s7 ((ls.take j).map fun l => atI p l i) ∧ w.grownBy wx none ∧ Bk wx w.heap.size 24 p.cells))
  case atStart => exact ⟨0, by omega, rfl, HST⟩
  case round =>
    obtain ⟨j, hj, rfl, HX⟩ := hrel
    cases gk with
    | zero =>
      obtain rfl : j = ls.length := by omega
      have HR : Hid (Sl encU (fun g => w.heap.size ≤ g) wr u7 (shareI p ls i) ∧ w.grownBy wr none) := Lib.hid ⟨by have := HX.out.1.sl; rwa [List.take_length] at this, HX.out.2.1⟩
      clear HX HST
      go_wp2
      go_ret
      exact ⟨_, rfl, HR.out.1, HR.out.2⟩
    | succ m =>
      have hjn : (j : Int) < (ls.length : Int) := by omega
      have hjN : j < ls.length := by omega
      obtain ⟨hacc, hg, hbp⟩ := HX.out
      obtain ⟨g, o, c', u, e, _, _, hcu, hsu⟩ := (H.out.kept hg).atS hjN
      injection e with e1 e2 e3
      subst e1 e3
      obtain ⟨A1, c1, e1, _, _⟩ := hsu.form
      subst e1
      have HSN := Lib.hid (map_take_snoc' (fun l => atI p l i) ls j hjN)
      have HF := Lib.hid (at_all p _ ls[j] i X wr hsu HI.out)
      have HU := Lib.hid (atI_U64 p ls[j] i)
      have HAC := Lib.hid hacc
      have HG := Lib.hid hg
      have HBp := Lib.hid hbp
      have hp := hbp.prule
      have HLB : Hid ((((ls.take j).map fun l => atI p l i).length + 1) * 8 ≤ 140737488355328) := Lib.hid (by simp; omega)
      clear hacc hg hbp hsu e2 HX HST
      generalize hy : ls[j] = y at HSN HF HU hcu
      clear hy
      generalize y.length = n1 at *
      go_wp2_with fail
      refine HF.out.mono ?_
      rintro e' w1 ⟨rfl, hg1⟩
      have HG2 := Lib.hid (HG.out.trans hg1)
      have HA1 := Lib.hid (HAC.out.kept hg1)
      have HBp1 := Lib.hid (HBp.out.grown hg1 (by simp))
      clear hg1 hp
      go_wp2_with (at_builtin; refine wpList_pushG rfl (.tmp 16) (.tmp 21) rfl (E := encU) el_u64 HG2.out HA1.out (fun _ h => h) ⟨rfl, HU.out⟩ HLB.out rfl rfl ?_)
      intro v2 w2 hacc2 hg2 hgo
      have HFIN : Hid (Acc encU w.heap.size 22 (fun g => w.heap.size ≤ g) w2 v2 ((ls.take (j + 1)).map fun l => atI p l i) ∧ w.grownBy w2 none ∧ Bk w2 w.heap.size 24 p.cells) := Lib.hid ⟨by rw [HSN.out]; simpa using hacc2, hg2, HBp1.out.grown hgo (fun e => HA1.out.ne_bk HBp1.out (by decide) e.symm)⟩
      clear hacc2 hg2 hgo
      go_wp2_with fail
      go_roundg m
      case measure => omega
      case rel => exact ⟨j + 1, by omega, by go_num, HFIN⟩
/-- What a call told lies beyond what was there. -/
theorem Sl.fresh {α : Type} {E : Enc α} {w0 w w' : World} {v u : Value} {xs : List α} {base : Nat} {e : TypeId} {β : Type} {F : Enc β} {Y : Nat → Prop} {ys : List β} (h : Sl E (fun g => w.heap.size ≤ g) w' v xs) (hg : w0.grownBy w none) (ha : Acc F base e Y w u ys) :
    Sl E (fun g => w0.heap.size ≤ g ∧ some g ≠ u.ownBlock) w' v xs :=
  h.more fun g _ h => ⟨Nat.le_trans hg.size h, fun e => by have := (ha.lt g e.symm).2; omega⟩
set_option maxRecDepth 100000 in
set_option maxHeartbeats 400000 in
theorem colComs_any (p : Par) (v : Value) (m : List (List (List Int))) (y : Int) (X : Nat → Prop) (w : World) (h : Sl (encS (encS encU)) X w v m) (hy : U64 y) (hb : m.length ≤ 100000) (hb2 : ∀ l ∈ m, l.length ≤ 100000) :
    Calls Tryz.prog 12 #[p.v, v, .int .u64 y] w (Gives (encS encU) (fun g => w.heap.size ≤ g) w (colComsI p m y)) := by
  have H := Lib.hid h
  have HI := Lib.hid hy
  have HB2 := Lib.hid hb2
  obtain ⟨A, c, rfl, hc1, hc2⟩ := h.form
  have HST : Hid (Acc (encS encU) w.heap.size 39 (fun g => w.heap.size ≤ g) (w.alloc (Obj.cells p.cells 24)) (.slice none 0 0) ((m.take 0).map fun l => shareI p l y) ∧ w.grownBy (w.alloc (Obj.cells p.cells 24)) none ∧ Bk (w.alloc (Obj.cells p.cells 24)) w.heap.size 24 p.cells) := Lib.hid ⟨Acc.nil _ _ _ _ _, World.grownBy_alloc w _ none, Bk.new w _ _⟩
  clear h hy hb2
  go_enter Tryz.func12, Tryz.ntmps12
  go_wp2_with fail
  go_loopg [7, 12] m.length (fun g s7 s12 wx => ∃ j : Nat, j + g = m.length ∧ s12 = .int .i64 j ∧ Hid (Acc (encS encU) w.heap.size 39 (fun g => w.heap.size ≤ g) wx s7 ((m.take j).map fun l => shareI p l y) ∧ w.grownBy wx none ∧ Bk wx w.heap.size 24 p.cells))
  case atStart => exact ⟨0, by omega, rfl, HST⟩
  case round =>
    obtain ⟨j, hj, rfl, HX⟩ := hrel
    cases gk with
    | zero =>
      obtain rfl : j = m.length := by omega
      have HR : Hid (Sl (encS encU) (fun g => w.heap.size ≤ g) wr u7 (colComsI p m y) ∧ w.grownBy wr none) := Lib.hid ⟨by have := HX.out.1.sl; rwa [List.take_length] at this, HX.out.2.1⟩
      clear HX HST
      go_wp2
      go_ret
      exact ⟨_, rfl, HR.out.1, HR.out.2⟩
    | succ n =>
      have hjn : (j : Int) < (m.length : Int) := by omega
      have hjN : j < m.length := by omega
      obtain ⟨hacc, hg, hbp⟩ := HX.out
      obtain ⟨g, o, c', u, e, _, _, hcu, hsu⟩ := (H.out.kept hg).atS hjN
      injection e with e1 e2 e3
      subst e1 e3
      obtain ⟨A1, c1, e1, _, _⟩ := hsu.form
      subst e1
      have HSN := Lib.hid (map_take_snoc' (fun l => shareI p l y) m j hjN)
      have HF := Lib.hid (share_any p _ m[j] y X wr hsu HI.out (HB2.out _ (List.getElem_mem hjN)))
      have HSL : Hid ((shareI p m[j] y).length = m[j].length) := Lib.hid (by simp [shareI])
      have HAC := Lib.hid hacc
      have HG := Lib.hid hg
      have HBp := Lib.hid hbp
      have hp := hbp.prule
      have HLB : Hid ((((m.take j).map fun l => shareI p l y).length + 1) * 24 ≤ 140737488355328) := Lib.hid (by simp; omega)
      clear hacc hg hbp hsu e2 HX HST
      generalize hy : m[j] = z at HSN HF hcu HSL
      clear hy
      generalize z.length = n1 at *
      go_wp2_with fail
      refine HF.out.mono ?_
      rintro e' w1 ⟨v1, rfl, hs1, hg1⟩
      obtain ⟨A2, c2, e2, _, _⟩ := hs1.form
      rw [HSL.out] at e2
      subst e2
      have HG2 := Lib.hid (HG.out.trans hg1)
      have HA1 := Lib.hid (HAC.out.kept hg1)
      have HBp1 := Lib.hid (HBp.out.grown hg1 (by simp))
      have HREP : Hid (Enc.rep (encS encU) (fun g => w.heap.size ≤ g ∧ some g ≠ u7.ownBlock) w1 [.slice A2 n1 c2] (shareI p z y)) := Lib.hid ⟨_, rfl, hs1.fresh HG.out HAC.out⟩
      clear hg1 hp hs1
      go_wp2_with (at_builtin; refine wpList_pushG rfl (.tmp 16) (.tmp 21) rfl (E := encS encU) el_nums HG2.out HA1.out (fun _ h => h) HREP.out HLB.out rfl rfl ?_)
      intro v2 w2 hacc2 hg2 hgo
      have HFIN : Hid (Acc (encS encU) w.heap.size 39 (fun g => w.heap.size ≤ g) w2 v2 ((m.take (j + 1)).map fun l => shareI p l y) ∧ w.grownBy w2 none ∧ Bk w2 w.heap.size 24 p.cells) := Lib.hid ⟨by rw [HSN.out]; simpa using hacc2, hg2, HBp1.out.grown hgo (fun e => HA1.out.ne_bk HBp1.out (by decide) e.symm)⟩
      clear hacc2 hg2 hgo
      go_wp2_with fail
      go_roundg n
      case measure => omega
      case rel => exact ⟨j + 1, by omega, by go_num, HFIN⟩
theorem flatten_singles : ∀ (hs : List Value), (hs.map fun v => [v]).flatten = hs
  | [] => rfl
  | a :: l => by simpa using flatten_singles l
theorem wide_le (l : List (List Int)) (B : Nat) (h : ∀ c ∈ l, c.length ≤ B) : wideI l ≤ B := by
  have key : ∀ (l : List (List Int)) (n : Nat), n ≤ B → (∀ c ∈ l, c.length ≤ B) → l.foldl (fun n c => max n c.length) n ≤ B := by
    intro l
    induction l with
    | nil => intro n hn _; exact hn
    | cons c l ih => intro n hn h; exact ih _ (Nat.max_le.2 ⟨hn, h c (by simp)⟩) (fun d hd => h d (by simp [hd]))
  exact key l 0 (Nat.zero_le _) h
theorem wide_snoc (l : List (List Int)) (j : Nat) (h : j < l.length) : wideI (l.take (j + 1)) = max (wideI (l.take j)) l[j].length := by
  unfold wideI
  rw [List.take_succ_eq_append_getElem h, List.foldl_append]
  rfl
theorem colI_snoc (p : Par) (l : List (List Int)) (i j : Nat) (h : i < l.length) : colI p (l.take (i + 1)) j = colI p (l.take i) j ++ [l[i][j]?.getD (timesI p.P [])] := map_take_snoc' _ l i h
theorem colI_U64 (p : Par) (c : List Int) (j : Nat) (X : Nat → Prop) (w : World) (v : Value) (h : Sl encU X w v c) : U64 (c[j]?.getD (timesI p.P [])) := by
  by_cases hj : j < c.length
  · rw [List.getElem?_eq_getElem hj]
    obtain ⟨_, _, _, _, _, _, _, u⟩ := h.atU hj
    exact u
  · rw [List.getElem?_eq_none (by omega)]
    exact timesI_U64 _ _
end Go.Proofs.YtiimippmihkgcaaGreatDoor

namespace Go.Proofs.YtiimippmihkgcaaGreatDoor
open Go Go.RowKit Go.Shelf

attribute [local go_sem] Oper.semAt_some
theorem pairsU_any (A B : Option Addr) (m1 c1 m2 c2 : Nat) (w : World) :
    Calls Tryz.prog 93 #[.slice A m1 c1, .slice B m2 c2] w fun e w' => e = .returned (.func (.func 118) #[] #[.pointer (some ⟨w.heap.size, 0, none⟩), .pointer (some ⟨w.heap.size + 1, 0, none⟩)]) ∧ w' = (w.alloc (.cells #[.slice A m1 c1] 39)).alloc (.cells #[.slice B m2 c2] 39) := by
  go_enter Tryz.func93, Tryz.ntmps93
  go_wp2
  go_ret
  exact ⟨rfl, rfl⟩
theorem pairsS_any (A B : Option Addr) (m1 c1 m2 c2 : Nat) (w : World) :
    Calls Tryz.prog 92 #[.slice A m1 c1, .slice B m2 c2] w fun e w' => e = .returned (.func (.func 116) #[] #[.pointer (some ⟨w.heap.size, 0, none⟩), .pointer (some ⟨w.heap.size + 1, 0, none⟩)]) ∧ w' = (w.alloc (.cells #[.slice A m1 c1] 35)).alloc (.cells #[.slice B m2 c2] 35) := by
  go_enter Tryz.func92, Tryz.ntmps92
  go_wp2
  go_ret
  exact ⟨rfl, rfl⟩
theorem pairsM_any (A B : Option Addr) (m1 c1 m2 c2 : Nat) (w : World) :
    Calls Tryz.prog 99 #[.slice A m1 c1, .slice B m2 c2] w fun e w' => e = .returned (.func (.func 123) #[] #[.pointer (some ⟨w.heap.size, 0, none⟩), .pointer (some ⟨w.heap.size + 1, 0, none⟩)]) ∧ w' = (w.alloc (.cells #[.slice A m1 c1] 45)).alloc (.cells #[.slice B m2 c2] 45) := by
  go_enter Tryz.func99, Tryz.ntmps99
  go_wp2
  go_ret
  exact ⟨rfl, rfl⟩
theorem KpAB.b {n₀ Ba Bb : Nat} {w : World} (hn : n₀ ≤ w.heap.size) (ha : Ba < w.heap.size) (hb : Bb < w.heap.size) (W : World) (l : Nat) (o o' : Obj) (hl : w.heap.size ≤ l) (h : W.heap[l]? = some o) (h1 : o.isCells = false) (h2 : o.isWalk = false) : KpAB n₀ Ba Bb W (W.putObj l o') := by
  have hlt := (Array.getElem?_eq_some_iff.1 h).1
  have hg := grownBy_putObj' W l o'
  exact ⟨belowK_b hn W l o o' hl h h1 h2, hg.block _ (by omega) (fun e => by injection e with e; omega), hg.block _ (by omega) (fun e => by injection e with e; omega)⟩
theorem Boxed.bumped {W W' : World} {B : Nat} {t : TypeId} {v : Value} (h : Boxed W B t v) (h' : Boxed W' B t v) : W'.heap[B]? = W.heap[B]? := Eq.trans h' (Eq.symm h)
theorem boxNe {W : World} {B : Nat} {t : TypeId} {v : Value} (h : Boxed W B t v) {row : Option Nat} (hr : ∀ r, row = some r → ∃ o : Obj, W.heap[r]? = some o ∧ o.isCells = false) : some B ≠ row := cell_ne h.cell hr
theorem Acc.keeps {α : Type} {E : Enc α} {base : Nat} {e : TypeId} {X : Nat → Prop} {w w' : World} {v : Value} {xs : List α} (h : Acc E base e X w v xs) (hg : w.grownBy w' v.ownBlock) : KeepsOthers w w' := KeepsOthers.of_grownBy hg fun j o ej hj => by
  obtain ⟨_, css, _, _, h3⟩ := h
  rcases h3.2 with ⟨rfl, _⟩ | ⟨g, cap, cur, rfl, _, hgb, _⟩
  · simp [Value.ownBlock] at ej
  · obtain rfl : g = j := by simpa [Value.ownBlock] using ej
    rw [hgb] at hj
    cases hj
    rfl
theorem keeps_none {w w' : World} (hg : w.grownBy w' none) : KeepsOthers w w' := KeepsOthers.of_grownBy hg (by simp)
section
variable {α : Type} {P : Program} {E : Enc α} {base : Nat} {e : TypeId} {X Y : Nat → Prop} {w : World} {v : Value} {xs : List α} {l0 n : Nat}
theorem wpListIn_push {cs : List Value} {y : α} {t : TypeId} {bytes : Nat} {ops : Array Oper} {rest : List Oper} {o : Oper} {a : Act} {Q : Exit → Act → World → Prop} (hgd : o.guard = none) (s x : Operand)
    (ho : o.op = .call { callee := .builtin .append, args := #[s, x], argTypes := #[t, t] }) (hE : ElemOk P t e E.size bytes) (hacc : Acc E base e X w v xs) (hs : a.eval s = v) (hx : a.eval x = .slice (some ⟨w.heap.size, 0, none⟩) 1 1) (hrep : E.rep (fun g => X g ∧ some g ≠ v.ownBlock) w cs y)
    (hlen : (xs.length + 1) * bytes ≤ 140737488355328) (hb : base ≤ w.heap.size) (hN : ∀ g, w.heap.size ≤ g → X g)
    (h : ∀ v' w', Acc E base e X w' v' (xs ++ [y]) → w.grownBy w' v.ownBlock → Moved w v v' → wpListIn (Fence.wide.inRound l0) n P ops Q rest (a.put o.dst v') w') : wpListIn (Fence.wide.inRound l0) n P ops Q (o :: rest) a (w.alloc (.cells cs.toArray e)) :=
  wpListIn_plain hgd fun K hK => operIn_of_wp (R := fun _ _ => True) (K := K) (K' := K) (by rw [ho]; intro c hc; cases hc) (fun _ _ h => h) (push_core hE hacc hrep hlen hb hN s x ho hs hx fun v' w' h1 h2 h3 => hK _ _ (h v' w' h1 h2 h3))
end
theorem pairsS_stops (n : Nat) (hn : 1 ≤ n) (Ba Bb : Nat) (va vb : Value) (a b : List (List Int)) (X : Nat → Prop) (w₀ w1 : World) (G : List Int → Prop) (hG0 : G []) (hGa : ∀ c ∈ a, G c) (hGb : ∀ c ∈ b, G c) (h01 : Below w₀.heap.size w₀ w1) (hBa : Boxed w1 Ba 35 va) (hBb : Boxed w1 Bb 35 vb) (hA : Sl (encS encU) X w₀ va a) (hB : Sl (encS encU) X w₀ vb b) :
    SeqStopsK Fence.wide n Tryz.prog 116 #[.pointer (some ⟨Ba, 0, none⟩), .pointer (some ⟨Bb, 0, none⟩)] (fun x : SS encU X w₀ G => #[x.1.1.1, x.1.2.1]) (KpAB w₀.heap.size Ba Bb) (fun ys => ys.map SS.lists = zipS a b) (fun _ => True) (zipS a b).length w1 := fun l J Jx W hW hJ _ hY h0 =>
  pairsS_in n hn l Ba Bb va vb a b X w₀ G hG0 hGa hGb J Jx hY W hJ (h01.trans (hW.mono h01.size)) ((hW.5 Ba hBa.lt).trans hBa) ((hW.5 Bb hBb.lt).trans hBb) hA hB h0
theorem pairsU_stops (n : Nat) (hn : 1 ≤ n) (Ba Bb : Nat) (va vb : Value) (a b : List Int) (X : Nat → Prop) (w₀ w1 : World) (h01 : Below w₀.heap.size w₀ w1) (hBa : Boxed w1 Ba 39 va) (hBb : Boxed w1 Bb 39 vb) (hA : Sl encU X w₀ va a) (hB : Sl encU X w₀ vb b) :
    SeqStopsK Fence.wide n Tryz.prog 118 #[.pointer (some ⟨Ba, 0, none⟩), .pointer (some ⟨Bb, 0, none⟩)] (fun x : UU => #[.int .u64 x.1.1, .int .u64 x.1.2]) (KpAB w₀.heap.size Ba Bb) (fun ys => ys.map Subtype.val = zipU a b) (fun _ => True) (zipU a b).length w1 := fun l J Jx W hW hJ _ hY h0 =>
  pairsU_in n hn l Ba Bb va vb a b X J Jx w₀ hY W hJ (h01.trans (hW.mono h01.size)) ((hW.5 Ba hBa.lt).trans hBa) ((hW.5 Bb hBb.lt).trans hBb) hA hB h0
theorem pairsM_stops (n : Nat) (hn : 1 ≤ n) (Ba Bb : Nat) (va vb : Value) (a b : List (List (List Int))) (X : Nat → Prop) (w₀ w1 : World) (G : List (List Int) → Prop) (hG0 : G []) (hGa : ∀ c ∈ a, G c) (hGb : ∀ c ∈ b, G c) (h01 : Below w₀.heap.size w₀ w1) (hBa : Boxed w1 Ba 45 va) (hBb : Boxed w1 Bb 45 vb) (hA : Sl (encS (encS encU)) X w₀ va a) (hB : Sl (encS (encS encU)) X w₀ vb b) :
    SeqStopsK Fence.wide n Tryz.prog 123 #[.pointer (some ⟨Ba, 0, none⟩), .pointer (some ⟨Bb, 0, none⟩)] (fun x : SS (encS encU) X w₀ G => #[x.1.1.1, x.1.2.1]) (KpAB w₀.heap.size Ba Bb) (fun ys => ys.map SS.lists = zipS a b) (fun _ => True) (zipS a b).length w1 := fun l J Jx W hW hJ _ hY h0 =>
  pairsM_in n hn l Ba Bb va vb a b X w₀ G hG0 hGa hGb J Jx hY W hJ (h01.trans (hW.mono h01.size)) ((hW.5 Ba hBa.lt).trans hBa) ((hW.5 Bb hBb.lt).trans hBb) hA hB h0
end Go.Proofs.YtiimippmihkgcaaGreatDoor

namespace Go.Proofs.YtiimippmihkgcaaGreatDoor
open Go Go.RowKit Go.Shelf

attribute [local go_sem] Oper.semAt_some
/-- How far the i-th place, and another one, are from the first k, but for the i-th. -/
def othersUp (q : Int) (xs : List Int) (i : Nat) (at_ : Int) (k : Nat) : List (Int × Int) := ((List.range k).filter fun j => j != i).map fun j => (subI (xs[i]?.getD 0) (xs[j]?.getD 0) q, subI at_ (xs[j]?.getD 0) q)
def othersI (q : Int) (xs : List Int) (i : Nat) (at_ : Int) : List (Int × Int) := othersUp q xs i at_ xs.length
theorem othersUp_skip (q : Int) (xs : List Int) (i : Nat) (at_ : Int) : othersUp q xs i at_ (i + 1) = othersUp q xs i at_ i := by simp [othersUp, List.range_succ]
theorem othersUp_snoc (q : Int) (xs : List Int) (i : Nat) (at_ : Int) (k : Nat) (h : k ≠ i) : othersUp q xs i at_ (k + 1) = othersUp q xs i at_ k ++ [(subI (xs[i]?.getD 0) (xs[k]?.getD 0) q, subI at_ (xs[k]?.getD 0) q)] := by simp [othersUp, List.range_succ, h]
theorem othersUp_length (q : Int) (xs : List Int) (i : Nat) (at_ : Int) (k : Nat) : (othersUp q xs i at_ k).length ≤ k := by
  simp only [othersUp, List.length_map]
  exact Nat.le_trans (List.length_filter_le _ _) (by simp)
set_option maxHeartbeats 400000 in
theorem others_any (A : Option Addr) (n c : Nat) (i at_ q : Int) (w : World) :
    Calls Tryz.prog 135 #[.slice A n c, .int .i64 i, .int .u64 at_, .int .u64 q] w fun e w' => e = .returned (.func (.func 138) #[] #[.pointer (some ⟨w.heap.size, 0, none⟩), .pointer (some ⟨w.heap.size + 1, 0, none⟩), .pointer (some ⟨w.heap.size + 1 + 1 + 1, 0, none⟩), .pointer (some ⟨w.heap.size + 1 + 1, 0, none⟩)]) ∧ w' = (((w.alloc (.cells #[.slice A n c] 39)).alloc (.cells #[.int .i64 i] 3)).alloc (.cells #[.int .u64 at_] 22)).alloc (.cells #[.int .u64 q] 22) := by
  go_enter Tryz.func135, Tryz.ntmps135
  go_wp2
  go_ret
  exact ⟨rfl, rfl⟩
/-- What a round keeps: what lay below n₀, and four boxes. -/
def Kp4 (n₀ B1 B2 B3 B4 : Nat) (A B : World) : Prop := Below n₀ A B ∧ B.heap[B1]? = A.heap[B1]? ∧ B.heap[B2]? = A.heap[B2]? ∧ B.heap[B3]? = A.heap[B3]? ∧ B.heap[B4]? = A.heap[B4]?
theorem Kp4.refl (n₀ B1 B2 B3 B4 : Nat) (A : World) : Kp4 n₀ B1 B2 B3 B4 A A := ⟨Below.refl _ _, rfl, rfl, rfl, rfl⟩
theorem Kp4.trans {n₀ B1 B2 B3 B4 : Nat} {A B C : World} (h : Kp4 n₀ B1 B2 B3 B4 A B) (k : Kp4 n₀ B1 B2 B3 B4 B C) : Kp4 n₀ B1 B2 B3 B4 A C := ⟨h.1.trans k.1, k.2.1.trans h.2.1, k.2.2.1.trans h.2.2.1, k.2.2.2.1.trans h.2.2.2.1, k.2.2.2.2.trans h.2.2.2.2⟩
theorem Kp4.grown {n₀ B1 B2 B3 B4 : Nat} {A B : World} (hg : A.grownBy B none) (hn : n₀ ≤ A.heap.size) (h1 : B1 < A.heap.size) (h2 : B2 < A.heap.size) (h3 : B3 < A.heap.size) (h4 : B4 < A.heap.size) : Kp4 n₀ B1 B2 B3 B4 A B :=
  ⟨(below_grown hg).mono hn, hg.block _ h1 (by simp), hg.block _ h2 (by simp), hg.block _ h3 (by simp), hg.block _ h4 (by simp)⟩
theorem Kp4.b {n₀ B1 B2 B3 B4 : Nat} {w : World} (hn : n₀ ≤ w.heap.size) (h1 : B1 < w.heap.size) (h2 : B2 < w.heap.size) (h3 : B3 < w.heap.size) (h4 : B4 < w.heap.size) (W : World) (l : Nat) (o o' : Obj) (hl : w.heap.size ≤ l) (h : W.heap[l]? = some o) (k1 : o.isCells = false) (k2 : o.isWalk = false) : Kp4 n₀ B1 B2 B3 B4 W (W.putObj l o') := by
  have hlt := (Array.getElem?_eq_some_iff.1 h).1
  have hg := grownBy_putObj' W l o'
  exact ⟨belowK_b hn W l o o' hl h k1 k2, hg.block _ (by omega) (fun e => by injection e with e; omega), hg.block _ (by omega) (fun e => by injection e with e; omega), hg.block _ (by omega) (fun e => by injection e with e; omega), hg.block _ (by omega) (fun e => by injection e with e; omega)⟩
set_option maxRecDepth 100000 in
set_option maxHeartbeats 2000000 in
theorem others_goes (nn : Nat) (hn : 1 ≤ nn) (B1 B2 B3 B4 : Nat) (v : Value) (xs : List Int) (i : Nat) (at_ q : Int) (X : Nat → Prop) (w₀ w1 : World) (h01 : Below w₀.heap.size w₀ w1) (hb1 : Boxed w1 B1 39 v) (hb2 : Boxed w1 B2 3 (.int .i64 i)) (hb3 : Boxed w1 B3 22 (.int .u64 q)) (hb4 : Boxed w1 B4 22 (.int .u64 at_)) (hxs : Sl encU X w₀ v xs) (hi : i < xs.length) (hu : U64 at_) :
    SeqGoes Fence.wide nn Tryz.prog 138 #[.pointer (some ⟨B1, 0, none⟩), .pointer (some ⟨B2, 0, none⟩), .pointer (some ⟨B3, 0, none⟩), .pointer (some ⟨B4, 0, none⟩)] (fun x : Int × Int => #[.int .u64 x.1, .int .u64 x.2]) (fun x _ => U64 x.1 ∧ U64 x.2) (Kp4 w₀.heap.size B1 B2 B3 B4) (fun ys => ys = othersI q xs i at_) xs.length w1 := by
  intro l J W hW hJ hY h0
  refine callsIn_of_wp Tryz.func138 rfl trivial ?_ rfl
  simp only [Tryz.ntmps138, List.size_toArray, List.length_cons, List.length_nil, Nat.reduceAdd, Nat.reduceSub, Array.replicate_succ, Array.replicate_zero, List.push_toArray, List.append_toArray, List.nil_append, List.cons_append]
  have HW1 : Hid (Boxed W B1 39 v) := Lib.hid ((hW.5 B1 hb1.lt).trans hb1)
  have HW2 : Hid (Boxed W B2 3 (.int .i64 i)) := Lib.hid ((hW.5 B2 hb2.lt).trans hb2)
  have HW3 : Hid (Boxed W B3 22 (.int .u64 q)) := Lib.hid ((hW.5 B3 hb3.lt).trans hb3)
  have HW4 : Hid (Boxed W B4 22 (.int .u64 at_)) := Lib.hid ((hW.5 B4 hb4.lt).trans hb4)
  have HG0 : Hid (w₀.grownBy W none) := Lib.hid (grown_of_below (h01.trans (hW.mono h01.size)))
  have HXS := Lib.hid hxs
  have HUA := Lib.hid hu
  obtain ⟨g, o, c, _, e, _, _, _, _⟩ := hxs.at (k := i) hi
  subst e
  obtain ⟨n, hnn⟩ : ∃ n, n = xs.length := ⟨_, rfl⟩
  have HN := Lib.hid hnn
  rw [← hnn] at HXS HW1 hY hi
  have ca := HW1.out.cell
  have hn9 : n ≤ 9223372036854775807 := by rw [hnn]; exact hxs.bound
  have HH0 := Lib.hid h0
  have hinI : (i : Int) < (n : Int) := by omega
  have hi0 : (0 : Int) ≤ (i : Int) := by omega
  clear hb1 hb2 hb3 hb4 hxs h0 hnn hu
  gi_wp2
  gi_loopw [10] (fun s10 wr => ∃ (k : Nat) (pre : List (Int × Int)), k ≤ n ∧ s10 = .int .i64 k ∧ Hid (pre = othersUp q xs i at_ k ∧ J pre wr ∧ Kp4 w₀.heap.size B1 B2 B3 B4 W wr)) (fun s10 _ => n - (intOf s10).toNat)
  case atStart => exact ⟨0, [], by omega, rfl, Lib.hid ⟨rfl, HH0.out, Kp4.refl _ _ _ _ _ _⟩⟩
  case round =>
    rename World => wr
    obtain ⟨k, pre, hk, rfl, HX⟩ := hrel
    by_cases hlt : k < n
    · have hki : (k : Int) < (n : Int) := by omega
      have hk0 : (0 : Int) ≤ (k : Int) := by omega
      have hpl : pre.length ≤ k := by rw [HX.out.1]; exact othersUp_length _ _ _ _ _
      have hJk : J pre wr.drew := hJ _ wr wr.drew none HX.out.2.1 (grownBy_drewN (World.grownBy.refl wr none) 1) (by simp)
      have HGr : Hid (w₀.grownBy wr.drew none) := Lib.hid (grownBy_drewN (grown_of_below ((below_grown HG0.out).trans HX.out.2.2.1)) 1)
      have HB1 : Hid (Boxed wr.drew B1 39 (.slice (some ⟨g, o, none⟩) n c)) := Lib.hid (HX.out.2.2.2.1.trans HW1.out)
      have HB2 : Hid (Boxed wr.drew B2 3 (.int .i64 i)) := Lib.hid (HX.out.2.2.2.2.1.trans HW2.out)
      have HB3 : Hid (Boxed wr.drew B3 22 (.int .u64 q)) := Lib.hid (HX.out.2.2.2.2.2.1.trans HW3.out)
      have HB4 : Hid (Boxed wr.drew B4 22 (.int .u64 at_)) := Lib.hid (HX.out.2.2.2.2.2.2.trans HW4.out)
      have HKD : Hid (Kp4 w₀.heap.size B1 B2 B3 B4 W wr.drew) := Lib.hid (HX.out.2.2.trans ⟨⟨rfl, rfl, rfl, Nat.le_refl _, fun _ _ => rfl⟩, rfl, rfl, rfl, rfl⟩)
      have hcell : ∀ j (hj : j < xs.length), ∀ w', wr.drew.grownBy w' none → w'.cell? ⟨g, o + j, none⟩ = some (.int .u64 xs[j]) ∧ U64 xs[j] := fun j hj w' hw => by
        obtain ⟨g', o', c', e, _, _, hcu, hu⟩ := (HXS.out.kept (HGr.out.trans hw)).atU hj
        injection e with e1 e2 e3
        injection e1 with e1
        injection e1 with e4 e5
        subst e4 e5
        exact ⟨hcu, hu⟩
      have hkx : k < xs.length := by rw [← HN.out]; exact hlt
      have hix : i < xs.length := by rw [← HN.out]; exact hi
      have hck : wr.cell? ⟨g, o + k, none⟩ = some (.int .u64 xs[k]) := (hcell k hkx wr.drew (World.grownBy.refl _ _)).1
      have HUK := Lib.hid (hcell k hkx wr.drew (World.grownBy.refl _ _)).2
      have HUI := Lib.hid (hcell i hix wr.drew (World.grownBy.refl _ _)).2
      have HXI : Hid (∀ w', wr.drew.grownBy w' none → w'.cell? ⟨g, o + i, none⟩ = some (.int .u64 xs[i])) := Lib.hid (fun w' hw => (hcell i hix w' hw).1)
      clear hcell ca
      by_cases hki2 : k = i
      · subst hki2
        have HPN : Hid (pre = othersUp q xs k at_ (k + 1)) := Lib.hid (by rw [othersUp_skip]; exact HX.out.1)
        have hd : ((k : Int) != (k : Int)) = false := by simp
        have HJD := Lib.hid (fun w' (hw : wr.drew.grownBy w' none) => hJ pre wr.drew w' none hJk hw (by simp))
        have HKE := Lib.hid (fun w' (hw : wr.drew.grownBy w' none) => HKD.out.trans (Kp4.grown hw HGr.out.size HB1.out.lt HB2.out.lt HB3.out.lt HB4.out.lt))
        generalize xs[k] = xk at *
        clear hJk HX
        gi_wp2
        refine wpIn_wide.2 ?_
        refine wp_region_mono 19 (by kernel_rfl) (by kernel_rfl) ?_
        -- op 0 (slot 15): move
        refine MonoR.step (Pv.eq (.int .i64 (k : Int))) [] (by kernel_rfl) (fun w' hw' => ?_) ?_
        · refine ask_do rfl fun K hK => ?_
          go_simp
          exact hK _ _ rfl rfl (World.grownBy.refl _ none)
        -- op 1 (slot 16): load
        refine MonoR.step (Pv.eq (.int .i64 (k : Int))) [] (by kernel_rfl) (fun w' hw' => ?_) ?_
        · refine ask_do rfl fun K hK => ?_
          have h1c := (HB1.out.kept hw' (by simp)).cell
          have h2c := (HB2.out.kept hw' (by simp)).cell
          have h3c := (HB3.out.kept hw' (by simp)).cell
          have h4c := (HB4.out.kept hw' (by simp)).cell
          go_simp
          exact hK _ _ rfl rfl (World.grownBy.refl _ none)
        -- op 2 (slot 17): binOp
        refine MonoR.step (Pv.eq (.bool false)) [(0, 15), (1, 16)] (by kernel_rfl) (fun w' hw' => ?_) ?_
        · rintro _ rfl
          rintro _ rfl
          refine ask_do rfl fun K hK => ?_
          go_simp
          exact hK _ _ rfl rfl (World.grownBy.refl _ none)
        -- op 3 (slot 18): move
        refine MonoR.step (Pv.eq (.bool false)) [(2, 17)] (by kernel_rfl) (fun w' hw' => ?_) ?_
        · rintro _ rfl
          refine ask_do rfl fun K hK => ?_
          go_simp
          exact hK _ _ rfl rfl (World.grownBy.refl _ none)
        -- op 4 (slot 19): move [(3, 'true')]
        refine MonoR.step (Pv.eq (undef)) [(3, 18)] (by kernel_rfl) (fun w' hw' => ?_) ?_
        · rintro _ rfl
          exact ask_skip rfl rfl rfl
        -- op 5 (slot 20): load [(3, 'true')]
        refine MonoR.step (Pv.eq (undef)) [(3, 18)] (by kernel_rfl) (fun w' hw' => ?_) ?_
        · rintro _ rfl
          exact ask_skip rfl rfl rfl
        -- op 6 (slot 21): load [(3, 'true')]
        refine MonoR.step (Pv.eq (undef)) [(3, 18)] (by kernel_rfl) (fun w' hw' => ?_) ?_
        · rintro _ rfl
          exact ask_skip rfl rfl rfl
        -- op 7 (slot 22): indexAddr [(3, 'true')]
        refine MonoR.step (Pv.eq (undef)) [(3, 18), (5, 20), (6, 21)] (by kernel_rfl) (fun w' hw' => ?_) ?_
        · rintro _ rfl
          rintro _ rfl
          rintro _ rfl
          exact ask_skip rfl rfl rfl
        -- op 8 (slot 23): load [(3, 'true')]
        refine MonoR.step (Pv.eq (undef)) [(3, 18), (7, 22)] (by kernel_rfl) (fun w' hw' => ?_) ?_
        · rintro _ rfl
          rintro _ rfl
          exact ask_skip rfl rfl rfl
        -- op 9 (slot 24): move [(3, 'true')]
        refine MonoR.step (Pv.eq (undef)) [(3, 18)] (by kernel_rfl) (fun w' hw' => ?_) ?_
        · rintro _ rfl
          exact ask_skip rfl rfl rfl
        -- op 10 (slot 25): load [(3, 'true')]
        refine MonoR.step (Pv.eq (undef)) [(3, 18)] (by kernel_rfl) (fun w' hw' => ?_) ?_
        · rintro _ rfl
          exact ask_skip rfl rfl rfl
        -- op 11 (slot 26): call [(3, 'true')]
        refine MonoR.step (Pv.eq (undef)) [(3, 18), (8, 23), (9, 24), (10, 25)] (by kernel_rfl) (fun w' hw' => ?_) ?_
        · rintro _ rfl
          rintro _ rfl
          rintro _ rfl
          rintro _ rfl
          exact ask_skip rfl rfl rfl
        -- op 12 (slot 27): load [(3, 'true')]
        refine MonoR.step (Pv.eq (undef)) [(3, 18)] (by kernel_rfl) (fun w' hw' => ?_) ?_
        · rintro _ rfl
          exact ask_skip rfl rfl rfl
        -- op 13 (slot 28): move [(3, 'true')]
        refine MonoR.step (Pv.eq (undef)) [(3, 18)] (by kernel_rfl) (fun w' hw' => ?_) ?_
        · rintro _ rfl
          exact ask_skip rfl rfl rfl
        -- op 14 (slot 29): load [(3, 'true')]
        refine MonoR.step (Pv.eq (undef)) [(3, 18)] (by kernel_rfl) (fun w' hw' => ?_) ?_
        · rintro _ rfl
          exact ask_skip rfl rfl rfl
        -- op 15 (slot 30): call [(3, 'true')]
        refine MonoR.step (Pv.eq (undef)) [(3, 18), (12, 27), (13, 28), (14, 29)] (by kernel_rfl) (fun w' hw' => ?_) ?_
        · rintro _ rfl
          rintro _ rfl
          rintro _ rfl
          rintro _ rfl
          exact ask_skip rfl rfl rfl
        -- op 16 (slot 31): call [(3, 'true')]
        refine MonoR.step (Pv.eq (undef)) [(3, 18), (4, 19), (11, 26), (15, 30)] (by kernel_rfl) (fun w' hw' => ?_) ?_
        · rintro _ rfl
          rintro _ rfl
          rintro _ rfl
          rintro _ rfl
          exact ask_skip rfl rfl rfl
        -- op 17 (slot 32): unOp [(3, 'true')]
        refine MonoR.step (Pv.eq (undef)) [(3, 18), (16, 31)] (by kernel_rfl) (fun w' hw' => ?_) ?_
        · rintro _ rfl
          rintro _ rfl
          exact ask_skip rfl rfl rfl
        -- op 18 (slot 33): pick
        refine MonoR.step (Pv.eq (.bool false)) [(3, 18), (17, 32)] (by kernel_rfl) (fun w' hw' => ?_) ?_
        · rintro _ rfl
          rintro _ rfl
          refine ask_do rfl fun K hK => ?_
          go_simp
          exact hK _ _ rfl rfl (World.grownBy.refl _ none)
        intro w3 hw3
        iterate 18 (intro _ _)
        rintro _ rfl
        have HJ3 := Lib.hid (HJD.out w3 hw3)
        have HK3 := Lib.hid (HKE.out w3 hw3)
        clear hw3
        refine wpList_nil ?_
        simp only [Act.put, List.setIfInBounds_toArray, List.set_cons_zero, List.set_cons_succ]
        go_wp2_with fail
        gi_wp2
        exact ⟨⟨k + 1, pre, by omega, by go_num, Lib.hid ⟨HPN.out, HJ3.out, HK3.out⟩⟩, by simp [intOf]; omega⟩
      · have HPN : Hid (pre ++ [(subI xs[i] xs[k] q, subI at_ xs[k] q)] = othersUp q xs i at_ (k + 1)) := Lib.hid (by rw [othersUp_snoc _ _ _ _ _ hki2, HX.out.1, List.getElem?_eq_getElem hkx, List.getElem?_eq_getElem hix]; rfl)
        have hd : ((k : Int) != (i : Int)) = true := by simp; omega
        have HRY := Lib.hid (fun w' (hw : wr.drew.grownBy w' none) => hY pre (subI xs[i] xs[k] q, subI at_ xs[k] q) w' (hJ pre wr.drew w' none hJk hw (by simp)) ⟨subI_U64 _ _ _, subI_U64 _ _ _⟩ (by omega))
        have HKE := Lib.hid (fun w' (hw : wr.drew.grownBy w' none) => HKD.out.trans (Kp4.grown hw HGr.out.size HB1.out.lt HB2.out.lt HB3.out.lt HB4.out.lt))
        obtain ⟨xk, hxk⟩ : ∃ y, y = xs[k] := ⟨_, rfl⟩
        obtain ⟨xi, hxi⟩ : ∃ y, y = xs[i] := ⟨_, rfl⟩
        rw [← hxk] at hck HUK HPN HRY
        rw [← hxi] at HUI HXI HPN HRY
        clear hJk HX hxk hxi
        gi_wp2
        refine wpIn_region_mono 16 (by kernel_rfl) (by kernel_rfl) (by kernel_rfl) ?_
        -- op 0 (slot 15): move
        refine MonoR.step (Pv.eq (.int .i64 (k : Int))) [] (by kernel_rfl) (fun w' hw' => ?_) ?_
        · refine ask_do rfl fun K hK => ?_
          go_simp
          exact hK _ _ rfl rfl (World.grownBy.refl _ none)
        -- op 1 (slot 16): load
        refine MonoR.step (Pv.eq (.int .i64 (i : Int))) [] (by kernel_rfl) (fun w' hw' => ?_) ?_
        · refine ask_do rfl fun K hK => ?_
          have h1c := (HB1.out.kept hw' (by simp)).cell
          have h2c := (HB2.out.kept hw' (by simp)).cell
          have h3c := (HB3.out.kept hw' (by simp)).cell
          have h4c := (HB4.out.kept hw' (by simp)).cell
          have hxi := HXI.out w' hw'
          go_simp
          exact hK _ _ rfl rfl (World.grownBy.refl _ none)
        -- op 2 (slot 17): binOp
        refine MonoR.step (Pv.eq (.bool true)) [(0, 15), (1, 16)] (by kernel_rfl) (fun w' hw' => ?_) ?_
        · rintro _ rfl
          rintro _ rfl
          refine ask_do rfl fun K hK => ?_
          go_simp
          exact hK _ _ rfl rfl (World.grownBy.refl _ none)
        -- op 3 (slot 18): move
        refine MonoR.step (Pv.eq (.bool true)) [(2, 17)] (by kernel_rfl) (fun w' hw' => ?_) ?_
        · rintro _ rfl
          refine ask_do rfl fun K hK => ?_
          go_simp
          exact hK _ _ rfl rfl (World.grownBy.refl _ none)
        -- op 4 (slot 19): move [(3, 'true')]
        refine MonoR.step (Pv.eq (.func (.yield l) #[] #[])) [(3, 18)] (by kernel_rfl) (fun w' hw' => ?_) ?_
        · rintro _ rfl
          refine ask_do rfl fun K hK => ?_
          go_simp
          exact hK _ _ rfl rfl (World.grownBy.refl _ none)
        -- op 5 (slot 20): load [(3, 'true')]
        refine MonoR.step (Pv.eq (.slice (some ⟨g, o, none⟩) n c)) [(3, 18)] (by kernel_rfl) (fun w' hw' => ?_) ?_
        · rintro _ rfl
          refine ask_do rfl fun K hK => ?_
          have h1c := (HB1.out.kept hw' (by simp)).cell
          have h2c := (HB2.out.kept hw' (by simp)).cell
          have h3c := (HB3.out.kept hw' (by simp)).cell
          have h4c := (HB4.out.kept hw' (by simp)).cell
          have hxi := HXI.out w' hw'
          go_simp
          exact hK _ _ rfl rfl (World.grownBy.refl _ none)
        -- op 6 (slot 21): load [(3, 'true')]
        refine MonoR.step (Pv.eq (.int .i64 (i : Int))) [(3, 18)] (by kernel_rfl) (fun w' hw' => ?_) ?_
        · rintro _ rfl
          refine ask_do rfl fun K hK => ?_
          have h1c := (HB1.out.kept hw' (by simp)).cell
          have h2c := (HB2.out.kept hw' (by simp)).cell
          have h3c := (HB3.out.kept hw' (by simp)).cell
          have h4c := (HB4.out.kept hw' (by simp)).cell
          have hxi := HXI.out w' hw'
          go_simp
          exact hK _ _ rfl rfl (World.grownBy.refl _ none)
        -- op 7 (slot 22): indexAddr [(3, 'true')]
        refine MonoR.step (Pv.eq (.pointer (some ⟨g, o + i, none⟩))) [(3, 18), (5, 20), (6, 21)] (by kernel_rfl) (fun w' hw' => ?_) ?_
        · rintro _ rfl
          rintro _ rfl
          rintro _ rfl
          refine ask_do rfl fun K hK => ?_
          go_simp
          exact hK _ _ rfl rfl (World.grownBy.refl _ none)
        -- op 8 (slot 23): load [(3, 'true')]
        refine MonoR.step (Pv.eq (.int .u64 xi)) [(3, 18), (7, 22)] (by kernel_rfl) (fun w' hw' => ?_) ?_
        · rintro _ rfl
          rintro _ rfl
          refine ask_do rfl fun K hK => ?_
          have h1c := (HB1.out.kept hw' (by simp)).cell
          have h2c := (HB2.out.kept hw' (by simp)).cell
          have h3c := (HB3.out.kept hw' (by simp)).cell
          have h4c := (HB4.out.kept hw' (by simp)).cell
          have hxi := HXI.out w' hw'
          go_simp
          exact hK _ _ rfl rfl (World.grownBy.refl _ none)
        -- op 9 (slot 24): move [(3, 'true')]
        refine MonoR.step (Pv.eq (.int .u64 xk)) [(3, 18)] (by kernel_rfl) (fun w' hw' => ?_) ?_
        · rintro _ rfl
          refine ask_do rfl fun K hK => ?_
          go_simp
          exact hK _ _ rfl rfl (World.grownBy.refl _ none)
        -- op 10 (slot 25): load [(3, 'true')]
        refine MonoR.step (Pv.eq (.int .u64 q)) [(3, 18)] (by kernel_rfl) (fun w' hw' => ?_) ?_
        · rintro _ rfl
          refine ask_do rfl fun K hK => ?_
          have h1c := (HB1.out.kept hw' (by simp)).cell
          have h2c := (HB2.out.kept hw' (by simp)).cell
          have h3c := (HB3.out.kept hw' (by simp)).cell
          have h4c := (HB4.out.kept hw' (by simp)).cell
          have hxi := HXI.out w' hw'
          go_simp
          exact hK _ _ rfl rfl (World.grownBy.refl _ none)
        -- op 11 (slot 26): call [(3, 'true')]
        refine MonoR.step (Pv.eq (.int .u64 (subI xi xk q))) [(3, 18), (8, 23), (9, 24), (10, 25)] (by kernel_rfl) (fun w' hw' => ?_) ?_
        · rintro _ rfl
          rintro _ rfl
          rintro _ rfl
          rintro _ rfl
          refine ask_do rfl fun K hK => ?_
          go_simp
          refine (sub_gr xi xk q w' HUI.out HUK.out).mono ?_
          rintro e w3 ⟨rfl, hg⟩
          exact hK _ _ rfl rfl hg
        -- op 12 (slot 27): load [(3, 'true')]
        refine MonoR.step (Pv.eq (.int .u64 at_)) [(3, 18)] (by kernel_rfl) (fun w' hw' => ?_) ?_
        · rintro _ rfl
          refine ask_do rfl fun K hK => ?_
          have h1c := (HB1.out.kept hw' (by simp)).cell
          have h2c := (HB2.out.kept hw' (by simp)).cell
          have h3c := (HB3.out.kept hw' (by simp)).cell
          have h4c := (HB4.out.kept hw' (by simp)).cell
          have hxi := HXI.out w' hw'
          go_simp
          exact hK _ _ rfl rfl (World.grownBy.refl _ none)
        -- op 13 (slot 28): move [(3, 'true')]
        refine MonoR.step (Pv.eq (.int .u64 xk)) [(3, 18)] (by kernel_rfl) (fun w' hw' => ?_) ?_
        · rintro _ rfl
          refine ask_do rfl fun K hK => ?_
          go_simp
          exact hK _ _ rfl rfl (World.grownBy.refl _ none)
        -- op 14 (slot 29): load [(3, 'true')]
        refine MonoR.step (Pv.eq (.int .u64 q)) [(3, 18)] (by kernel_rfl) (fun w' hw' => ?_) ?_
        · rintro _ rfl
          refine ask_do rfl fun K hK => ?_
          have h1c := (HB1.out.kept hw' (by simp)).cell
          have h2c := (HB2.out.kept hw' (by simp)).cell
          have h3c := (HB3.out.kept hw' (by simp)).cell
          have h4c := (HB4.out.kept hw' (by simp)).cell
          have hxi := HXI.out w' hw'
          go_simp
          exact hK _ _ rfl rfl (World.grownBy.refl _ none)
        -- op 15 (slot 30): call [(3, 'true')]
        refine MonoR.step (Pv.eq (.int .u64 (subI at_ xk q))) [(3, 18), (12, 27), (13, 28), (14, 29)] (by kernel_rfl) (fun w' hw' => ?_) ?_
        · rintro _ rfl
          rintro _ rfl
          rintro _ rfl
          rintro _ rfl
          refine ask_do rfl fun K hK => ?_
          go_simp
          refine (sub_gr at_ xk q w' HUA.out HUK.out).mono ?_
          rintro e w3 ⟨rfl, hg⟩
          exact hK _ _ rfl rfl hg
        intro w3 hw3
        intro y0 e0 y1 e1 y2 e2 y3 e3 y4 e4 y5 e5 y6 e6 y7 e7 y8 e8 y9 e9 y10 e10 y11 e11 y12 e12 y13 e13 y14 e14 y15 e15
        show wpListIn Fence.wide nn Tryz.prog _ _ _ _ w3
        have e0 : y0 = .int .i64 (k : Int) := e0
        subst e0
        have e1 : y1 = .int .i64 (i : Int) := e1
        subst e1
        have e2 : y2 = .bool true := e2
        subst e2
        have e3 : y3 = .bool true := e3
        subst e3
        have e4 : y4 = .func (.yield l) #[] #[] := e4
        subst e4
        have e5 : y5 = .slice (some ⟨g, o, none⟩) n c := e5
        subst e5
        have e6 : y6 = .int .i64 (i : Int) := e6
        subst e6
        have e7 : y7 = .pointer (some ⟨g, o + i, none⟩) := e7
        subst e7
        have e8 : y8 = .int .u64 xi := e8
        subst e8
        have e9 : y9 = .int .u64 xk := e9
        subst e9
        have e10 : y10 = .int .u64 q := e10
        subst e10
        have e11 : y11 = .int .u64 (subI xi xk q) := e11
        subst e11
        have e12 : y12 = .int .u64 at_ := e12
        subst e12
        have e13 : y13 = .int .u64 xk := e13
        subst e13
        have e14 : y14 = .int .u64 q := e14
        subst e14
        have e15 : y15 = .int .u64 (subI at_ xk q) := e15
        subst e15
        simp only [Act.put, List.setIfInBounds_toArray, List.set_cons_zero, List.set_cons_succ]
        have hyy := HRY.out w3 hw3
        clear HRY
        unfold YieldAt at hyy
        try dsimp only at hyy
        refine Exists.elim hyy fun fn hyy1 => Exists.elim hyy1 fun tmps hyy2 => Exists.elim hyy2 fun assign hyy3 => Exists.elim hyy3 fun body hyy4 => ?_
        clear hyy hyy1 hyy2 hyy3
        have hy := hyy4.1
        have hR := hyy4.2
        clear hyy4
        have HR := Lib.hid hR
        have HK3 := Lib.hid (HKE.out w3 hw3)
        clear hw3 hR
        gi_wp2_with ((with_reducible refine HR.out.mono ?_); rintro e W' ⟨rfl, hJ2, hK2⟩)
        exact ⟨⟨k + 1, _, by omega, by go_num, Lib.hid ⟨HPN.out, hJ2, HK3.out.trans hK2⟩⟩, by simp [intOf]; omega⟩
    · obtain rfl : k = n := by omega
      gi_wp2
      go_end0
      exact ⟨⟨_, rfl⟩, pre, by rw [HX.out.1, HN.out]; rfl, HX.out.2.1⟩
end Go.Proofs.YtiimippmihkgcaaGreatDoor

namespace Go.Proofs.YtiimippmihkgcaaGreatDoor
open Go Go.RowKit Go.Shelf

attribute [local go_sem] Oper.semAt_some
theorem wpIn_round_any {P : Program} {ops : Array Oper} {R : Act → World → Prop} {Q : Exit → Act → World → Prop} {l0 n id : Nat} {a : Act} {w : World} (hm : P.follows .mixedOrders = true) (hdf : noDefer ops = true) (hR : ∀ a w, R a w → Q .normal a w)
    (h : wpAny P .any ops (Only R) ops.size (Array.replicate ops.size false) a w.drew) : (Code.region id ops true).wpIn (Fence.wide.inRound l0) n P Q a w :=
  wpIn_region_any hm (wpAnyIn_of_any (noDefer_spec hdf) hR _ _ _ _ h)
def comI (p : Par) (x : List Int × List Int) : List Int := (zipU x.1 x.2).map (commitI p)
def comsI (p : Par) (f r : List (List Int)) : List (List Int) := (zipS f r).map (comI p)
abbrev small1 (c : List Int) : Prop := c.length ≤ 100000
theorem map_val_commit (p : Par) {ys : List UU} {z : List (Int × Int)} (h : ys.map Subtype.val = z) : ys.map (fun y => commitI p y.1) = z.map (commitI p) := by
  rw [← h, List.map_map]
  rfl
theorem map_lists_com (p : Par) {X : Nat → Prop} {w₀ : World} {G : List Int → Prop} {ys : List (SS encU X w₀ G)} {z : List (List Int × List Int)} (h : ys.map SS.lists = z) : ys.map (fun y => comI p y.lists) = z.map (comI p) := by
  rw [← h, List.map_map]
  rfl
set_option maxRecDepth 100000 in
set_option maxHeartbeats 4000000 in
theorem coms_in (n : Nat) (hn : 6 ≤ n) (p : Par) (vf vr : Value) (f r : List (List Int)) (X : Nat → Prop) (w : World) (hp : p.ok) (hf : Sl (encS encU) X w vf f) (hr : Sl (encS encU) X w vr r) (hb1 : f.length ≤ 100000) (hb2 : r.length ≤ 100000) (hb3 : ∀ c ∈ f, small1 c) (hb4 : ∀ c ∈ r, small1 c) :
    CallsIn Fence.wide n Tryz.prog 44 #[p.v, vf, vr] w (Gives (encS encU) (fun g => w.heap.size ≤ g) w (comsI p f r)) := by
  have h1 : 1 ≤ n := by omega
  have HF := Lib.hid hf
  have HR := Lib.hid hr
  have HP := Lib.hid hp
  obtain ⟨A1, c1, rfl, _, _⟩ := hf.form
  obtain ⟨A2, c2, rfl, _, _⟩ := hr.form
  clear hf hr hp
  have HZL : Hid ((zipS f r).length ≤ 100000) := Lib.hid (by simp [zipS]; omega)
  refine callsIn_of_wp_marks Tryz.func44 rfl trivial ?_ rfl
  simp only [Tryz.ntmps44, List.size_toArray, List.length_cons, List.length_nil, Nat.reduceAdd, Nat.reduceSub, Array.replicate_succ, Array.replicate_zero, List.push_toArray, List.append_toArray, List.nil_append, List.cons_append]
  gi_wp2_with (refine ⟨trivial, ?_⟩; refine (callsIn_wide.2 (pairsS_any _ _ _ _ _ _ _)).mono ?_; rintro e w' ⟨rfl, rfl⟩)
  have hs1 : (w.alloc (.cells p.cells 24)).heap.size = w.heap.size + 1 := by simp
  have hs2 : ((w.alloc (.cells p.cells 24)).alloc (.cells #[.slice none 0 0] 35)).heap.size = w.heap.size + 1 + 1 := by simp
  have hs3 : (((w.alloc (.cells p.cells 24)).alloc (.cells #[.slice none 0 0] 35)).alloc (.cells #[.slice A1 f.length c1] 35)).heap.size = w.heap.size + 1 + 1 + 1 := by simp
  have bP : Bk _ w.heap.size 24 p.cells := (((Bk.new w 24 p.cells).alloc (.cells #[.slice none 0 0] 35)).alloc (.cells #[.slice A1 f.length c1] 35)).alloc (.cells #[.slice A2 r.length c2] 35)
  have bO := ((Boxed.new (w.alloc (.cells p.cells 24)) 35 (.slice none 0 0)).alloc (.cells #[.slice A1 f.length c1] 35)).alloc (.cells #[.slice A2 r.length c2] 35)
  have bA := (Boxed.new ((w.alloc (.cells p.cells 24)).alloc (.cells #[.slice none 0 0] 35)) 35 (.slice A1 f.length c1)).alloc (.cells #[.slice A2 r.length c2] 35)
  have bB := Boxed.new (((w.alloc (.cells p.cells 24)).alloc (.cells #[.slice none 0 0] 35)).alloc (.cells #[.slice A1 f.length c1] 35)) 35 (.slice A2 r.length c2)
  rw [hs1] at bO
  rw [hs2] at bA
  rw [hs3] at bB
  have hB0 : Below w.heap.size w ((((w.alloc (.cells p.cells 24)).alloc (.cells #[.slice none 0 0] 35)).alloc (.cells #[.slice A1 f.length c1] 35)).alloc (.cells #[.slice A2 r.length c2] 35)) := below_grown (((World.grownBy_alloc w _ none).trans (World.grownBy_alloc _ _ none)).trans ((World.grownBy_alloc _ _ none).trans (World.grownBy_alloc _ _ none)))
  have hsz : ((((w.alloc (.cells p.cells 24)).alloc (.cells #[.slice none 0 0] 35)).alloc (.cells #[.slice A1 f.length c1] 35)).alloc (.cells #[.slice A2 r.length c2] 35)).heap.size = w.heap.size + 4 := by simp
  obtain ⟨W0, hW0⟩ : ∃ W0, (((w.alloc (.cells p.cells 24)).alloc (.cells #[.slice none 0 0] 35)).alloc (.cells #[.slice A1 f.length c1] 35)).alloc (.cells #[.slice A2 r.length c2] 35) = W0 := ⟨_, rfl⟩
  rw [hW0] at bP bO bA bB hB0 hsz ⊢
  clear hW0 hs1 hs2 hs3
  have HPG : Hid (∀ c ∈ f, small1 c) := Lib.hid hb3
  refine wpIn_rangeFunc_ownH rfl h1 (gf := 116) (lb := #[.pointer (some ⟨w.heap.size + 1 + 1, 0, none⟩), .pointer (some ⟨w.heap.size + 1 + 1 + 1, 0, none⟩)]) rfl trivial (enters_of Tryz.func116 (by kernel_rfl) rfl)
    (pairsS_stops (n - 1) (by omega) (w.heap.size + 1 + 1) (w.heap.size + 1 + 1 + 1) _ _ f r X w W0 small1 (by simp) hb3 hb4 hB0 bA bB HF.out HR.out) KpAB.trans (KpAB.b (by omega) (by omega) (by omega)) (Below.refl _ _) (fun _ => rfl)
    (fun pre W => (∃ v, Boxed W (w.heap.size + 1) 35 v ∧ Acc (encS encU) (w.heap.size + 4) 39 (fun g => w.heap.size + 4 ≤ g) W v (pre.map fun x => comI p x.lists)) ∧ Bk W w.heap.size 24 p.cells ∧ Below w.heap.size w W ∧ Boxed W (w.heap.size + 1 + 1) 35 (.slice A1 f.length c1) ∧ Boxed W (w.heap.size + 1 + 1 + 1) 35 (.slice A2 r.length c2))
    (fun _ _ _ => False)
    (fun pre X Y row hs hg hrow => by
      obtain ⟨⟨v, hb, ha⟩, hk, hB, hb2, hb3⟩ := hs
      have hr' := fun r e => (hrow r e).2
      exact ⟨⟨v, hb.kept hg (boxNe hb hr'), ha.keepc hg hr'⟩, hk.grown hg (cell_ne (hk.cell 0) hr'), hB.grown hg hB.size (fun k e => by have := (hrow k e).1; omega), hb2.kept hg (boxNe hb2 hr'), hb3.kept hg (boxNe hb3 hr')⟩)
    (fun _ _ _ _ _ hs _ _ => hs)
    ⟨⟨_, bO, Acc.nil _ _ _ _ _⟩, bP, hB0, bA, bB⟩
    (fun x a' _ => a' = { tmps := #[p.v, .slice A1 f.length c1, .slice A2 r.length c2, .pointer (some ⟨w.heap.size, 0, none⟩), undef, undef, .slice none 0 0, .pointer (some ⟨w.heap.size + 1, 0, none⟩), x.1.1.1, x.1.2.1, undef, undef, undef, .slice A1 f.length c1, .slice A2 r.length c2, .func (.func 116) #[] #[.pointer (some ⟨w.heap.size + 1 + 1, 0, none⟩), .pointer (some ⟨w.heap.size + 1 + 1 + 1, 0, none⟩)], x.1.1.1, x.1.2.1, undef, undef, undef, undef, undef, undef, undef, undef, undef, undef, undef, undef, undef, undef, undef, undef, undef, undef], defers := [] })
    (fun _ _ _ _ _ _ hs _ _ => hs)
    ?assign ?body ?done ?stop
  case assign =>
    rintro l pre x W K hi hK
    gi_wp2
    exact hK _ _ (KeepsFrom.refl _ _) (KpAB.refl _ _ _ _) hi rfl
  case body =>
    rintro l pre ⟨⟨⟨v1, l1⟩, ⟨v2, l2⟩⟩, ⟨hv1, hg1⟩, ⟨hv2, hg2⟩⟩ a' W hl ⟨r0, hr0⟩ ⟨⟨v, hbo, hao⟩, hbp, hbl, hba, hbb⟩ rfl hlt
    have k1 : Sl encU X w v1 l1 := hv1
    have k2 : Sl encU X w v2 l2 := hv2
    have k3 : l1.length ≤ 100000 := hg1
    have k4 : l2.length ≤ 100000 := hg2
    have HV1 := Lib.hid k1
    have HV2 := Lib.hid k2
    obtain ⟨D1, d1, rfl, _, _⟩ := k1.form
    obtain ⟨D2, d2, rfl, _, _⟩ := k2.form
    have HSM : Hid ((zipU l1 l2).length ≤ 100000) := Lib.hid (by simp [zipU]; omega)
    have HPL : Hid (pre.length < 100000) := Lib.hid (Nat.lt_of_lt_of_le hlt HZL.out)
    clear k1 k2 k3 k4 hlt
    dsimp only
    gi_wp2_with (refine ⟨trivial, fun _ => by omega, ?_⟩; refine (CallsIn.inRound l (callsIn_wide.2 (pairsU_any _ _ _ _ _ _ _))).mono ?_; rintro e w' ⟨rfl, rfl⟩)
    have hs1 : (W.alloc (.cells #[.slice none 0 0] 39)).heap.size = W.heap.size + 1 := by simp
    have hs2 : ((W.alloc (.cells #[.slice none 0 0] 39)).alloc (.cells #[.slice D1 l1.length d1] 39)).heap.size = W.heap.size + 1 + 1 := by simp
    have bL := ((Boxed.new W 39 (.slice none 0 0)).alloc (.cells #[.slice D1 l1.length d1] 39)).alloc (.cells #[.slice D2 l2.length d2] 39)
    have bC := (Boxed.new (W.alloc (.cells #[.slice none 0 0] 39)) 39 (.slice D1 l1.length d1)).alloc (.cells #[.slice D2 l2.length d2] 39)
    have bD := Boxed.new ((W.alloc (.cells #[.slice none 0 0] 39)).alloc (.cells #[.slice D1 l1.length d1] 39)) 39 (.slice D2 l2.length d2)
    rw [hs1] at bC
    rw [hs2] at bD
    have hg2 : W.grownBy (((W.alloc (.cells #[.slice none 0 0] 39)).alloc (.cells #[.slice D1 l1.length d1] 39)).alloc (.cells #[.slice D2 l2.length d2] 39)) none := ((World.grownBy_alloc W _ none).trans (World.grownBy_alloc _ _ none)).trans (World.grownBy_alloc _ _ none)
    have hsz2 : (((W.alloc (.cells #[.slice none 0 0] 39)).alloc (.cells #[.slice D1 l1.length d1] 39)).alloc (.cells #[.slice D2 l2.length d2] 39)).heap.size = W.heap.size + 3 := by simp
    obtain ⟨W2, hW2⟩ : ∃ W2, ((W.alloc (.cells #[.slice none 0 0] 39)).alloc (.cells #[.slice D1 l1.length d1] 39)).alloc (.cells #[.slice D2 l2.length d2] 39) = W2 := ⟨_, rfl⟩
    rw [hW2] at bL bC bD hg2 hsz2 ⊢
    clear hW2 hs1 hs2
    have hNW := hbl.size
    have hbW2 : Below w.heap.size w W2 := hbl.trans ((below_grown hg2).mono hNW)
    have hr' : W2.heap[l]? = some (.loop r0) := (hg2.block l (Array.getElem?_eq_some_iff.1 hr0).1 (by simp)).trans hr0
    have hkf2 : KeepsFrom W0.heap.size W W2 := (keeps_none hg2).from _
    refine wpIn_rangeFunc_ownN (l₀ := l) (r₀ := r0) rfl hr' (by omega) (gf := 118) (lb := #[.pointer (some ⟨W.heap.size + 1, 0, none⟩), .pointer (some ⟨W.heap.size + 1 + 1, 0, none⟩)]) rfl trivial (enters_of Tryz.func118 (by kernel_rfl) rfl)
      ((pairsU_stops (n - 1 - 1 - 1) (by omega) (W.heap.size + 1) (W.heap.size + 1 + 1) _ _ l1 l2 X w W2 hbW2 bC bD HV1.out HV2.out).inRound l) KpAB.trans (KpAB.b (by omega) (by omega) (by omega)) (Below.refl _ _) (fun _ => rfl)
      (fun pre' W' => (∃ u, Boxed W' W.heap.size 39 u ∧ Acc encU (W.heap.size + 3) 22 (fun g => W.heap.size + 3 ≤ g) W' u (pre'.map fun y => commitI p y.1)) ∧ Below W.heap.size W W' ∧ KeepsFrom W0.heap.size W W' ∧ Boxed W' (W.heap.size + 1) 39 (.slice D1 l1.length d1) ∧ Boxed W' (W.heap.size + 1 + 1) 39 (.slice D2 l2.length d2))
      (fun _ _ _ => False)
      (fun pre' X' Y row hs hg hrow => by
        obtain ⟨⟨u, hb, ha⟩, hB, hK, hb2, hb3⟩ := hs
        have hr' := fun r e => (hrow r e).2
        exact ⟨⟨u, hb.kept hg (boxNe hb hr'), ha.keepc hg hr'⟩, hB.grown hg hB.size (fun k e => by have := (hrow k e).1; omega), ownFrom_keepsFrom (B' := W2.heap.size) hg2.size () X' Y row hK hg hrow, hb2.kept hg (boxNe hb2 hr'), hb3.kept hg (boxNe hb3 hr')⟩)
      (fun _ _ _ _ _ hs _ _ => hs)
      ⟨⟨_, bL, Acc.nil _ _ _ _ _⟩, below_grown hg2, hkf2, bC, bD⟩
      (fun y a'' _ => a'' = { tmps := #[p.v, .slice A1 f.length c1, .slice A2 r.length c2, .pointer (some ⟨w.heap.size, 0, none⟩), undef, undef, .slice none 0 0, .pointer (some ⟨w.heap.size + 1, 0, none⟩), .slice D1 l1.length d1, .slice D2 l2.length d2, .pointer (some ⟨W.heap.size, 0, none⟩), .int .u64 y.1.1, .int .u64 y.1.2, .slice A1 f.length c1, .slice A2 r.length c2, .func (.func 116) #[] #[.pointer (some ⟨w.heap.size + 1 + 1, 0, none⟩), .pointer (some ⟨w.heap.size + 1 + 1 + 1, 0, none⟩)], .slice D1 l1.length d1, .slice D2 l2.length d2, .slice D1 l1.length d1, .slice D2 l2.length d2, .func (.func 118) #[] #[.pointer (some ⟨W.heap.size + 1, 0, none⟩), .pointer (some ⟨W.heap.size + 1 + 1, 0, none⟩)], .int .u64 y.1.1, .int .u64 y.1.2, undef, undef, undef, undef, undef, undef, undef, undef, undef, undef, undef, undef, undef], defers := [] })
      (fun _ _ _ _ _ _ hs _ _ => hs)
      ?assign2 ?body2 ?done2 ?stop2
    case assign2 =>
      rintro lq pre' y W' K hi hK
      gi_wp2
      exact hK _ _ (KeepsFrom.refl _ _) (KpAB.refl _ _ _ _) hi rfl
    case body2 =>
      rintro lq pre' ⟨⟨y1, y2⟩, hu1, hu2⟩ a'' W' hl2 _ ⟨⟨u, hbu, hau⟩, hBW, hKF, hbc, hbd⟩ rfl hlt2
      have HY1 : Hid (U64 y1) := Lib.hid hu1
      have HY2 : Hid (U64 y2) := Lib.hid hu2
      obtain ⟨A3, c3, e3, _, _⟩ := hau.sl.form
      rw [List.length_map] at e3
      subst e3
      have HAC := Lib.hid hau
      have HBL := Lib.hid hbu
      have HBC := Lib.hid hbc
      have HBD := Lib.hid hbd
      have HBW := Lib.hid hBW
      have HKF := Lib.hid hKF
      have hltM : W.heap.size < W'.heap.size := hbu.lt
      have hltN : w.heap.size < W'.heap.size := by omega
      have HS0 : Hid (W.heap.size + 3 ≤ W'.heap.size) := Lib.hid (by have := hbd.lt; omega)
      have hpr := (hbp.grown (grown_of_below hBW) (by simp)).prule
      have cU := hbu.cell
      have HCU : Hid (U64 (commitI p (y1, y2))) := Lib.hid (timesI_U64 _ _)
      have HLB : Hid (((pre'.map fun y : UU => commitI p y.1).length + 1) * 8 ≤ 140737488355328) := Lib.hid (by rw [List.length_map]; have := HSM.out; omega)
      clear hau hbc hbd hBW hKF hbu hlt2
      have FIN : ∀ (w3 w4 : World) (A4 : Option Addr) (n4 c4 : Nat), W'.grownBy w3 none → w3.grownBy w4 (Value.slice A3 pre'.length c3).ownBlock → Acc encU (W.heap.size + 3) 22 (fun g => W.heap.size + 3 ≤ g) w3 (.slice A3 pre'.length c3) (pre'.map fun y : UU => commitI p y.1) → Acc encU (W.heap.size + 3) 22 (fun g => W.heap.size + 3 ≤ g) w4 (.slice A4 n4 c4) ((pre'.map fun y : UU => commitI p y.1) ++ [commitI p (y1, y2)]) → Boxed w4 W.heap.size 39 (.slice A3 pre'.length c3) → (fun w5 : World => KeepsFrom W2.heap.size W' w5 ∧ KpAB w.heap.size (W.heap.size + 1) (W.heap.size + 1 + 1) W' w5 ∧ (∃ u, Boxed w5 W.heap.size 39 u ∧ Acc encU (W.heap.size + 3) 22 (fun g => W.heap.size + 3 ≤ g) w5 u ((pre' ++ [(⟨(y1, y2), hu1, hu2⟩ : UU)]).map fun y => commitI p y.1)) ∧ Below W.heap.size W w5 ∧ KeepsFrom W0.heap.size W w5 ∧ Boxed w5 (W.heap.size + 1) 39 (.slice D1 l1.length d1) ∧ Boxed w5 (W.heap.size + 1 + 1) 39 (.slice D2 l2.length d2)) (w4.setCell ⟨W.heap.size, 0, none⟩ (.slice A4 n4 c4)) := by
        intro w3 w4 A4 n4 c4 hG3 hG4 hA3 hA4 hB4
        have hN2 : ∀ k, k < W.heap.size + 3 → some k ≠ (Value.slice A3 pre'.length c3).ownBlock := fun k hk e => by have := (hA3.lt k e.symm).1; omega
        have hN3 : ∀ k, (Value.slice A3 pre'.length c3).ownBlock = some k → W.heap.size + 3 ≤ k := fun k e => (hA3.lt k e).1
        have hK5 : KeepsOthers W' (w4.setCell ⟨W.heap.size, 0, none⟩ (.slice A4 n4 c4)) := ((keeps_none hG3).trans (hA3.keeps hG4)).trans (KeepsOthers.setCell _ _ _)
        have b1 := ((HBC.out.kept hG3 (by simp)).kept hG4 (hN2 _ (by omega))).other (B' := W.heap.size) (by omega) (.slice A4 n4 c4)
        have b2 := ((HBD.out.kept hG3 (by simp)).kept hG4 (hN2 _ (by omega))).other (B' := W.heap.size) (by omega) (.slice A4 n4 c4)
        have hS3 : W'.heap.size ≤ w3.heap.size := hG3.size
        refine ⟨hK5.from _, ⟨(((Below.refl _ W').grown hG3 (by omega) (by simp)).grown hG4 (by omega) (fun k e => by have := hN3 k e; omega)).setCell (p := ⟨W.heap.size, 0, none⟩) hNW _, Eq.trans b1 (Eq.symm HBC.out), Eq.trans b2 (Eq.symm HBD.out)⟩, ⟨_, hB4.set _, ?_⟩, ((HBW.out.grown hG3 (by omega) (by simp)).grown hG4 (by omega) (fun k e => by have := hN3 k e; omega)).setCell (p := ⟨W.heap.size, 0, none⟩) (Nat.le_refl _) _, HKF.out.trans (hK5.from _), b1, b2⟩
        rw [List.map_append]
        exact hA4.keep (grownBy_setCell' w4 W.heap.size _) (fun g hg e => by injection e with e; omega)
      dsimp only
      gi_wp2
      refine wpIn_round_any (l0 := lq) (R := fun _ w5 => KeepsFrom W2.heap.size W' w5 ∧ KpAB w.heap.size (W.heap.size + 1) (W.heap.size + 1 + 1) W' w5 ∧ (∃ u, Boxed w5 W.heap.size 39 u ∧ Acc encU (W.heap.size + 3) 22 (fun g => W.heap.size + 3 ≤ g) w5 u ((pre' ++ [(⟨(y1, y2), hu1, hu2⟩ : UU)]).map fun y => commitI p y.1)) ∧ Below W.heap.size W w5 ∧ KeepsFrom W0.heap.size W w5 ∧ Boxed w5 (W.heap.size + 1) 39 (.slice D1 l1.length d1) ∧ Boxed w5 (W.heap.size + 1 + 1) 39 (.slice D2 l2.length d2)) (by kernel_rfl) (by kernel_rfl) (fun a w h => h) ?_
      refine wpAny_take (i := 2) (oi := ({ dst := some 25, op := Op.move (Operand.tmp 11), type := 22, pos := "pedersen.go:41", after := #[], guard := none } : Oper)) (v := ?vq1) rfl (by kernel_rfl) (by kernel_rfl) (by kernel_rfl) (fun _ _ _ h => h) (Or.inl ⟨by rfl, ?hq1⟩) ?rq1
      case hq1 => (intro w; go_simp; first | done | with_reducible rfl)
      try simp only [Act.put, List.setIfInBounds_toArray, List.set_cons_zero, List.set_cons_succ]
      refine wpAny_take (i := 3) (oi := ({ dst := some 26, op := Op.move (Operand.tmp 12), type := 22, pos := "pedersen.go:41", after := #[], guard := none } : Oper)) (v := ?vq2) rfl (by kernel_rfl) (by kernel_rfl) (by kernel_rfl) (fun _ _ _ h => h) (Or.inl ⟨by rfl, ?hq2⟩) ?rq2
      case hq2 => (intro w; go_simp; first | done | with_reducible rfl)
      try simp only [Act.put, List.setIfInBounds_toArray, List.set_cons_zero, List.set_cons_succ]
      refine wpAny_take (i := 4) (oi := ({ dst := some 27, op := Op.build 70 #[(0, Operand.tmp 25), (1, Operand.tmp 26)], type := 70, pos := "pedersen.go:41", after := #[{ on := 2, ground := Ground.data }, { on := 3, ground := Ground.data }], guard := none } : Oper)) (v := ?vq3) rfl (by kernel_rfl) (by kernel_rfl) (by kernel_rfl) (fun _ _ _ h => h) (Or.inl ⟨by rfl, ?hq3⟩) ?rq3
      case hq3 => (intro w; go_simp; first | done | with_reducible rfl)
      try simp only [Act.put, List.setIfInBounds_toArray, List.set_cons_zero, List.set_cons_succ]
      refine wpAny_ready (rs := [0, 1]) (by kernel_rfl) (by simp) ?_
      refine AllReady.cons (o := ({ dst := some 23, op := Op.load 39 (Operand.tmp 10), type := 39, pos := "pedersen.go:41", after := #[], guard := none } : Oper)) rfl (fun K hK => ?_) ?_
      · skip
        go_simp
        refine hK _ _ ?_
        clear hK K
        try simp only [Act.put, List.setIfInBounds_toArray, List.set_cons_zero, List.set_cons_succ]
        refine wpAny_ready (rs := [1]) (by kernel_rfl) (by simp) ?_
        refine AllReady.cons (o := ({ dst := some 24, op := Op.load 24 (Operand.tmp 3), type := 24, pos := "pedersen.go:41", after := #[], guard := none } : Oper)) rfl (fun K hK => ?_) AllReady.nil
        go_simp
        refine hK _ _ ?_
        clear hK K
        try simp only [Act.put, List.setIfInBounds_toArray, List.set_cons_zero, List.set_cons_succ]
        refine wpAny_ready (rs := [5]) (by kernel_rfl) (by simp) ?_
        refine AllReady.cons (o := ({ dst := some 28, op := Op.call { callee := Callee.value (Operand.func 82), args := #[Operand.tmp 24, Operand.tmp 27], argTypes := #[24, 70] }, type := 22, pos := "pedersen.go:41", after := #[{ on := 1, ground := Ground.data }, { on := 4, ground := Ground.data }], guard := none } : Oper)) rfl (fun K hK => ?_) AllReady.nil
        go_simp
        (go_at_call 82; (with_reducible refine (commit_any p (y1, y2) _ HP.out HY1.out HY2.out).mono ?_); rintro e w3 ⟨rfl, hg3⟩)
        have HG3 : Hid (W'.grownBy w3 none) := Lib.hid ((grown_drewN' W' 1).trans hg3)
        have HA3 := Lib.hid (HAC.out.kept HG3.out)
        have HB3 := Lib.hid (HBL.out.kept HG3.out (by simp))
        have HSZ : Hid (W.heap.size + 3 ≤ w3.heap.size) := Lib.hid (Nat.le_trans HS0.out HG3.out.size)
        have HNX : Hid (∀ g, w3.heap.size ≤ g → W.heap.size + 3 ≤ g) := Lib.hid (fun g hg => Nat.le_trans HSZ.out hg)
        have HNE : Hid (some W.heap.size ≠ (Value.slice A3 pre'.length c3).ownBlock) := Lib.hid (fun e => by have := (HA3.out.lt _ e.symm).1; omega)
        have hc3 := HB3.out.cell
        have hc3a := (HB3.out.alloc (.cells #[.int .u64 (commitI p (y1, y2))] 22)).cell
        clear hg3
        dsimp only
        refine hK _ _ ?_
        clear hK K
        try simp only [Act.put, List.setIfInBounds_toArray, List.set_cons_zero, List.set_cons_succ]
        refine wpAny_ready (rs := [6]) (by kernel_rfl) (by simp) ?_
        refine AllReady.cons (o := ({ dst := some 29, op := Op.buildSlice 39 1 #[(0, Operand.tmp 28)], type := 39, pos := "pedersen.go:41", after := #[{ on := 5, ground := Ground.data }], guard := none } : Oper)) rfl (fun K hK => ?_) AllReady.nil
        go_simp
        refine hK _ _ ?_
        clear hK K
        try simp only [Act.put, List.setIfInBounds_toArray, List.set_cons_zero, List.set_cons_succ]
        refine wpAny_ready (rs := [7]) (by kernel_rfl) (by simp) ?_
        refine AllReady.cons (o := ({ dst := some 30, op := Op.call { callee := Callee.builtin Builtin.append, args := #[Operand.tmp 23, Operand.tmp 29], argTypes := #[39, 39] }, type := 39, pos := "pedersen.go:41", after := #[{ on := 0, ground := Ground.data }, { on := 6, ground := Ground.data }, { on := 5, ground := Ground.chain }], guard := none } : Oper)) rfl (fun K hK => ?_) AllReady.nil
        refine step_push rfl (.tmp 23) (.tmp 29) rfl (E := encU) (y := commitI p (y1, y2)) el_u64 HA3.out rfl rfl ⟨rfl, HCU.out⟩ HLB.out HSZ.out HNX.out ?_
        intro v4 w4 hacc4 hg4 _
        obtain ⟨A4, c4, e4, _, _⟩ := hacc4.sl.form
        generalize (List.map (fun y : UU => commitI p y.1) pre' ++ [commitI p (y1, y2)]).length = n4 at e4
        subst e4
        have HA4 := Lib.hid hacc4
        have HG4 := Lib.hid hg4
        have hB4 := HB3.out.kept HG4.out HNE.out
        have cB4 := hB4.cell
        have fB4 := hB4.frozen
        have HB4 := Lib.hid hB4
        clear hacc4 hg4 hB4
        refine hK _ _ ?_
        clear hK K
        try simp only [Act.put, List.setIfInBounds_toArray, List.set_cons_zero, List.set_cons_succ]
        refine wpAny_ready (rs := [8]) (by kernel_rfl) (by simp) ?_
        refine AllReady.cons (o := ({ dst := none, op := Op.store 39 (Operand.tmp 10) (Operand.tmp 30), type := 0, pos := "pedersen.go:41", after := #[{ on := 7, ground := Ground.data }, { on := 7, ground := Ground.chain }, { on := 0, ground := Ground.phase }, { on := 1, ground := Ground.phase }, { on := 2, ground := Ground.phase }, { on := 3, ground := Ground.phase }, { on := 4, ground := Ground.phase }, { on := 5, ground := Ground.phase }, { on := 6, ground := Ground.phase }, { on := 7, ground := Ground.phase }], guard := none } : Oper)) rfl (fun K hK => ?_) AllReady.nil
        go_simp
        refine hK _ _ ?_
        clear hK K
        try simp only [Act.put, List.setIfInBounds_toArray, List.set_cons_zero, List.set_cons_succ]
        refine wpAny_done (by kernel_rfl) ?_ _
        exact ⟨rfl, FIN w3 w4 A4 n4 c4 HG3.out HG4.out HA3.out HA4.out HB4.out⟩
      refine AllReady.cons (o := ({ dst := some 24, op := Op.load 24 (Operand.tmp 3), type := 24, pos := "pedersen.go:41", after := #[], guard := none } : Oper)) rfl (fun K hK => ?_) AllReady.nil
      go_simp
      refine hK _ _ ?_
      clear hK K
      try simp only [Act.put, List.setIfInBounds_toArray, List.set_cons_zero, List.set_cons_succ]
      refine wpAny_ready (rs := [0, 5]) (by kernel_rfl) (by simp) ?_
      refine AllReady.cons (o := ({ dst := some 23, op := Op.load 39 (Operand.tmp 10), type := 39, pos := "pedersen.go:41", after := #[], guard := none } : Oper)) rfl (fun K hK => ?_) ?_
      · skip
        go_simp
        refine hK _ _ ?_
        clear hK K
        try simp only [Act.put, List.setIfInBounds_toArray, List.set_cons_zero, List.set_cons_succ]
        refine wpAny_ready (rs := [5]) (by kernel_rfl) (by simp) ?_
        refine AllReady.cons (o := ({ dst := some 28, op := Op.call { callee := Callee.value (Operand.func 82), args := #[Operand.tmp 24, Operand.tmp 27], argTypes := #[24, 70] }, type := 22, pos := "pedersen.go:41", after := #[{ on := 1, ground := Ground.data }, { on := 4, ground := Ground.data }], guard := none } : Oper)) rfl (fun K hK => ?_) AllReady.nil
        go_simp
        (go_at_call 82; (with_reducible refine (commit_any p (y1, y2) _ HP.out HY1.out HY2.out).mono ?_); rintro e w3 ⟨rfl, hg3⟩)
        have HG3 : Hid (W'.grownBy w3 none) := Lib.hid ((grown_drewN' W' 1).trans hg3)
        have HA3 := Lib.hid (HAC.out.kept HG3.out)
        have HB3 := Lib.hid (HBL.out.kept HG3.out (by simp))
        have HSZ : Hid (W.heap.size + 3 ≤ w3.heap.size) := Lib.hid (Nat.le_trans HS0.out HG3.out.size)
        have HNX : Hid (∀ g, w3.heap.size ≤ g → W.heap.size + 3 ≤ g) := Lib.hid (fun g hg => Nat.le_trans HSZ.out hg)
        have HNE : Hid (some W.heap.size ≠ (Value.slice A3 pre'.length c3).ownBlock) := Lib.hid (fun e => by have := (HA3.out.lt _ e.symm).1; omega)
        have hc3 := HB3.out.cell
        have hc3a := (HB3.out.alloc (.cells #[.int .u64 (commitI p (y1, y2))] 22)).cell
        clear hg3
        dsimp only
        refine hK _ _ ?_
        clear hK K
        try simp only [Act.put, List.setIfInBounds_toArray, List.set_cons_zero, List.set_cons_succ]
        refine wpAny_ready (rs := [6]) (by kernel_rfl) (by simp) ?_
        refine AllReady.cons (o := ({ dst := some 29, op := Op.buildSlice 39 1 #[(0, Operand.tmp 28)], type := 39, pos := "pedersen.go:41", after := #[{ on := 5, ground := Ground.data }], guard := none } : Oper)) rfl (fun K hK => ?_) AllReady.nil
        go_simp
        refine hK _ _ ?_
        clear hK K
        try simp only [Act.put, List.setIfInBounds_toArray, List.set_cons_zero, List.set_cons_succ]
        refine wpAny_ready (rs := [7]) (by kernel_rfl) (by simp) ?_
        refine AllReady.cons (o := ({ dst := some 30, op := Op.call { callee := Callee.builtin Builtin.append, args := #[Operand.tmp 23, Operand.tmp 29], argTypes := #[39, 39] }, type := 39, pos := "pedersen.go:41", after := #[{ on := 0, ground := Ground.data }, { on := 6, ground := Ground.data }, { on := 5, ground := Ground.chain }], guard := none } : Oper)) rfl (fun K hK => ?_) AllReady.nil
        refine step_push rfl (.tmp 23) (.tmp 29) rfl (E := encU) (y := commitI p (y1, y2)) el_u64 HA3.out rfl rfl ⟨rfl, HCU.out⟩ HLB.out HSZ.out HNX.out ?_
        intro v4 w4 hacc4 hg4 _
        obtain ⟨A4, c4, e4, _, _⟩ := hacc4.sl.form
        generalize (List.map (fun y : UU => commitI p y.1) pre' ++ [commitI p (y1, y2)]).length = n4 at e4
        subst e4
        have HA4 := Lib.hid hacc4
        have HG4 := Lib.hid hg4
        have hB4 := HB3.out.kept HG4.out HNE.out
        have cB4 := hB4.cell
        have fB4 := hB4.frozen
        have HB4 := Lib.hid hB4
        clear hacc4 hg4 hB4
        refine hK _ _ ?_
        clear hK K
        try simp only [Act.put, List.setIfInBounds_toArray, List.set_cons_zero, List.set_cons_succ]
        refine wpAny_ready (rs := [8]) (by kernel_rfl) (by simp) ?_
        refine AllReady.cons (o := ({ dst := none, op := Op.store 39 (Operand.tmp 10) (Operand.tmp 30), type := 0, pos := "pedersen.go:41", after := #[{ on := 7, ground := Ground.data }, { on := 7, ground := Ground.chain }, { on := 0, ground := Ground.phase }, { on := 1, ground := Ground.phase }, { on := 2, ground := Ground.phase }, { on := 3, ground := Ground.phase }, { on := 4, ground := Ground.phase }, { on := 5, ground := Ground.phase }, { on := 6, ground := Ground.phase }, { on := 7, ground := Ground.phase }], guard := none } : Oper)) rfl (fun K hK => ?_) AllReady.nil
        go_simp
        refine hK _ _ ?_
        clear hK K
        try simp only [Act.put, List.setIfInBounds_toArray, List.set_cons_zero, List.set_cons_succ]
        refine wpAny_done (by kernel_rfl) ?_ _
        exact ⟨rfl, FIN w3 w4 A4 n4 c4 HG3.out HG4.out HA3.out HA4.out HB4.out⟩
      refine AllReady.cons (o := ({ dst := some 28, op := Op.call { callee := Callee.value (Operand.func 82), args := #[Operand.tmp 24, Operand.tmp 27], argTypes := #[24, 70] }, type := 22, pos := "pedersen.go:41", after := #[{ on := 1, ground := Ground.data }, { on := 4, ground := Ground.data }], guard := none } : Oper)) rfl (fun K hK => ?_) AllReady.nil
      go_simp
      (go_at_call 82; (with_reducible refine (commit_any p (y1, y2) _ HP.out HY1.out HY2.out).mono ?_); rintro e w3 ⟨rfl, hg3⟩)
      have HG3 : Hid (W'.grownBy w3 none) := Lib.hid ((grown_drewN' W' 1).trans hg3)
      have HA3 := Lib.hid (HAC.out.kept HG3.out)
      have HB3 := Lib.hid (HBL.out.kept HG3.out (by simp))
      have HSZ : Hid (W.heap.size + 3 ≤ w3.heap.size) := Lib.hid (Nat.le_trans HS0.out HG3.out.size)
      have HNX : Hid (∀ g, w3.heap.size ≤ g → W.heap.size + 3 ≤ g) := Lib.hid (fun g hg => Nat.le_trans HSZ.out hg)
      have HNE : Hid (some W.heap.size ≠ (Value.slice A3 pre'.length c3).ownBlock) := Lib.hid (fun e => by have := (HA3.out.lt _ e.symm).1; omega)
      have hc3 := HB3.out.cell
      have hc3a := (HB3.out.alloc (.cells #[.int .u64 (commitI p (y1, y2))] 22)).cell
      clear hg3
      dsimp only
      refine hK _ _ ?_
      clear hK K
      try simp only [Act.put, List.setIfInBounds_toArray, List.set_cons_zero, List.set_cons_succ]
      refine wpAny_ready (rs := [0, 6]) (by kernel_rfl) (by simp) ?_
      refine AllReady.cons (o := ({ dst := some 23, op := Op.load 39 (Operand.tmp 10), type := 39, pos := "pedersen.go:41", after := #[], guard := none } : Oper)) rfl (fun K hK => ?_) ?_
      · skip
        go_simp
        refine hK _ _ ?_
        clear hK K
        try simp only [Act.put, List.setIfInBounds_toArray, List.set_cons_zero, List.set_cons_succ]
        refine wpAny_ready (rs := [6]) (by kernel_rfl) (by simp) ?_
        refine AllReady.cons (o := ({ dst := some 29, op := Op.buildSlice 39 1 #[(0, Operand.tmp 28)], type := 39, pos := "pedersen.go:41", after := #[{ on := 5, ground := Ground.data }], guard := none } : Oper)) rfl (fun K hK => ?_) AllReady.nil
        go_simp
        refine hK _ _ ?_
        clear hK K
        try simp only [Act.put, List.setIfInBounds_toArray, List.set_cons_zero, List.set_cons_succ]
        refine wpAny_ready (rs := [7]) (by kernel_rfl) (by simp) ?_
        refine AllReady.cons (o := ({ dst := some 30, op := Op.call { callee := Callee.builtin Builtin.append, args := #[Operand.tmp 23, Operand.tmp 29], argTypes := #[39, 39] }, type := 39, pos := "pedersen.go:41", after := #[{ on := 0, ground := Ground.data }, { on := 6, ground := Ground.data }, { on := 5, ground := Ground.chain }], guard := none } : Oper)) rfl (fun K hK => ?_) AllReady.nil
        refine step_push rfl (.tmp 23) (.tmp 29) rfl (E := encU) (y := commitI p (y1, y2)) el_u64 HA3.out rfl rfl ⟨rfl, HCU.out⟩ HLB.out HSZ.out HNX.out ?_
        intro v4 w4 hacc4 hg4 _
        obtain ⟨A4, c4, e4, _, _⟩ := hacc4.sl.form
        generalize (List.map (fun y : UU => commitI p y.1) pre' ++ [commitI p (y1, y2)]).length = n4 at e4
        subst e4
        have HA4 := Lib.hid hacc4
        have HG4 := Lib.hid hg4
        have hB4 := HB3.out.kept HG4.out HNE.out
        have cB4 := hB4.cell
        have fB4 := hB4.frozen
        have HB4 := Lib.hid hB4
        clear hacc4 hg4 hB4
        refine hK _ _ ?_
        clear hK K
        try simp only [Act.put, List.setIfInBounds_toArray, List.set_cons_zero, List.set_cons_succ]
        refine wpAny_ready (rs := [8]) (by kernel_rfl) (by simp) ?_
        refine AllReady.cons (o := ({ dst := none, op := Op.store 39 (Operand.tmp 10) (Operand.tmp 30), type := 0, pos := "pedersen.go:41", after := #[{ on := 7, ground := Ground.data }, { on := 7, ground := Ground.chain }, { on := 0, ground := Ground.phase }, { on := 1, ground := Ground.phase }, { on := 2, ground := Ground.phase }, { on := 3, ground := Ground.phase }, { on := 4, ground := Ground.phase }, { on := 5, ground := Ground.phase }, { on := 6, ground := Ground.phase }, { on := 7, ground := Ground.phase }], guard := none } : Oper)) rfl (fun K hK => ?_) AllReady.nil
        go_simp
        refine hK _ _ ?_
        clear hK K
        try simp only [Act.put, List.setIfInBounds_toArray, List.set_cons_zero, List.set_cons_succ]
        refine wpAny_done (by kernel_rfl) ?_ _
        exact ⟨rfl, FIN w3 w4 A4 n4 c4 HG3.out HG4.out HA3.out HA4.out HB4.out⟩
      refine AllReady.cons (o := ({ dst := some 29, op := Op.buildSlice 39 1 #[(0, Operand.tmp 28)], type := 39, pos := "pedersen.go:41", after := #[{ on := 5, ground := Ground.data }], guard := none } : Oper)) rfl (fun K hK => ?_) AllReady.nil
      go_simp
      refine hK _ _ ?_
      clear hK K
      try simp only [Act.put, List.setIfInBounds_toArray, List.set_cons_zero, List.set_cons_succ]
      refine wpAny_ready (rs := [0]) (by kernel_rfl) (by simp) ?_
      refine AllReady.cons (o := ({ dst := some 23, op := Op.load 39 (Operand.tmp 10), type := 39, pos := "pedersen.go:41", after := #[], guard := none } : Oper)) rfl (fun K hK => ?_) AllReady.nil
      go_simp
      refine hK _ _ ?_
      clear hK K
      try simp only [Act.put, List.setIfInBounds_toArray, List.set_cons_zero, List.set_cons_succ]
      refine wpAny_ready (rs := [7]) (by kernel_rfl) (by simp) ?_
      refine AllReady.cons (o := ({ dst := some 30, op := Op.call { callee := Callee.builtin Builtin.append, args := #[Operand.tmp 23, Operand.tmp 29], argTypes := #[39, 39] }, type := 39, pos := "pedersen.go:41", after := #[{ on := 0, ground := Ground.data }, { on := 6, ground := Ground.data }, { on := 5, ground := Ground.chain }], guard := none } : Oper)) rfl (fun K hK => ?_) AllReady.nil
      refine step_push rfl (.tmp 23) (.tmp 29) rfl (E := encU) (y := commitI p (y1, y2)) el_u64 HA3.out rfl rfl ⟨rfl, HCU.out⟩ HLB.out HSZ.out HNX.out ?_
      intro v4 w4 hacc4 hg4 _
      obtain ⟨A4, c4, e4, _, _⟩ := hacc4.sl.form
      generalize (List.map (fun y : UU => commitI p y.1) pre' ++ [commitI p (y1, y2)]).length = n4 at e4
      subst e4
      have HA4 := Lib.hid hacc4
      have HG4 := Lib.hid hg4
      have hB4 := HB3.out.kept HG4.out HNE.out
      have cB4 := hB4.cell
      have fB4 := hB4.frozen
      have HB4 := Lib.hid hB4
      clear hacc4 hg4 hB4
      refine hK _ _ ?_
      clear hK K
      try simp only [Act.put, List.setIfInBounds_toArray, List.set_cons_zero, List.set_cons_succ]
      refine wpAny_ready (rs := [8]) (by kernel_rfl) (by simp) ?_
      refine AllReady.cons (o := ({ dst := none, op := Op.store 39 (Operand.tmp 10) (Operand.tmp 30), type := 0, pos := "pedersen.go:41", after := #[{ on := 7, ground := Ground.data }, { on := 7, ground := Ground.chain }, { on := 0, ground := Ground.phase }, { on := 1, ground := Ground.phase }, { on := 2, ground := Ground.phase }, { on := 3, ground := Ground.phase }, { on := 4, ground := Ground.phase }, { on := 5, ground := Ground.phase }, { on := 6, ground := Ground.phase }, { on := 7, ground := Ground.phase }], guard := none } : Oper)) rfl (fun K hK => ?_) AllReady.nil
      go_simp
      refine hK _ _ ?_
      clear hK K
      try simp only [Act.put, List.setIfInBounds_toArray, List.set_cons_zero, List.set_cons_succ]
      refine wpAny_done (by kernel_rfl) ?_ _
      exact ⟨rfl, FIN w3 w4 A4 n4 c4 HG3.out HG4.out HA3.out HA4.out HB4.out⟩
    case done2 =>
      rintro ys' W' hys ⟨⟨u, hbu, hau⟩, hBW, hKF, hbc, hbd⟩
      rw [map_val_commit p hys] at hau
      obtain ⟨A3, c3, e3, _, _⟩ := hau.sl.form
      rw [List.length_map] at e3
      subst e3
      obtain ⟨A5, c5, e5, _, _⟩ := hao.sl.form
      rw [List.length_map] at e5
      subst e5
      have hG := grown_of_below hBW
      have HG := Lib.hid hG
      have hbo' := hbo.kept hG (by simp)
      have HAO := Lib.hid (hao.kept hG)
      have HBO := Lib.hid hbo'
      have HLT := Lib.hid hao.lt
      have cO := hbo'.cell
      have cU := hbu.cell
      have hMN : w.heap.size + 4 ≤ W.heap.size := by have := hbb.lt; omega
      have HU : Hid (Sl encU (fun g => w.heap.size + 4 ≤ g ∧ some g ≠ (Value.slice A5 pre.length c5).ownBlock) W' (.slice A3 (zipU l1 l2).length c3) (comI p (l1, l2))) := Lib.hid (hau.sl.more (fun g _ hg => ⟨by omega, fun e => by have := (HLT.out g e.symm).2; omega⟩))
      have HLB : Hid (((pre.map fun x : SS encU X w small1 => comI p x.lists).length + 1) * 24 ≤ 140737488355328) := Lib.hid (by rw [List.length_map]; have := HPL.out; omega)
      have HSZ : Hid (w.heap.size + 4 ≤ W'.heap.size) := Lib.hid (by have := hG.size; omega)
      have HNX : Hid (∀ g, W'.heap.size ≤ g → w.heap.size + 4 ≤ g) := Lib.hid (fun g hg => Nat.le_trans HSZ.out hg)
      have HKF := Lib.hid hKF
      have HBW := Lib.hid hBW
      have HNE : Hid (some (w.heap.size + 1) ≠ (Value.slice A5 pre.length c5).ownBlock) := Lib.hid (fun e => by have := (HAO.out.lt _ e.symm).1; omega)
      clear hau hao hbo' hBW hKF hbc hbd
      gi_wp2_with (gi_at_builtin; refine wpListIn_push rfl (.tmp 31) (.tmp 33) rfl (E := encS encU) (y := comI p (l1, l2)) el_nums HAO.out rfl rfl ⟨_, rfl, HU.out⟩ HLB.out HSZ.out HNX.out ?_)
      intro v4 w4 hacc4 hg4 _
      obtain ⟨A4, c4, e4, _, _⟩ := hacc4.sl.form
      generalize (List.map (fun x : SS encU X w small1 => comI p x.lists) pre ++ [comI p (l1, l2)]).length = n4 at e4
      subst e4
      have HA4 := Lib.hid hacc4
      have HG4 := Lib.hid hg4
      have hB4 := HBO.out.kept HG4.out HNE.out
      have cB4 := hB4.cell
      have fB4 := hB4.frozen
      have HB4 := Lib.hid hB4
      clear hacc4 hg4 hB4
      gi_wp2
      have hN2 : ∀ k, k < w.heap.size + 4 → some k ≠ (Value.slice A5 pre.length c5).ownBlock := fun k hk e => by have := (HAO.out.lt k e.symm).1; omega
      have hN3 : ∀ k, (Value.slice A5 pre.length c5).ownBlock = some k → w.heap.size + 4 ≤ k := fun k e => (HAO.out.lt k e).1
      have hK5 : KeepsFrom W0.heap.size W (w4.setCell ⟨w.heap.size + 1, 0, none⟩ (.slice A4 n4 c4)) := HKF.out.trans ((HAO.out.keeps HG4.out).trans (KeepsOthers.setCell _ _ _) |>.from _)
      have b1 := ((hba.kept HG.out (by simp)).kept HG4.out (hN2 _ (by omega))).other (B' := w.heap.size + 1) (by omega) (.slice A4 n4 c4)
      have b2 := ((hbb.kept HG.out (by simp)).kept HG4.out (hN2 _ (by omega))).other (B' := w.heap.size + 1) (by omega) (.slice A4 n4 c4)
      have hS3 : W.heap.size ≤ W'.heap.size := HG.out.size
      refine ⟨hK5, ⟨(((Below.refl _ W).grown HG.out (by omega) (by simp)).grown HG4.out (by omega) (fun k e => by have := hN3 k e; omega)).setCell (p := ⟨w.heap.size + 1, 0, none⟩) (by simp) _, Eq.trans b1 (Eq.symm hba), Eq.trans b2 (Eq.symm hbb)⟩, ⟨_, HB4.out.set _, ?_⟩, ?_, ((hbl.grown HG.out (by omega) (by simp)).grown HG4.out (by omega) (fun k e => by have := hN3 k e; omega)).setCell (p := ⟨w.heap.size + 1, 0, none⟩) (by simp) _, b1, b2⟩
      · rw [List.map_append]
        exact HA4.out.keep (grownBy_setCell' w4 (w.heap.size + 1) _) (fun g hg e => by injection e with e; omega)
      · exact ((hbp.grown HG.out (by simp)).grown HG4.out (hN2 _ (by omega))).grown (grownBy_setCell' w4 (w.heap.size + 1) _) (fun e => by injection e with e; omega)
    case stop2 =>
      rintro c pre' W' _ h
      exact h.elim
  case done =>
    rintro D zs W hD hzs ⟨⟨v, hbo, hao⟩, hbp, hbl, hba, hbb⟩ hK
    have cO := hbo.cell
    rw [map_lists_com p hzs] at hao
    obtain ⟨A3, c3, e3, _, _⟩ := hao.sl.form
    rw [List.length_map] at e3
    subst e3
    gi_wp2
    refine ⟨by simp, .inl ⟨_, _, rfl, run_takeDeferred hK, ?_⟩⟩
    refine ⟨_, results_tmp rfl _ _ _, .slice A3 (zipS f r).length c3, rfl, ?_, ?_⟩
    · exact (hao.sl.keepc (grownBy_putObj' W D _) (fun r e => ⟨.deferred (some []), by cases e; exact hK, rfl⟩)).more (Y := fun g => w.heap.size ≤ g) (fun g _ h => Nat.le_trans (Nat.le_add_right _ 4) h)
    · exact grown_of_below (hbl.trans (belowK_b (w := w) (Nat.le_refl _) W D _ _ (by omega) hK rfl rfl))
  case stop =>
    rintro D c pre W _ _ h _
    exact h.elim
end Go.Proofs.YtiimippmihkgcaaGreatDoor

namespace Go.Proofs.YtiimippmihkgcaaGreatDoor
open Go Go.RowKit Go.Shelf

attribute [local go_sem] Oper.semAt_some
/-- The product of numbers modulo q. -/
def prodI (q : Int) (l : List Int) : Int := l.foldl (fun s y => mulI s y q) (1 % q)
theorem prodI_snoc (q : Int) (l : List Int) (y : Int) : prodI q (l ++ [y]) = mulI (prodI q l) y q := by simp [prodI]
open Classical in
/-- What share tells. -/
noncomputable def shareV (q : Int) (xs : List Int) (i : Nat) (at_ : Int) : Value :=
  if HasInv (prodI q ((othersI q xs i at_).map (·.1))) q then .tuple #[.int .u64 (invI (prodI q ((othersI q xs i at_).map (·.1))) q), .int .u64 (prodI q ((othersI q xs i at_).map (·.2))), .int .i64 0]
  else .tuple #[.int .u64 0, .int .u64 (prodI q ((othersI q xs i at_).map (·.2))), .int .i64 5]
/-- Two new boxes. -/
def TwoB (w wx : World) (q : Int) (B1 B2 : Nat) : Prop := w.heap.size < B1 ∧ w.heap.size < B2 ∧ B1 ≠ B2 ∧ Boxed wx w.heap.size 22 (.int .u64 q) ∧ Boxed wx B1 22 (.int .u64 (1 % q)) ∧ Boxed wx B2 22 (.int .u64 (1 % q)) ∧ w.grownBy wx none
theorem prodI_fold (q : Int) (hq : mayB q = true) : ∀ (l : List Int) (s : Int), 0 ≤ s ∧ s < q → 0 ≤ l.foldl (fun s y => mulI s y q) s ∧ l.foldl (fun s y => mulI s y q) s < q
  | [], _, h => h
  | y :: l, s, _ => prodI_fold q hq l _ (mulI_bd s y q hq)
theorem prodI_bd (q : Int) (hq : mayB q = true) (l : List Int) : 0 ≤ prodI q l ∧ prodI q l < q := by
  refine prodI_fold q hq l _ ?_
  simp [mayB] at hq
  exact emod_bd 1 q hq.1
theorem prodI_U64 (q : Int) (hq : mayB q = true) (l : List Int) : U64 (prodI q l) := by
  have h := prodI_bd q hq l
  simp [mayB] at hq
  exact ⟨h.1, by omega⟩
/-- The four boxes of others. -/
theorem four_boxes (w : World) (t1 t2 t3 t4 : TypeId) (v1 v2 v3 v4 : Value) (W0 : World) (h : W0 = (((w.alloc (.cells #[v1] t1)).alloc (.cells #[v2] t2)).alloc (.cells #[v3] t3)).alloc (.cells #[v4] t4)) :
    Boxed W0 w.heap.size t1 v1 ∧ Boxed W0 (w.heap.size + 1) t2 v2 ∧ Boxed W0 (w.heap.size + 1 + 1) t3 v3 ∧ Boxed W0 (w.heap.size + 1 + 1 + 1) t4 v4 ∧ w.grownBy W0 none ∧ W0.heap.size = w.heap.size + 1 + 1 + 1 + 1 := by
  subst h
  have b2 := ((Boxed.new (w.alloc (.cells #[v1] t1)) t2 v2).alloc (.cells #[v3] t3)).alloc (.cells #[v4] t4)
  have b3 := (Boxed.new ((w.alloc (.cells #[v1] t1)).alloc (.cells #[v2] t2)) t3 v3).alloc (.cells #[v4] t4)
  have b4 := Boxed.new (((w.alloc (.cells #[v1] t1)).alloc (.cells #[v2] t2)).alloc (.cells #[v3] t3)) t4 v4
  simp only [World.size_alloc] at b2 b3 b4
  exact ⟨(((Boxed.new w t1 v1).alloc _).alloc _).alloc _, b2, b3, b4, (((World.grownBy_alloc w _ none).trans (World.grownBy_alloc _ _ none)).trans (World.grownBy_alloc _ _ none)).trans (World.grownBy_alloc _ _ none), by simp⟩
/-- The round of share: what it was begun with. -/
structure ShE where
  w : World
  W0 : World
  W : World
  q : Int
  p1 : Int
  p2 : Int
  p1' : Int
  p2' : Int
  B1 : Nat
  B2 : Nat
  C1 : Nat
  C2 : Nat
  C3 : Nat
  C4 : Nat
structure ShE.Ok (e : ShE) : Prop where
  b1 : e.w.heap.size < e.B1
  b2 : e.w.heap.size < e.B2
  b12 : e.B1 ≠ e.B2
  c1 : e.B1 < e.C1 ∧ e.B2 < e.C1 ∧ e.C1 < e.W0.heap.size
  c2 : e.B1 < e.C2 ∧ e.B2 < e.C2 ∧ e.C2 < e.W0.heap.size
  c3 : e.B1 < e.C3 ∧ e.B2 < e.C3 ∧ e.C3 < e.W0.heap.size
  c4 : e.B1 < e.C4 ∧ e.B2 < e.C4 ∧ e.C4 < e.W0.heap.size
/-- Where the world stands, by what was written. -/
structure ShE.At (e : ShE) (x y : Bool) (V : World) : Prop where
  q : Boxed V e.w.heap.size 22 (.int .u64 e.q)
  one : Boxed V e.B1 22 (.int .u64 (if x then e.p1' else e.p1))
  two : Boxed V e.B2 22 (.int .u64 (if y then e.p2' else e.p2))
  from' : KeepsFrom e.W0.heap.size e.W V
  kp : Kp4 e.w.heap.size e.C1 e.C2 e.C3 e.C4 e.W V
  bl : Below e.w.heap.size e.w V
  sz : e.W0.heap.size ≤ V.heap.size
theorem ShE.At.grown {e : ShE} (k : e.Ok) {x y : Bool} {V V' : World} (h : e.At x y V) (hg : V.grownBy V' none) : e.At x y V' := by
  have h1 := k.c1
  have h2 := k.c2
  have h3 := k.c3
  have h4 := k.c4
  have h5 := h.sz
  have h6 := k.b1
  exact ⟨h.q.kept hg (by simp), h.one.kept hg (by simp), h.two.kept hg (by simp), h.from'.trans ((keeps_none hg).from _), h.kp.trans (Kp4.grown hg (by omega) (by omega) (by omega) (by omega) (by omega)), h.bl.trans ((below_grown hg).mono (by omega)), Nat.le_trans h.sz hg.size⟩
theorem ShE.At.set1 {e : ShE} (k : e.Ok) {x y : Bool} {V : World} (h : e.At x y V) : e.At true y (V.setCell ⟨e.B1, 0, none⟩ (.int .u64 e.p1')) := by
  have h1 := k.c1
  have h2 := k.c2
  have h3 := k.c3
  have h4 := k.c4
  have h6 := k.b1
  have h7 := k.b12
  exact ⟨h.q.other (by omega) _, h.one.set _, h.two.other (by omega) _, h.from'.trans ((KeepsOthers.setCell _ _ _).from _), h.kp.trans ⟨(Below.refl _ V).setCell (p := ⟨e.B1, 0, none⟩) (by simp; omega) _, Below.heap_setCell V _ _ _ (by simp; omega), Below.heap_setCell V _ _ _ (by simp; omega), Below.heap_setCell V _ _ _ (by simp; omega), Below.heap_setCell V _ _ _ (by simp; omega)⟩, h.bl.setCell (p := ⟨e.B1, 0, none⟩) (by simp; omega) _, by have := h.sz; simp; omega⟩
theorem ShE.At.set2 {e : ShE} (k : e.Ok) {x y : Bool} {V : World} (h : e.At x y V) : e.At x true (V.setCell ⟨e.B2, 0, none⟩ (.int .u64 e.p2')) := by
  have h1 := k.c1
  have h2 := k.c2
  have h3 := k.c3
  have h4 := k.c4
  have h6 := k.b2
  have h7 := k.b12
  exact ⟨h.q.other (by omega) _, h.one.other (by omega) _, h.two.set _, h.from'.trans ((KeepsOthers.setCell _ _ _).from _), h.kp.trans ⟨(Below.refl _ V).setCell (p := ⟨e.B2, 0, none⟩) (by simp; omega) _, Below.heap_setCell V _ _ _ (by simp; omega), Below.heap_setCell V _ _ _ (by simp; omega), Below.heap_setCell V _ _ _ (by simp; omega), Below.heap_setCell V _ _ _ (by simp; omega)⟩, h.bl.setCell (p := ⟨e.B2, 0, none⟩) (by simp; omega) _, by have := h.sz; simp; omega⟩
/-- .. told by what was listed. -/
def ShE.C (e : ShE) (D : Array Bool) (V : World) : Prop := e.At (D.getD 8 false) (D.getD 9 false) V
theorem ShE.C.grown {e : ShE} (k : e.Ok) {D : Array Bool} {V V' : World} (h : e.C D V) (hg : V.grownBy V' none) (i : Nat) (h8 : i ≠ 8) (h9 : i ≠ 9) : e.C (D.setIfInBounds i true) V' := by
  unfold ShE.C
  rw [getD_set_ne false h8, getD_set_ne false h9]
  exact ShE.At.grown k h hg
theorem ShE.C.set1 {e : ShE} (k : e.Ok) {D : Array Bool} {V : World} (h : e.C D V) (hs : D.size = 10) : e.C (D.setIfInBounds 8 true) (V.setCell ⟨e.B1, 0, none⟩ (.int .u64 e.p1')) := by
  unfold ShE.C
  rw [getD_set_ne false (show 8 ≠ 9 by omega), show (D.setIfInBounds 8 true).getD 8 false = true by simp [hs]]
  exact ShE.At.set1 k h
theorem ShE.C.set2 {e : ShE} (k : e.Ok) {D : Array Bool} {V : World} (h : e.C D V) (hs : D.size = 10) : e.C (D.setIfInBounds 9 true) (V.setCell ⟨e.B2, 0, none⟩ (.int .u64 e.p2')) := by
  unfold ShE.C
  rw [getD_set_ne false (show 9 ≠ 8 by omega), show (D.setIfInBounds 9 true).getD 9 false = true by simp [hs]]
  exact ShE.At.set2 k h
theorem ShE.C.one {e : ShE} {D : Array Bool} {V : World} (h : e.C D V) (h8 : D.getD 8 false = false) : Boxed V e.B1 22 (.int .u64 e.p1) := by
  have := ShE.At.one h
  rw [h8] at this
  exact this
theorem ShE.C.two {e : ShE} {D : Array Bool} {V : World} (h : e.C D V) (h9 : D.getD 9 false = false) : Boxed V e.B2 22 (.int .u64 e.p2) := by
  have := ShE.At.two h
  rw [h9] at this
  exact this
theorem shareV_of (q : Int) (xs : List Int) (i : Nat) (at_ : Int) : ∃ x e : Int, invRes (prodI q ((othersI q xs i at_).map (·.1))) q = .tuple #[.int .u64 x, .int .i64 e] ∧ shareV q xs i at_ = .tuple #[.int .u64 x, .int .u64 (prodI q ((othersI q xs i at_).map (·.2))), .int .i64 e] := by
  unfold shareV invRes
  split
  · exact ⟨_, _, rfl, rfl⟩
  · exact ⟨_, _, rfl, rfl⟩
theorem others_bx (A : Option Addr) (n c : Nat) (i at_ q : Int) (w : World) :
    Calls Tryz.prog 135 #[.slice A n c, .int .i64 i, .int .u64 at_, .int .u64 q] w fun e w' => e = .returned (.func (.func 138) #[] #[.pointer (some ⟨w.heap.size, 0, none⟩), .pointer (some ⟨w.heap.size + 1, 0, none⟩), .pointer (some ⟨w.heap.size + 1 + 1 + 1, 0, none⟩), .pointer (some ⟨w.heap.size + 1 + 1, 0, none⟩)]) ∧ (Boxed w' w.heap.size 39 (.slice A n c) ∧ Boxed w' (w.heap.size + 1) 3 (.int .i64 i) ∧ Boxed w' (w.heap.size + 1 + 1) 22 (.int .u64 at_) ∧ Boxed w' (w.heap.size + 1 + 1 + 1) 22 (.int .u64 q) ∧ w.grownBy w' none ∧ w'.heap.size = w.heap.size + 1 + 1 + 1 + 1) :=
  (others_any A n c i at_ q w).mono fun _ _ h => ⟨h.1, four_boxes _ _ _ _ _ _ _ _ _ _ h.2⟩
theorem twoB_one (w : World) (q : Int) : TwoB w (((w.alloc (.cells #[.int .u64 q] 22)).alloc (.cells #[.int .u64 (1 % q)] 22)).alloc (.cells #[.int .u64 (1 % q)] 22)).drew q (w.heap.size + 1) (w.heap.size + 1 + 1) := by
  have b1 := (Boxed.new (w.alloc (.cells #[.int .u64 q] 22)) 22 (.int .u64 (1 % q))).alloc (.cells #[.int .u64 (1 % q)] 22)
  have b2 := Boxed.new ((w.alloc (.cells #[.int .u64 q] 22)).alloc (.cells #[.int .u64 (1 % q)] 22)) 22 (.int .u64 (1 % q))
  simp only [World.size_alloc] at b1 b2
  exact ⟨by omega, by omega, by omega, (((Boxed.new w 22 (.int .u64 q)).alloc _).alloc _), b1, b2, grownBy_drewN (((World.grownBy_alloc w _ none).trans (World.grownBy_alloc _ _ none)).trans (World.grownBy_alloc _ _ none)) 1⟩
theorem twoB_two (w : World) (q : Int) : TwoB w (((w.alloc (.cells #[.int .u64 q] 22)).alloc (.cells #[.int .u64 (1 % q)] 22)).alloc (.cells #[.int .u64 (1 % q)] 22)).drew q (w.heap.size + 1 + 1) (w.heap.size + 1) := by
  obtain ⟨h1, h2, h3, h4, h5, h6, h7⟩ := twoB_one w q
  exact ⟨h2, h1, h3.symm, h4, h6, h5, h7⟩
set_option maxRecDepth 100000 in
set_option maxHeartbeats 2000000 in
theorem polyShare_any (v : Value) (xs : List Int) (i : Nat) (at_ q : Int) (X : Nat → Prop) (w : World) (hxs : Sl encU X w v xs) (hi : i < xs.length) (hu : U64 at_) (hq : mayB q = true) :
    Calls Tryz.prog 129 #[v, .int .i64 i, .int .u64 at_, .int .u64 q] w fun e w' => e = .returned (shareV q xs i at_) ∧ w.grownBy w' none := by
  have HQ := Lib.hid hq
  simp [mayB] at hq
  obtain ⟨hq0, hq1⟩ := hq
  have hqn : ¬ q = 0 := by omega
  have HX := Lib.hid hxs
  have HI := Lib.hid hi
  have HU := Lib.hid hu
  have HR := Lib.hid (emod_bd 1 q hq0)
  have HT : Hid (Int.tmod 1 q = 1 % q) := Lib.hid (Int.tmod_eq_emod_of_nonneg (by decide))
  obtain ⟨A1, c1, rfl, _, _⟩ := hxs.form
  obtain ⟨rx, re, hre, hrs⟩ := shareV_of q xs i at_
  rw [hrs]
  have HRE := Lib.hid hre
  clear hxs hi hu hre hrs
  refine (callsIn_wide (n := 4)).1 ?_
  refine callsIn_of_wp_marks Tryz.func129 rfl trivial ?_ rfl
  refine wpIn_wide.2 ?_
  simp only [Tryz.ntmps129, List.size_toArray, List.length_cons, List.length_nil, Nat.reduceAdd, Nat.reduceSub, Array.replicate_succ, Array.replicate_zero, List.push_toArray, List.append_toArray, List.nil_append, List.cons_append]
  go_upto_region 1 with fail
  go_cut [11, 12] from 17 to 20 (fun s11 s12 wx => ∃ B1 B2 : Nat, s11 = .pointer (some ⟨B1, 0, none⟩) ∧ s12 = .pointer (some ⟨B2, 0, none⟩) ∧ Hid (TwoB w wx q B1 B2))
  case first =>
    go_region_held3 (fun w' => w'.cell? ⟨w.heap.size, 0, none⟩ = some (.int .u64 q)) (go_keep) (fail)
    all_goals (go_wp2_with fail)
    all_goals (rw [HT.out]; go_meet)
    · exact ⟨_, _, rfl, rfl, Lib.hid (twoB_one w q)⟩
    · exact ⟨_, _, rfl, rfl, Lib.hid (twoB_two w q)⟩
  case rest =>
    obtain ⟨B1, B2, rfl, rfl, HB⟩ := hcut
    rename World => wc
    obtain ⟨kb1, kb2, kb12, kq, kp1, kp2, kg⟩ := HB.out
    have kqc := kq.cell
    have HC : Hid (TwoB w wc q B1 B2) := HB
    have HW : Hid (w.grownBy wc none) := Lib.hid kg
    clear HB kq kp1 kp2 kg
    have hlen : xs.length ≤ c1 := by assumption
    go_wp2_with ((with_reducible refine (others_bx A1 xs.length c1 i at_ q wc).mono ?_); rintro e W0 ⟨rfl, hW0⟩)
    have HD := Lib.hid hW0
    clear hW0
    have HB1 : Hid (Boxed W0 B1 22 (.int .u64 (1 % q)) ∧ Boxed W0 B2 22 (.int .u64 (1 % q)) ∧ Boxed W0 w.heap.size 22 (.int .u64 q) ∧ Below w.heap.size w W0 ∧ B1 < wc.heap.size ∧ B2 < wc.heap.size ∧ w.heap.size ≤ wc.heap.size) := by
      obtain ⟨_, _, _, z4, z1, z2, z3⟩ := HC.out
      have hg := HD.out.2.2.2.2.1
      exact Lib.hid ⟨z1.kept hg (by simp), z2.kept hg (by simp), z4.kept hg (by simp), below_grown (HW.out.trans hg), z1.lt, z2.lt, HW.out.size⟩
    have hs0 : W0.heap.size = wc.heap.size + 1 + 1 + 1 + 1 := HD.out.2.2.2.2.2
    have hs1 := HB1.out.2.2.2.2.1
    have hs2 := HB1.out.2.2.2.2.2.1
    have hs3 := HB1.out.2.2.2.2.2.2
    refine (wpIn_wide (n := 3)).1 ?_
    refine wpIn_rangeFunc_goes rfl (by omega) (gf := 138) (lb := #[.pointer (some ⟨wc.heap.size, 0, none⟩), .pointer (some ⟨wc.heap.size + 1, 0, none⟩), .pointer (some ⟨wc.heap.size + 1 + 1 + 1, 0, none⟩), .pointer (some ⟨wc.heap.size + 1 + 1, 0, none⟩)]) rfl trivial (enters_of Tryz.func138 (by kernel_rfl) rfl)
      (others_goes (3 - 1) (by omega) _ _ _ _ _ xs i at_ q X w W0 HB1.out.2.2.2.1 HD.out.1 HD.out.2.1 HD.out.2.2.2.1 HD.out.2.2.1 HX.out HI.out HU.out) Kp4.trans (Kp4.b (by omega) (by omega) (by omega) (by omega) (by omega)) (Below.refl _ _) (fun _ => rfl)
      (fun pre W => Boxed W w.heap.size 22 (.int .u64 q) ∧ Boxed W B1 22 (.int .u64 (prodI q (pre.map (·.1)))) ∧ Boxed W B2 22 (.int .u64 (prodI q (pre.map (·.2)))) ∧ Below w.heap.size w W ∧ W0.heap.size ≤ W.heap.size)
      (fun pre X' Y row hs hg hrow => by
        obtain ⟨s1, s2, s3, s4, s5⟩ := hs
        have hr' := fun r e => (hrow r e).2
        exact ⟨s1.kept hg (boxNe s1 hr'), s2.kept hg (boxNe s2 hr'), s3.kept hg (boxNe s3 hr'), s4.grown hg s4.size (fun k e => by have := (hrow k e).1; omega), Nat.le_trans s5 hg.size⟩)
      ⟨HB1.out.2.2.1, HB1.out.1, HB1.out.2.1, HB1.out.2.2.2.1, Nat.le_refl _⟩
      (fun e a' W => (U64 e.1 ∧ U64 e.2) ∧ a' = { tmps := #[.slice A1 xs.length c1, .int .i64 i, .int .u64 at_, .int .u64 q, undef, undef, undef, .pointer (some ⟨w.heap.size, 0, none⟩), .int .u64 0, .int .u64 0, .int .i64 0, .pointer (some ⟨B1, 0, none⟩), .pointer (some ⟨B2, 0, none⟩), .int .u64 e.1, .int .u64 e.2, undef, undef, u17, u18, u19, u20, .slice A1 xs.length c1, .int .i64 i, .int .u64 at_, .int .u64 q, .func (.func 138) #[] #[.pointer (some ⟨wc.heap.size, 0, none⟩), .pointer (some ⟨wc.heap.size + 1, 0, none⟩), .pointer (some ⟨wc.heap.size + 1 + 1 + 1, 0, none⟩), .pointer (some ⟨wc.heap.size + 1 + 1, 0, none⟩)], .int .u64 e.1, .int .u64 e.2, undef, undef, undef, undef, undef, undef, undef, undef, undef, undef, undef, undef, undef, undef, undef, undef, undef], defers := [] })
      (fun e a' _ X' Y row hs hg hrow => hs)
      ?assign ?body ?done
    case assign =>
      rintro l pre ⟨own, far⟩ W K hi hfx hK
      have hk2 := hK _ W (KeepsFrom.refl _ _) (Kp4.refl _ _ _ _ _ _) hi ⟨hfx, rfl⟩
      clear hK hi hfx
      gi_wp2
      exact hk2
    case body =>
      rintro l pre ⟨own, far⟩ a' W hl ⟨hbq, hb1, hb2, hbl, hws⟩ ⟨⟨hu1, hu2⟩, rfl⟩ hlt
      obtain ⟨p1, hp1⟩ : ∃ p1, p1 = prodI q (pre.map (·.1)) := ⟨_, rfl⟩
      obtain ⟨p2, hp2⟩ : ∃ p2, p2 = prodI q (pre.map (·.2)) := ⟨_, rfl⟩
      rw [← hp1] at hb1
      rw [← hp2] at hb2
      have HSN : Hid (prodI q ((pre ++ [(own, far)]).map (·.1)) = mulI p1 own q ∧ prodI q ((pre ++ [(own, far)]).map (·.2)) = mulI p2 far q) := Lib.hid ⟨by rw [List.map_append, hp1]; exact prodI_snoc _ _ _, by rw [List.map_append, hp2]; exact prodI_snoc _ _ _⟩
      have HP : Hid (U64 p1 ∧ U64 p2 ∧ U64 own ∧ U64 far) := Lib.hid ⟨by rw [hp1]; exact prodI_U64 _ HQ.out _, by rw [hp2]; exact prodI_U64 _ HQ.out _, hu1, hu2⟩
      clear hp1 hp2 hu1 hu2 hlt
      obtain ⟨E, hE⟩ : ∃ E : ShE, E = { w := w, W0 := W0, W := W, q := q, p1 := p1, p2 := p2, p1' := mulI p1 own q, p2' := mulI p2 far q, B1 := B1, B2 := B2, C1 := wc.heap.size, C2 := wc.heap.size + 1, C3 := wc.heap.size + 1 + 1 + 1, C4 := wc.heap.size + 1 + 1 } := ⟨_, rfl⟩
      have HE : Hid (E.Ok ∧ E.p1 = p1 ∧ E.p2 = p2 ∧ E.w = w ∧ E.q = q ∧ E.w.heap.size = w.heap.size ∧ E.B1 = B1 ∧ E.B2 = B2 ∧ E.p1' = mulI p1 own q ∧ E.p2' = mulI p2 far q) := Lib.hid (by subst hE; exact ⟨⟨kb1, kb2, kb12, ⟨hs1, hs2, by show wc.heap.size < W0.heap.size; omega⟩, ⟨by show B1 < wc.heap.size + 1; omega, by show B2 < wc.heap.size + 1; omega, by show wc.heap.size + 1 < W0.heap.size; omega⟩, ⟨by show B1 < wc.heap.size + 1 + 1 + 1; omega, by show B2 < wc.heap.size + 1 + 1 + 1; omega, by show wc.heap.size + 1 + 1 + 1 < W0.heap.size; omega⟩, ⟨by show B1 < wc.heap.size + 1 + 1; omega, by show B2 < wc.heap.size + 1 + 1; omega, by show wc.heap.size + 1 + 1 < W0.heap.size; omega⟩⟩, rfl, rfl, rfl, rfl, rfl, rfl, rfl, rfl, rfl⟩)
      have HC0 : Hid (∀ D : Array Bool, D.getD 8 false = false → D.getD 9 false = false → E.C D W.drew) := Lib.hid (fun D h8 h9 => by
        subst hE
        unfold ShE.C
        rw [h8, h9]
        exact ⟨hbq, hb1, hb2, (keeps_none (grown_drewN' W 1)).from _, Kp4.grown (grown_drewN' W 1) (by show w.heap.size ≤ W.heap.size; omega) (by show wc.heap.size < W.heap.size; omega) (by show wc.heap.size + 1 < W.heap.size; omega) (by show wc.heap.size + 1 + 1 + 1 < W.heap.size; omega) (by show wc.heap.size + 1 + 1 < W.heap.size; omega), hbl.trans ((below_grown (grown_drewN' W 1)).mono (by show w.heap.size ≤ W.heap.size; omega)), hws⟩)
      have HF : Hid (∀ D V, D.getD 8 false = true → D.getD 9 false = true → E.C D V → KeepsFrom W0.heap.size W V ∧ Kp4 w.heap.size wc.heap.size (wc.heap.size + 1) (wc.heap.size + 1 + 1 + 1) (wc.heap.size + 1 + 1) W V ∧ Boxed V w.heap.size 22 (.int .u64 q) ∧ Boxed V B1 22 (.int .u64 (prodI q ((pre ++ [(own, far)]).map (·.1)))) ∧ Boxed V B2 22 (.int .u64 (prodI q ((pre ++ [(own, far)]).map (·.2)))) ∧ Below w.heap.size w V ∧ W0.heap.size ≤ V.heap.size) := Lib.hid (fun D V h8 h9 h => by
        rw [HSN.out.1, HSN.out.2]
        subst hE
        unfold ShE.C at h
        rw [h8, h9] at h
        exact ⟨h.from', h.kp, h.q, ShE.At.one h, ShE.At.two h, h.bl, h.sz⟩)
      clear hE hbq hb1 hb2 hbl hws
      dsimp only
      gi_wp2
      refine wpIn_round_any (l0 := l) (R := fun _ V => KeepsFrom W0.heap.size W V ∧ Kp4 w.heap.size wc.heap.size (wc.heap.size + 1) (wc.heap.size + 1 + 1 + 1) (wc.heap.size + 1 + 1) W V ∧ Boxed V w.heap.size 22 (.int .u64 q) ∧ Boxed V B1 22 (.int .u64 (prodI q ((pre ++ [(own, far)]).map (·.1)))) ∧ Boxed V B2 22 (.int .u64 (prodI q ((pre ++ [(own, far)]).map (·.2)))) ∧ Below w.heap.size w V ∧ W0.heap.size ≤ V.heap.size) (by kernel_rfl) (by kernel_rfl) (fun a w h => ⟨rfl, h⟩) ?_
      refine wpAny_flag 10 E.C [.int .u64 p1, .int .u64 own, .int .u64 q, .int .u64 (mulI p1 own q), .int .u64 p2, .int .u64 far, .int .u64 q, .int .u64 (mulI p2 far q), undef, undef] (by kernel_rfl) rfl (HC0.out _ (by kernel_rfl) (by kernel_rfl)) ?_ ?_
      -- op 0 (slot 28): load
      refine FlagR.step [] (by kernel_rfl) (fun D V hsz hD hav hC => ?_) ?_
      · refine askc_do rfl fun K hK => ?_
        have hb := (ShE.C.one hC (hav 8 (by kernel_rfl))).cell
        rw [HE.out.2.1, HE.out.2.2.2.2.2.2.1] at hb
        go_simp
        exact hK _ _ rfl rfl (ShE.C.grown HE.out.1 hC (World.grownBy.refl _ none) 0 (by decide) (by decide))
      -- op 1 (slot 29): move
      refine FlagR.step [] (by kernel_rfl) (fun D V hsz hD hav hC => ?_) ?_
      · refine askc_do rfl fun K hK => ?_
        go_simp
        exact hK _ _ rfl rfl (ShE.C.grown HE.out.1 hC (World.grownBy.refl _ none) 1 (by decide) (by decide))
      -- op 2 (slot 30): load
      refine FlagR.step [] (by kernel_rfl) (fun D V hsz hD hav hC => ?_) ?_
      · refine askc_do rfl fun K hK => ?_
        have hb := hC.q.cell
        rw [HE.out.2.2.2.2.1, HE.out.2.2.2.2.2.1] at hb
        go_simp
        exact hK _ _ rfl rfl (ShE.C.grown HE.out.1 hC (World.grownBy.refl _ none) 2 (by decide) (by decide))
      -- op 3 (slot 31): call
      refine FlagR.step [(0, 28), (1, 29), (2, 30)] (by kernel_rfl) (fun D V hsz hD hav hC => ?_) ?_
      · rintro _ rfl
        rintro _ rfl
        rintro _ rfl
        refine askc_do rfl fun K hK => ?_
        go_simp
        refine (mul_gr p1 own q V HP.out.1 HP.out.2.2.1).mono ?_
        rintro e V2 ⟨rfl, hg⟩
        exact hK _ _ rfl rfl (ShE.C.grown HE.out.1 hC hg 3 (by decide) (by decide))
      -- op 4 (slot 32): load
      refine FlagR.step [] (by kernel_rfl) (fun D V hsz hD hav hC => ?_) ?_
      · refine askc_do rfl fun K hK => ?_
        have hb := (ShE.C.two hC (hav 9 (by kernel_rfl))).cell
        rw [HE.out.2.2.1, HE.out.2.2.2.2.2.2.2.1] at hb
        go_simp
        exact hK _ _ rfl rfl (ShE.C.grown HE.out.1 hC (World.grownBy.refl _ none) 4 (by decide) (by decide))
      -- op 5 (slot 33): move
      refine FlagR.step [] (by kernel_rfl) (fun D V hsz hD hav hC => ?_) ?_
      · refine askc_do rfl fun K hK => ?_
        go_simp
        exact hK _ _ rfl rfl (ShE.C.grown HE.out.1 hC (World.grownBy.refl _ none) 5 (by decide) (by decide))
      -- op 6 (slot 34): load
      refine FlagR.step [] (by kernel_rfl) (fun D V hsz hD hav hC => ?_) ?_
      · refine askc_do rfl fun K hK => ?_
        have hb := hC.q.cell
        rw [HE.out.2.2.2.2.1, HE.out.2.2.2.2.2.1] at hb
        go_simp
        exact hK _ _ rfl rfl (ShE.C.grown HE.out.1 hC (World.grownBy.refl _ none) 6 (by decide) (by decide))
      -- op 7 (slot 35): call
      refine FlagR.step [(4, 32), (5, 33), (6, 34)] (by kernel_rfl) (fun D V hsz hD hav hC => ?_) ?_
      · rintro _ rfl
        rintro _ rfl
        rintro _ rfl
        refine askc_do rfl fun K hK => ?_
        go_simp
        refine (mul_gr p2 far q V HP.out.2.1 HP.out.2.2.2).mono ?_
        rintro e V2 ⟨rfl, hg⟩
        exact hK _ _ rfl rfl (ShE.C.grown HE.out.1 hC hg 7 (by decide) (by decide))
      -- op 8 (slot none): store
      refine FlagR.step [(3, 31)] (by kernel_rfl) (fun D V hsz hD hav hC => ?_) ?_
      · rintro _ rfl
        refine askc_do rfl fun K hK => ?_
        have hc0 := ShE.C.one hC (hav 8 (by kernel_rfl))
        have hcc := hc0.cell
        have hcf := hc0.frozen
        rw [HE.out.2.1] at hcc
        rw [HE.out.2.2.2.2.2.2.1] at hcc hcf
        have hfin := ShE.C.set1 HE.out.1 hC hsz
        rw [HE.out.2.2.2.2.2.2.1, HE.out.2.2.2.2.2.2.2.2.1] at hfin
        go_simp
        exact hK _ _ rfl rfl hfin
      -- op 9 (slot none): store
      refine FlagR.step [(7, 35)] (by kernel_rfl) (fun D V hsz hD hav hC => ?_) ?_
      · rintro _ rfl
        refine askc_do rfl fun K hK => ?_
        have hc0 := ShE.C.two hC (hav 9 (by kernel_rfl))
        have hcc := hc0.cell
        have hcf := hc0.frozen
        rw [HE.out.2.2.1] at hcc
        rw [HE.out.2.2.2.2.2.2.2.1] at hcc hcf
        have hfin := ShE.C.set2 HE.out.1 hC hsz
        rw [HE.out.2.2.2.2.2.2.2.1, HE.out.2.2.2.2.2.2.2.2.2] at hfin
        go_simp
        exact hK _ _ rfl rfl hfin
      · trivial
      · intro D V hall hC
        have hfin := HF.out D V (hall 8 (by omega)) (hall 9 (by omega)) hC
        clear hC hall
        intro x0 _ x1 _ x2 _ x3 _ x4 _ x5 _ x6 _ x7 _ x8 _ x9 _
        refine wpList_nil ?_
        exact ⟨rfl, hfin⟩
    case done =>
      rintro D zs W hD rfl ⟨hbq, hb1, hb2, hbl, hws⟩ hK
      have hre := HRE.out
      have HIN := Lib.hid (fun w' => inv_may (prodI q ((othersI q xs i at_).map (·.1))) q w' (prodI_U64 q HQ.out _) HQ.out)
      rw [hre] at HIN
      have c1' := hb1.cell
      have c2' := hb2.cell
      have cq' := hbq.cell
      have HK := Lib.hid (And.intro hbl (And.intro hK hD))
      clear hbq hb1 hb2 hbl hK hre
      go_wp2_with ((with_reducible refine (HIN.out _).mono ?_); rintro e W5 ⟨rfl, n5, rfl⟩)
      go_region_held3 (fun w' => w'.cell? ⟨B2, 0, none⟩ = some (.int .u64 (prodI q ((othersI q xs i at_).map (·.2))))) (go_keep) (fail)
      all_goals (go_wp2_with fail)
      obtain ⟨hbl, hK, hD⟩ := HK.out
      refine ⟨by simp, .inl ⟨_, _, rfl, run_takeDeferred (w := (W.drewN n5).drew) hK, ?_⟩⟩
      have hle : w.heap.size ≤ W0.heap.size := by omega
      have hfin : w.grownBy (((W.drewN n5).drew).putObj D (.deferred none)) none := grownBy_drewN (grown_of_below (hbl.trans (belowK_b (w := W0) hle W D _ (.deferred none) hD hK rfl rfl))) (n5 + 1)
      exact ⟨_, results_tmp3 rfl _ _ _, rfl, hfin⟩
end Go.Proofs.YtiimippmihkgcaaGreatDoor

namespace Go.Proofs.YtiimippmihkgcaaGreatDoor
open Go Go.RowKit Go.Shelf Go.Maps

theorem pmay_any (m : Int) (w : World) (hm : U64 m) :
    Calls Tryz.prog 134 #[.int .u64 m] w fun e w' => e = .returned (.bool (mayB m)) ∧ w = w' := by
  have hm0 := hm.1
  have hm1 := hm.2
  clear hm
  by_cases h0 : 0 < m
  · by_cases h1 : m ≤ 2305843009213693952
    · have hr : mayB m = true := by simp [mayB, h0, h1]
      rw [hr]
      clear hr
      have h2 : decide (m ≤ 2305843009213693952) = true := by simpa using h1
      go_enter Tryz.func134, Tryz.ntmps134
      go_wp2
      go_ret
      exact ⟨rfl, rfl⟩
    · have hr : mayB m = false := by simp [mayB, h1]
      rw [hr]
      clear hr
      have h2 : decide (m ≤ 2305843009213693952) = false := by simpa using h1
      go_enter Tryz.func134, Tryz.ntmps134
      go_wp2
      go_ret
      exact ⟨by simp, rfl⟩
  · have hr : mayB m = false := by simp [mayB, h0]
    rw [hr]
    clear hr
    go_enter Tryz.func134, Tryz.ntmps134
    go_wp2
    go_ret
    exact ⟨rfl, rfl⟩
/-- The numbers of a list, each once. -/
def seenL (l : List Int) : List Int := l.foldl (fun s x => bif s.contains x then s else s ++ [x]) []
theorem seenL_snoc (l : List Int) (x : Int) : seenL (l ++ [x]) = bif (seenL l).contains x then seenL l else seenL l ++ [x] := by simp only [seenL, List.foldl_append, List.foldl_cons, List.foldl_nil]
/-- What is wrong with places. -/
def unlikeI (xs : List Int) (q : Int) : Int := if mayB q = false then 1 else if 1024 < xs.length then 40 else if (seenL (xs.map (· % q))).length < xs.length then 6 else 0
theorem lawU : Keyed Tryz.prog 22 := int_keyed Tryz.underlying22
theorem zeroI (w : World) : (zeroValue 3).run Tryz.prog w = .ok (.int .i64 0) w := by kernel_rfl
/-- A map of what was met. -/
def Met' (D : DataW Unit) (pre : List Int) : Prop := Maps.Tidy D ∧ Maps.size D = (seenL pre).length ∧ ∀ x, Maps.has D (.int .u64 x) = (seenL pre).contains x
theorem Met'.nil : Met' (.map []) [] := ⟨tidy_empty, rfl, fun _ => rfl⟩
theorem Met'.put {D : DataW Unit} {pre : List Int} (h : Met' D pre) (x : Int) (d : DataW Unit) : Met' (D.put (.int .u64 x) d) (pre ++ [x]) := by
  obtain ⟨h1, h2, h3⟩ := h
  have hk : WideAt.IsKeyLit (.int .u64 x) := trivial
  refine ⟨h1.put hk d, ?_, fun y => ?_⟩
  · rw [size_put h1, h3 x, seenL_snoc]
    cases (seenL pre).contains x
    · simp [h2]
    · simp [h2]
  · rw [seenL_snoc]
    by_cases e : y = x
    · subst e
      rw [has_put_same h1.isMap hk]
      cases hc : (seenL pre).contains y
      · simp
      · simp only [cond_true, hc]
    · rw [has_put_other (by intro e'; injection e' with _ e'; exact e e'), h3 y]
      cases (seenL pre).contains x
      · have e' : (y == x) = false := by simpa using e
        simp [e]
      · rfl
theorem run_makeMap_hint (n : Int) (w : World) : (Instr.makeMap 175 (some (.int .i64 n))).run Tryz.prog w = .ok (.map (some w.heap.size)) (w.alloc (.map #[] 0)) := by
  simp [Instr.makeMap, run_underlying Tryz.underlying175, asInt, asIntOf, Result.andThen]
set_option maxRecDepth 100000 in
set_option maxHeartbeats 1000000 in
theorem unlike_any (v : Value) (xs : List Int) (q : Int) (X : Nat → Prop) (w : World) (h : Sl encU X w v xs) (hq : U64 q) :
    Calls Tryz.prog 128 #[v, .int .u64 q] w fun e w' => e = .returned (.int .i64 (unlikeI xs q)) ∧ w.grownBy w' none := by
  have H := Lib.hid h
  have HQ := Lib.hid hq
  obtain ⟨A, c, rfl, hc1, hc2⟩ := h.form
  clear h hq
  cases hm : mayB q with
  | false =>
    have hr : unlikeI xs q = 1 := by simp [unlikeI, hm]
    rw [hr]
    have HM := Lib.hid hm
    clear hr hm
    go_enter Tryz.func128, Tryz.ntmps128
    go_wp2_with ((with_reducible refine (pmay_any q _ HQ.out).mono ?_); rw [HM.out]; rintro e w' ⟨rfl, rfl⟩)
    go_ret
    exact ⟨rfl, World.grownBy.refl _ none⟩
  | true =>
    have HM := Lib.hid hm
    have hq0 : 0 < q := by simp [mayB] at hm; exact hm.1
    have hqn : ¬ q = 0 := by omega
    by_cases hl : 1024 < xs.length
    · have hr : unlikeI xs q = 40 := by simp [unlikeI, hm, hl]
      rw [hr]
      clear hr hm
      generalize xs.length = n at *
      go_enter Tryz.func128, Tryz.ntmps128
      go_wp2_with ((with_reducible refine (pmay_any q _ HQ.out).mono ?_); rw [HM.out]; rintro e w' ⟨rfl, rfl⟩)
      go_ret
      exact ⟨rfl, World.grownBy.refl _ none⟩
    · obtain ⟨res, hr⟩ : ∃ res, res = unlikeI xs q := ⟨_, rfl⟩
      have HRES : Hid (res = if (seenL (xs.map (· % q))).length < xs.length then 6 else 0) := Lib.hid (by rw [hr]; simp [unlikeI, hm, hl])
      rw [← hr]
      clear hr hm
      have HR0 : Hid (Met' (.map []) ((xs.take 0).map (· % q))) := Lib.hid Met'.nil
      have HT : Hid (∀ k (hk : k < xs.length), (xs.take (k + 1)).map (· % q) = (xs.take k).map (· % q) ++ [xs[k] % q]) := Lib.hid (fun k hk => by rw [List.take_succ_eq_append_getElem hk, List.map_append]; rfl)
      obtain ⟨n, hn⟩ : ∃ n, n = xs.length := ⟨_, rfl⟩
      have HN := Lib.hid hn
      rw [← hn] at hc1 hl ⊢
      clear hn
      have hmm := @run_makeMap_hint
      go_enter Tryz.func128, Tryz.ntmps128
      go_wp2_with ((with_reducible refine (pmay_any q _ HQ.out).mono ?_); rw [HM.out]; rintro e w' ⟨rfl, rfl⟩)
      go_loopg [21] n (fun g s21 wx => ∃ (k : Nat) (D : DataW Unit), k + g = n ∧ s21 = .int .i64 k ∧ Hid (wx.ownsMap Tryz.prog 22 (plainElem Tryz.prog 3) w.heap.size k D ∧ Met' D ((xs.take k).map (· % q)) ∧ Below w.heap.size w wx))
      case atStart => exact ⟨0, .map [], by omega, rfl, Lib.hid ⟨World.ownsMap_made _ _ _ _, HR0.out, (Below.refl _ _).alloc (Nat.le_refl _) _⟩⟩
      case round =>
        obtain ⟨k, D, hk, rfl, HR⟩ := hrel
        cases gk with
        | zero =>
          obtain rfl : k = n := by omega
          have hsz : Maps.size D = (seenL (xs.map (· % q))).length := by rw [HR.out.2.1.2.1, HN.out, List.take_length]
          have HS := Lib.hid hsz
          have HBL := Lib.hid HR.out.2.2
          have hown := HR.out.1
          clear HR hsz
          by_cases hlt : (seenL (xs.map (· % q))).length < k
          · rw [← HS.out] at hlt
            have hlt' : decide (((Maps.size D : Nat) : Int) < (k : Int)) = true := by simpa using hlt
            go_wp2_with (first | (at_len; refine wpList_len_own _ rfl _ 175 rfl 22 3 Tryz.underlying175 _ w.heap.size k D rfl hown ?_) | go_in)
            go_ret
            exact ⟨by rw [HRES.out, ← HS.out, ← HN.out]; simp [hlt], grown_of_below HBL.out⟩
          · rw [← HS.out] at hlt
            have hlt' : decide (((Maps.size D : Nat) : Int) < (k : Int)) = false := by simpa using hlt
            go_wp2_with (first | (at_len; refine wpList_len_own _ rfl _ 175 rfl 22 3 Tryz.underlying175 _ w.heap.size k D rfl hown ?_) | go_in)
            go_ret
            exact ⟨by rw [HRES.out, ← HS.out, ← HN.out]; simp [hlt], grown_of_below HBL.out⟩
        | succ m =>
          have hkn : (k : Int) < (n : Int) := by omega
          have hkl : k < xs.length := by rw [← HN.out]; omega
          have hown := HR.out.1
          obtain ⟨g, of, c', e, _, _, hcell, hu⟩ := ((H.out.kept (grown_of_below HR.out.2.2)).atU hkl)
          injection e with e1 e2 e3
          subst e1 e3
          have hb := emod_bd xs[k] q hq0
          have HP : Hid (Met' (D.put (.int .u64 (Int.tmod xs[k] q)) (.lit (.int .i64 0))) ((xs.take (k + 1)).map (· % q))) := Lib.hid (by rw [HT.out k hkl, Int.tmod_eq_emod_of_nonneg hu.1]; exact HR.out.2.1.put _ _)
          have hwf : (Lit.int .u64 (Int.tmod xs[k] q)).wf = true := by rw [Int.tmod_eq_emod_of_nonneg hu.1]; exact WalkArith.wf_u64 ⟨hb.1, by have := (emod_U64 xs[k] q hu hq0).2; omega⟩
          have HBL := Lib.hid HR.out.2.2
          have HT' := Lib.hid (HT.out k hkl)
          have HME := Lib.hid HR.out.2.1
          have HUX := Lib.hid hu
          have HWF := Lib.hid hwf
          clear HP HR hb hu hwf
          have HMP : Hid (∀ d, Met' (D.put (.int .u64 (Int.tmod xs[k] q)) d) ((xs.take (k + 1)).map (· % q))) := Lib.hid (fun d => by rw [HT'.out, Int.tmod_eq_emod_of_nonneg HUX.out.1]; exact HME.out.put _ d)
          clear HT' HME HUX
          generalize xs[k] = xk at *
          go_wp2_with (first
            | (at_lookup; refine wpList_lookup_own_int _ rfl _ _ 175 rfl 22 3 .i64 lawU Tryz.underlying175 Tryz.underlying3 (zeroI _) w.heap.size k D rfl hown _ _ rfl (keyOf_int_mk Tryz.underlying22 HWF.out) ?_; intro c0 hat hwc)
            | (at_mapUpdate; refine wpList_mapUpdate_own _ rfl _ _ _ 175 rfl 22 3 lawU Tryz.underlying175 _ w.heap.size k D rfl hown (by unfold maxLen; omega) _ _ _ rfl rfl (keyOf_int_mk Tryz.underlying22 HWF.out) _ [] (plainElem_int Tryz.underlying3 (wrap64_wf _)) ?_; intro w1 hown1 hgrow1)
            | go_in)
          go_roundg m
          case measure => omega
          case rel => exact ⟨k + 1, _, by omega, by go_num, Lib.hid ⟨hown1, HMP.out _, HBL.out.grown hgrow1 HBL.out.size (fun j hj => by cases hj; exact Nat.le_refl _)⟩⟩
end Go.Proofs.YtiimippmihkgcaaGreatDoor

namespace Go.Proofs.YtiimippmihkgcaaGreatDoor
open Go Go.RowKit Go.Shelf

def underI (q : Int) (xs : List Int) (at_ : Int) (i : Nat) : Int := prodI q ((othersI q xs i at_).map (·.1))
def overI (q : Int) (xs : List Int) (at_ : Int) (i : Nat) : Int := prodI q ((othersI q xs i at_).map (·.2))
theorem shareV_yes {q : Int} {xs : List Int} {i : Nat} {at_ : Int} (h : HasInv (underI q xs at_ i) q) : shareV q xs i at_ = .tuple #[.int .u64 (invI (underI q xs at_ i) q), .int .u64 (overI q xs at_ i), .int .i64 0] := by
  unfold shareV
  exact if_pos h
theorem shareV_no {q : Int} {xs : List Int} {i : Nat} {at_ : Int} (h : ¬ HasInv (underI q xs at_ i) q) : shareV q xs i at_ = .tuple #[.int .u64 0, .int .u64 (overI q xs at_ i), .int .i64 5] := by
  unfold shareV
  exact if_neg h
/-- A weight. -/
noncomputable def wAt (q : Int) (xs : List Int) (at_ : Int) (i : Nat) : Int := mulI (invI (underI q xs at_ i) q) (overI q xs at_ i) q
open Classical in
/-- What is wrong with weights. -/
noncomputable def wErr (q : Int) (xs : List Int) (at_ : Int) : Int := if unlikeI xs q = 0 then (if ∀ i, i < xs.length → HasInv (underI q xs at_ i) q then 0 else 5) else unlikeI xs q
noncomputable def wList (q : Int) (xs : List Int) (at_ : Int) : List Int := if wErr q xs at_ = 0 then (List.range xs.length).map (wAt q xs at_) else []
theorem unlikeI_zero {xs : List Int} {q : Int} (h : unlikeI xs q = 0) : mayB q = true ∧ xs.length ≤ 1024 := by
  unfold unlikeI at h
  split at h
  · omega
  · split at h
    · omega
    · exact ⟨by simpa using ‹¬ mayB q = false›, by omega⟩
theorem invI_U64 {a q : Int} (hq : mayB q = true) (h : HasInv a q) : U64 (invI a q) := by
  have := invI_spec h
  simp [mayB] at hq
  exact ⟨this.1, by omega⟩
set_option maxRecDepth 100000 in
set_option maxHeartbeats 1000000 in
theorem weights_any (v : Value) (xs : List Int) (at_ q : Int) (X : Nat → Prop) (w : World) (h : Sl encU X w v xs) (hu : U64 at_) (hq : U64 q) :
    Calls Tryz.prog 106 #[v, .int .u64 at_, .int .u64 q] w (GivesE encU (fun g => w.heap.size ≤ g) w (wList q xs at_) (wErr q xs at_)) := by
  have H := Lib.hid h
  have HA := Lib.hid hu
  have HUN := Lib.hid (unlike_any v xs q X w h hq)
  obtain ⟨A, c, rfl, hc1, hc2⟩ := h.form
  clear h hu
  obtain ⟨we, hwe⟩ : ∃ we, we = wErr q xs at_ := ⟨_, rfl⟩
  obtain ⟨wl, hwl⟩ : ∃ wl, wl = wList q xs at_ := ⟨_, rfl⟩
  rw [← hwe, ← hwl]
  have HWL : Hid ((we = 0 → wl = (List.range xs.length).map (wAt q xs at_)) ∧ (¬ we = 0 → wl = [])) := Lib.hid ⟨fun e => by rw [hwl, wList, ← hwe, if_pos e], fun e => by rw [hwl, wList, ← hwe, if_neg e]⟩
  clear hwl
  by_cases hun : unlikeI xs q = 0
  · obtain ⟨hm, hl⟩ := unlikeI_zero hun
    have HM := Lib.hid hm
    have HWE : Hid (((∀ i, i < xs.length → HasInv (underI q xs at_ i) q) → we = 0) ∧ (∀ i, i < xs.length → ¬ HasInv (underI q xs at_ i) q → we = 5)) := Lib.hid ⟨fun e => by rw [hwe, wErr, if_pos hun, if_pos e], fun i hi e => by rw [hwe, wErr, if_pos hun, if_neg (fun hx => e (hx i hi))]⟩
    rw [hun] at HUN
    have HLN : Hid (xs.length ≤ 1024) := Lib.hid hl
    clear hwe hun hm
    go_enter Tryz.func106, Tryz.ntmps106
    go_wp2_with (refine HUN.out.mono ?_; rintro e w1 ⟨rfl, hg1⟩)
    have HG1 := Lib.hid hg1
    clear hg1 HUN
    go_wp2_with fail
    go_loopg [9, 22] xs.length (fun g s9 s22 wx => ∃ j : Nat, j + g = xs.length ∧ s22 = .int .i64 j ∧ Hid (Acc encU w.heap.size 22 (fun g => w.heap.size ≤ g) wx s9 ((List.range j).map (wAt q xs at_)) ∧ w.grownBy wx none ∧ ∀ i, i < j → HasInv (underI q xs at_ i) q))
    case atStart => exact ⟨0, by omega, rfl, Lib.hid ⟨Acc.nil _ _ _ _ _, HG1.out, fun i hi => absurd hi (by omega)⟩⟩
    case round =>
      obtain ⟨j, hj, rfl, HX⟩ := hrel
      cases gk with
      | zero =>
        obtain rfl : j = xs.length := by omega
        have h0 : we = 0 := HWE.out.1 HX.out.2.2
        subst h0
        have HR : Hid (Sl encU (fun g => w.heap.size ≤ g) wr u9 wl ∧ w.grownBy wr none) := Lib.hid ⟨by have := HX.out.1.sl; rwa [← HWL.out.1 rfl] at this, HX.out.2.1⟩
        clear HX HWL HWE
        go_wp2
        go_ret2
        exact ⟨_, rfl, HR.out.1, HR.out.2⟩
      | succ m =>
        have hjn : (j : Int) < (xs.length : Int) := by omega
        have hjN : j < xs.length := by omega
        have HS := Lib.hid (polyShare_any _ xs j at_ q X wr (H.out.kept HX.out.2.1) hjN HA.out HM.out)
        by_cases hi : HasInv (underI q xs at_ j) q
        · rw [shareV_yes hi] at HS
          have HU1 := Lib.hid (invI_U64 HM.out hi)
          have HU2 : Hid (U64 (overI q xs at_ j)) := Lib.hid (prodI_U64 q HM.out _)
          have HU3 : Hid (U64 (wAt q xs at_ j)) := Lib.hid (by have := mulI_bd (invI (underI q xs at_ j) q) (overI q xs at_ j) q HM.out; have h2 := HM.out; simp [mayB] at h2; exact ⟨this.1, by unfold wAt; omega⟩)
          have HSN : Hid ((List.range (j + 1)).map (wAt q xs at_) = (List.range j).map (wAt q xs at_) ++ [wAt q xs at_ j]) := Lib.hid (by simp [List.range_succ])
          have HI : Hid (∀ i, i < j + 1 → HasInv (underI q xs at_ i) q) := Lib.hid (fun i hi' => by
            rcases Nat.lt_or_ge i j with h' | h'
            · exact HX.out.2.2 i h'
            · obtain rfl : i = j := by omega
              exact hi)
          have HAC := Lib.hid HX.out.1
          have HG := Lib.hid HX.out.2.1
          have HLB : Hid ((((List.range j).map (wAt q xs at_)).length + 1) * 8 ≤ 140737488355328) := Lib.hid (by simp; omega)
          clear hi HX
          have hwv : mulI (invI (underI q xs at_ j) q) (overI q xs at_ j) q = wAt q xs at_ j := rfl
          have HMU := Lib.hid (fun w' => mul_gr (invI (underI q xs at_ j) q) (overI q xs at_ j) q w' HU1.out HU2.out)
          rw [hwv] at HMU
          clear hwv
          generalize xs.length = n at *
          go_wp2_with (go_at_call 129; refine HS.out.mono ?_; rintro e2 w2 ⟨rfl, hg2⟩)
          have HG2 := Lib.hid (HG.out.trans hg2)
          have HA2 := Lib.hid (HAC.out.kept hg2)
          clear hg2 HS
          go_wp2_with fail
          refine (HMU.out _).mono ?_
          rintro e3 w3 ⟨rfl, hg3⟩
          have HG3 := Lib.hid (HG2.out.trans hg3)
          have HA3 := Lib.hid (HA2.out.kept hg3)
          clear hg3 HMU
          go_wp2_with (at_builtin; refine wpList_pushG rfl (.tmp 37) (.tmp 42) rfl (E := encU) el_u64 HG3.out HA3.out (fun _ h => h) ⟨rfl, HU3.out⟩ HLB.out rfl rfl ?_)
          intro v2 w4 hacc2 hg4 hgo
          have HFIN : Hid (Acc encU w.heap.size 22 (fun g => w.heap.size ≤ g) w4 v2 ((List.range (j + 1)).map (wAt q xs at_)) ∧ w.grownBy w4 none ∧ ∀ i, i < j + 1 → HasInv (underI q xs at_ i) q) := Lib.hid ⟨by rw [HSN.out]; simpa using hacc2, hg4, HI.out⟩
          clear hacc2 hg4 hgo
          go_wp2_with fail
          go_roundg m
          case measure => omega
          case rel => exact ⟨j + 1, by omega, by go_num, HFIN⟩
        · rw [shareV_no hi] at HS
          have h5 : we = 5 := HWE.out.2 j hjN hi
          subst h5
          have HG := Lib.hid HX.out.2.1
          have HL0 := Lib.hid (HWL.out.2 (by decide))
          clear hi HX HWL HWE
          go_wp2_with (go_at_call 129; refine HS.out.mono ?_; rintro e2 w2 ⟨rfl, hg2⟩)
          have HG2 := Lib.hid (HG.out.trans hg2)
          clear hg2 HS
          go_wp2_with fail
          go_ret2
          exact ⟨_, rfl, by rw [HL0.out]; exact Sl.nil _ _ _, HG2.out⟩
  · have h0 : we = unlikeI xs q := by rw [hwe, wErr, if_neg hun]
    have HL0 := Lib.hid (HWL.out.2 (by rw [h0]; exact hun))
    clear HWL hwe
    rw [← h0] at HUN hun
    clear h0
    go_enter Tryz.func106, Tryz.ntmps106
    go_wp2_with (refine HUN.out.mono ?_; rintro e w1 ⟨rfl, hg1⟩)
    have HG1 := Lib.hid hg1
    clear hg1 HUN
    go_wp2_with fail
    go_ret2
    exact ⟨_, rfl, by rw [HL0.out]; exact Sl.nil _ _ _, HG1.out⟩
end Go.Proofs.YtiimippmihkgcaaGreatDoor
