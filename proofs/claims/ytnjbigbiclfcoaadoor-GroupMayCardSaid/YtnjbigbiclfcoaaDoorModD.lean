/- mod.Inv, walked. -/
import Derived.Test.YtnjbigbiclfcoaaDoorModC
import Derived.Test.YtnjbigbiclfcoaaDoorInvM
namespace Go.Proofs.YtnjbigbiclfcoaaDoor
open Go.RowKit
theorem subI_yes (a b m : Int) (hm : mayB m = true) : subI a b m = (a - b) % m := by
  simp only [subI, hm, if_true]
  show Cg m (a % m + m - b % m) (a - b)
  refine Cg.sub ?_ (Cg.mod m b)
  unfold Cg
  rw [Int.add_emod_right, Int.emod_emod_of_dvd _ (Int.dvd_refl m)]
theorem subI_bd (a b m : Int) (hm : mayB m = true) : 0 ≤ subI a b m ∧ subI a b m < m := by
  rw [subI_yes a b m hm]
  simp [mayB] at hm
  exact emod_bd _ _ hm.1
theorem addI_yes (a b m : Int) (hm : mayB m = true) : addI a b m = (a + b) % m := by
  simp only [addI, hm, if_true]
  exact (Cg.mod m a).add (Cg.mod m b)
theorem addI_bd (a b m : Int) (hm : mayB m = true) : 0 ≤ addI a b m ∧ addI a b m < m := by
  rw [addI_yes a b m hm]
  simp [mayB] at hm
  exact emod_bd _ _ hm.1
theorem addI_U64 (a b m : Int) : U64 (addI a b m) := by
  cases hm : mayB m with
  | false => simp [addI, hm, U64]
  | true =>
    have := addI_bd a b m hm
    simp [mayB] at hm
    unfold U64
    omega
theorem subI_U64 (a b m : Int) : U64 (subI a b m) := by
  cases hm : mayB m with
  | false => simp [subI, hm, U64]
  | true =>
    have := subI_bd a b m hm
    simp [mayB] at hm
    unfold U64
    omega
theorem U64.of_lt {a m : Int} (h0 : 0 ≤ a) (h1 : a < m) (hm : m ≤ 2305843009213693952) : U64 a := by unfold U64; omega

theorem inv_arg (a m : Int) (w : World) (hm : mayB m = false) :
    Calls Tryd.prog 21 #[.int .u64 a, .int .u64 m] w fun e' w' => e' = .returned (.tuple #[.int .u64 0, .int .i64 1]) ∧ ∃ n, w' = w.drewN n := by
  have H := Lib.hid hm
  clear hm
  go_enter Tryd.func21, Tryd.ntmps21
  go_wp2_with (go_at_call 40; refine (may_no _ _ H.out).mono ?_; rintro e w' ⟨rfl, rfl⟩)
  go_ret2
  exact ⟨rfl, 0, rfl⟩

open Classical in
/-- What Inv answers where m may be. -/
noncomputable def invRes (a m : Int) : Value := if HasInv a m then .tuple #[.int .u64 (invI a m), .int .i64 0] else .tuple #[.int .u64 0, .int .i64 5]
theorem invRes_yes {a m x : Int} (h : HasInv a m ∧ x = invI a m) : .tuple #[.int .u64 x, .int .i64 0] = invRes a m := by
  unfold invRes
  rw [if_pos h.1, h.2]
theorem invRes_no {a m : Int} (h : ¬ HasInv a m) : .tuple #[.int .u64 0, .int .i64 5] = invRes a m := by
  unfold invRes
  rw [if_neg h]

set_option maxHeartbeats 400000 in
theorem inv_may (a m : Int) (w : World) (ha : U64 a) (hm : mayB m = true) :
    Calls Tryd.prog 21 #[.int .u64 a, .int .u64 m] w fun e' w' => e' = .returned (invRes a m) ∧ ∃ n, w' = w.drewN n := by
  have H := Lib.hid hm
  simp [mayB] at hm
  obtain ⟨hm0, hm1⟩ := hm
  obtain ⟨e1, e2⟩ := emod_bd 1 m hm0
  obtain ⟨e3, e4⟩ := emod_bd a m hm0
  obtain ⟨ha0, ha1⟩ := ha
  have HP := Lib.hid (InvRel.start a m)
  go_enter Tryd.func21, Tryd.ntmps21
  go_wp2_with (go_at_call 40; refine (may_yes _ _ H.out).mono ?_; rintro e w' ⟨rfl, rfl⟩)
  go_quiet (fail)
  go_wp2
  go_quiet (fail)
  go_wp2_with fail
  go_loopw [6, 7, 8, 9] (fun sr ss sx sy wr => ∃ r s x y : Int, sr = .int .u64 r ∧ ss = .int .u64 s ∧ sx = .int .u64 x ∧ sy = .int .u64 y ∧ 0 < r ∧ r ≤ m ∧ 0 ≤ s ∧ s ≤ m ∧ 0 ≤ x ∧ x < m ∧ 0 ≤ y ∧ y < m ∧ Hid (InvRel a m r s x y) ∧ ∃ n, wr = w.drewN n) (fun _ ss _ _ _ => (intOf ss).toNat)
  case atStart => exact ⟨_, _, _, _, rfl, rfl, rfl, rfl, by omega, by omega, by omega, by omega, by omega, by omega, by omega, by omega, HP, _, World.drewN_drewN _ _ _⟩
  case round =>
    obtain ⟨r, s, x, y, rfl, rfl, rfl, rfl, hr0, hr1, hs0, hs1, hx0, hx1, hy0, hy1, hp, n, rfl⟩ := hrel
    by_cases h0 : s = 0
    · subst h0
      by_cases h1 : r = 1
      · subst h1
        have HR := Lib.hid (invRes_yes (hp.out.yes hx0 hx1))
        go_wp2
        go_ret2
        exact ⟨congrArg Ending.returned HR.out, _, rfl⟩
      · have h1' : (r != 1) = true := by simpa using h1
        have HR := Lib.hid (invRes_no (hp.out.no hr0 h1))
        clear h1
        go_wp2
        go_ret2
        exact ⟨congrArg Ending.returned HR.out, _, rfl⟩
    · have h0' : (s != 0) = true := by simpa using h0
      have q0 : 0 ≤ r / s := Int.ediv_nonneg (by omega) hs0
      have q1 : r / s ≤ r := Int.ediv_le_self s (by omega)
      obtain ⟨b0, b1⟩ := emod_bd r s (by omega)
      have HQ : Hid (U64 (r / s)) := Lib.hid ⟨q0, by omega⟩
      have HY : Hid (U64 y) := Lib.hid ⟨hy0, by omega⟩
      have HX : Hid (U64 x) := Lib.hid ⟨hx0, by omega⟩
      have HM := Lib.hid (mulI_U64 (r / s) y m)
      have HS := subI_bd x (mulI (r / s) y m) m H.out
      obtain ⟨z0, z1⟩ := HS
      have HN := Lib.hid (hp.out.next (z := subI x (mulI (r / s) y m) m) (by rw [subI_yes x _ m H.out]; exact (Cg.mod m _).trans ((Cg.refl m x).sub (mulI_cg _ _ m H.out))))
      clear h0
      go_wp2
      go_quiet (fail)
      go_wp2_with fail
      refine (mul_any _ _ m _ HQ.out HY.out).mono ?_
      rintro e w' ⟨rfl, n1, rfl⟩
      go_wp2_with fail
      refine (sub_any _ _ m _ HX.out HM.out).mono ?_
      rintro e w' ⟨rfl, n2, rfl⟩
      go_wp2
      go_roundw
      case rel => exact ⟨_, _, _, _, rfl, rfl, rfl, rfl, by omega, by omega, by omega, by omega, by omega, by omega, by omega, by omega, HN, _, rfl⟩
      case measure => simp [intOf]; omega
end Go.Proofs.YtnjbigbiclfcoaaDoor
