/- The reference's Add, Sub, Mul, Pow (consistoryref01), walked: they answer what mod's do. -/
import Derived.Test.YtnjbigbiclfcoaaDoorModD
namespace Go.Proofs.YtnjbigbiclfcoaaDoor
open Go.RowKit

theorem addI_no (a b m : Int) (hm : mayB m = false) : addI a b m = 0 := by simp [addI, hm]
theorem may_cases {m : Int} (h : mayB m = false) (h0 : 0 ≤ m) : m = 0 ∨ 2305843009213693952 < m := by
  simp [mayB] at h
  omega
theorem add_carry (x y m : Int) (x0 : 0 ≤ x) (x1 : x < m) (y0 : 0 ≤ y) (y1 : y < m) : (m ≤ x + y → (x + y) % m = x + y - m) ∧ (x + y < m → (x + y) % m = x + y) := by
  refine ⟨fun h => ?_, fun h => Int.emod_eq_of_lt (by omega) h⟩
  rw [show x + y = (x + y - m) + m * 1 by omega, Int.add_mul_emod_self_left, Int.emod_eq_of_lt (by omega) (by omega)]
  omega

set_option maxHeartbeats 400000 in
theorem refadd_any (a b m : Int) (w : World) (ha : U64 a) (hb : U64 b) (hm : U64 m) :
    Calls Tryd.prog 53 #[.int .u64 a, .int .u64 b, .int .u64 m] w fun e w' => e = .returned (.int .u64 (addI a b m)) ∧ ∃ n, w' = w.drewN n := by
  obtain ⟨a0, a1⟩ := ha
  obtain ⟨b0, b1⟩ := hb
  obtain ⟨m0, m1⟩ := hm
  cases hmay : mayB m with
  | false =>
    rw [addI_no a b m hmay]
    rcases may_cases hmay m0 with rfl | h
    · clear hmay
      go_enter Tryd.func53, Tryd.ntmps53
      go_wp2
      go_ret
      exact ⟨rfl, 0, rfl⟩
    · clear hmay
      have h1 : (m == 0) = false := by simp; omega
      have h2 : decide (2305843009213693952 < m) = true := by simpa using h
      go_enter Tryd.func53, Tryd.ntmps53
      go_wp2
      go_ret
      exact ⟨rfl, 0, rfl⟩
  | true =>
    have hr : addI a b m = (a % m + b % m) % m := by simp [addI, hmay]
    rw [hr]
    simp [mayB] at hmay
    obtain ⟨hm0, hm1⟩ := hmay
    obtain ⟨e1, e2⟩ := emod_bd a m hm0
    obtain ⟨e3, e4⟩ := emod_bd b m hm0
    have hc := add_carry (a % m) (b % m) m e1 e2 e3 e4
    have h1 : (m == 0) = false := by simp; omega
    have h2 : decide (2305843009213693952 < m) = false := by simpa using hm1
    clear hr
    by_cases hs : m ≤ a % m + b % m
    · have HC := Lib.hid (hc.1 hs)
      have hs' : decide (m ≤ a % m + b % m) = true := by simpa using hs
      clear hc
      go_enter Tryd.func53, Tryd.ntmps53
      go_wp2
      go_quiet (fail)
      go_wp2
      go_ret
      exact ⟨congrArg Ending.returned (congrArg (Value.int .u64) HC.out.symm), _, rfl⟩
    · have HC := Lib.hid (hc.2 (by omega))
      have hs' : decide (m ≤ a % m + b % m) = false := by simpa using hs
      clear hc
      go_enter Tryd.func53, Tryd.ntmps53
      go_wp2
      go_quiet (fail)
      go_wp2
      go_ret
      exact ⟨congrArg Ending.returned (congrArg (Value.int .u64) HC.out.symm), _, rfl⟩

theorem sub_borrow (x y m : Int) (x0 : 0 ≤ x) (x1 : x < m) (y0 : 0 ≤ y) (y1 : y < m) : (y ≤ x → (x + m - y) % m = x - y) ∧ (x < y → (x + m - y) % m = m - (y - x)) := by
  refine ⟨fun h => ?_, fun h => ?_⟩
  · rw [show x + m - y = (x - y) + m * 1 by omega, Int.add_mul_emod_self_left, Int.emod_eq_of_lt (by omega) (by omega)]
  · rw [Int.emod_eq_of_lt (by omega) (by omega)]
    omega

/-- What the loop of the reference's Mul keeps. -/
def RMul (m a0 b0 o a b : Int) : Prop := Cg m (o + a * b) (a0 * b0)
theorem RMul.odd {m a0 b0 o a b : Int} (hm : mayB m = true) (h : RMul m a0 b0 o a b) (h2 : b % 2 = 1) : RMul m a0 b0 (addI o a m) (addI a a m) (b / 2) := by
  unfold RMul at *
  have e1 : Cg m (addI o a m) (o + a) := by rw [addI_yes _ _ _ hm]; exact Cg.mod _ _
  have e2 : Cg m (addI a a m) (a + a) := by rw [addI_yes _ _ _ hm]; exact Cg.mod _ _
  refine ((e1.add (e2.mul_right _)).trans (Cg.of_eq ?_)).trans h
  have hb : b = 2 * (b / 2) + 1 := by omega
  generalize b / 2 = k at *
  subst hb
  rw [Int.mul_add, Int.mul_one, Int.add_mul, ← Int.mul_assoc, Int.mul_comm a 2, Int.mul_assoc]
  omega
theorem RMul.even {m a0 b0 o a b : Int} (hm : mayB m = true) (h : RMul m a0 b0 o a b) (h2 : b % 2 = 0) : RMul m a0 b0 o (addI a a m) (b / 2) := by
  unfold RMul at *
  have e2 : Cg m (addI a a m) (a + a) := by rw [addI_yes _ _ _ hm]; exact Cg.mod _ _
  refine (((Cg.refl m o).add (e2.mul_right _)).trans (Cg.of_eq ?_)).trans h
  have hb : b = 2 * (b / 2) := by omega
  generalize b / 2 = k at *
  subst hb
  rw [Int.add_mul, ← Int.mul_assoc, Int.mul_comm a 2, Int.mul_assoc]
  omega
theorem RMul.done {m a0 b0 o a : Int} (hm : mayB m = true) (h : RMul m a0 b0 o a 0) (h0 : 0 ≤ o) (h1 : o < m) : o = mulI a0 b0 m := by
  unfold RMul Cg at h
  rw [Int.mul_zero, Int.add_zero, Int.emod_eq_of_lt h0 h1] at h
  rw [mulI_yes _ _ _ hm, h]

set_option maxHeartbeats 400000 in
theorem refmul_any (a b m : Int) (w : World) (ha : U64 a) (hb : U64 b) (hm : U64 m) :
    Calls Tryd.prog 50 #[.int .u64 a, .int .u64 b, .int .u64 m] w fun e w' => e = .returned (.int .u64 (mulI a b m)) ∧ ∃ n, w' = w.drewN n := by
  have HA := Lib.hid ha
  have HM := Lib.hid hm
  obtain ⟨b0, b1⟩ := hb
  clear ha hm
  have HR : Hid ((mayB m = true → RMul m a b 0 a b ∧ 0 < m) ∧ (mayB m = false → (0 : Int) = 0)) := Lib.hid ⟨fun h => ⟨Cg.of_eq (Int.zero_add _), by simp [mayB] at h; exact h.1⟩, fun _ => rfl⟩
  go_enter Tryd.func50, Tryd.ntmps50
  go_wp2_with fail
  go_loopw [0, 1, 7] (fun sa sb so wr => ∃ x k o : Int, sa = .int .u64 x ∧ sb = .int .u64 k ∧ so = .int .u64 o ∧ Hid (U64 x) ∧ Hid (U64 o) ∧ 0 ≤ k ∧ k < 18446744073709551616 ∧ Hid ((mayB m = true → RMul m a b o x k ∧ 0 ≤ o ∧ o < m) ∧ (mayB m = false → o = 0)) ∧ ∃ n, wr = w.drewN n) (fun _ sb _ _ => (intOf sb).toNat)
  case atStart => exact ⟨_, _, _, rfl, rfl, rfl, HA, Lib.hid ⟨by decide, by decide⟩, b0, b1, Lib.hid ⟨fun h => ⟨(HR.out.1 h).1, by decide, (HR.out.1 h).2⟩, fun _ => rfl⟩, 0, rfl⟩
  case round =>
    obtain ⟨x, k, o, rfl, rfl, rfl, hx, ho, k0, k1, hp, n, rfl⟩ := hrel
    by_cases h0 : 0 < k
    · have HX2 := Lib.hid (addI_U64 x x m)
      by_cases h2 : k % 2 = 1
      · have h2' : (k % 2 == 1) = true := by simpa using h2
        have HO2 := Lib.hid (addI_U64 o x m)
        have HN : Hid ((mayB m = true → RMul m a b (addI o x m) (addI x x m) (k / 2) ∧ 0 ≤ addI o x m ∧ addI o x m < m) ∧ (mayB m = false → addI o x m = 0)) := Lib.hid ⟨fun h => ⟨(hp.out.1 h).1.odd h h2, (addI_bd o x m h).1, (addI_bd o x m h).2⟩, fun h => addI_no o x m h⟩
        clear h2
        go_wp2_with fail
        refine (refadd_any o x m _ ho.out hx.out HM.out).mono ?_
        rintro e w' ⟨rfl, n1, rfl⟩
        go_wp2_with fail
        refine (refadd_any x x m _ hx.out hx.out HM.out).mono ?_
        rintro e w' ⟨rfl, n2, rfl⟩
        go_wp2
        go_roundw
        case rel => exact ⟨_, _, _, rfl, rfl, rfl, HX2, HO2, by omega, by omega, HN, _, rfl⟩
        case measure => simp [intOf]; omega
      · have h2' : (k % 2 == 1) = false := by simpa using h2
        have HN : Hid ((mayB m = true → RMul m a b o (addI x x m) (k / 2) ∧ 0 ≤ o ∧ o < m) ∧ (mayB m = false → o = 0)) := Lib.hid ⟨fun h => ⟨(hp.out.1 h).1.even h (by omega), (hp.out.1 h).2.1, (hp.out.1 h).2.2⟩, hp.out.2⟩
        clear h2
        go_wp2_with fail
        refine (refadd_any x x m _ hx.out hx.out HM.out).mono ?_
        rintro e w' ⟨rfl, n2, rfl⟩
        go_wp2
        go_roundw
        case rel => exact ⟨_, _, _, rfl, rfl, rfl, HX2, ho, by omega, by omega, HN, _, rfl⟩
        case measure => simp [intOf]; omega
    · obtain rfl : k = 0 := by omega
      have HE : Hid (o = mulI a b m) := Lib.hid (by
        cases hmay : mayB m with
        | true => exact (hp.out.1 hmay).1.done hmay (hp.out.1 hmay).2.1 (hp.out.1 hmay).2.2
        | false => rw [hp.out.2 hmay]; simp [mulI, hmay])
      go_wp2
      go_ret
      exact ⟨congrArg Ending.returned (congrArg (Value.int .u64) HE.out), _, rfl⟩

theorem powI_U64' (a e m : Int) : U64 (powI a e m) := by
  cases hm : mayB m with
  | false => simp [powI, hm, U64]
  | true =>
    simp only [powI, hm, if_true]
    simp [mayB] at hm
    have := emod_bd (a ^ e.toNat) m hm.1
    unfold U64
    omega
theorem pow_zero' (a m : Int) : addI 1 0 m = powI a 0 m := by
  cases hm : mayB m with
  | false => simp [powI, addI, hm]
  | true => rw [addI_yes _ _ _ hm]; simp [powI, hm]
theorem pow_even (a e m : Int) (he : 0 ≤ e) (h2 : e % 2 = 0) : mulI (powI a (e / 2) m) (powI a (e / 2) m) m = powI a e m := by
  cases hm : mayB m with
  | false => simp [powI, mulI, hm]
  | true =>
    rw [mulI_yes _ _ _ hm]
    simp only [powI, hm, if_true]
    refine ((Cg.mod m _).mul (Cg.mod m _)).trans (Cg.of_eq ?_)
    rw [toNat_even e he h2, ← Int.pow_add]
    congr 1
    omega
theorem pow_odd (a e m : Int) (he : 0 ≤ e) (h2 : e % 2 = 1) : mulI (mulI (powI a (e / 2) m) (powI a (e / 2) m) m) a m = powI a e m := by
  cases hm : mayB m with
  | false => simp [powI, mulI, hm]
  | true =>
    rw [mulI_yes _ _ _ hm, mulI_yes _ _ _ hm]
    simp only [powI, hm, if_true]
    refine (((Cg.mod m _).trans ((Cg.mod m _).mul (Cg.mod m _))).mul_right a).trans (Cg.of_eq ?_)
    rw [toNat_odd e he h2, Int.pow_succ, ← Int.pow_add]
    congr 2
    omega

set_option maxHeartbeats 400000 in
theorem refpow_fuel (a m : Int) (ha : U64 a) (hm : U64 m) : ∀ (f : Nat) (e : Int) (w : World), 0 ≤ e → e < 18446744073709551616 → e.toNat < 2 ^ f →
    Calls Tryd.prog 49 #[.int .u64 a, .int .u64 e, .int .u64 m] w fun e' w' => e' = .returned (.int .u64 (powI a e m)) ∧ ∃ n, w' = w.drewN n := by
  have HA := Lib.hid ha
  have HM := Lib.hid hm
  clear ha hm
  intro f
  induction f with
  | zero =>
    intro e w h0 h1 hf
    have : e = 0 := by simp at hf; omega
    subst this
    clear hf h0 h1
    rw [← pow_zero']
    go_enter Tryd.func49, Tryd.ntmps49
    go_wp2_with fail
    refine (refadd_any 1 0 m _ ⟨by decide, by decide⟩ ⟨by decide, by decide⟩ HM.out).mono ?_
    rintro e w' ⟨rfl, n1, rfl⟩
    go_wp2
    go_ret
    exact ⟨rfl, _, rfl⟩
  | succ f ih =>
    intro e w h0 h1 hf
    by_cases hz : e = 0
    · subst hz
      clear hf h0 h1 ih
      rw [← pow_zero']
      go_enter Tryd.func49, Tryd.ntmps49
      go_wp2_with fail
      refine (refadd_any 1 0 m _ ⟨by decide, by decide⟩ ⟨by decide, by decide⟩ HM.out).mono ?_
      rintro e w' ⟨rfl, n1, rfl⟩
      go_wp2
      go_ret
      exact ⟨rfl, _, rfl⟩
    · have hz' : (e == 0) = false := by simpa using hz
      have HI := Lib.hid (fun w => ih (e / 2) w (by omega) (by omega) (by rw [Nat.pow_succ] at hf; omega))
      have HH := Lib.hid (powI_U64' a (e / 2) m)
      have HQ := Lib.hid (mulI_U64 (powI a (e / 2) m) (powI a (e / 2) m) m)
      clear ih hf hz
      by_cases h2 : e % 2 = 1
      · have h2' : (e % 2 == 1) = true := by simpa using h2
        rw [← pow_odd a e m h0 h2]
        clear h2
        go_enter Tryd.func49, Tryd.ntmps49
        go_wp2_with fail
        refine (HI.out _).mono ?_
        rintro e w' ⟨rfl, n1, rfl⟩
        go_wp2_with fail
        refine (refmul_any _ _ m _ HH.out HH.out HM.out).mono ?_
        rintro e w' ⟨rfl, n1, rfl⟩
        go_wp2_with fail
        refine (refmul_any _ _ m _ HQ.out HA.out HM.out).mono ?_
        rintro e w' ⟨rfl, n1, rfl⟩
        go_wp2
        go_ret
        exact ⟨rfl, _, rfl⟩
      · have h2' : (e % 2 == 1) = false := by simpa using h2
        rw [← pow_even a e m h0 (by omega)]
        clear h2
        go_enter Tryd.func49, Tryd.ntmps49
        go_wp2_with fail
        refine (HI.out _).mono ?_
        rintro e w' ⟨rfl, n1, rfl⟩
        go_wp2_with fail
        refine (refmul_any _ _ m _ HH.out HH.out HM.out).mono ?_
        rintro e w' ⟨rfl, n1, rfl⟩
        go_wp2
        go_ret
        exact ⟨rfl, _, rfl⟩
theorem refpow_any (a e m : Int) (w : World) (ha : U64 a) (he : U64 e) (hm : U64 m) :
    Calls Tryd.prog 49 #[.int .u64 a, .int .u64 e, .int .u64 m] w fun e' w' => e' = .returned (.int .u64 (powI a e m)) ∧ ∃ n, w' = w.drewN n := by
  obtain ⟨e0, e1⟩ := he
  exact refpow_fuel a m ha hm 64 e w e0 e1 (by have : (2 : Nat) ^ 64 = 18446744073709551616 := by decide
                                               omega)
end Go.Proofs.YtnjbigbiclfcoaaDoor
