/- The reference's Add, Sub, Mul, Pow (consistoryref01), walked: they answer what mod's do. -/
import Derived.Test.YtmbbahlenanpfaaModD
namespace Go.Proofs.Ytmbbahlenanpfaa
open Go.RowKit

theorem addI_no (a b m : Int) (hm : mayB m = false) : addI a b m = 0 := by simp [addI, hm]
theorem may_cases {m : Int} (h : mayB m = false) (h0 : 0 ≤ m) : m = 0 ∨ 2305843009213693952 < m := by
  simp [mayB] at h
  omega
theorem add_carry (x y m : Int) (x0 : 0 ≤ x) (x1 : x < m) (y0 : 0 ≤ y) (y1 : y < m) : (m ≤ x + y → (x + y) % m = x + y - m) ∧ (x + y < m → (x + y) % m = x + y) := by
  refine ⟨fun h => ?_, fun h => Int.emod_eq_of_lt (by omega) h⟩
  rw [show x + y = (x + y - m) + m * 1 by omega, Int.add_mul_emod_self_left, Int.emod_eq_of_lt (by omega) (by omega)]
  omega

theorem sub_borrow (x y m : Int) (x0 : 0 ≤ x) (x1 : x < m) (y0 : 0 ≤ y) (y1 : y < m) : (y ≤ x → (x + m - y) % m = x - y) ∧ (x < y → (x + m - y) % m = m - (y - x)) := by
  refine ⟨fun h => ?_, fun h => ?_⟩
  · rw [show x + m - y = (x - y) + m * 1 by omega, Int.add_mul_emod_self_left, Int.emod_eq_of_lt (by omega) (by omega)]
  · rw [Int.emod_eq_of_lt (by omega) (by omega)]
    omega

/-- What the loop of the reference's Mul keeps. -/
def RMul (m a0 b0 o a b : Int) : Prop := Cg m (o + a * b) (a0 * b0)
theorem RMul.odd {m a0 b0 o a b : Int} (hm : mayB m = true) (h : RMul m a0 b0 o a b) (h2 : b % 2 = 1) : RMul m a0 b0 (addI o a m) (addI a a m) (b / 2) := by
  unfold RMul at *
  have e1 : Cg m (addI o a m) (o + a) := by rw [addI_yes _ _ _ hm]; exact Cg.mod _ _
  have e2 : Cg m (addI a a m) (a + a) := by rw [addI_yes _ _ _ hm]; exact Cg.mod _ _
  refine ((e1.add (e2.mul_right _)).trans (Cg.of_eq ?_)).trans h
  have hb : b = 2 * (b / 2) + 1 := by omega
  generalize b / 2 = k at *
  subst hb
  rw [Int.mul_add, Int.mul_one, Int.add_mul, ← Int.mul_assoc, Int.mul_comm a 2, Int.mul_assoc]
  omega
theorem RMul.even {m a0 b0 o a b : Int} (hm : mayB m = true) (h : RMul m a0 b0 o a b) (h2 : b % 2 = 0) : RMul m a0 b0 o (addI a a m) (b / 2) := by
  unfold RMul at *
  have e2 : Cg m (addI a a m) (a + a) := by rw [addI_yes _ _ _ hm]; exact Cg.mod _ _
  refine (((Cg.refl m o).add (e2.mul_right _)).trans (Cg.of_eq ?_)).trans h
  have hb : b = 2 * (b / 2) := by omega
  generalize b / 2 = k at *
  subst hb
  rw [Int.add_mul, ← Int.mul_assoc, Int.mul_comm a 2, Int.mul_assoc]
  omega
theorem RMul.done {m a0 b0 o a : Int} (hm : mayB m = true) (h : RMul m a0 b0 o a 0) (h0 : 0 ≤ o) (h1 : o < m) : o = mulI a0 b0 m := by
  unfold RMul Cg at h
  rw [Int.mul_zero, Int.add_zero, Int.emod_eq_of_lt h0 h1] at h
  rw [mulI_yes _ _ _ hm, h]

theorem powI_U64' (a e m : Int) : U64 (powI a e m) := by
  cases hm : mayB m with
  | false => simp [powI, hm, U64]
  | true =>
    simp only [powI, hm, if_true]
    simp [mayB] at hm
    have := emod_bd (a ^ e.toNat) m hm.1
    unfold U64
    omega
theorem pow_zero' (a m : Int) : addI 1 0 m = powI a 0 m := by
  cases hm : mayB m with
  | false => simp [powI, addI, hm]
  | true => rw [addI_yes _ _ _ hm]; simp [powI, hm]
theorem pow_even (a e m : Int) (he : 0 ≤ e) (h2 : e % 2 = 0) : mulI (powI a (e / 2) m) (powI a (e / 2) m) m = powI a e m := by
  cases hm : mayB m with
  | false => simp [powI, mulI, hm]
  | true =>
    rw [mulI_yes _ _ _ hm]
    simp only [powI, hm, if_true]
    refine ((Cg.mod m _).mul (Cg.mod m _)).trans (Cg.of_eq ?_)
    rw [toNat_even e he h2, ← Int.pow_add]
    congr 1
    omega
theorem pow_odd (a e m : Int) (he : 0 ≤ e) (h2 : e % 2 = 1) : mulI (mulI (powI a (e / 2) m) (powI a (e / 2) m) m) a m = powI a e m := by
  cases hm : mayB m with
  | false => simp [powI, mulI, hm]
  | true =>
    rw [mulI_yes _ _ _ hm, mulI_yes _ _ _ hm]
    simp only [powI, hm, if_true]
    refine (((Cg.mod m _).trans ((Cg.mod m _).mul (Cg.mod m _))).mul_right a).trans (Cg.of_eq ?_)
    rw [toNat_odd e he h2, Int.pow_succ, ← Int.pow_add]
    congr 2
    omega

end Go.Proofs.Ytmbbahlenanpfaa
