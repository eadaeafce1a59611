/- mod.Inv, walked. -/
import Derived.Test.YtmbbahlenanpfaaModC
import Derived.Test.YtmbbahlenanpfaaInvM
namespace Go.Proofs.Ytmbbahlenanpfaa
open Go.RowKit
theorem subI_yes (a b m : Int) (hm : mayB m = true) : subI a b m = (a - b) % m := by
  simp only [subI, hm, if_true]
  show Cg m (a % m + m - b % m) (a - b)
  refine Cg.sub ?_ (Cg.mod m b)
  unfold Cg
  rw [Int.add_emod_right, Int.emod_emod_of_dvd _ (Int.dvd_refl m)]
theorem subI_bd (a b m : Int) (hm : mayB m = true) : 0 ≤ subI a b m ∧ subI a b m < m := by
  rw [subI_yes a b m hm]
  simp [mayB] at hm
  exact emod_bd _ _ hm.1
theorem addI_yes (a b m : Int) (hm : mayB m = true) : addI a b m = (a + b) % m := by
  simp only [addI, hm, if_true]
  exact (Cg.mod m a).add (Cg.mod m b)
theorem addI_bd (a b m : Int) (hm : mayB m = true) : 0 ≤ addI a b m ∧ addI a b m < m := by
  rw [addI_yes a b m hm]
  simp [mayB] at hm
  exact emod_bd _ _ hm.1
theorem addI_U64 (a b m : Int) : U64 (addI a b m) := by
  cases hm : mayB m with
  | false => simp [addI, hm, U64]
  | true =>
    have := addI_bd a b m hm
    simp [mayB] at hm
    unfold U64
    omega
theorem subI_U64 (a b m : Int) : U64 (subI a b m) := by
  cases hm : mayB m with
  | false => simp [subI, hm, U64]
  | true =>
    have := subI_bd a b m hm
    simp [mayB] at hm
    unfold U64
    omega
theorem U64.of_lt {a m : Int} (h0 : 0 ≤ a) (h1 : a < m) (hm : m ≤ 2305843009213693952) : U64 a := by unfold U64; omega

open Classical in
/-- What Inv answers where m may be. -/
noncomputable def invRes (a m : Int) : Value := if HasInv a m then .tuple #[.int .u64 (invI a m), .int .i64 0] else .tuple #[.int .u64 0, .int .i64 5]
theorem invRes_yes {a m x : Int} (h : HasInv a m ∧ x = invI a m) : .tuple #[.int .u64 x, .int .i64 0] = invRes a m := by
  unfold invRes
  rw [if_pos h.1, h.2]
theorem invRes_no {a m : Int} (h : ¬ HasInv a m) : .tuple #[.int .u64 0, .int .i64 5] = invRes a m := by
  unfold invRes
  rw [if_neg h]

end Go.Proofs.Ytmbbahlenanpfaa
