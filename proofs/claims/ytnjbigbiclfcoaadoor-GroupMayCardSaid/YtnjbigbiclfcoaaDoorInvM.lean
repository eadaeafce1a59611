/- Inverses modulo m, by Euclid's steps. No program in sight. -/
import Derived.Test.YtnjbigbiclfcoaaDoorNum
namespace Go.Proofs.YtnjbigbiclfcoaaDoor
def HasInv (a m : Int) : Prop := ∃ x, 0 ≤ x ∧ x < m ∧ Cg m (a * x) 1
open Classical in
noncomputable def invI (a m : Int) : Int := if h : HasInv a m then Classical.choose h else 0
theorem invI_spec {a m : Int} (h : HasInv a m) : 0 ≤ invI a m ∧ invI a m < m ∧ Cg m (a * invI a m) 1 := by
  unfold invI
  rw [dif_pos h]
  exact Classical.choose_spec h
theorem inv_unique {a m x y : Int} (hx0 : 0 ≤ x) (hx : x < m) (h : Cg m (a * x) 1) (hy0 : 0 ≤ y) (hy : y < m) (k : Cg m (a * y) 1) : x = y := by
  refine Cg.eq (m := m) ?_ hx0 hx hy0 hy
  have e1 : Cg m (x * (a * y)) x := (k.mul_left x).trans (Cg.of_eq (Int.mul_one x))
  have e2 : Cg m (y * (a * x)) y := (h.mul_left y).trans (Cg.of_eq (Int.mul_one y))
  exact e1.symm.trans ((Cg.of_eq (by rw [← Int.mul_assoc, ← Int.mul_assoc, Int.mul_comm x a, Int.mul_comm y a, Int.mul_assoc, Int.mul_assoc, Int.mul_comm x y])).trans e2)
theorem invI_eq {a m x : Int} (hx0 : 0 ≤ x) (hx : x < m) (h : Cg m (a * x) 1) : invI a m = x := by
  have s := invI_spec ⟨x, hx0, hx, h⟩
  exact inv_unique s.1 s.2.1 s.2.2 hx0 hx h

/-- What the loop of Inv keeps. -/
structure InvRel (a m r s x y : Int) : Prop where
  fst : Cg m (a * x) r
  snd : Cg m (a * y) s
  dvd : ∀ d : Int, (d ∣ r ∧ d ∣ s) → (d ∣ a ∧ d ∣ m)

theorem dvd_of_mod {d a m : Int} (h : d ∣ a % m) (k : d ∣ m) : d ∣ a := by
  rw [← Int.mul_ediv_add_emod a m]
  exact Int.dvd_add (Int.dvd_trans k (Int.dvd_mul_right _ _)) h

theorem InvRel.start (a m : Int) : InvRel a m m (a % m) 0 (1 % m) := by
  refine ⟨?_, ?_, fun d h => ⟨dvd_of_mod h.2 h.1, h.1⟩⟩
  · rw [Int.mul_zero]
    exact (Cg.of_dvd (by rw [Int.sub_zero]; exact Int.dvd_refl m)).symm
  · exact (((Cg.mod m 1).mul_left a).trans (Cg.of_eq (Int.mul_one a))).trans (Cg.mod m a).symm

theorem InvRel.next {a m r s x y z : Int} (h : InvRel a m r s x y) (hz : Cg m z (x - r / s * y)) : InvRel a m s (r % s) y z := by
  refine ⟨h.snd, ?_, fun d k => h.dvd d ⟨dvd_of_mod k.2 k.1, k.1⟩⟩
  have e := Int.mul_ediv_add_emod r s
  have e1 : r % s = r - r / s * s := by rw [Int.mul_comm (r / s)]; omega
  rw [e1]
  refine (hz.mul_left a).trans ?_
  rw [Int.mul_sub]
  refine h.fst.sub ?_
  rw [← Int.mul_assoc, Int.mul_comm a, Int.mul_assoc]
  exact h.snd.mul_left _

theorem InvRel.yes {a m x y : Int} (h : InvRel a m 1 0 x y) (hx0 : 0 ≤ x) (hx : x < m) : HasInv a m ∧ x = invI a m :=
  ⟨⟨x, hx0, hx, h.fst⟩, (invI_eq hx0 hx h.fst).symm⟩
theorem InvRel.no {a m r x y : Int} (h : InvRel a m r 0 x y) (h0 : 0 < r) (h1 : r ≠ 1) : ¬ HasInv a m := by
  rintro ⟨z, _, _, hz⟩
  obtain ⟨d1, d2⟩ := h.dvd r ⟨Int.dvd_refl r, Int.dvd_zero r⟩
  have k := Int.dvd_trans d2 hz.dvd
  have k1 : r ∣ a * z := Int.dvd_trans d1 (Int.dvd_mul_right a z)
  have k2 : r ∣ 1 := by
    have := Int.dvd_sub k1 k
    rwa [show a * z - (a * z - 1) = 1 by omega] at this
  have := Int.le_of_dvd (by decide) k2
  omega
end Go.Proofs.YtnjbigbiclfcoaaDoor
