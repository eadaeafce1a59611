/- Congruences of integers. No program in sight. -/
import Derived.KernelRfl
namespace Go.Proofs.YtnjbigbiclfcoaaDoor
/-- a and b leave the same rest by m. -/
def Cg (m a b : Int) : Prop := a % m = b % m
namespace Cg
variable {m a b c d : Int}
theorem refl (m a : Int) : Cg m a a := rfl
theorem symm (h : Cg m a b) : Cg m b a := Eq.symm h
theorem trans (h : Cg m a b) (k : Cg m b c) : Cg m a c := Eq.trans h k
theorem mod (m a : Int) : Cg m (a % m) a := Int.emod_emod_of_dvd a (Int.dvd_refl m)
theorem mul (h : Cg m a b) (k : Cg m c d) : Cg m (a * c) (b * d) := by
  unfold Cg at *
  rw [Int.mul_emod, h, k, ← Int.mul_emod]
theorem add (h : Cg m a b) (k : Cg m c d) : Cg m (a + c) (b + d) := by
  unfold Cg at *
  rw [Int.add_emod, h, k, ← Int.add_emod]
theorem sub (h : Cg m a b) (k : Cg m c d) : Cg m (a - c) (b - d) := by
  unfold Cg at *
  rw [Int.sub_emod, h, k, ← Int.sub_emod]
theorem pow (h : Cg m a b) : ∀ n : Nat, Cg m (a ^ n) (b ^ n)
  | 0 => by rw [Int.pow_zero, Int.pow_zero]; exact refl _ _
  | n + 1 => by rw [Int.pow_succ, Int.pow_succ]; exact mul (pow h n) h
theorem mul_right (h : Cg m a b) (c : Int) : Cg m (a * c) (b * c) := mul h (refl _ _)
theorem mul_left (h : Cg m a b) (c : Int) : Cg m (c * a) (c * b) := mul (refl _ _) h
theorem of_eq (h : a = b) : Cg m a b := h ▸ refl _ _
theorem eq (h : Cg m a b) (a0 : 0 ≤ a) (a1 : a < m) (b0 : 0 ≤ b) (b1 : b < m) : a = b := by
  unfold Cg at h
  rwa [Int.emod_eq_of_lt a0 a1, Int.emod_eq_of_lt b0 b1] at h
theorem dvd (h : Cg m a b) : m ∣ a - b := Int.dvd_of_emod_eq_zero (by unfold Cg at h; rw [Int.sub_emod, h, Int.sub_self]; rfl)
theorem of_dvd (h : m ∣ a - b) : Cg m a b := by
  obtain ⟨k, hk⟩ := h
  have e : a = b + m * k := by omega
  unfold Cg
  rw [e, Int.add_mul_emod_self_left]
end Cg
theorem pow_sq (x : Int) (n : Nat) : (x * x) ^ n = x ^ (2 * n) := by
  rw [Int.pow_mul, show x ^ 2 = x * x from by rw [Int.pow_succ, Int.pow_succ, Int.pow_zero, Int.one_mul]]
theorem toNat_even (k : Int) (h : 0 ≤ k) (h2 : k % 2 = 0) : k.toNat = 2 * (k / 2).toNat := by omega
theorem toNat_odd (k : Int) (h : 0 ≤ k) (h2 : k % 2 = 1) : k.toNat = 2 * (k / 2).toNat + 1 := by omega
end Go.Proofs.YtnjbigbiclfcoaaDoor
