/- Powers and commitments modulo P: plain arithmetic. -/
import Derived.Test.YtmbbahlenanpfaaDoorGrpB
import Derived.Test.YtmbbahlenanpfaaDoorMay
namespace Go.Proofs.YtmbbahlenanpfaaDoor
open Go.RowKit

theorem m_may (P : Int) (h1 : 1 ≤ P) (h2 : P ≤ 2305843009213693952) : mayB P = true := by simp [mayB]; omega
theorem may_bds {m : Int} (h : mayB m = true) : 0 < m ∧ m ≤ 2305843009213693952 := by simpa [mayB] using h
theorem times_nil_eq (P : Int) (hm : mayB P = true) : timesI P [] = 1 % P := by
  show mulI 1 1 P = _
  rw [mulI_yes _ _ _ hm, Int.mul_one]
theorem times_two_eq (P a b : Int) (hm : mayB P = true) : timesI P [a, b] = a * b % P := by
  show mulI (mulI (mulI 1 1 P) a P) b P = _
  rw [mulI_yes _ _ _ hm, mulI_yes _ _ _ hm, mulI_yes _ _ _ hm, Int.mul_one]
  exact ((Cg.mod P _).trans ((Cg.mod P 1).mul_right a |>.trans (Cg.of_eq (Int.one_mul a)))).mul_right b
theorem times_two_cg (P a b : Int) (hm : mayB P = true) : Cg P (timesI P [a, b]) (a * b) := by
  rw [times_two_eq _ _ _ hm]
  exact Cg.mod _ _
theorem powI_yes (a e P : Int) (hm : mayB P = true) : powI a e P = a ^ e.toNat % P := by simp [powI, hm]
theorem powI_cg (a e P : Int) (hm : mayB P = true) : Cg P (powI a e P) (a ^ e.toNat) := by
  rw [powI_yes _ _ _ hm]
  exact Cg.mod _ _
theorem powI_base {a b e P : Int} (hm : mayB P = true) (h : Cg P a b) : powI a e P = powI b e P := by
  rw [powI_yes _ _ _ hm, powI_yes _ _ _ hm]
  exact h.pow _
/-- What two things are that are the same modulo P and are told modulo P. -/
theorem pow_unit {P x : Int} {n : Nat} (h : Cg P (x ^ n) 1) (k : Nat) : Cg P (x ^ k) (x ^ (k % n)) := by
  have e : x ^ k = (x ^ n) ^ (k / n) * x ^ (k % n) := by
    rw [← Int.pow_mul, ← Int.pow_add, Nat.div_add_mod]
  rw [e]
  refine ((h.pow (k / n)).mul_right _).trans (Cg.of_eq ?_)
  rw [Int.one_pow, Int.one_mul]
theorem toNat_mod (e Q : Int) (he : 0 ≤ e) (hQ : 0 < Q) : (e % Q).toNat = e.toNat % Q.toNat := by
  obtain ⟨a, rfl⟩ := Int.eq_ofNat_of_zero_le he
  obtain ⟨b, rfl⟩ := Int.eq_ofNat_of_zero_le (Int.le_of_lt hQ)
  have e : ((a : Int) % (b : Int)) = ((a % b : Nat) : Int) := by simp
  rw [e, Int.toNat_natCast, Int.toNat_natCast, Int.toNat_natCast]
theorem pow_mod {P x Q e : Int} (h : Cg P (x ^ Q.toNat) 1) (he : 0 ≤ e) (hQ : 0 < Q) : Cg P (x ^ (e % Q).toNat) (x ^ e.toNat) := by
  rw [toNat_mod e Q he hQ]
  exact (pow_unit h _).symm
/-- A power by a sum modulo Q. -/
theorem pow_addQ {P x Q e f : Int} (h : Cg P (x ^ Q.toNat) 1) (he : 0 ≤ e) (hf : 0 ≤ f) (hQ : mayB Q = true) : Cg P (x ^ (addI e f Q).toNat) (x ^ e.toNat * x ^ f.toNat) := by
  rw [addI_yes _ _ _ hQ]
  refine (pow_mod h (by omega) (may_bds hQ).1).trans (Cg.of_eq ?_)
  rw [← Int.pow_add, Int.toNat_add he hf]
theorem pow_mulQ {P x Q e f : Int} (h : Cg P (x ^ Q.toNat) 1) (he : 0 ≤ e) (hf : 0 ≤ f) (hQ : mayB Q = true) : Cg P (x ^ (mulI e f Q).toNat) ((x ^ e.toNat) ^ f.toNat) := by
  rw [mulI_yes _ _ _ hQ]
  refine (pow_mod h (Int.mul_nonneg he hf) (may_bds hQ).1).trans (Cg.of_eq ?_)
  rw [← Int.pow_mul, Int.toNat_mul he hf]

/-- What params that may be give. -/
structure Good (p : Par) : Prop where
  P : mayB p.P = true
  Q : mayB p.Q = true
  P2 : 2 ≤ p.P
  Q2 : 2 ≤ p.Q
  G : Cg p.P (p.G ^ p.Q.toNat) 1
  H : Cg p.P (p.H ^ p.Q.toNat) 1
  T : 1 ≤ p.T ∧ p.T ≤ 2
  N : 3 * p.T + 1 ≤ p.N ∧ p.N ≤ 7 ∧ p.N < p.Q
  K : 1 ≤ p.K ∧ p.K ≤ 2
  D : 1 ≤ p.D ∧ p.D ≤ 4
  prime : primeB p.Q = true ∧ primeB p.P = true
  M : 1 ≤ p.M ∧ p.M ≤ 1048576
  X : 1 ≤ p.X ∧ p.X ≤ 1048576
  big : 2 * (p.D * p.M * p.X + p.M) < p.Q
theorem is_cg {p : Par} {x : Int} (hP : mayB p.P = true) (h2 : 2 ≤ p.P) (h : isB p x = true) : Cg p.P (x ^ p.Q.toNat) 1 := by
  simp only [isB, Bool.and_eq_true, beq_iff_eq] at h
  have e := h.2
  rw [powI_yes _ _ _ hP] at e
  unfold Cg
  rw [e, Int.emod_eq_of_lt (by decide) (by omega)]
theorem good_of {p : Par} (h : mayP p = true) : Good p := by
  simp only [mayP, m1, m2, m3, m4, m5, m6, m7, m8, m9, m10, Bool.and_eq_true, withinB_iff, decide_eq_true_eq, beq_iff_eq] at h
  obtain ⟨⟨⟨⟨⟨⟨⟨⟨⟨⟨⟨⟨a1, a2⟩, a3⟩, a4⟩, b1, b2⟩, ⟨c1, c2⟩, c3⟩, d1⟩, ⟨e1, e2⟩, f1, f2⟩, g1⟩, ⟨i1, i2⟩, j1, j2⟩, k1⟩, l1, l2⟩, ⟨⟨n1, n2⟩, n3⟩, n4⟩ := h
  have hP := m_may p.P (by omega) a2
  have hd : p.Q ∣ p.P - 1 := Int.dvd_of_emod_eq_zero a4
  have hQ : p.Q ≤ p.P - 1 := Int.le_of_dvd (by omega) hd
  exact ⟨hP, m_may p.Q (by omega) (by omega), a1, a3, is_cg hP a1 n2, is_cg hP a1 n4, ⟨b1, b2⟩, ⟨c1, c2, c3⟩, ⟨e1, e2⟩, ⟨f1, f2⟩, ⟨l1, l2⟩, ⟨i1, i2⟩, ⟨j1, j2⟩, k1⟩

theorem pow_group {P g Q a : Int} (hm : mayB P = true) (h : Cg P (g ^ Q.toNat) 1) : Cg P ((powI g a P) ^ Q.toNat) 1 := by
  refine ((powI_cg g a P hm).pow _).trans ?_
  rw [← Int.pow_mul, Nat.mul_comm, Int.pow_mul]
  exact (h.pow _).trans (Cg.of_eq Int.one_pow)
/-- GroupPowers's three. -/
theorem powers_1 {P x Q e f : Int} (hm : mayB P = true) (hQ : mayB Q = true) (h : Cg P (x ^ Q.toNat) 1) (he : 0 ≤ e) (hf : 0 ≤ f) : timesI P [powI x e P, powI x f P] = powI x (addI e f Q) P := by
  rw [times_two_eq _ _ _ hm, powI_yes _ _ _ hm, powI_yes _ _ _ hm, powI_yes _ _ _ hm]
  exact (((Cg.mod P _).mul (Cg.mod P _)).trans (pow_addQ h he hf hQ).symm)
theorem powers_2 {P x Q e : Int} (hm : mayB P = true) (hQ : mayB Q = true) (h : Cg P (x ^ Q.toNat) 1) (he : 0 ≤ e) : powI x e P = powI x (e % Q) P := by
  rw [powI_yes _ _ _ hm, powI_yes _ _ _ hm]
  exact (pow_mod h he (may_bds hQ).1).symm
theorem powers_3 {P x Q e f : Int} (hm : mayB P = true) (hQ : mayB Q = true) (h : Cg P (x ^ Q.toNat) 1) (he : 0 ≤ e) (hf : 0 ≤ f) : powI (powI x e P) f P = powI x (mulI e f Q) P := by
  rw [powI_base hm (powI_cg x e P hm), powI_yes _ _ _ hm, powI_yes _ _ _ hm]
  exact (pow_mulQ h he hf hQ).symm

theorem commit_eq (p : Par) (x : Int × Int) (hm : mayB p.P = true) : commitI p x = p.G ^ x.1.toNat * p.H ^ x.2.toNat % p.P := by
  unfold commitI
  rw [times_two_eq _ _ _ hm]
  exact (powI_cg _ _ _ hm).mul (powI_cg _ _ _ hm)
theorem commit_cg (p : Par) (x : Int × Int) (hm : mayB p.P = true) : Cg p.P (commitI p x) (p.G ^ x.1.toNat * p.H ^ x.2.toNat) := by
  rw [commit_eq _ _ hm]
  exact Cg.mod _ _
theorem mul4 (a b c d : Int) : a * b * (c * d) = a * c * (b * d) := by
  rw [Int.mul_assoc, Int.mul_assoc, ← Int.mul_assoc b c d, Int.mul_comm b c, Int.mul_assoc c b d]
/-- The product of commitments is the one to the sums. -/
theorem sums_1 {p : Par} (h : Good p) (x y : Int × Int) (x1 : 0 ≤ x.1) (x2 : 0 ≤ x.2) (y1 : 0 ≤ y.1) (y2 : 0 ≤ y.2) : timesI p.P [commitI p x, commitI p y] = commitI p (addI x.1 y.1 p.Q, addI x.2 y.2 p.Q) := by
  rw [times_two_eq _ _ _ h.P, commit_eq p (addI x.1 y.1 p.Q, addI x.2 y.2 p.Q) h.P]
  refine ((commit_cg _ _ h.P).mul (commit_cg _ _ h.P)).trans ?_
  rw [mul4]
  exact ((pow_addQ h.G x1 y1 h.Q).mul (pow_addQ h.H x2 y2 h.Q)).symm
/-- A power of a commitment is the one to the multiples. -/
theorem sums_2 {p : Par} (h : Good p) (x : Int × Int) (k : Int) (x1 : 0 ≤ x.1) (x2 : 0 ≤ x.2) (hk : 0 ≤ k) : powI (commitI p x) k p.P = commitI p (mulI x.1 k p.Q, mulI x.2 k p.Q) := by
  rw [powI_yes _ _ _ h.P, commit_eq p (mulI x.1 k p.Q, mulI x.2 k p.Q) h.P]
  refine ((commit_cg _ _ h.P).pow _).trans ?_
  rw [Int.mul_pow]
  exact ((pow_mulQ h.G x1 hk h.Q).mul (pow_mulQ h.H x2 hk h.Q)).symm

/-- The values of polynomials, as the law reckons them. -/
def valGo (Q i : Int) : List (Int × Int) → Int × Int → Int → Int × Int
  | [], v, _ => v
  | y :: l, v, e => valGo Q i l (addI v.1 (mulI y.1 e Q) Q, addI v.2 (mulI y.2 e Q) Q) (mulI e i Q)
theorem commit_zero {p : Par} (h : Good p) : commitI p (0, 0) = timesI p.P [] := by
  rw [commit_eq _ _ h.P, times_nil_eq _ h.P]
  simp
theorem at_val {p : Par} (h : Good p) (i : Int) (hi : 0 ≤ i) : ∀ (l : List (Int × Int)) (v : Int × Int) (e : Int), (∀ y ∈ l, 0 ≤ y.1 ∧ 0 ≤ y.2) → 0 ≤ v.1 → 0 ≤ v.2 → 0 ≤ e →
    atGo p i (l.map (commitI p)) (commitI p v) e = commitI p (valGo p.Q i l v e)
  | [], v, e, _, _, _, _ => rfl
  | y :: l, v, e, hl, h1, h2, he => by
    obtain ⟨y1, y2⟩ := hl y (by simp)
    have k1 := mulI_U64 y.1 e p.Q
    have k2 := mulI_U64 y.2 e p.Q
    have k3 := mulI_U64 e i p.Q
    have k4 := addI_U64 v.1 (mulI y.1 e p.Q) p.Q
    have k5 := addI_U64 v.2 (mulI y.2 e p.Q) p.Q
    show atGo p i (l.map (commitI p)) (timesI p.P [commitI p v, powI (commitI p y) e p.P]) (mulI e i p.Q) = _
    rw [sums_2 h y e y1 y2 he, sums_1 h v _ h1 h2 k1.1 k2.1]
    exact at_val h i hi l _ _ (fun z hz => hl z (by simp [hz])) k4.1 k5.1 k3.1
theorem at_commits {p : Par} (h : Good p) (i : Int) (hi : 0 ≤ i) (l : List (Int × Int)) (hl : ∀ y ∈ l, 0 ≤ y.1 ∧ 0 ≤ y.2) : atI p (l.map (commitI p)) i = commitI p (valGo p.Q i l (0, 0) 1) := by
  unfold atI
  rw [← commit_zero h, show mulI 1 1 p.Q = 1 by rw [mulI_yes _ _ _ h.Q]; exact Int.emod_eq_of_lt (by decide) (by have := h.Q2; omega)]
  exact at_val h i hi l _ _ hl (by decide) (by decide) (by decide)
theorem mulI_modr (e i Q : Int) : mulI e (i % Q) Q = mulI e i Q := by
  simp only [mulI]
  rw [show i % Q % Q = i % Q from Cg.mod Q i]
theorem atGo_mod (p : Par) (i : Int) : ∀ (l : List Int) (x e : Int), atGo p (i % p.Q) l x e = atGo p i l x e
  | [], _, _ => rfl
  | y :: l, x, e => by
    show atGo p (i % p.Q) l _ (mulI e (i % p.Q) p.Q) = atGo p i l _ (mulI e i p.Q)
    rw [mulI_modr]
    exact atGo_mod p i l _ _
theorem at_mod (p : Par) (l : List Int) (i : Int) : atI p l (i % p.Q) = atI p l i := atGo_mod p i l _ _
end Go.Proofs.YtmbbahlenanpfaaDoor
