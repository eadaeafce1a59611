/- Numbers: primes, powers, and what Miller and Rabin's test tells of a prime divisor. -/
namespace Go.Proofs.YtnjbigbiclfcoaaDoor.NT

def Pr (p : Nat) : Prop := 2 ≤ p ∧ ∀ d, d ∣ p → d = 1 ∨ d = p
theorem least_pr (n : Nat) (h : 2 ≤ n) : ∃ p, Pr p ∧ p ∣ n ∧ ∀ d, 2 ≤ d → d ∣ n → p ≤ d := by
  have key : ∀ k, (∃ d, d ≤ k ∧ 2 ≤ d ∧ d ∣ n) → ∃ p, (2 ≤ p ∧ p ∣ n) ∧ ∀ d, 2 ≤ d → d ∣ n → p ≤ d := by
    intro k
    induction k with
    | zero => rintro ⟨d, h1, h2, _⟩; omega
    | succ k ih =>
      rintro ⟨d, h1, h2, h3⟩
      by_cases hc : ∃ d, d ≤ k ∧ 2 ≤ d ∧ d ∣ n
      · exact ih hc
      · refine ⟨d, ⟨h2, h3⟩, fun d' h4 h5 => ?_⟩
        rcases Nat.lt_or_ge d' d with hlt | hge
        · exact absurd ⟨d', by omega, h4, h5⟩ hc
        · exact hge
  obtain ⟨p, ⟨h1, h2⟩, h3⟩ := key n ⟨n, Nat.le_refl _, h, Nat.dvd_refl _⟩
  refine ⟨p, ⟨h1, fun d hd => ?_⟩, h2, h3⟩
  have hd0 : d ≠ 0 := by rintro rfl; rw [Nat.zero_dvd] at hd; omega
  rcases Nat.lt_or_ge d 2 with h4 | h4
  · left; omega
  · right
    have := h3 d h4 (Nat.dvd_trans hd h2)
    have := Nat.le_of_dvd (by omega) hd
    omega
theorem Pr.pos {p : Nat} (h : Pr p) : 2 ≤ p := h.1
theorem Pr.cop {p a : Nat} (h : Pr p) (ha : ¬ p ∣ a) : Nat.Coprime p a := by
  rcases h.2 _ (Nat.gcd_dvd_left p a) with e | e
  · exact e
  · exact absurd (e ▸ Nat.gcd_dvd_right p a) ha
theorem Pr.mul {p a b : Nat} (h : Pr p) (hd : p ∣ a * b) : p ∣ a ∨ p ∣ b := by
  by_cases ha : p ∣ a
  · exact .inl ha
  · exact .inr ((h.cop ha).dvd_of_dvd_mul_left hd)
theorem Pr.pow {p a : Nat} (h : Pr p) : ∀ k, p ∣ a ^ k → p ∣ a
  | 0, hd => by
    rw [Nat.pow_zero] at hd
    have := Nat.le_of_dvd (by decide) hd
    have := h.1
    omega
  | k + 1, hd => by
    rw [Nat.pow_succ] at hd
    rcases h.mul hd with h1 | h1
    · exact Pr.pow h k h1
    · exact h1
theorem Pr.odd {p : Nat} (h : Pr p) (h2 : 2 < p) : p % 2 = 1 := by
  rcases Nat.mod_two_eq_zero_or_one p with e | e
  · rcases h.2 2 (Nat.dvd_of_mod_eq_zero e) with h3 | h3 <;> omega
  · exact e

/-- Powers modulo a number. -/
theorem cmul {m a b c d : Nat} (h : a % m = b % m) (k : c % m = d % m) : a * c % m = b * d % m := by
  rw [Nat.mul_mod, h, k, ← Nat.mul_mod]
theorem cpow {m a b : Nat} (h : a % m = b % m) (k : Nat) : a ^ k % m = b ^ k % m := by
  rw [Nat.pow_mod, h, ← Nat.pow_mod]
theorem one_pow_mod {m a x : Nat} (h : a ^ x % m = 1 % m) (k : Nat) : a ^ (x * k) % m = 1 % m := by
  rw [Nat.pow_mul]
  have := cpow (b := 1) h k
  rwa [Nat.one_pow] at this
theorem one_pow_dvd {m a x y : Nat} (h : a ^ x % m = 1 % m) (hd : x ∣ y) : a ^ y % m = 1 % m := by
  obtain ⟨k, rfl⟩ := hd
  exact one_pow_mod h k
theorem one_pow_gcd {m a : Nat} (x y : Nat) : a ^ x % m = 1 % m → a ^ y % m = 1 % m → a ^ Nat.gcd x y % m = 1 % m := by
  induction x, y using Nat.gcd.induction with
  | H0 n => intro _ h; rwa [Nat.gcd_zero_left]
  | H1 x n hpos ih =>
    intro hx hy
    rw [Nat.gcd_rec]
    refine ih ?_ hx
    have h1 : a ^ n = a ^ (x * (n / x)) * a ^ (n % x) := by rw [← Nat.pow_add, Nat.div_add_mod]
    have h2 := cmul (one_pow_mod hx (n / x)) (rfl : a ^ (n % x) % m = a ^ (n % x) % m)
    rw [← h1, hy, Nat.one_mul] at h2
    exact h2.symm
theorem one_down {n r x : Nat} (h : x % n = 1 % n) (hr : r ∣ n) : x % r = 1 % r := by
  have := congrArg (· % r) h
  simpa [Nat.mod_mod_of_dvd _ hr] using this
theorem neg_down {n r x : Nat} (h : (x + 1) % n = 0) (hr : r ∣ n) : (x + 1) % r = 0 := Nat.mod_eq_zero_of_dvd (Nat.dvd_trans hr (Nat.dvd_of_mod_eq_zero h))
/-- -1 to an even power, and to an odd one. -/
theorem neg_sq {m x : Nat} (h : (x + 1) % m = 0) : x * x % m = 1 % m := by
  obtain ⟨k, hk⟩ := Nat.dvd_of_mod_eq_zero h
  cases x with
  | zero =>
    have : m = 1 := by have := Nat.dvd_of_mod_eq_zero h; simpa using this
    subst this
    simp
  | succ x =>
    have e : (x + 1) * (x + 1) = 1 + m * (k * x) := by rw [← Nat.mul_assoc, ← hk]; grind
    rw [e, Nat.add_mul_mod_self_left]
theorem neg_even {m x : Nat} (h : (x + 1) % m = 0) (k : Nat) : x ^ (2 * k) % m = 1 % m := by
  rw [Nat.pow_mul]
  have h2 : x ^ 2 % m = 1 % m := by rw [Nat.pow_two]; exact neg_sq h
  have := cpow (b := 1) h2 k
  rwa [Nat.one_pow] at this
theorem neg_odd {m x u : Nat} (h : (x + 1) % m = 0) (hu : u % 2 = 1) : (x ^ u + 1) % m = 0 := by
  obtain ⟨k, rfl⟩ : ∃ k, u = 2 * k + 1 := ⟨u / 2, by omega⟩
  rw [Nat.pow_succ, Nat.add_mod]
  have := cmul (neg_even h k) (rfl : x % m = x % m)
  rw [this, Nat.one_mul, ← Nat.add_mod]
  exact h
theorem one_neg {r x : Nat} (h1 : x % r = 1 % r) (h2 : (x + 1) % r = 0) (hr : 2 < r) : False := by
  rw [Nat.add_mod, h1, ← Nat.add_mod, Nat.mod_eq_of_lt (by omega)] at h2
  omega
theorem Pr.sqrt {r x : Nat} (h : Pr r) (hx : x * x % r = 1 % r) : x % r = 1 % r ∨ (x + 1) % r = 0 := by
  cases x with
  | zero =>
    have := h.1
    rw [Nat.zero_mul, Nat.zero_mod, Nat.mod_eq_of_lt (by omega)] at hx
    omega
  | succ x =>
    have hd : r ∣ x * (x + 2) := by
      have h1 : (x + 1) * (x + 1) = x * (x + 2) + 1 := by grind
      rw [h1] at hx
      have h2 := Nat.sub_mod_eq_zero_of_mod_eq hx
      rw [Nat.add_sub_cancel] at h2
      exact Nat.dvd_of_mod_eq_zero h2
    rcases h.mul hd with h1 | h1
    · left
      obtain ⟨k, rfl⟩ := h1
      rw [Nat.add_comm, Nat.add_mul_mod_self_left]
    · right
      exact Nat.mod_eq_zero_of_dvd h1

/-- What a number passes at a base. -/
def SP (n a : Nat) : Prop := ∃ t d, n - 1 = 2 ^ t * d ∧ d % 2 = 1 ∧ (a ^ d % n = 1 % n ∨ ∃ i, i < t ∧ (a ^ (2 ^ i * d) + 1) % n = 0)
/-- What a prime tells at a base: where its powers by squares come to 1. -/
def Tp (r v u a e : Nat) : Prop := (e = 0 ∧ a ^ u % r = 1 % r) ∨ (1 ≤ e ∧ e ≤ v ∧ (a ^ (2 ^ (e - 1) * u) + 1) % r = 0)
theorem odd_dvd {g v u : Nat} (hg : g ∣ 2 ^ v * u) (ho : g % 2 = 1) : g ∣ u := by
  have hc : Nat.Coprime g (2 ^ v) := by
    refine Nat.Coprime.pow_right v ?_
    show Nat.gcd g 2 = 1
    rw [Nat.gcd_comm, Nat.gcd_rec, ho]
    rfl
  exact hc.dvd_of_dvd_mul_left hg
theorem odd_of_dvd {g d : Nat} (h : g ∣ d) (hd : d % 2 = 1) : g % 2 = 1 := by
  obtain ⟨k, rfl⟩ := h
  rcases Nat.mod_two_eq_zero_or_one g with e | e
  · rw [Nat.mul_mod, e, Nat.zero_mul] at hd
    simp at hd
  · exact e
theorem SP.tell {n a : Nat} (h : SP n a) : ∃ e, ∀ r v u, Pr r → r ∣ n → 2 < r → r - 1 = 2 ^ v * u → u % 2 = 1 → a ^ (r - 1) % r = 1 % r → Tp r v u a e := by
  obtain ⟨t, d, hn, hd, h1 | ⟨i, hi, h1⟩⟩ := h
  · refine ⟨0, fun r v u hr hrn _ hu ho hf => .inl ⟨rfl, ?_⟩⟩
    have h2 := one_pow_gcd d (r - 1) (one_down h1 hrn) hf
    refine one_pow_dvd h2 (odd_dvd (v := v) ?_ (odd_of_dvd (Nat.gcd_dvd_left _ _) hd))
    rw [← hu]
    exact Nat.gcd_dvd_right _ _
  · refine ⟨i + 1, fun r v u hr hrn h2r hu ho hf => .inr ⟨by omega, ?_, ?_⟩⟩
    all_goals have h2 := neg_down h1 hrn
    · refine Classical.byContradiction fun hc => ?_
      have e : 2 ^ i * d * u = (r - 1) * (2 ^ (i - v) * d) := by
        rw [hu, show i = v + (i - v) by omega, Nat.pow_add, show v + (i - v) - v = i - v by omega]
        grind
      have h3 := one_pow_mod hf (2 ^ (i - v) * d)
      rw [← e, Nat.pow_mul] at h3
      exact one_neg h3 (neg_odd h2 ho) h2r
    · have hiv : i < v := by
        refine Classical.byContradiction fun hc => ?_
        have e : 2 ^ i * d * u = (r - 1) * (2 ^ (i - v) * d) := by
          rw [hu, show i = v + (i - v) by omega, Nat.pow_add, show v + (i - v) - v = i - v by omega]
          grind
        have h3 := one_pow_mod hf (2 ^ (i - v) * d)
        rw [← e, Nat.pow_mul] at h3
        exact one_neg h3 (neg_odd h2 ho) h2r
      rw [Nat.add_sub_cancel]
      have hy : ((a ^ (2 ^ i * u)) ^ d + 1) % r = 0 := by
        have := neg_odd h2 ho
        rwa [← Nat.pow_mul, show 2 ^ i * d * u = 2 ^ i * u * d by grind, Nat.pow_mul] at this
      have hs : a ^ (2 ^ (i + 1) * d) % r = 1 % r := by
        have := neg_sq h2
        rwa [← Nat.pow_add, show 2 ^ i * d + 2 ^ i * d = 2 ^ (i + 1) * d by rw [Nat.pow_succ]; grind] at this
      have hg := one_pow_gcd _ _ hs hf
      have hdv : Nat.gcd (2 ^ (i + 1) * d) (r - 1) ∣ 2 ^ (i + 1) * u := by
        rw [hu, show 2 ^ v * u = 2 ^ (i + 1) * (2 ^ (v - (i + 1)) * u) by rw [← Nat.mul_assoc, ← Nat.pow_add, show i + 1 + (v - (i + 1)) = v by omega], Nat.gcd_mul_left]
        exact Nat.mul_dvd_mul_left _ (odd_dvd (Nat.gcd_dvd_right _ _) (odd_of_dvd (Nat.gcd_dvd_left _ _) hd))
      have hq := one_pow_dvd hg hdv
      rw [show 2 ^ (i + 1) * u = 2 ^ i * u + 2 ^ i * u by rw [Nat.pow_succ]; grind, Nat.pow_add] at hq
      rcases hr.sqrt hq with h3 | h3
      · have h4 := cpow (b := 1) h3 d
        rw [Nat.one_pow] at h4
        exact (one_neg h4 hy h2r).elim
      · exact h3
/-- .. and so whether it is a square. -/
theorem Tp.half {r v u a e : Nat} (h : Tp r v u a e) (hu : r - 1 = 2 ^ v * u) (hv : 1 ≤ v) : (e = v → (a ^ ((r - 1) / 2) + 1) % r = 0) ∧ (e ≠ v → a ^ ((r - 1) / 2) % r = 1 % r) := by
  have hh : (r - 1) / 2 = 2 ^ (v - 1) * u := by
    rw [hu, show v = (v - 1) + 1 by omega, Nat.pow_succ, show v - 1 + 1 - 1 = v - 1 by omega, show 2 ^ (v - 1) * 2 * u = 2 * (2 ^ (v - 1) * u) by grind, Nat.mul_div_cancel_left _ (by decide)]
  rw [hh]
  rcases h with ⟨rfl, h⟩ | ⟨h1, h2, h⟩
  · exact ⟨fun e => by omega, fun _ => one_pow_dvd h (Nat.dvd_mul_left _ _)⟩
  · refine ⟨fun e => by subst e; exact h, fun hne => ?_⟩
    have := neg_even h (2 ^ (v - 1 - e))
    rw [← Nat.pow_mul] at this
    rwa [show 2 ^ (e - 1) * u * (2 * 2 ^ (v - 1 - e)) = 2 ^ (v - 1) * u by
      have : 2 ^ (v - 1) = 2 ^ (e - 1) * (2 * 2 ^ (v - 1 - e)) := by
        rw [← Nat.pow_succ', ← Nat.pow_add]
        congr 1
        omega
      rw [this]
      grind] at this
end Go.Proofs.YtnjbigbiclfcoaaDoor.NT
