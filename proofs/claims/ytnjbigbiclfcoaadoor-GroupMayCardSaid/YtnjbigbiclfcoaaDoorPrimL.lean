/- mod's test for primes tells what the document's does: the plain law. -/
import Derived.Test.YtnjbigbiclfcoaaDoorPrimR
import Derived.Test.YtnjbigbiclfcoaaDoorNtZ
namespace Go.Proofs.YtnjbigbiclfcoaaDoor
open Go.RowKit

theorem neg_iff {z N : Nat} (hN : 2 ≤ N) : z % N = N - 1 ↔ (z + 1) % N = 0 := by
  have h := Nat.mod_lt z (show 0 < N by omega)
  rw [Nat.add_mod, Nat.mod_eq_of_lt (show 1 < N by omega)]
  constructor
  · intro e
    rw [e, Nat.sub_add_cancel (by omega), Nat.mod_self]
  · intro e
    rcases Nat.lt_or_ge (z % N + 1) N with hl | hg
    · rw [Nat.mod_eq_of_lt hl] at e; omega
    · omega
theorem may_nat {N : Nat} (h2 : 2 ≤ N) (h3 : N ≤ 2305843009213693952) : mayB (N : Int) = true := by simp [mayB]; omega
theorem mulI_nat {N : Nat} (h2 : 2 ≤ N) (h3 : N ≤ 2305843009213693952) (z : Nat) : mulI ((z % N : Nat) : Int) ((z % N : Nat) : Int) (N : Int) = ((z * z % N : Nat) : Int) := by
  rw [mulI_yes _ _ _ (may_nat h2 h3), ← Int.natCast_mul, ← Int.natCast_emod, ← Nat.mul_mod]
theorem witB_iff {N : Nat} (h2 : 2 ≤ N) (h3 : N ≤ 2305843009213693952) : ∀ (k z : Nat), witB (N : Int) k ((z % N : Nat) : Int) = true ↔ ∃ i, i < k ∧ (z ^ 2 ^ i + 1) % N = 0
  | 0, z => by simp [witB]
  | k + 1, z => by
    rw [witB, mulI_nat h2 h3, Bool.or_eq_true, witB_iff h2 h3 k (z * z)]
    have e1 : (((z % N : Nat) : Int) == (N : Int) - 1) = true ↔ (z + 1) % N = 0 := by
      rw [← neg_iff h2, beq_iff_eq]
      omega
    rw [e1]
    constructor
    · rintro (h | ⟨i, hi, h⟩)
      · exact ⟨0, by omega, by simpa using h⟩
      · refine ⟨i + 1, by omega, ?_⟩
        rwa [show z ^ 2 ^ (i + 1) = (z * z) ^ 2 ^ i by rw [Nat.pow_succ', Nat.pow_mul, Nat.pow_two]]
    · rintro ⟨i, hi, h⟩
      cases i with
      | zero => left; simpa using h
      | succ i =>
        refine .inr ⟨i, by omega, ?_⟩
        rwa [show (z * z) ^ 2 ^ i = z ^ 2 ^ (i + 1) by rw [Nat.pow_succ', Nat.pow_mul, Nat.pow_two]]
theorem passB_iff {N : Nat} (h2 : 2 ≤ N) (h3 : N ≤ 2305843009213693952) {t u : Nat} (hu : N - 1 = 2 ^ t * u) (a : Nat) : passB (N : Int) (a : Int) t = true ↔ a ^ u % N = 1 % N ∨ ∃ i, i < t ∧ (a ^ (2 ^ i * u) + 1) % N = 0 := by
  have e1 : ((N : Int) - 1) / 2 ^ t = (u : Int) := by
    have : (N : Int) - 1 = 2 ^ t * (u : Int) := by
      have h : ((N - 1 : Nat) : Int) = ((2 ^ t * u : Nat) : Int) := by rw [hu]
      rw [Int.natCast_mul, Int.natCast_pow] at h
      have h5 : ((2 : Nat) : Int) = 2 := rfl
      rw [h5] at h
      omega
    rw [this]
    exact Int.mul_ediv_cancel_left _ (Int.ne_of_gt (Int.pow_pos (by decide)))
  have e2 : powI (a : Int) (u : Int) (N : Int) = ((a ^ u % N : Nat) : Int) := by
    unfold powI
    rw [if_pos (may_nat h2 h3), Int.toNat_natCast, ← Int.natCast_pow, ← Int.natCast_emod]
  unfold passB
  rw [e1, e2, Bool.or_eq_true, witB_iff h2 h3, beq_iff_eq, Nat.mod_eq_of_lt (show 1 < N by omega)]
  have e3 : (((a ^ u % N : Nat) : Int) = 1) ↔ a ^ u % N = 1 := by omega
  rw [e3]
  constructor
  · rintro (h | ⟨i, hi, h⟩)
    · exact .inl h
    · exact .inr ⟨i, hi, by rwa [Nat.mul_comm, Nat.pow_mul]⟩
  · rintro (h | ⟨i, hi, h⟩)
    · exact .inl h
    · exact .inr ⟨i, hi, by rwa [Nat.mul_comm, Nat.pow_mul] at h⟩
/-- A prime passes. -/
theorem prime_pass {N : Nat} (hN : NT.Pr N) (h2 : 2 < N) (h3 : N ≤ 2305843009213693952) {t u : Nat} (hu : N - 1 = 2 ^ t * u) {a : Nat} (ha : ¬ N ∣ a) : passB (N : Int) (a : Int) t = true := by
  rw [passB_iff (by omega) h3 hu]
  have hf := hN.fermat h2 ha
  rw [hu] at hf
  have key : ∀ j, a ^ (2 ^ j * u) % N = 1 % N → a ^ u % N = 1 % N ∨ ∃ i, i < j ∧ (a ^ (2 ^ i * u) + 1) % N = 0 := by
    intro j
    induction j with
    | zero => intro h; left; simpa using h
    | succ j ih =>
      intro h
      have e : 2 ^ (j + 1) * u = 2 ^ j * u + 2 ^ j * u := by rw [Nat.pow_succ]; grind
      rw [e, Nat.pow_add] at h
      rcases hN.sqrt h with h1 | h1
      · rcases ih h1 with h2 | ⟨i, hi, h2⟩
        · exact .inl h2
        · exact .inr ⟨i, by omega, h2⟩
      · exact .inr ⟨j, by omega, h1⟩
  exact key t hf
theorem tried_bases : ∀ a ∈ NT.bases, (a : Int) ∈ triedL := by decide
theorem tried_nat : ∀ a ∈ triedL, ∃ b ∈ NT.bases, a = (b : Int) := by decide
theorem tdivB_out {n : Int} : ∀ (g : Nat) (d : Int), tdivB n g d = true → ∃ c, d ≤ c ∧ c < d + g ∧ c * c ≤ n ∧ n % c = 0
  | 0, d, h => by simp [tdivB] at h
  | g + 1, d, h => by
    rw [tdivB] at h
    split at h
    · rename_i h1
      split at h
      · rename_i h2
        exact ⟨d, by omega, by omega, h1, h2⟩
      · obtain ⟨c, h3, h4, h5, h6⟩ := tdivB_out g (d + 1) h
        exact ⟨c, by omega, by omega, h5, h6⟩
    · cases h
theorem tdivB_no {n : Int} : ∀ (g : Nat) (d : Int), 0 ≤ d → tdivB n g d = false → ∀ c, d ≤ c → c < d + g → c * c ≤ n → n % c ≠ 0
  | 0, d, _, _, c, h1, h2, _ => by omega
  | g + 1, d, hd, h, c, h1, h2, h3 => by
    rw [tdivB] at h
    split at h
    · split at h
      · cases h
      · rename_i h5
        by_cases hc : c = d
        · subst hc; exact h5
        · exact tdivB_no g (d + 1) (by omega) h c (by omega) (by omega) h3
    · rename_i h4
      have : d * d ≤ c * c := Int.mul_le_mul h1 h1 hd (by omega)
      omega
/-- goB where nothing of the list divides. -/
theorem goB_all {n : Int} {t : Nat} : ∀ {l : List Int}, (∀ a ∈ l, n % a ≠ 0) → goB n t l = l.all fun a => passB n a t
  | [], _ => rfl
  | a :: l, h => by
    rw [goB, if_neg (h a (by simp)), goB_all fun b hb => h b (by simp [hb]), List.all_cons]
    cases passB n a t <;> rfl
theorem goB_first {n : Int} {t : Nat} : ∀ {l : List Int}, goB n t l = true → (∀ a ∈ l, n % a ≠ 0 ∧ passB n a t = true) ∨ ∃ a ∈ l, n = a
  | [], _ => .inl fun a ha => by simp at ha
  | a :: l, h => by
    rw [goB] at h
    split at h
    · exact .inr ⟨a, by simp, by simpa using h⟩
    · rename_i h1
      split at h
      · rename_i h2
        rcases goB_first h with h3 | ⟨b, hb, h3⟩
        · refine .inl fun b hb => ?_
          rcases List.mem_cons.1 hb with rfl | hb
          · exact ⟨h1, h2⟩
          · exact h3 b hb
        · exact .inr ⟨b, by simp [hb], h3⟩
      · cases h
theorem goB_prime {n : Int} {t : Nat} : ∀ {l : List Int}, (∀ a ∈ l, n % a = 0 → n = a) → (∀ a ∈ l, n % a ≠ 0 → passB n a t = true) → goB n t l = true
  | [], _, _ => rfl
  | a :: l, h1, h2 => by
    rw [goB]
    split
    · rename_i h
      have := h1 a (by simp) h
      simpa using this
    · rename_i h
      rw [if_pos (h2 a (by simp) h)]
      exact goB_prime (fun b hb => h1 b (by simp [hb])) fun b hb => h2 b (by simp [hb])
theorem prime_same (n : Int) : primeB n = refPrimeB n := by
  unfold primeB refPrimeB
  split
  · rfl
  · rename_i hr
    obtain ⟨N, rfl⟩ := Int.eq_ofNat_of_zero_le (show 0 ≤ n by omega)
    have h2 : 2 ≤ N := by omega
    have h3 : N ≤ 2305843009213693952 := by omega
    obtain ⟨u', hu', hu1, hu0, _, _⟩ := ctz_split (N : Int) (by omega) (by omega)
    generalize Lib.ctz 64 ((N : Int) - 1).toNat = t at *
    obtain ⟨u, rfl⟩ := Int.eq_ofNat_of_zero_le (show 0 ≤ u' by omega)
    have hu : N - 1 = 2 ^ t * u := by
      have h : ((N - 1 : Nat) : Int) = ((2 ^ t * u : Nat) : Int) := by
        rw [Int.natCast_mul, Int.natCast_pow]
        have h5 : ((2 : Nat) : Int) = 2 := rfl
        rw [h5]
        omega
      exact_mod_cast h
    have hsp : (∀ a ∈ triedL, passB (N : Int) a t = true) → ∀ a ∈ NT.bases, NT.SP N a := fun h a ha => ⟨t, u, hu, by omega, (passB_iff h2 h3 hu a).1 (h _ (tried_bases a ha))⟩
    have hnd : (∀ a ∈ triedL, (N : Int) % a ≠ 0) → ∀ a ∈ NT.bases, ¬ a ∣ N := fun h a ha hd => h _ (tried_bases a ha) (by
      have := Nat.mod_eq_zero_of_dvd hd
      rw [← Int.natCast_emod, this]; rfl)
    cases hd : tdivB (N : Int) 998 2 with
    | true =>
      rw [if_pos rfl]
      obtain ⟨c, c1, c2, c3, c4⟩ := tdivB_out _ _ hd
      obtain ⟨d, rfl⟩ := Int.eq_ofNat_of_zero_le (show 0 ≤ c by omega)
      have hdn : d ∣ N := Nat.dvd_of_mod_eq_zero (by rw [← Int.natCast_emod] at c4; exact_mod_cast c4)
      have hdd : d * d ≤ N := by exact_mod_cast c3
      have hdl : d * 2 ≤ d * d := Nat.mul_le_mul_left d (by omega)
      cases hg : goB (N : Int) t triedL with
      | false => rfl
      | true =>
        exfalso
        rcases goB_first hg with h | ⟨a, ha, h⟩
        · exact NT.small_div h3 (hsp fun a ha => (h a ha).2) (hnd fun a ha => (h a ha).1) (d := d) (by omega) hdn (by omega) (by omega) (by omega)
        · have key : ∀ a ∈ triedL, ∀ d : Nat, d < 38 → 2 ≤ d → (d : Int) * d ≤ a → a % d ≠ 0 := by decide
          have ha37 : ∀ a ∈ triedL, a ≤ 37 := by decide
          have := ha37 a ha
          exact key a ha d (by omega) (by omega) (by rw [← h]; exact c3) (by rw [← h]; exact c4)
    | false =>
      rw [if_neg (by simp)]
      have hno := tdivB_no 998 2 (by decide) hd
      split
      · rename_i hsm
        have hpr : NT.Pr N := by
          obtain ⟨q, hq, hqd, hl⟩ := NT.least_pr N h2
          by_cases he : q = N
          · rw [← he]; exact hq
          · exfalso
            obtain ⟨c, hc⟩ := hqd
            have hc0 : c ≠ 0 := fun e => by rw [e] at hc; omega
            have hc1 : c ≠ 1 := fun e => by rw [e, Nat.mul_one] at hc; omega
            have hqc := hl c (by omega) ⟨q, by rw [hc, Nat.mul_comm]⟩
            have hqq : q * q ≤ N := by rw [hc]; exact Nat.mul_le_mul_left q hqc
            have hq2 := hq.1
            have hq1000 : q < 1000 := by
              refine Classical.byContradiction fun h => ?_
              have : 1000 * 1000 ≤ q * q := Nat.mul_le_mul (by omega) (by omega)
              omega
            refine hno (q : Int) (by omega) (by omega) (by exact_mod_cast hqq) ?_
            rw [← Int.natCast_emod, hc, Nat.mul_mod_right]; rfl
        refine goB_prime (fun a ha h => ?_) (fun a ha h => ?_)
        all_goals obtain ⟨b, hb, rfl⟩ := tried_nat a ha
        all_goals have hb2 : 2 ≤ b := (show ∀ b ∈ NT.bases, 2 ≤ b by decide) b hb
        · have hbd : b ∣ N := Nat.dvd_of_mod_eq_zero (by rw [← Int.natCast_emod] at h; exact_mod_cast h)
          rcases hpr.2 b hbd with e | e
          · omega
          · rw [e]
        · by_cases hN2 : N = 2
          · subst hN2
            have hbp : ∀ b ∈ NT.bases, b ≠ 2 → b % 2 = 1 := by decide
            have hne : b ≠ 2 := fun e => by subst e; exact h rfl
            exact (passB_iff (by omega) h3 hu b).2 (.inl (by
              have : b ^ u % 2 = 1 := by
                rw [Nat.pow_mod, hbp b hb hne, Nat.one_pow]
              rw [this]))
          · refine prime_pass hpr (by omega) h3 hu fun hd => ?_
            have hbp : ∀ b ∈ NT.bases, ∀ d, d < 38 → d ∣ b → d = 1 ∨ d = b := by decide
            have hb37 : ∀ b ∈ NT.bases, b ≤ 37 := by decide
            have h37 := hb37 b hb
            have hle := Nat.le_of_dvd (by omega) hd
            rcases hbp b hb N (by omega) hd with e | e
            · omega
            · subst e
              exact h (Int.emod_self)
      · rename_i hbig
        refine goB_all fun a ha h => ?_
        have hab : ∀ a ∈ triedL, 2 ≤ a ∧ a ≤ 37 := by decide
        have h37 := hab a ha
        have : a * a ≤ 37 * 37 := Int.mul_le_mul h37.2 h37.2 (by omega) (by omega)
        exact hno a h37.1 (by omega) (by omega) h
end Go.Proofs.YtnjbigbiclfcoaaDoor
