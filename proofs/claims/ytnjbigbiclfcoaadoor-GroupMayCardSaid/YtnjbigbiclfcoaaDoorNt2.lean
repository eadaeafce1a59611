/- Gauss's lemma, and that whether a number is a square modulo a prime hangs on the prime modulo four times the number. -/
import Derived.Test.YtnjbigbiclfcoaaDoorNt1
namespace Go.Proofs.YtnjbigbiclfcoaaDoor.NT

/-- A product from 1 on. -/
def prodF (f : Nat → Int) : Nat → Int
  | 0 => 1
  | n + 1 => prodF f n * f (n + 1)
/-- How often, from 1 on. -/
def cnt (f : Nat → Bool) : Nat → Nat
  | 0 => 0
  | n + 1 => cnt f n + if f (n + 1) then 1 else 0
def facI : Nat → Int
  | 0 => 1
  | n + 1 => facI n * ((n + 1 : Nat) : Int)
def prodL : List Nat → Int
  | [] => 1
  | x :: l => (x : Int) * prodL l
theorem prodL_perm {l m : List Nat} (h : l.Perm m) : prodL l = prodL m := by
  induction h with
  | nil => rfl
  | cons x _ ih => simp only [prodL]; rw [ih]
  | swap x y l => simp only [prodL]; rw [← Int.mul_assoc, ← Int.mul_assoc, Int.mul_comm (y : Int)]
  | trans _ _ h1 h2 => exact h1.trans h2
/-- Unlike numbers from 1 to n: no more than n, and if so many, their product is n's factorial. -/
theorem fill : ∀ (n : Nat) (l : List Nat), l.Nodup → (∀ x ∈ l, 1 ≤ x ∧ x ≤ n) → l.length ≤ n ∧ (l.length = n → prodL l = facI n)
  | 0, l, _, h => by
    have : l = [] := by
      cases l with
      | nil => rfl
      | cons x l => have := h x (by simp); omega
    subst this
    exact ⟨Nat.le_refl _, fun _ => rfl⟩
  | n + 1, l, hn, h => by
    by_cases hm : n + 1 ∈ l
    · have hp := List.perm_cons_erase hm
      have hlen := List.length_erase_of_mem hm
      have hpos : 0 < l.length := List.length_pos_of_mem hm
      have he : ∀ x ∈ l.erase (n + 1), 1 ≤ x ∧ x ≤ n := fun x hx => by
        have h1 := h x (List.mem_of_mem_erase hx)
        have h2 := (hn.mem_erase_iff.1 hx).1
        omega
      obtain ⟨h1, h2⟩ := fill n (l.erase (n + 1)) (hn.erase _) he
      refine ⟨by omega, fun e => ?_⟩
      rw [prodL_perm hp, facI, ← h2 (by omega)]
      simp only [prodL]
      exact Int.mul_comm _ _
    · obtain ⟨h1, _⟩ := fill n l hn fun x hx => by
        have h1 := h x hx
        have : x ≠ n + 1 := fun e => hm (e ▸ hx)
        omega
      exact ⟨by omega, fun e => by omega⟩
theorem prodF_list (f : Nat → Nat) (n : Nat) : prodF (fun k => (f k : Int)) n = prodL ((List.range n).map fun i => f (i + 1)) := by
  have key : ∀ (l : List Nat) (x : Nat), prodL (l ++ [x]) = prodL l * x := by
    intro l x
    induction l with
    | nil => simp [prodL]
    | cons y l ih =>
      simp only [prodL, List.cons_append]
      rw [ih, Int.mul_assoc]
  induction n with
  | zero => rfl
  | succ n ih =>
    rw [List.range_succ, List.map_append, List.map_singleton, key, ← ih]
    rfl
theorem prodF_inj (f : Nat → Nat) (n : Nat) (hr : ∀ k, 1 ≤ k → k ≤ n → 1 ≤ f k ∧ f k ≤ n) (hi : ∀ j k, 1 ≤ j → j ≤ n → 1 ≤ k → k ≤ n → f j = f k → j = k) : prodF (fun k => (f k : Int)) n = facI n := by
  rw [prodF_list]
  refine (fill n _ ?_ ?_).2 (by simp)
  · rw [List.nodup_iff_pairwise_ne, List.pairwise_map]
    refine List.Pairwise.imp_of_mem ?_ (List.nodup_iff_pairwise_ne.1 List.nodup_range)
    intro a b ha hb hne e
    have h1 := List.mem_range.1 ha
    have h2 := List.mem_range.1 hb
    have := hi (a + 1) (b + 1) (by omega) (by omega) (by omega) (by omega) e
    omega
  · intro x hx
    obtain ⟨i, hi', rfl⟩ := List.mem_map.1 hx
    have := List.mem_range.1 hi'
    exact hr (i + 1) (by omega) (by omega)

/-- The least rest, and whether it is a negative one. -/
def lr (r a k : Nat) : Nat := if a * k % r ≤ r / 2 then a * k % r else r - a * k % r
def ng (r a k : Nat) : Bool := decide (r / 2 < a * k % r)
def sgn (n : Nat) : Int := if n % 2 = 0 then 1 else -1
theorem sgn_succ (n : Nat) : sgn (n + 1) = - sgn n := by
  unfold sgn
  rcases Nat.mod_two_eq_zero_or_one n with h | h
  · rw [if_neg (by omega), if_pos h]
  · rw [if_pos (by omega), if_neg (by omega)]; rfl
theorem gauss_prod (r a : Nat) (hr : 0 < r) : ∀ n, ∃ z : Int, prodF (fun k => ((a * k : Nat) : Int)) n = sgn (cnt (ng r a) n) * prodF (fun k => (lr r a k : Int)) n + z * r
  | 0 => ⟨0, by simp [prodF, cnt, sgn]⟩
  | n + 1 => by
    obtain ⟨z, hz⟩ := gauss_prod r a hr n
    have hd := Nat.div_add_mod (a * (n + 1)) r
    have hlt := Nat.mod_lt (a * (n + 1)) hr
    generalize hq : a * (n + 1) / r = q at hd
    generalize hx : a * (n + 1) % r = x at hd hlt
    have hI : ((a * (n + 1) : Nat) : Int) = r * q + x := by rw [← hd]; simp
    simp only [prodF, cnt]
    rw [hz, hI]
    by_cases hc : r / 2 < x
    · have h1 : ng r a (n + 1) = true := by simp [ng, hx, hc]
      have h2 : lr r a (n + 1) = r - x := by simp only [lr, hx]; rw [if_neg (by omega)]
      rw [h1, h2, if_pos rfl, sgn_succ, Int.ofNat_sub (by omega)]
      generalize sgn (cnt (ng r a) n) = s
      generalize prodF (fun k => (lr r a k : Int)) n = P
      exact ⟨s * P * (q + 1) + z * (r * q + x), by grind⟩
    · have h1 : ng r a (n + 1) = false := by simp [ng, hx]; omega
      have h2 : lr r a (n + 1) = x := by simp only [lr, hx]; rw [if_pos (by omega)]
      rw [h1, h2, if_neg (by simp), Nat.add_zero]
      generalize sgn (cnt (ng r a) n) = s
      generalize prodF (fun k => (lr r a k : Int)) n = P
      exact ⟨s * P * q + z * (r * q + x), by grind⟩
theorem prod_mul (a : Nat) : ∀ n, prodF (fun k => ((a * k : Nat) : Int)) n = ((a ^ n : Nat) : Int) * facI n
  | 0 => by simp [prodF, facI]
  | n + 1 => by
    rw [prodF, prod_mul a n, facI, Nat.pow_succ]
    simp only [Int.natCast_mul]
    grind
theorem dvd_of_sub {r x y : Nat} (h : x % r = y % r) : r ∣ y - x := Nat.dvd_of_mod_eq_zero (Nat.sub_mod_eq_zero_of_mod_eq h.symm)
theorem lr_bd {r a k : Nat} (hr : Pr r) (h2 : 2 < r) (ha : ¬ r ∣ a) (h1 : 1 ≤ k) (hk : k ≤ r / 2) : 1 ≤ lr r a k ∧ lr r a k ≤ r / 2 := by
  have ho := hr.odd h2
  have hlt := Nat.mod_lt (a * k) (show 0 < r by omega)
  have hne : a * k % r ≠ 0 := fun e => by
    rcases hr.mul (Nat.dvd_of_mod_eq_zero e) with h | h
    · exact ha h
    · have := Nat.le_of_dvd (by omega) h
      omega
  unfold lr
  split <;> omega
theorem lr_inj {r a j k : Nat} (hr : Pr r) (h2 : 2 < r) (ha : ¬ r ∣ a) (hj : 1 ≤ j) (hj' : j ≤ r / 2) (h1 : 1 ≤ k) (hk : k ≤ r / 2) (e : lr r a j = lr r a k) : j = k := by
  have ho := hr.odd h2
  have l1 := Nat.mod_lt (a * j) (show 0 < r by omega)
  have l2 := Nat.mod_lt (a * k) (show 0 < r by omega)
  have key : a * j % r = a * k % r ∨ a * j % r + a * k % r = r := by
    unfold lr at e
    split at e <;> split at e <;> omega
  rcases key with key | key
  · rcases Nat.le_total j k with hle | hle
    · have h3 := dvd_of_sub (x := a * j) (y := a * k) key
      rw [← Nat.mul_sub] at h3
      rcases hr.mul h3 with h | h
      · exact absurd h ha
      · rcases Nat.eq_zero_or_pos (k - j) with h0 | h0
        · omega
        · have := Nat.le_of_dvd h0 h; omega
    · have h3 := dvd_of_sub (x := a * k) (y := a * j) key.symm
      rw [← Nat.mul_sub] at h3
      rcases hr.mul h3 with h | h
      · exact absurd h ha
      · rcases Nat.eq_zero_or_pos (j - k) with h0 | h0
        · omega
        · have := Nat.le_of_dvd h0 h; omega
  · have h3 : r ∣ a * (j + k) := by
      refine Nat.dvd_of_mod_eq_zero ?_
      rw [Nat.mul_add, Nat.add_mod, key, Nat.mod_self]
    rcases hr.mul h3 with h | h
    · exact absurd h ha
    · have := Nat.le_of_dvd (by omega) h
      omega
theorem fac_ndvd {r : Nat} (hr : Pr r) : ∀ n, n < r → ¬ (r : Int) ∣ facI n
  | 0, _, h => by
    have : (r : Int) ∣ ((1 : Nat) : Int) := h
    have := Nat.le_of_dvd (by decide) (Int.natCast_dvd_natCast.1 this)
    have := hr.1
    omega
  | n + 1, hn, h => by
    have key : ∀ m, facI m = ((facI m).toNat : Int) := by
      intro m
      have : 0 ≤ facI m := by
        induction m with
        | zero => decide
        | succ m ih => exact Int.mul_nonneg ih (by omega)
      omega
    rw [facI, key n, ← Int.natCast_mul] at h
    rcases hr.mul (Int.natCast_dvd_natCast.1 h) with h1 | h1
    · exact fac_ndvd hr n (by omega) (by rw [key n]; exact Int.natCast_dvd_natCast.2 h1)
    · have := Nat.le_of_dvd (by omega) h1
      omega
theorem Pr.mulI {p : Nat} (h : Pr p) {a b : Int} (hd : (p : Int) ∣ a * b) : (p : Int) ∣ a ∨ (p : Int) ∣ b := by
  rw [← Int.natAbs_dvd_natAbs, Int.natAbs_mul] at hd
  rcases h.mul hd with h1 | h1
  · exact .inl (Int.natAbs_dvd_natAbs.1 h1)
  · exact .inr (Int.natAbs_dvd_natAbs.1 h1)
/-- Gauss's lemma. -/
theorem gauss (r a : Nat) (hr : Pr r) (h2 : 2 < r) (ha : ¬ r ∣ a) : (cnt (ng r a) (r / 2) % 2 = 0 → a ^ (r / 2) % r = 1 % r) ∧ (cnt (ng r a) (r / 2) % 2 = 1 → (a ^ (r / 2) + 1) % r = 0) := by
  obtain ⟨z, hz⟩ := gauss_prod r a (by omega) (r / 2)
  rw [prod_mul, prodF_inj (lr r a) (r / 2) (fun k h1 h3 => lr_bd hr h2 ha h1 h3) (fun j k h1 h3 h4 h5 => lr_inj hr h2 ha h1 h3 h4 h5)] at hz
  have hd : (r : Int) ∣ (((a ^ (r / 2) : Nat) : Int) - sgn (cnt (ng r a) (r / 2))) * facI (r / 2) := ⟨z, by rw [Int.sub_mul, hz]; grind⟩
  have h3 := (hr.mulI hd).resolve_right (fac_ndvd hr _ (by omega))
  constructor
  · intro he
    rw [sgn, if_pos he] at h3
    have h4 : ((a ^ (r / 2) : Nat) : Int) % r = ((1 : Nat) : Int) % r := (Int.emod_eq_emod_iff_emod_sub_eq_zero).2 (Int.emod_eq_zero_of_dvd h3)
    exact_mod_cast h4
  · intro he
    rw [sgn, if_neg (by omega)] at h3
    have h4 : (r : Int) ∣ ((a ^ (r / 2) + 1 : Nat) : Int) := by
      have : ((a ^ (r / 2) + 1 : Nat) : Int) = ((a ^ (r / 2) : Nat) : Int) - -1 := by omega
      rw [this]; exact h3
    exact Nat.mod_eq_zero_of_dvd (Int.natCast_dvd_natCast.1 h4)
theorem Pr.fermat {r a : Nat} (hr : Pr r) (h2 : 2 < r) (ha : ¬ r ∣ a) : a ^ (r - 1) % r = 1 % r := by
  have ho := hr.odd h2
  have e : r - 1 = r / 2 + r / 2 := by omega
  obtain ⟨g1, g2⟩ := gauss r a hr h2 ha
  rw [e, Nat.pow_add]
  rcases Nat.mod_two_eq_zero_or_one (cnt (ng r a) (r / 2)) with h | h
  · have := cmul (g1 h) (g1 h)
    rwa [Nat.one_mul] at this
  · exact neg_sq (g2 h)

/-- Counting over stretches in which nothing changes. -/
theorem cnt_flat (f : Nat → Bool) (b : Bool) (x : Nat) : ∀ n, (∀ k, x < k → k ≤ x + n → f k = b) → cnt f (x + n) = cnt f x + if b then n else 0
  | 0, _ => by simp
  | n + 1, h => by
    have ih := cnt_flat f b x n fun k h1 h2 => h k h1 (by omega)
    rw [show x + (n + 1) = (x + n) + 1 by omega, cnt, ih, h (x + n + 1) (by omega) (by omega)]
    cases b <;> simp <;> omega
theorem cnt_to (f : Nat → Bool) (b : Bool) {x y : Nat} (hxy : x ≤ y) (h : ∀ k, x < k → k ≤ y → f k = b) : cnt f y = cnt f x + if b then y - x else 0 := by
  have := cnt_flat f b x (y - x) fun k h1 h2 => h k h1 (by omega)
  rwa [show x + (y - x) = y by omega] at this
/-- Where the i-th half stretch ends. -/
def bnd (a r i : Nat) : Nat := i * r / (2 * a)
def muS (a r : Nat) : Nat → Nat
  | 0 => 0
  | j + 1 => muS a r j + (bnd a r (2 * j + 2) - bnd a r (2 * j + 1))
theorem ng_block {r a i k : Nat} (hr : Pr r) (h2 : 2 < r) (ha : ¬ r ∣ a) (ha0 : 0 < a) (hk0 : 0 < k) (hk : k ≤ r / 2) (h1 : bnd a r i < k) (h3 : k ≤ bnd a r (i + 1)) : ng r a k = decide (i % 2 = 1) := by
  have ho := hr.odd h2
  have hA : 0 < 2 * a := by omega
  have e1 : i * r < 2 * (a * k) := by
    have := (Nat.div_lt_iff_lt_mul hA).1 h1
    calc i * r < k * (2 * a) := this
      _ = 2 * (a * k) := by grind
  have e2 : 2 * (a * k) ≤ (i + 1) * r := by
    have := (Nat.le_div_iff_mul_le hA).1 h3
    calc 2 * (a * k) = k * (2 * a) := by grind
      _ ≤ (i + 1) * r := this
  have hne : a * k % r ≠ 0 := fun e => by
    rcases hr.mul (Nat.dvd_of_mod_eq_zero e) with h | h
    · exact ha h
    · have := Nat.le_of_dvd (by omega) h
      omega
  have hd := Nat.div_add_mod (a * k) r
  have hlt := Nat.mod_lt (a * k) (show 0 < r by omega)
  generalize a * k / r = q at hd
  generalize a * k % r = x at hd hlt hne
  have e3 : i * r < 2 * (r * q + x) := by rw [hd]; exact e1
  have e4 : 2 * (r * q + x) ≤ (i + 1) * r := by rw [hd]; exact e2
  show ng r a k = _
  have hng : ng r a k = decide (r / 2 < x) := by
    unfold ng
    congr 1
    have : a * k % r = x := by rw [← hd, Nat.mul_add_mod, Nat.mod_eq_of_lt hlt]
    rw [this]
  rw [hng]
  rcases Nat.lt_trichotomy i (2 * q) with h | h | h
  · exfalso
    have : (i + 1) * r ≤ 2 * q * r := Nat.mul_le_mul_right r (by omega)
    have e5 : 2 * q * r = 2 * (r * q) := by grind
    omega
  · subst h
    have e5 : (2 * q + 1) * r = 2 * (r * q) + r := by grind
    have : ¬ (2 * q % 2 = 1) := by omega
    simp only [this, decide_false, decide_eq_false_iff_not]
    omega
  · rcases Nat.lt_or_ge i (2 * q + 2) with h' | h'
    · obtain rfl : i = 2 * q + 1 := by omega
      have e5 : (2 * q + 1) * r = 2 * (r * q) + r := by grind
      have : (2 * q + 1) % 2 = 1 := by omega
      simp only [this, decide_true, decide_eq_true_eq]
      omega
    · exfalso
      have : (2 * q + 2) * r ≤ i * r := Nat.mul_le_mul_right r h'
      have e5 : (2 * q + 2) * r = 2 * (r * q) + 2 * r := by grind
      omega
theorem bnd_mono {a r i j : Nat} (h : i ≤ j) : bnd a r i ≤ bnd a r j := Nat.div_le_div_right (Nat.mul_le_mul_right r h)
theorem bnd_half {a r i : Nat} (ha : 0 < a) (h : i ≤ a) : bnd a r i ≤ r / 2 := by
  refine (Nat.le_div_iff_mul_le (by decide)).2 ?_
  have h1 : bnd a r i * (2 * a) ≤ i * r := Nat.div_mul_le_self _ _
  have h2 : i * r ≤ a * r := Nat.mul_le_mul_right r h
  refine Nat.le_of_mul_le_mul_right (c := a) ?_ ha
  calc bnd a r i * 2 * a = bnd a r i * (2 * a) := by grind
    _ ≤ r * a := by rw [Nat.mul_comm r]; omega
theorem cnt_mu {r a : Nat} (hr : Pr r) (h2 : 2 < r) (ha : ¬ r ∣ a) (ha0 : 0 < a) : ∀ j, 2 * j ≤ a → cnt (ng r a) (bnd a r (2 * j)) = muS a r j
  | 0, _ => by simp [bnd, cnt, muS]
  | j + 1, h => by
    have ih := cnt_mu hr h2 ha ha0 j (by omega)
    have c1 := cnt_to (ng r a) false (bnd_mono (a := a) (r := r) (show 2 * j ≤ 2 * j + 1 by omega)) fun k h1 h3 => by
      rw [ng_block hr h2 ha ha0 (by omega) (Nat.le_trans h3 (bnd_half ha0 (by omega))) h1 h3]
      simp
    have c2 := cnt_to (ng r a) true (bnd_mono (a := a) (r := r) (show 2 * j + 1 ≤ 2 * j + 1 + 1 by omega)) fun k h1 h3 => by
      rw [ng_block hr h2 ha ha0 (by omega) (Nat.le_trans h3 (bnd_half ha0 (by omega))) h1 h3]
      simp
    rw [show 2 * (j + 1) = 2 * j + 1 + 1 by omega, c2, c1, ih, muS]
    simp
theorem cnt_all {r a : Nat} (hr : Pr r) (h2 : 2 < r) (ha : ¬ r ∣ a) (ha0 : 0 < a) : cnt (ng r a) (r / 2) = muS a r (a / 2) := by
  have h1 := cnt_mu hr h2 ha ha0 (a / 2) (by omega)
  rcases Nat.mod_two_eq_zero_or_one a with he | he
  · rw [← h1]
    congr 1
    unfold bnd
    rw [show 2 * (a / 2) = a by omega, Nat.mul_comm 2 a, Nat.mul_div_mul_left _ _ ha0]
  · have hb := bnd_half (r := r) ha0 (show 2 * (a / 2) ≤ a by omega)
    have c1 := cnt_to (ng r a) false hb fun k h3 h4 => by
      rw [ng_block (i := 2 * (a / 2)) hr h2 ha ha0 (by omega) h4 h3 ?_]
      · simp
      · rw [show 2 * (a / 2) + 1 = a by omega]
        refine (Nat.le_div_iff_mul_le (by omega)).2 ?_
        have : 2 * k ≤ r := by omega
        calc k * (2 * a) = a * (2 * k) := by grind
          _ ≤ a * r := Nat.mul_le_mul_left a this
    rw [c1, h1]
    simp
theorem muS_per (a r q : Nat) (ha : 0 < a) : ∀ j, muS a (r + 4 * a * q) j = muS a r j + 2 * (q * j)
  | 0 => by simp [muS]
  | j + 1 => by
    have key : ∀ i, bnd a (r + 4 * a * q) i = bnd a r i + 2 * (i * q) := by
      intro i
      unfold bnd
      rw [show i * (r + 4 * a * q) = i * r + 2 * a * (2 * (i * q)) by grind, Nat.add_mul_div_left _ _ (by omega)]
    have hm := bnd_mono (a := a) (r := r) (show 2 * j + 1 ≤ 2 * j + 2 by omega)
    simp only [muS, muS_per a r q ha j, key]
    have : (2 * j + 2) * q = (2 * j + 1) * q + q := by grind
    rw [this]
    have e2 : q * (j + 1) = q * j + q := by grind
    rw [e2]
    omega
/-- 0: a square (of a prime that is so modulo 4 a); 1: none. -/
def chi (a x : Nat) : Nat := muS a (x % (4 * a)) (a / 2) % 2
theorem chi_spec {r a : Nat} (hr : Pr r) (h2 : 2 < r) (ha : ¬ r ∣ a) (ha0 : 0 < a) : (chi a r = 0 → a ^ (r / 2) % r = 1 % r) ∧ (chi a r = 1 → (a ^ (r / 2) + 1) % r = 0) := by
  have h := muS_per a (r % (4 * a)) (r / (4 * a)) ha0 (a / 2)
  rw [Nat.mod_add_div] at h
  have e : chi a r = cnt (ng r a) (r / 2) % 2 := by
    rw [cnt_all hr h2 ha ha0, h, chi]
    omega
  rw [e]
  exact gauss r a hr h2 ha
end Go.Proofs.YtnjbigbiclfcoaaDoor.NT
