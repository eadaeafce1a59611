/- A number that passes the twelve bases has no divisor of three digits, of those that were reckoned. What is reckoned of primes, 1 of 8. What is reckoned of primes, 2 of 8. What is reckoned of primes, 3 of 8. What is reckoned of primes, 4 of 8. What is reckoned of primes, 5 of 8. What is reckoned of primes, 6 of 8. What is reckoned of primes, 7 of 8. What is reckoned of primes, 8 of 8. No number up to 2^61 that passes the twelve bases has a divisor of three digits, but itself. mod's test for primes tells what the document's does: the plain law. The document's May (consistoryref02), walked; it tells what group.May does: consistorylaw02.GroupMay. consistoryref18.Model, walked (printed by mkt.py). consistoryref18.Model with T 1, walked (printed by mkt.py). consistoryref18.Model with T 2, walked (printed by mkt.py). consistoryref18.Make where it refuses; what its walk is told by. -/
import Derived.Test.YtphbcfpiklmmeaaGreatDoorZ5
namespace Go.Proofs.YtphbcfpiklmmeaaGreatDoor.NT

def vb (a x : Nat) : Bool := Nat.beq (Nat.mod x 2) 1 && !(Nat.beq (Nat.mod x a) 0)
theorem vb_of {a x : Nat} (h1 : x % 2 = 1) (h2 : ¬ a ∣ x) : vb a x = true := by
  have h3 : Nat.beq (x % a) 0 = false := by
    cases hb : Nat.beq (x % a) 0 with
    | false => rfl
    | true => exact absurd (Nat.dvd_of_mod_eq_zero (Nat.eq_of_beq_eq_true hb)) h2
  show (Nat.beq (x % 2) 1 && !(Nat.beq (x % a) 0)) = true
  rw [h1, h3]
  rfl
theorem vb_mod {a x : Nat} (h : vb a x = true) : vb a (x % (4 * a)) = true := by
  have h' : (Nat.beq (x % 2) 1 && !(Nat.beq (x % a) 0)) = true := h
  show (Nat.beq (x % (4 * a) % 2) 1 && !(Nat.beq (x % (4 * a) % a) 0)) = true
  rw [Nat.mod_mod_of_dvd _ (show 2 ∣ 4 * a from ⟨2 * a, by omega⟩), Nat.mod_mod_of_dvd _ (show a ∣ 4 * a from ⟨4, by omega⟩)]
  exact h'
/-- All numbers below n for which the table is asked. -/
def tchk (a t0 t1 n : Nat) : Bool := Nat.rec (motive := fun _ => Bool) true (fun x ih => (bif vb a x then (bif Nat.beq (chi a x) 0 then okm a t0 x && !(okm a t1 x) else okm a t1 x) else true) && ih) n
theorem tchk_of {a t0 t1 : Nat} : ∀ n, tchk a t0 t1 n = true → ∀ x, x < n → vb a x = true → (chi a x = 0 → okm a t0 x = true ∧ okm a t1 x = false) ∧ (chi a x ≠ 0 → okm a t1 x = true)
  | 0, _, x, hx, _ => by omega
  | n + 1, h, x, hx, hv => by
    have h' : ((bif vb a n then (bif Nat.beq (chi a n) 0 then okm a t0 n && !(okm a t1 n) else okm a t1 n) else true) && tchk a t0 t1 n) = true := h
    rw [Bool.and_eq_true] at h'
    rcases Nat.lt_or_ge x n with hlt | hge
    · exact tchk_of n h'.2 x hlt hv
    · obtain rfl : x = n := by omega
      have h1 := h'.1
      rw [hv, cond_true] at h1
      cases hb : Nat.beq (chi a x) 0 with
      | true =>
        rw [hb, cond_true, Bool.and_eq_true] at h1
        have := Nat.eq_of_beq_eq_true hb
        exact ⟨fun _ => ⟨h1.1, by simpa using h1.2⟩, fun hn => absurd this hn⟩
      | false =>
        rw [hb, cond_false] at h1
        exact ⟨fun e => by rw [e] at hb; simp at hb, fun _ => h1⟩
def mrow (a t x n : Nat) : Bool := Nat.rec (motive := fun _ => Bool) true (fun y ih => (bif vb a y then (bif okm a t x then (bif okm a t y then !(okm a t (Nat.mul x y)) else okm a t (Nat.mul x y)) else (bif okm a t y then okm a t (Nat.mul x y) else !(okm a t (Nat.mul x y)))) else true) && ih) n
theorem mrow_of {a t x : Nat} : ∀ n, mrow a t x n = true → ∀ y, y < n → vb a y = true → okm a t (x * y) = (okm a t x != okm a t y)
  | 0, _, y, hy, _ => by omega
  | n + 1, h, y, hy, hv => by
    have h' : ((bif vb a n then (bif okm a t x then (bif okm a t n then !(okm a t (x * n)) else okm a t (x * n)) else (bif okm a t n then okm a t (x * n) else !(okm a t (x * n)))) else true) && mrow a t x n) = true := h
    rw [Bool.and_eq_true] at h'
    rcases Nat.lt_or_ge y n with hlt | hge
    · exact mrow_of n h'.2 y hlt hv
    · obtain rfl : y = n := by omega
      have h1 := h'.1
      rw [hv, cond_true] at h1
      cases hx : okm a t x <;> cases hy : okm a t y <;> cases hz : okm a t (x * y) <;> simp_all
def mtab (a t n : Nat) : Bool := Nat.rec (motive := fun _ => Bool) true (fun x ih => (bif vb a x then mrow a t x (Nat.mul 4 a) else true) && ih) n
theorem mtab_of {a t : Nat} : ∀ n, mtab a t n = true → ∀ x, x < n → vb a x = true → ∀ y, y < 4 * a → vb a y = true → okm a t (x * y) = (okm a t x != okm a t y)
  | 0, _, x, hx, _ => by omega
  | n + 1, h, x, hx, hv => by
    have h' : ((bif vb a n then mrow a t n (4 * a) else true) && mtab a t n) = true := h
    rw [Bool.and_eq_true] at h'
    rcases Nat.lt_or_ge x n with hlt | hge
    · exact mtab_of n h'.2 x hlt hv
    · obtain rfl : x = n := by omega
      have h1 := h'.1
      rw [hv, cond_true] at h1
      exact mrow_of _ h1
def tabok (t : Nat × Nat × Nat) : Bool := Nat.blt 0 t.1 && tchk t.1 t.2.1 t.2.2 (Nat.mul 4 t.1) && mtab t.1 t.2.2 (Nat.mul 4 t.1)
set_option maxRecDepth 100000 in
theorem tabs_ok : tabs.all tabok = true := by decide +kernel
theorem tabs_bases : tabs.map (·.1) = bases := by decide
theorem chi_mod (a x : Nat) : chi a (x % (4 * a)) = chi a x := by unfold chi; rw [Nat.mod_mod]
theorem okm_mod (a t x : Nat) : okm a t (x % (4 * a)) = okm a t x := by
  show Nat.beq ((t >>> (x % (4 * a) % (4 * a))) % 2) 1 = Nat.beq ((t >>> (x % (4 * a))) % 2) 1
  rw [Nat.mod_mod]
theorem okm_mul_mod (a t x y : Nat) : okm a t (x % (4 * a) * (y % (4 * a))) = okm a t (x * y) := by
  rw [← okm_mod, ← Nat.mul_mod, okm_mod]
theorem tab_spec {t : Nat × Nat × Nat} (ht : t ∈ tabs) {x : Nat} (hv : vb t.1 x = true) : (chi t.1 x = 0 → okm t.1 t.2.1 x = true ∧ okm t.1 t.2.2 x = false) ∧ (chi t.1 x ≠ 0 → okm t.1 t.2.2 x = true) := by
  have h := List.all_eq_true.1 tabs_ok t ht
  have h' : (Nat.blt 0 t.1 && tchk t.1 t.2.1 t.2.2 (4 * t.1) && mtab t.1 t.2.2 (4 * t.1)) = true := h
  simp only [Bool.and_eq_true] at h'
  have h0 := blt_of h'.1.1
  have := tchk_of _ h'.1.2 (x % (4 * t.1)) (Nat.mod_lt _ (by omega)) (vb_mod hv)
  simpa only [chi_mod, okm_mod] using this
theorem chi_two (a x : Nat) : chi a x = 0 ∨ chi a x = 1 := by unfold chi; omega
theorem chi_mul {t : Nat × Nat × Nat} (ht : t ∈ tabs) {x y : Nat} (hx : vb t.1 x = true) (hy : vb t.1 y = true) (hxy : vb t.1 (x * y) = true) : chi t.1 (x * y) = (chi t.1 x + chi t.1 y) % 2 := by
  have h := List.all_eq_true.1 tabs_ok t ht
  have h' : (Nat.blt 0 t.1 && tchk t.1 t.2.1 t.2.2 (4 * t.1) && mtab t.1 t.2.2 (4 * t.1)) = true := h
  simp only [Bool.and_eq_true] at h'
  have h0 := blt_of h'.1.1
  have hm := mtab_of _ h'.2 (x % (4 * t.1)) (Nat.mod_lt _ (by omega)) (vb_mod hx) (y % (4 * t.1)) (Nat.mod_lt _ (by omega)) (vb_mod hy)
  rw [okm_mul_mod, okm_mod, okm_mod] at hm
  have a1 := tab_spec ht hx
  have a2 := tab_spec ht hy
  have a3 := tab_spec ht hxy
  rcases chi_two t.1 x with e1 | e1 <;> rcases chi_two t.1 y with e2 | e2 <;> rcases chi_two t.1 (x * y) with e3 | e3 <;> simp_all
theorem base_tab {a : Nat} (ha : a ∈ bases) : ∃ t, t ∈ tabs ∧ t.1 = a := by
  rw [← tabs_bases] at ha
  obtain ⟨t, h1, h2⟩ := List.mem_map.1 ha
  exact ⟨t, h1, h2⟩
/-- The two ways in which a number's signs may stand. -/
def Sg (v : Nat) (es : List Nat) (s : Nat) : Prop := At2 (fun a e => chi a s = if e = v then 1 else 0) bases es ∨ ∀ a ∈ bases, chi a s = 0
theorem chi_one {a : Nat} (ha : a ∈ bases) : chi a 1 = 0 := by
  have h : ∀ a ∈ bases, chi a 1 = 0 := by decide
  exact h a ha
theorem Sg.mul {v : Nat} {es : List Nat} {x y : Nat} (hx : Sg v es x) (hy : Sg v es y) (vx : ∀ a ∈ bases, vb a x = true) (vy : ∀ a ∈ bases, vb a y = true) (vxy : ∀ a ∈ bases, vb a (x * y) = true) : Sg v es (x * y) := by
  have hm : ∀ a ∈ bases, chi a (x * y) = (chi a x + chi a y) % 2 := fun a ha => by
    obtain ⟨t, h1, rfl⟩ := base_tab ha
    exact chi_mul h1 (vx _ ha) (vy _ ha) (vxy _ ha)
  rcases hx with hx | hx <;> rcases hy with hy | hy
  · right
    intro a ha
    obtain ⟨e, _, h1, h2⟩ := (hx.and hy).left a ha
    rw [hm a ha, h1, h2]
    split <;> rfl
  · left
    refine hx.imp fun a e ha _ h1 => ?_
    rw [hm a ha, h1, hy a ha]
    split <;> rfl
  · left
    refine hy.imp fun a e ha _ h1 => ?_
    rw [hm a ha, h1, hx a ha]
    split <;> rfl
  · right
    intro a ha
    rw [hm a ha, hx a ha, hy a ha]
theorem Sg.all {v : Nat} {es : List Nat} : ∀ s, 0 < s → (∀ q, Pr q → q ∣ s → Sg v es q) → (∀ d, d ∣ s → ∀ a ∈ bases, vb a d = true) → Sg v es s := by
  intro s
  induction s using Nat.strongRecOn with
  | _ s ih =>
    intro hs hq hv
    rcases Nat.lt_or_ge s 2 with h | h
    · obtain rfl : s = 1 := by omega
      exact .inr fun a ha => chi_one ha
    · obtain ⟨q, h1, ⟨c, rfl⟩, _⟩ := least_pr s h
      have hq2 := h1.1
      have hc0 : 0 < c := Nat.pos_of_ne_zero fun e => by rw [e, Nat.mul_zero] at hs; omega
      have hcl : c < q * c := by
        calc c = 1 * c := by omega
          _ < q * c := Nat.mul_lt_mul_of_pos_right (by omega) hc0
      have ic := ih c hcl hc0 (fun q' h3 h4 => hq q' h3 (Nat.dvd_mul_left_of_dvd h4 _)) (fun d hd => hv d (Nat.dvd_mul_left_of_dvd hd _))
      exact (hq q h1 (Nat.dvd_mul_right _ _)).mul ic (hv q (Nat.dvd_mul_right _ _)) (hv c (Nat.dvd_mul_left _ _)) (hv _ (Nat.dvd_refl _))
theorem ms1_ok {v s : Nat} (hv : ∀ a ∈ bases, vb a s = true) : ∀ {ts : List (Nat × Nat × Nat)} {es : List Nat}, (∀ t ∈ ts, t ∈ tabs) → At2 (fun a e => chi a s = if e = v then 1 else 0) (ts.map (·.1)) es → ∀ m ∈ ms1 v ts es, okm m.1 m.2 s = true
  | [], es, _, _, m, hm => by cases es <;> simp [ms1] at hm
  | t :: ts, [], _, h, _, _ => h.elim
  | t :: ts, e :: es, ht, ⟨h1, h2⟩, m, hm => by
    rcases List.mem_cons.1 (show m ∈ (t.1, bif Nat.beq e v then t.2.2 else t.2.1) :: ms1 v ts es from hm) with rfl | hm
    · have h1 : chi t.1 s = if e = v then 1 else 0 := h1
      have htt := ht t (by simp)
      have hb : t.1 ∈ bases := by rw [← tabs_bases]; exact List.mem_map.2 ⟨t, htt, rfl⟩
      have hs := tab_spec htt (hv _ hb)
      cases hc : Nat.beq e v with
      | true =>
        have := Nat.eq_of_beq_eq_true hc
        rw [if_pos this] at h1
        exact hs.2 (by omega)
      | false =>
        have hne : e ≠ v := fun he => by rw [he] at hc; simp at hc
        rw [if_neg hne] at h1
        exact (hs.1 h1).1
    · exact ms1_ok hv (fun t' h => ht t' (by simp [h])) h2 m hm
theorem ms0_ok {s : Nat} (hv : ∀ a ∈ bases, vb a s = true) (h : ∀ a ∈ bases, chi a s = 0) : ∀ m ∈ ms0, okm m.1 m.2 s = true := by
  intro m hm
  obtain ⟨t, ht, rfl⟩ := List.mem_map.1 hm
  have hb : t.1 ∈ bases := by rw [← tabs_bases]; exact List.mem_map.2 ⟨t, ht, rfl⟩
  exact ((tab_spec ht (hv _ hb)).1 (h _ hb)).1
theorem Sg.masks {v s : Nat} {es : List Nat} (hv : ∀ a ∈ bases, vb a s = true) (h : Sg v es s) : (∀ m ∈ ms1 v tabs es, okm m.1 m.2 s = true) ∨ (∀ m ∈ ms0, okm m.1 m.2 s = true) := by
  rcases h with h | h
  · exact .inl (ms1_ok hv (fun _ h => h) (by rw [tabs_bases]; exact h))
  · exact .inr (ms0_ok hv h)

/-- What passes does not fail. -/
theorem noneg_of {n : Nat} (hn : 1 < n) (x0 : Nat) : ∀ f j, noneg n f (x0 ^ 2 ^ j % n) = true → ∀ i, j ≤ i → i < j + f → (x0 ^ 2 ^ i + 1) % n ≠ 0
  | 0, j, _, i, h1, h2 => by omega
  | f + 1, j, h, i, h1, h2 => by
    have h' : (!(Nat.beq (x0 ^ 2 ^ j % n + 1) n) && noneg n f (x0 ^ 2 ^ j % n * (x0 ^ 2 ^ j % n) % n)) = true := h
    rw [Bool.and_eq_true] at h'
    rcases Nat.lt_or_ge j i with hlt | hge
    · refine noneg_of hn x0 f (j + 1) ?_ i (by omega) (by omega)
      have e : x0 ^ 2 ^ (j + 1) % n = x0 ^ 2 ^ j % n * (x0 ^ 2 ^ j % n) % n := by
        rw [← Nat.mul_mod, ← Nat.pow_add]
        congr 2
        rw [Nat.pow_succ]
        omega
      rw [e]
      exact h'.2
    · obtain rfl : i = j := by omega
      intro hz
      have h3 := beq_no h'.1
      have hlt := Nat.mod_lt (x0 ^ 2 ^ i) (show 0 < n by omega)
      rw [Nat.add_mod, Nat.mod_eq_of_lt hn] at hz
      rcases Nat.lt_or_ge (x0 ^ 2 ^ i % n + 1) n with hl | hg
      · rw [Nat.mod_eq_of_lt hl] at hz; omega
      · omega
theorem SP.fermat {n a : Nat} (h : SP n a) : a ^ (n - 1) % n = 1 % n := by
  obtain ⟨t, d, hn, _, h1 | ⟨i, hi, h1⟩⟩ := h
  · rw [hn, Nat.mul_comm]
    exact one_pow_mod h1 _
  · have h2 := neg_even h1 (2 ^ (t - 1 - i))
    rw [← Nat.pow_mul] at h2
    rw [hn]
    have e : 2 ^ i * d * (2 * 2 ^ (t - 1 - i)) = 2 ^ t * d := by
      have : 2 ^ t = 2 ^ i * (2 * 2 ^ (t - 1 - i)) := by
        rw [← Nat.pow_succ', ← Nat.pow_add]
        congr 1
        omega
      rw [this]
      grind
    rwa [e] at h2
theorem fails_of {n : Nat} (hn : 1 < n) (hb : n ≤ top) (h : SP n 2) : fails n = false := by
  have hf := h.fermat
  cases hc : fails n with
  | false => rfl
  | true =>
    exfalso
    have h' : (!(Nat.beq (pw 2 n 8 (n - 1)) 1) || (!(Nat.beq (pw 2 n 8 (oddp 64 (n - 1))) 1) && noneg n 61 (pw 2 n 8 (oddp 64 (n - 1))))) = true := hc
    have hb' : n ≤ 2305843009213693952 := hb
    rcases cond_or h' with h1 | h1
    · rw [pw_eq 2 n 8 (n - 1) (by omega), hf, Nat.mod_eq_of_lt hn] at h1
      simp at h1
    · rw [Bool.and_eq_true] at h1
      obtain ⟨t, d, hnd, hd, h2⟩ := h
      have ht := v_lt hnd (by omega) (by omega)
      have ho : oddp 64 (n - 1) = d := by rw [hnd]; exact oddp_eq d hd 64 t ht
      have hdl : d ≤ n - 1 := by rw [hnd]; exact Nat.le_mul_of_pos_left d (Nat.pow_pos (by decide))
      have ht2 : t < 61 := by
        refine Classical.byContradiction fun hc => ?_
        have h3 : 2 ^ 61 ≤ 2 ^ t := Nat.pow_le_pow_right (by decide) (by omega)
        have h4 : 2 ^ t * 1 ≤ 2 ^ t * d := Nat.mul_le_mul_left _ (by omega)
        omega
      rw [ho, pw_eq 2 n 8 d (by omega)] at h1
      rcases h2 with h2 | ⟨i, hi, h2⟩
      · rw [h2, Nat.mod_eq_of_lt hn] at h1
        simp at h1
      · refine noneg_of hn (2 ^ d) 61 0 (by rw [Nat.pow_zero, Nat.pow_one]; exact h1.2) i (by omega) (by omega) ?_
        rw [← Nat.pow_mul, Nat.mul_comm d]
        exact h2
/-- The primes whose product low is are below 2000. -/
theorem low_eq : low = prodB 1 1998 := by decide +kernel
theorem low_le {q : Nat} (hq : Pr q) (h : q ∣ low) : q ≤ 1999 := by rw [low_eq] at h; exact prodB_le 1 hq _ h
theorem fin_of {p r s : Nat} (hn1 : 1 < p * r * s) (hb : p * r * s ≤ top) (h : SP (p * r * s) 2) (hs : 0 < s) (hrs : ∀ q, Pr q → q ∣ s → r ≤ q) (hle : r ≤ s) : fin p r s = false := by
  cases hc : fin p r s with
  | false => rfl
  | true =>
    exfalso
    have h' : (Nat.blt s r || (Nat.blt 2000 r && !(Nat.beq (Nat.gcd s low) 1)) || fails (p * r * s)) = true := hc
    rcases cond_or h' with h1 | h1
    · rcases cond_or h1 with h2 | h2
      · have := blt_of h2; omega
      · rw [Bool.and_eq_true] at h2
        have h3 := blt_of h2.1
        have h4 := beq_no h2.2
        have h5 : 0 < Nat.gcd s low := Nat.gcd_pos_of_pos_left _ hs
        obtain ⟨q, hq, hqd, _⟩ := least_pr (Nat.gcd s low) (by omega)
        have h6 := hrs q hq (Nat.dvd_trans hqd (Nat.gcd_dvd_left _ _))
        have h7 := low_le hq (Nat.dvd_trans hqd (Nat.gcd_dvd_right _ _))
        omega
    · rw [fails_of hn1 hb h] at h1
      cases h1
theorem lv2_of {p r s : Nat} {m1 m0 : List (Nat × Nat)} (hp : 2 < p) (hr : 2 < r) (hs : 0 < s) (h : lv2 p r m1 m0 = true) (hp1 : p - 1 ∣ p * r * s - 1) (hr1 : r - 1 ∣ p * r * s - 1) (hb : p * r * s ≤ top) (h2 : SP (p * r * s) 2) (hrs : ∀ q, Pr q → q ∣ s → r ≤ q) (hle : r ≤ s)
    (hm : (∀ m ∈ m1, okm m.1 m.2 s = true) ∨ (∀ m ∈ m0, okm m.1 m.2 s = true)) : False := by
  have hpr : 0 < p * r := Nat.mul_pos (by omega) (by omega)
  have hn : 1 < p * r * s := by
    calc 1 < p := by omega
      _ = p * 1 * 1 := by omega
      _ ≤ p * r * s := Nat.mul_le_mul (Nat.mul_le_mul_left _ (by omega)) hs
  have hL : Nat.lcm (p - 1) (r - 1) ∣ p * r * s - 1 := Nat.lcm_dvd hp1 hr1
  have hL2 : 2 ≤ Nat.lcm (p - 1) (r - 1) := Nat.le_trans (by omega) (Nat.le_of_dvd (Nat.lcm_pos (by omega) (by omega)) (Nat.dvd_lcm_right (p - 1) (r - 1)))
  have h' : lv2L p r (Nat.lcm (p - 1) (r - 1)) m1 m0 = true := h
  generalize Nat.lcm (p - 1) (r - 1) = L at hL hL2 h'
  have h'' : (!(Nat.beq (Nat.gcd (p * r) L) 1) || lv2go p r L (invg L 100 L (p * r % L) 0 1) m1 m0) = true := h'
  generalize invg L 100 L (p * r % L) 0 1 = s0 at h''
  rcases cond_or h'' with h3 | h3
  · have h4 := beq_no h3
    refine h4 ?_
    have h5 : Nat.gcd (p * r) L ∣ p * r * s := Nat.dvd_trans (Nat.gcd_dvd_left _ _) (Nat.dvd_mul_right _ _)
    have h6 : Nat.gcd (p * r) L ∣ p * r * s - 1 := Nat.dvd_trans (Nat.gcd_dvd_right _ _) hL
    have h7 := (Nat.dvd_sub_iff_right (by omega) h5).1 h6
    exact Nat.dvd_one.1 h7
  · have h4 : (Nat.beq (p * r * s0 % L) 1 && Nat.blt s0 L && (Nat.blt (top / (p * r)) s0 ||
      (ap s0 L ((top / (p * r) - s0) / L + 1) m1 (fun k => fin p r (s0 + k * L)) && ap s0 L ((top / (p * r) - s0) / L + 1) m0 (fun k => fin p r (s0 + k * L))))) = true := h3
    simp only [Bool.and_eq_true] at h4
    obtain ⟨⟨h5, h6⟩, h7⟩ := h4
    have e5 := Nat.eq_of_beq_eq_true h5
    have l6 := blt_of h6
    have en : p * r * s % L = 1 := by
      obtain ⟨c, hc⟩ := hL
      rw [show p * r * s = 1 + L * c by omega, Nat.add_mul_mod_self_left, Nat.mod_eq_of_lt (by omega)]
    have hcop : Nat.Coprime L (p * r) := by
      have g1 : Nat.gcd L (p * r) ∣ p * r * s := Nat.dvd_trans (Nat.gcd_dvd_right _ _) (Nat.dvd_mul_right _ _)
      have g2 : Nat.gcd L (p * r) ∣ p * r * s - 1 := Nat.dvd_trans (Nat.gcd_dvd_left _ _) hL
      exact Nat.dvd_one.1 ((Nat.dvd_sub_iff_right (by omega) g1).1 g2)
    have hge : s0 ≤ s := by
      refine Classical.byContradiction fun hc => ?_
      have d1 := dvd_of_sub (x := p * r * s) (y := p * r * s0) (r := L) (by rw [en, e5])
      rw [← Nat.mul_sub] at d1
      have d2 := hcop.dvd_of_dvd_mul_left d1
      have := Nat.le_of_dvd (by omega) d2
      omega
    have d1 := dvd_of_sub (x := p * r * s0) (y := p * r * s) (r := L) (by rw [en, e5])
    rw [← Nat.mul_sub] at d1
    obtain ⟨k, hk⟩ := hcop.dvd_of_dvd_mul_left d1
    have es : s = s0 + k * L := by rw [Nat.mul_comm k]; omega
    have hT : s ≤ top / (p * r) := (Nat.le_div_iff_mul_le hpr).2 (by rw [Nat.mul_comm]; exact hb)
    have hk2 : k < (top / (p * r) - s0) / L + 1 := by
      have : k ≤ (top / (p * r) - s0) / L := (Nat.le_div_iff_mul_le (by omega)).2 (by omega)
      omega
    have hfin := fin_of hn hb h2 hs hrs hle
    rcases cond_or h7 with h8 | h8
    · have := blt_of h8; omega
    · rw [Bool.and_eq_true] at h8
      rcases hm with hm | hm
      · have := ap_out h8.1 k hk2 (by rw [← es]; exact hm)
        rw [← es, hfin] at this
        cases this
      · have := ap_out h8.2 k hk2 (by rw [← es]; exact hm)
        rw [← es, hfin] at this
        cases this
theorem tall_take {r v u : Nat} (hr : 2 < r) (hb : r < 2 ^ 32) (hu : r - 1 = 2 ^ v * u) : ∀ {az es : List Nat} (n : Nat), At2 (Tp r v u) az es → tall r u az (es.take n) = true
  | [], [], n, _ => by simp [tall]
  | a :: az, e :: es, 0, _ => by simp [tall]
  | a :: az, e :: es, n + 1, ⟨h1, h2⟩ => by
    show (tb r u a e && tall r u az (es.take n)) = true
    rw [tb_of hr hb hu h1, tall_take hr hb hu n h2]
    rfl
  | [], _ :: _, _, h => h.elim
  | _ :: _, [], _, h => h.elim
theorem chk_of {p r s v u nb : Nat} {es : List Nat} {m1 m0 : List (Nat × Nat)} (hp : 2 < p) (hpr : p < r) (hr : Pr r) (hrb : r < 2 ^ 32) (hu : r - 1 = 2 ^ v * u) (ho : u % 2 = 1) (hT : At2 (Tp r v u) bases es) (h : chk p r nb es m1 m0 = true)
    (hs : 0 < s) (hp1 : p - 1 ∣ p * r * s - 1) (hsp : ∀ a ∈ bases, SP (p * r * s) a) (hnd : ∀ a ∈ bases, ¬ r ∣ a) (hb : p * r * s ≤ top) (hrs : ∀ q, Pr q → q ∣ s → r ≤ q) (hle : r ≤ s)
    (hm : (∀ m ∈ m1, okm m.1 m.2 s = true) ∨ (∀ m ∈ m0, okm m.1 m.2 s = true)) : False := by
  have h' : (Nat.ble r p || (Nat.blt 2000 r && !(Nat.beq (Nat.gcd r low) 1)) || !(tall r (oddp 64 (r - 1)) bases (es.take nb)) || (ordb r && lv2 p r m1 m0)) = true := h
  have hr2 : 2 < r := by omega
  rcases cond_or h' with h1 | h1
  · rcases cond_or h1 with h2 | h2
    · rcases cond_or h2 with h3 | h3
      · have := Nat.le_of_ble_eq_true h3; omega
      · rw [Bool.and_eq_true] at h3
        have h4 := blt_of h3.1
        refine beq_no h3.2 (hr.cop fun hd => ?_)
        have := low_le hr hd
        omega
    · have ho2 : oddp 64 (r - 1) = u := by rw [hu]; exact oddp_eq u ho 64 v (v_lt hu (by omega) (by omega))
      rw [ho2, tall_take hr2 hrb hu nb hT] at h2
      cases h2
  · rw [Bool.and_eq_true] at h1
    have hrd : r ∣ p * r * s := ⟨p * s, by grind⟩
    have hr1 : r - 1 ∣ p * r * s - 1 := ord_dvd hr2 hrb h1.1 (fun a ha => one_down (hsp a ha).fermat hrd) (fun a ha => hr.fermat hr2 (hnd a ha))
    exact lv2_of hp hr2 hs h1.2 hp1 hr1 hb (hsp 2 (by decide)) hrs hle hm
theorem cls_of {p K s L nb : Nat} {ms : List (Nat × Nat)} {es : List Nat} {m1 m0 : List (Nat × Nat)} : ∀ n, cls p K s L ms nb es m1 m0 n = true → ∀ k, k < K → k < n * piece → (∀ m ∈ ms, okm m.1 m.2 (s + k * L) = true) → chk p (s + k * L) nb es m1 m0 = true
  | 0, _, k, _, h2, _ => by omega
  | c + 1, h, k, h1, h2, hm => by
    have h' : (ap (s + c * piece * L) L (Nat.min piece (K - c * piece)) ms (fun k => chk p (s + c * piece * L + k * L) nb es m1 m0) && cls p K s L ms nb es m1 m0 c) = true := h
    rw [Bool.and_eq_true] at h'
    rcases Nat.lt_or_ge k (c * piece) with hlt | hge
    · exact cls_of c h'.2 k h1 hlt hm
    · have e : s + k * L = s + c * piece * L + (k - c * piece) * L := by
        rw [Nat.sub_mul]
        have := Nat.mul_le_mul_right L hge
        omega
      rw [e] at hm ⊢
      refine ap_out h'.1 (k - c * piece) ?_ hm
      rw [Nat.add_mul, Nat.one_mul] at h2
      exact Nat.lt_min.2 ⟨by omega, by omega⟩
theorem clsR_of {p R s L nb : Nat} {ms : List (Nat × Nat)} {es : List Nat} {m1 m0 : List (Nat × Nat)} (h : clsR p R s L ms nb es m1 m0 = true) (hL : 0 < L) {k : Nat} (hk : s + k * L ≤ R) (hm : ∀ m ∈ ms, okm m.1 m.2 (s + k * L) = true) : chk p (s + k * L) nb es m1 m0 = true := by
  have h' : cls p (R / L + 1) s L ms nb es m1 m0 (R / L / piece + 1) = true := h
  have h1 : k ≤ R / L := (Nat.le_div_iff_mul_le hL).2 (by omega)
  refine cls_of _ h' k (by omega) ?_ hm
  have := Nat.div_add_mod (R / L) piece
  have h2 := Nat.mod_lt (R / L) (show 0 < piece by decide)
  rw [Nat.add_mul, Nat.one_mul, Nat.mul_comm]
  omega
theorem gcds_dvd {e m : Nat} : ∀ {az : List Nat}, (∀ a ∈ az, m ∣ a ^ e - 1) → m ∣ gcds e az
  | [], _ => Nat.dvd_zero _
  | a :: az, h => Nat.dvd_gcd (h a (by simp)) (gcds_dvd fun b hb => h b (by simp [hb]))
theorem dvd_pow_sub {m a e : Nat} (h : a ^ e % m = 1 % m) : m ∣ a ^ e - 1 := dvd_of_sub h.symm
theorem vb_all {n : Nat} (ho : n % 2 = 1) (hnd : ∀ a ∈ bases, ¬ a ∣ n) {d : Nat} (hd : d ∣ n) : ∀ a ∈ bases, vb a d = true := fun a ha => vb_of (odd_of_dvd hd ho) fun h => hnd a ha (Nat.dvd_trans h hd)
/-- What is reckoned of p, v, R, es tells that p divides nothing that passes but itself. -/
theorem no_small {n p v R nb : Nat} {es : List Nat} (hchk : chkP p v R nb es = true) (hp : Pr p) (hp1 : 37 < p) (hp2 : p < 1000) (hv1 : 1 ≤ v) (hR : R < 2 ^ 32) (hpn : p ∣ n) (hne : n ≠ p) (hn : n ≤ top) (hn0 : 0 < n) (hsp : ∀ a ∈ bases, SP n a) (hnd : ∀ a ∈ bases, ¬ a ∣ n) (hleast : ∀ d, 2 ≤ d → d ∣ n → p ≤ d) : False := by
  have ho : n % 2 = 1 := by
    rcases Nat.mod_two_eq_zero_or_one n with h | h
    · exact absurd (Nat.dvd_of_mod_eq_zero h) (hnd 2 (by decide))
    · exact h
  have hbn : ∀ q, Pr q → q ∣ n → 37 < q := fun q hq hd => by have := hleast q hq.1 hd; omega
  have hbq : ∀ q, Pr q → q ∣ n → ∀ a ∈ bases, ¬ q ∣ a := fun q hq hd a ha h => by
    have h1 : ∀ a ∈ bases, 0 < a ∧ a ≤ 37 := by decide
    have h2 := h1 a ha
    have := Nat.le_of_dvd h2.1 h
    have := hbn q hq hd
    omega
  obtain ⟨es', hes⟩ := At2.choose (az := bases) fun a ha => (hsp a ha).tell
  have htp : ∀ r v u, Pr r → r ∣ n → r - 1 = 2 ^ v * u → u % 2 = 1 → At2 (Tp r v u) bases es' := fun r v u hr hd hu hu1 => hes.imp fun a e ha _ h => h r v u hr hd (by have := hbn r hr hd; omega) hu hu1 (hr.fermat (by have := hbn r hr hd; omega) (hbq r hr hd a ha))
  have hchk' : (pre p v es && Nat.blt top (p * ((R + 1) * (R + 1))) && clsR p R (1 + 2 ^ v) (2 ^ (v + 1)) (ms1 v tabs es) nb es (ms1 v tabs es) ms0 && clsR p R 1 (2 ^ (v + 1)) ms0 12 es (ms1 v tabs es) ms0) = true := hchk
  simp only [Bool.and_eq_true] at hchk'
  obtain ⟨⟨⟨hpre, hRt⟩, hc1⟩, hc2⟩ := hchk'
  have hpre' : (Nat.beq (2 ^ v * oddp 64 (p - 1)) (p - 1) && Nat.beq (oddp 64 (p - 1) % 2) 1 && onlys p (oddp 64 (p - 1)) v bases es && es.any (Nat.beq v) && ordb p && Nat.beq (pw 2 (p * p) 8 (p * (p - 1))) 1 && !(Nat.beq (pw 2 (p * p) 8 (p - 1)) 1) && Nat.beq (facN p % gcds (p - 1) bases) 0) = true := hpre
  simp only [Bool.and_eq_true] at hpre'
  obtain ⟨⟨⟨⟨⟨⟨⟨q1, q2⟩, q3⟩, q4⟩, q5⟩, q6⟩, q7⟩, q8⟩ := hpre'
  have e1 := Nat.eq_of_beq_eq_true q1
  have e2 := Nat.eq_of_beq_eq_true q2
  have e8 := Nat.eq_of_beq_eq_true q8
  generalize oddp 64 (p - 1) = u at e1 e2 q3
  have hes' : es' = es := onlys_of (v := v) (by omega) (by omega) e1.symm q3 (htp p v u hp hpn e1.symm e2)
  subst hes'
  have hle : ∀ e ∈ es', e ≤ v := fun e he => by
    obtain ⟨a, _, h⟩ := (htp p v u hp hpn e1.symm e2).right e he
    exact h.le
  obtain ⟨ev, hev1, hev2⟩ := List.any_eq_true.1 q4
  have hev : ev = v := (Nat.eq_of_beq_eq_true hev2).symm
  subst hev
  have hp1n : p - 1 ∣ n - 1 := ord_dvd (by omega) (by omega) q5 (fun a ha => one_down (hsp a ha).fermat hpn) (fun a ha => hp.fermat (by omega) (hbq p hp hpn a ha))
  -- what each prime is like
  have hcl : ∀ r, Pr r → r ∣ n → ∃ w u, r - 1 = 2 ^ w * u ∧ u % 2 = 1 ∧ ev ≤ w ∧ At2 (Tp r w u) bases es' ∧ ((w = ev ∧ At2 (fun a e => chi a r = if e = ev then 1 else 0) bases es') ∨ (ev < w ∧ ∀ a ∈ bases, chi a r = 0)) := by
    intro r hr hd
    have hr37 := hbn r hr hd
    obtain ⟨w, u, h1, h2⟩ := two_split (r - 1) (by omega)
    have hT := htp r w u hr hd h1 h2
    have hw : ev ≤ w := by
      obtain ⟨a, _, h⟩ := hT.right ev hev1
      exact h.le
    have hhalf : (r - 1) / 2 = r / 2 := by have := hr.odd (by omega); omega
    have key : ∀ a ∈ bases, ∀ e, Tp r w u a e → chi a r = if e = w then 1 else 0 := by
      intro a ha e h
      have hh := h.half h1 (by omega)
      rw [hhalf] at hh
      have h0 : ∀ a ∈ bases, 0 < a := by decide
      have hc := chi_spec hr (by omega) (hbq r hr hd a ha) (h0 a ha)
      by_cases hee : e = w
      · rw [if_pos hee]
        rcases chi_two a r with h3 | h3
        · exact (one_neg (hc.1 h3) (hh.1 hee) (by omega)).elim
        · exact h3
      · rw [if_neg hee]
        rcases chi_two a r with h3 | h3
        · exact h3
        · exact (one_neg (hh.2 hee) (hc.2 h3) (by omega)).elim
    refine ⟨w, u, h1, h2, hw, hT, ?_⟩
    rcases Nat.lt_or_ge ev w with hlt | hge
    · refine .inr ⟨hlt, fun a ha => ?_⟩
      obtain ⟨e, he, h⟩ := hT.left a ha
      have h3 := key a ha e h
      have := hle e he
      rwa [if_neg (by omega)] at h3
    · have hwe : w = ev := by omega
      exact .inl ⟨hwe, hT.imp fun a e ha _ h => by have := key a ha e h; rwa [hwe] at this⟩
  have hsg : ∀ q, Pr q → q ∣ n → Sg ev es' q := fun q hq hd => by
    obtain ⟨w, u, _, _, _, _, h | h⟩ := hcl q hq hd
    · exact .inl h.2
    · exact .inr h.2
  obtain ⟨m, hm⟩ := hpn
  have hm0 : 0 < m := Nat.pos_of_ne_zero fun e => by rw [e, Nat.mul_zero] at hm; omega
  have hm1 : m ≠ 1 := fun e => hne (by rw [hm, e, Nat.mul_one])
  obtain ⟨r, hr, ⟨s, hs⟩, hrl⟩ := least_pr m (by omega)
  have hrn : r ∣ n := by rw [hm, hs]; exact ⟨p * s, by grind⟩
  have hpr : p ≤ r := hleast r hr.1 hrn
  -- p does not divide twice
  have hpr' : p < r := by
    rcases Nat.lt_or_ge p r with h | h
    · exact h
    · exfalso
      obtain rfl : r = p := by omega
      have hpp : r * r ∣ n := by rw [hm, hs]; exact ⟨s, by grind⟩
      have f1 := one_down (hsp 2 (by decide)).fermat hpp
      have hrr : r * r < 1000 * 1000 := Nat.mul_lt_mul'' hp2 hp2
      have hrr2 : r * (r - 1) ≤ r * r := Nat.mul_le_mul_left _ (by omega)
      have f2 : 2 ^ (r * (r - 1)) % (r * r) = 1 % (r * r) := by
        have := Nat.eq_of_beq_eq_true q6
        rw [pw_eq 2 (r * r) 8 _ (by omega)] at this
        have h4 : 37 * 37 < r * r := Nat.mul_lt_mul'' hp1 hp1
        rw [this, Nat.mod_eq_of_lt (show 1 < r * r by omega)]
      have f3 := one_pow_gcd _ _ f1 f2
      have f4 : Nat.gcd (n - 1) (r * (r - 1)) ∣ r - 1 := by
        have hc : Nat.Coprime (Nat.gcd (n - 1) (r * (r - 1))) r := by
          rw [Nat.Coprime, Nat.gcd_comm]
          refine hr.cop fun hd => ?_
          have h5 := Nat.dvd_trans hd (Nat.gcd_dvd_left _ _)
          have h6 := (Nat.dvd_sub_iff_right (show 1 ≤ n by omega) hrn).1 h5
          have := Nat.le_of_dvd (by decide) h6
          omega
        exact hc.dvd_of_dvd_mul_left (Nat.gcd_dvd_right _ _)
      have f5 := one_pow_dvd f3 f4
      rw [← pw_eq 2 (r * r) 8 (r - 1) (by omega)] at f5
      have h4 : 37 * 37 < r * r := Nat.mul_lt_mul'' hp1 hp1
      rw [Nat.mod_eq_of_lt (show 1 < r * r by omega)] at f5
      exact beq_no q7 f5
  have hs0 : 0 < s := Nat.pos_of_ne_zero fun e => by rw [e, Nat.mul_zero] at hs; omega
  have hnprs : n = p * r * s := by rw [hm, hs]; grind
  by_cases hs1 : s = 1
  · -- two primes
    subst hs1
    rw [Nat.mul_one] at hs
    subst hs
    have hall : ∀ a ∈ bases, m ∣ a ^ (p - 1) - 1 := fun a ha => by
      refine dvd_pow_sub ?_
      have f1 := one_down (hsp a ha).fermat hrn
      have f2 := hr.fermat (by omega) (hbq m hr hrn a ha)
      have e : n - 1 = (m - 1) * p + (p - 1) := by
        rw [hm, Nat.sub_mul, Nat.one_mul, Nat.mul_comm m p]
        have : p * 1 ≤ p * m := Nat.mul_le_mul_left p (by omega)
        omega
      rw [e, Nat.pow_add] at f1
      have f3 := cmul (one_pow_mod f2 p) (rfl : a ^ (p - 1) % m = a ^ (p - 1) % m)
      rw [f1, Nat.one_mul] at f3
      exact f3.symm
    have h3 := Nat.dvd_trans (gcds_dvd hall) (Nat.dvd_of_mod_eq_zero e8)
    have := facN_pr hr _ h3
    omega
  · obtain ⟨q, hq, hqd, _⟩ := least_pr s (by omega)
    have hrs : ∀ q, Pr q → q ∣ s → r ≤ q := fun q hq hd => hrl q hq.1 (by rw [hs]; exact Nat.dvd_mul_left_of_dvd hd _)
    have hrles : r ≤ s := Nat.le_trans (hrs q hq hqd) (Nat.le_of_dvd hs0 hqd)
    have hrR : r ≤ R := by
      refine Classical.byContradiction fun hc => ?_
      have h1 := blt_of hRt
      have h2 : (R + 1) * (R + 1) ≤ r * s := Nat.mul_le_mul (by omega) (by omega)
      have h3 := Nat.mul_le_mul_left p h2
      rw [show p * (r * s) = n by rw [hnprs, Nat.mul_assoc]] at h3
      omega
    have hsn : s ∣ n := by rw [hnprs]; exact Nat.dvd_mul_left _ _
    have hvs : ∀ a ∈ bases, vb a s = true := vb_all ho hnd hsn
    have hsgs : Sg ev es' s := Sg.all s hs0 (fun q hq hd => hsg q hq (Nat.dvd_trans hd hsn)) (fun d hd => vb_all ho hnd (Nat.dvd_trans hd hsn))
    have hmasks := hsgs.masks hvs
    have hvr : ∀ a ∈ bases, vb a r = true := vb_all ho hnd hrn
    obtain ⟨w, u', hu, hu1, hw, hT, hcase⟩ := hcl r hr hrn
    have hrodd := hr.1
    rw [hnprs] at hp1n hsp hn
    rcases hcase with ⟨rfl, hch⟩ | ⟨hlt, hch⟩
    · have e : r = 1 + 2 ^ w + (u' / 2) * 2 ^ (w + 1) := by
        have h1 : 2 ^ w * u' = 2 ^ w + (u' / 2) * 2 ^ (w + 1) := by
          obtain ⟨k, hk⟩ : ∃ k, u' = 2 * k + 1 := ⟨u' / 2, by omega⟩
          rw [hk, show (2 * k + 1) / 2 = k by omega, Nat.pow_succ]
          grind
        omega
      have hck := clsR_of hc1 (Nat.pow_pos (by decide)) (k := u' / 2) (by rw [← e]; exact hrR) (by rw [← e]; exact ms1_ok hvr (fun _ h => h) (by rw [tabs_bases]; exact hch))
      rw [← e] at hck
      exact chk_of (by omega) hpr' hr (by omega) hu hu1 hT hck hs0 hp1n hsp (fun a ha => hbq r hr hrn a ha) hn hrs hrles hmasks
    · have e : r = 1 + (2 ^ (w - (ev + 1)) * u') * 2 ^ (ev + 1) := by
        have h1 : 2 ^ w * u' = (2 ^ (w - (ev + 1)) * u') * 2 ^ (ev + 1) := by
          have : 2 ^ w = 2 ^ (w - (ev + 1)) * 2 ^ (ev + 1) := by rw [← Nat.pow_add]; congr 1; omega
          rw [this]
          grind
        omega
      have hck := clsR_of hc2 (Nat.pow_pos (by decide)) (k := 2 ^ (w - (ev + 1)) * u') (by rw [← e]; exact hrR) (by rw [← e]; exact ms0_ok hvr hch)
      rw [← e] at hck
      exact chk_of (by omega) hpr' hr (by omega) hu hu1 hT hck hs0 hp1n hsp (fun a ha => hbq r hr hrn a ha) hn hrs hrles hmasks
end Go.Proofs.YtphbcfpiklmmeaaGreatDoor.NT

namespace Go.Proofs.YtphbcfpiklmmeaaGreatDoor.NT

set_option maxRecDepth 100000 in
theorem ck_43 : chkP 43 1 231569117 4 [1, 1, 1, 1, 0, 0, 0, 1, 0, 1, 0, 1] = true := by decide +kernel
set_option maxRecDepth 100000 in
theorem ck_97 : chkP 97 5 154180340 12 [4, 4, 5, 5, 4, 5, 5, 5, 5, 5, 4, 5] = true := by decide +kernel
set_option maxRecDepth 100000 in
theorem ck_167 : chkP 167 1 117505077 4 [0, 0, 1, 0, 0, 1, 1, 0, 1, 0, 0, 1] = true := by decide +kernel
set_option maxRecDepth 100000 in
theorem ck_173 : chkP 173 2 115449436 12 [2, 2, 2, 2, 2, 1, 2, 2, 0, 0, 1, 1] = true := by decide +kernel
set_option maxRecDepth 100000 in
theorem ck_239 : chkP 239 1 98223615 4 [0, 0, 0, 1, 0, 1, 0, 1, 1, 0, 0, 1] = true := by decide +kernel
set_option maxRecDepth 100000 in
theorem ck_241 : chkP 241 4 97815199 12 [3, 3, 3, 4, 4, 4, 4, 4, 4, 3, 4, 4] = true := by decide +kernel
set_option maxRecDepth 100000 in
theorem ck_281 : chkP 281 3 90586130 12 [1, 3, 2, 2, 3, 3, 2, 3, 3, 1, 2, 3] = true := by decide +kernel
set_option maxRecDepth 100000 in
theorem ck_311 : chkP 311 1 86106249 4 [0, 0, 0, 0, 1, 0, 1, 1, 1, 1, 1, 1] = true := by decide +kernel
set_option maxRecDepth 100000 in
theorem ck_389 : chkP 389 2 76991018 12 [2, 2, 0, 0, 0, 0, 0, 1, 2, 2, 2, 2] = true := by decide +kernel
set_option maxRecDepth 100000 in
theorem ck_457 : chkP 457 3 71032445 12 [2, 2, 3, 1, 3, 3, 1, 1, 3, 1, 3, 3] = true := by decide +kernel
set_option maxRecDepth 100000 in
theorem ck_463 : chkP 463 1 70570691 4 [0, 1, 1, 1, 1, 1, 0, 1, 1, 0, 0, 1] = true := by decide +kernel
set_option maxRecDepth 100000 in
theorem ck_547 : chkP 547 1 64926382 4 [1, 1, 1, 1, 0, 0, 1, 0, 1, 0, 1, 1] = true := by decide +kernel
set_option maxRecDepth 100000 in
theorem ck_593 : chkP 593 4 62357331 12 [2, 4, 4, 4, 4, 4, 3, 2, 1, 2, 2, 1] = true := by decide +kernel
set_option maxRecDepth 100000 in
theorem ck_617 : chkP 617 3 61132518 12 [1, 3, 3, 2, 2, 3, 3, 2, 3, 3, 0, 2] = true := by decide +kernel
set_option maxRecDepth 100000 in
theorem ck_619 : chkP 619 1 61033678 4 [1, 1, 0, 0, 1, 1, 1, 1, 0, 1, 0, 0] = true := by decide +kernel
set_option maxRecDepth 100000 in
theorem ck_773 : chkP 773 2 54616657 12 [2, 2, 2, 2, 1, 2, 0, 2, 2, 2, 2, 0] = true := by decide +kernel
set_option maxRecDepth 100000 in
theorem ck_787 : chkP 787 1 54128688 4 [1, 1, 1, 0, 0, 1, 1, 0, 0, 0, 0, 0] = true := by decide +kernel
set_option maxRecDepth 100000 in
theorem ck_857 : chkP 857 3 51870980 12 [2, 3, 3, 3, 3, 2, 3, 3, 1, 2, 2, 3] = true := by decide +kernel
set_option maxRecDepth 100000 in
theorem ck_883 : chkP 883 1 51101602 4 [1, 1, 1, 1, 1, 0, 0, 1, 1, 0, 0, 1] = true := by decide +kernel
def pl1 : List (Nat × Nat × Nat × Nat × List Nat) := [(43, 1, 231569117, 4, [1, 1, 1, 1, 0, 0, 0, 1, 0, 1, 0, 1]), (97, 5, 154180340, 12, [4, 4, 5, 5, 4, 5, 5, 5, 5, 5, 4, 5]), (167, 1, 117505077, 4, [0, 0, 1, 0, 0, 1, 1, 0, 1, 0, 0, 1]), (173, 2, 115449436, 12, [2, 2, 2, 2, 2, 1, 2, 2, 0, 0, 1, 1]), (239, 1, 98223615, 4, [0, 0, 0, 1, 0, 1, 0, 1, 1, 0, 0, 1]), (241, 4, 97815199, 12, [3, 3, 3, 4, 4, 4, 4, 4, 4, 3, 4, 4]), (281, 3, 90586130, 12, [1, 3, 2, 2, 3, 3, 2, 3, 3, 1, 2, 3]), (311, 1, 86106249, 4, [0, 0, 0, 0, 1, 0, 1, 1, 1, 1, 1, 1]), (389, 2, 76991018, 12, [2, 2, 0, 0, 0, 0, 0, 1, 2, 2, 2, 2]), (457, 3, 71032445, 12, [2, 2, 3, 1, 3, 3, 1, 1, 3, 1, 3, 3]), (463, 1, 70570691, 4, [0, 1, 1, 1, 1, 1, 0, 1, 1, 0, 0, 1]), (547, 1, 64926382, 4, [1, 1, 1, 1, 0, 0, 1, 0, 1, 0, 1, 1]), (593, 4, 62357331, 12, [2, 4, 4, 4, 4, 4, 3, 2, 1, 2, 2, 1]), (617, 3, 61132518, 12, [1, 3, 3, 2, 2, 3, 3, 2, 3, 3, 0, 2]), (619, 1, 61033678, 4, [1, 1, 0, 0, 1, 1, 1, 1, 0, 1, 0, 0]), (773, 2, 54616657, 12, [2, 2, 2, 2, 1, 2, 0, 2, 2, 2, 2, 0]), (787, 1, 54128688, 4, [1, 1, 1, 0, 0, 1, 1, 0, 0, 0, 0, 0]), (857, 3, 51870980, 12, [2, 3, 3, 3, 3, 2, 3, 3, 1, 2, 2, 3]), (883, 1, 51101602, 4, [1, 1, 1, 1, 1, 0, 0, 1, 1, 0, 0, 1])]
theorem pl1_ok : ∀ x ∈ pl1, chkP x.1 x.2.1 x.2.2.1 x.2.2.2.1 x.2.2.2.2 = true := by
  intro x hx
  simp only [pl1, List.mem_cons, List.not_mem_nil, or_false] at hx
  rcases hx with rfl | rfl | rfl | rfl | rfl | rfl | rfl | rfl | rfl | rfl | rfl | rfl | rfl | rfl | rfl | rfl | rfl | rfl | rfl
  · exact ck_43
  · exact ck_97
  · exact ck_167
  · exact ck_173
  · exact ck_239
  · exact ck_241
  · exact ck_281
  · exact ck_311
  · exact ck_389
  · exact ck_457
  · exact ck_463
  · exact ck_547
  · exact ck_593
  · exact ck_617
  · exact ck_619
  · exact ck_773
  · exact ck_787
  · exact ck_857
  · exact ck_883
end Go.Proofs.YtphbcfpiklmmeaaGreatDoor.NT

namespace Go.Proofs.YtphbcfpiklmmeaaGreatDoor.NT

set_option maxRecDepth 100000 in
theorem ck_41 : chkP 41 3 237149896 12 [2, 3, 2, 3, 3, 3, 3, 3, 1, 3, 1, 0] = true := by decide +kernel
set_option maxRecDepth 100000 in
theorem ck_47 : chkP 47 1 221496026 4 [0, 0, 1, 0, 1, 1, 0, 1, 1, 1, 1, 0] = true := by decide +kernel
set_option maxRecDepth 100000 in
theorem ck_113 : chkP 113 4 142848487 12 [2, 4, 4, 1, 3, 3, 4, 4, 4, 4, 3, 4] = true := by decide +kernel
set_option maxRecDepth 100000 in
theorem ck_193 : chkP 193 6 109304039 12 [5, 4, 6, 3, 6, 6, 6, 6, 5, 6, 5, 6] = true := by decide +kernel
set_option maxRecDepth 100000 in
theorem ck_227 : chkP 227 1 100786401 4 [1, 0, 1, 0, 0, 1, 1, 0, 0, 0, 1, 1] = true := by decide +kernel
set_option maxRecDepth 100000 in
theorem ck_277 : chkP 277 2 91237837 12 [2, 0, 2, 1, 2, 1, 2, 0, 0, 1, 2, 2] = true := by decide +kernel
set_option maxRecDepth 100000 in
theorem ck_307 : chkP 307 1 86665386 4 [1, 1, 1, 0, 0, 1, 0, 0, 1, 1, 1, 0] = true := by decide +kernel
set_option maxRecDepth 100000 in
theorem ck_373 : chkP 373 2 78624962 12 [2, 1, 2, 1, 2, 1, 1, 2, 2, 0, 1, 1] = true := by decide +kernel
set_option maxRecDepth 100000 in
theorem ck_383 : chkP 383 1 77591738 4 [0, 0, 1, 0, 1, 1, 0, 0, 0, 0, 0, 1] = true := by decide +kernel
set_option maxRecDepth 100000 in
theorem ck_461 : chkP 461 2 70723607 12 [2, 2, 0, 2, 2, 2, 1, 0, 0, 2, 2, 2] = true := by decide +kernel
set_option maxRecDepth 100000 in
theorem ck_523 : chkP 523 1 66399379 4 [1, 1, 1, 0, 0, 0, 0, 0, 0, 0, 0, 1] = true := by decide +kernel
set_option maxRecDepth 100000 in
theorem ck_601 : chkP 601 3 61940917 12 [0, 0, 2, 3, 3, 2, 3, 3, 2, 3, 3, 1] = true := by decide +kernel
set_option maxRecDepth 100000 in
theorem ck_607 : chkP 607 1 61634023 4 [0, 1, 1, 0, 0, 0, 1, 0, 1, 1, 1, 1] = true := by decide +kernel
set_option maxRecDepth 100000 in
theorem ck_613 : chkP 613 2 61331647 12 [2, 1, 2, 0, 2, 2, 0, 0, 2, 1, 2, 0] = true := by decide +kernel
set_option maxRecDepth 100000 in
theorem ck_691 : chkP 691 1 57766471 4 [1, 1, 0, 0, 1, 1, 1, 1, 1, 0, 1, 0] = true := by decide +kernel
set_option maxRecDepth 100000 in
theorem ck_797 : chkP 797 2 53788038 12 [2, 2, 2, 2, 0, 0, 1, 2, 2, 2, 2, 2] = true := by decide +kernel
set_option maxRecDepth 100000 in
theorem ck_821 : chkP 821 2 52996024 12 [2, 2, 1, 1, 2, 2, 2, 0, 1, 0, 2, 1] = true := by decide +kernel
set_option maxRecDepth 100000 in
theorem ck_863 : chkP 863 1 51690349 4 [0, 0, 1, 1, 1, 1, 0, 0, 1, 0, 0, 0] = true := by decide +kernel
set_option maxRecDepth 100000 in
theorem ck_947 : chkP 947 1 49344627 4 [1, 0, 1, 1, 1, 1, 1, 1, 1, 1, 0, 1] = true := by decide +kernel
def pl2 : List (Nat × Nat × Nat × Nat × List Nat) := [(41, 3, 237149896, 12, [2, 3, 2, 3, 3, 3, 3, 3, 1, 3, 1, 0]), (47, 1, 221496026, 4, [0, 0, 1, 0, 1, 1, 0, 1, 1, 1, 1, 0]), (113, 4, 142848487, 12, [2, 4, 4, 1, 3, 3, 4, 4, 4, 4, 3, 4]), (193, 6, 109304039, 12, [5, 4, 6, 3, 6, 6, 6, 6, 5, 6, 5, 6]), (227, 1, 100786401, 4, [1, 0, 1, 0, 0, 1, 1, 0, 0, 0, 1, 1]), (277, 2, 91237837, 12, [2, 0, 2, 1, 2, 1, 2, 0, 0, 1, 2, 2]), (307, 1, 86665386, 4, [1, 1, 1, 0, 0, 1, 0, 0, 1, 1, 1, 0]), (373, 2, 78624962, 12, [2, 1, 2, 1, 2, 1, 1, 2, 2, 0, 1, 1]), (383, 1, 77591738, 4, [0, 0, 1, 0, 1, 1, 0, 0, 0, 0, 0, 1]), (461, 2, 70723607, 12, [2, 2, 0, 2, 2, 2, 1, 0, 0, 2, 2, 2]), (523, 1, 66399379, 4, [1, 1, 1, 0, 0, 0, 0, 0, 0, 0, 0, 1]), (601, 3, 61940917, 12, [0, 0, 2, 3, 3, 2, 3, 3, 2, 3, 3, 1]), (607, 1, 61634023, 4, [0, 1, 1, 0, 0, 0, 1, 0, 1, 1, 1, 1]), (613, 2, 61331647, 12, [2, 1, 2, 0, 2, 2, 0, 0, 2, 1, 2, 0]), (691, 1, 57766471, 4, [1, 1, 0, 0, 1, 1, 1, 1, 1, 0, 1, 0]), (797, 2, 53788038, 12, [2, 2, 2, 2, 0, 0, 1, 2, 2, 2, 2, 2]), (821, 2, 52996024, 12, [2, 2, 1, 1, 2, 2, 2, 0, 1, 0, 2, 1]), (863, 1, 51690349, 4, [0, 0, 1, 1, 1, 1, 0, 0, 1, 0, 0, 0]), (947, 1, 49344627, 4, [1, 0, 1, 1, 1, 1, 1, 1, 1, 1, 0, 1])]
theorem pl2_ok : ∀ x ∈ pl2, chkP x.1 x.2.1 x.2.2.1 x.2.2.2.1 x.2.2.2.2 = true := by
  intro x hx
  simp only [pl2, List.mem_cons, List.not_mem_nil, or_false] at hx
  rcases hx with rfl | rfl | rfl | rfl | rfl | rfl | rfl | rfl | rfl | rfl | rfl | rfl | rfl | rfl | rfl | rfl | rfl | rfl | rfl
  · exact ck_41
  · exact ck_47
  · exact ck_113
  · exact ck_193
  · exact ck_227
  · exact ck_277
  · exact ck_307
  · exact ck_373
  · exact ck_383
  · exact ck_461
  · exact ck_523
  · exact ck_601
  · exact ck_607
  · exact ck_613
  · exact ck_691
  · exact ck_797
  · exact ck_821
  · exact ck_863
  · exact ck_947
end Go.Proofs.YtphbcfpiklmmeaaGreatDoor.NT

namespace Go.Proofs.YtphbcfpiklmmeaaGreatDoor.NT

set_option maxRecDepth 100000 in
theorem ck_59 : chkP 59 1 197691893 4 [1, 0, 0, 0, 1, 1, 0, 0, 1, 0, 1, 1] = true := by decide +kernel
set_option maxRecDepth 100000 in
theorem ck_73 : chkP 73 3 177727011 12 [0, 2, 3, 3, 3, 3, 3, 2, 2, 3, 3, 0] = true := by decide +kernel
set_option maxRecDepth 100000 in
theorem ck_101 : chkP 101 2 151096422 12 [2, 2, 0, 2, 2, 1, 1, 0, 1, 2, 0, 0] = true := by decide +kernel
set_option maxRecDepth 100000 in
theorem ck_163 : chkP 163 1 118938118 4 [1, 1, 1, 1, 1, 1, 1, 1, 1, 1, 1, 1] = true := by decide +kernel
set_option maxRecDepth 100000 in
theorem ck_223 : chkP 223 1 101686297 4 [0, 1, 1, 0, 1, 1, 0, 0, 1, 0, 0, 0] = true := by decide +kernel
set_option maxRecDepth 100000 in
theorem ck_337 : chkP 337 4 82717979 12 [0, 3, 4, 3, 4, 0, 4, 4, 4, 4, 4, 2] = true := by decide +kernel
set_option maxRecDepth 100000 in
theorem ck_379 : chkP 379 1 78000118 4 [1, 1, 0, 1, 1, 1, 1, 0, 0, 1, 1, 0] = true := by decide +kernel
set_option maxRecDepth 100000 in
theorem ck_409 : chkP 409 3 75085004 12 [2, 2, 0, 3, 3, 3, 0, 3, 2, 3, 3, 3] = true := by decide +kernel
set_option maxRecDepth 100000 in
theorem ck_503 : chkP 503 1 67706579 4 [0, 0, 1, 0, 0, 0, 1, 1, 0, 1, 1, 1] = true := by decide +kernel
set_option maxRecDepth 100000 in
theorem ck_569 : chkP 569 3 63658842 12 [2, 3, 0, 2, 3, 2, 2, 3, 3, 3, 3, 3] = true := by decide +kernel
set_option maxRecDepth 100000 in
theorem ck_587 : chkP 587 1 62675212 4 [1, 0, 1, 0, 1, 1, 0, 1, 1, 0, 0, 1] = true := by decide +kernel
set_option maxRecDepth 100000 in
theorem ck_631 : chkP 631 1 60450540 4 [0, 1, 0, 1, 1, 1, 0, 1, 0, 0, 0, 1] = true := by decide +kernel
set_option maxRecDepth 100000 in
theorem ck_653 : chkP 653 2 59423506 12 [2, 2, 2, 0, 1, 1, 2, 0, 1, 2, 0, 2] = true := by decide +kernel
set_option maxRecDepth 100000 in
theorem ck_709 : chkP 709 2 57028473 12 [2, 0, 1, 0, 1, 2, 2, 0, 2, 0, 2, 2] = true := by decide +kernel
set_option maxRecDepth 100000 in
theorem ck_739 : chkP 739 1 55858934 4 [1, 1, 0, 1, 0, 1, 0, 1, 1, 1, 0, 0] = true := by decide +kernel
set_option maxRecDepth 100000 in
theorem ck_823 : chkP 823 1 52931591 4 [0, 1, 1, 1, 1, 0, 1, 1, 1, 1, 0, 0] = true := by decide +kernel
set_option maxRecDepth 100000 in
theorem ck_911 : chkP 911 1 50310157 4 [0, 0, 0, 1, 1, 0, 1, 0, 0, 1, 0, 1] = true := by decide +kernel
set_option maxRecDepth 100000 in
theorem ck_937 : chkP 937 3 49607240 12 [0, 1, 3, 3, 3, 1, 2, 2, 3, 1, 2, 2] = true := by decide +kernel
set_option maxRecDepth 100000 in
theorem ck_953 : chkP 953 3 49189048 12 [2, 3, 3, 1, 3, 2, 2, 3, 3, 1, 3, 2] = true := by decide +kernel
set_option maxRecDepth 100000 in
theorem ck_983 : chkP 983 1 48432636 4 [0, 0, 1, 0, 1, 1, 1, 0, 0, 1, 0, 0] = true := by decide +kernel
def pl3 : List (Nat × Nat × Nat × Nat × List Nat) := [(59, 1, 197691893, 4, [1, 0, 0, 0, 1, 1, 0, 0, 1, 0, 1, 1]), (73, 3, 177727011, 12, [0, 2, 3, 3, 3, 3, 3, 2, 2, 3, 3, 0]), (101, 2, 151096422, 12, [2, 2, 0, 2, 2, 1, 1, 0, 1, 2, 0, 0]), (163, 1, 118938118, 4, [1, 1, 1, 1, 1, 1, 1, 1, 1, 1, 1, 1]), (223, 1, 101686297, 4, [0, 1, 1, 0, 1, 1, 0, 0, 1, 0, 0, 0]), (337, 4, 82717979, 12, [0, 3, 4, 3, 4, 0, 4, 4, 4, 4, 4, 2]), (379, 1, 78000118, 4, [1, 1, 0, 1, 1, 1, 1, 0, 0, 1, 1, 0]), (409, 3, 75085004, 12, [2, 2, 0, 3, 3, 3, 0, 3, 2, 3, 3, 3]), (503, 1, 67706579, 4, [0, 0, 1, 0, 0, 0, 1, 1, 0, 1, 1, 1]), (569, 3, 63658842, 12, [2, 3, 0, 2, 3, 2, 2, 3, 3, 3, 3, 3]), (587, 1, 62675212, 4, [1, 0, 1, 0, 1, 1, 0, 1, 1, 0, 0, 1]), (631, 1, 60450540, 4, [0, 1, 0, 1, 1, 1, 0, 1, 0, 0, 0, 1]), (653, 2, 59423506, 12, [2, 2, 2, 0, 1, 1, 2, 0, 1, 2, 0, 2]), (709, 2, 57028473, 12, [2, 0, 1, 0, 1, 2, 2, 0, 2, 0, 2, 2]), (739, 1, 55858934, 4, [1, 1, 0, 1, 0, 1, 0, 1, 1, 1, 0, 0]), (823, 1, 52931591, 4, [0, 1, 1, 1, 1, 0, 1, 1, 1, 1, 0, 0]), (911, 1, 50310157, 4, [0, 0, 0, 1, 1, 0, 1, 0, 0, 1, 0, 1]), (937, 3, 49607240, 12, [0, 1, 3, 3, 3, 1, 2, 2, 3, 1, 2, 2]), (953, 3, 49189048, 12, [2, 3, 3, 1, 3, 2, 2, 3, 3, 1, 3, 2]), (983, 1, 48432636, 4, [0, 0, 1, 0, 1, 1, 1, 0, 0, 1, 0, 0])]
theorem pl3_ok : ∀ x ∈ pl3, chkP x.1 x.2.1 x.2.2.1 x.2.2.2.1 x.2.2.2.2 = true := by
  intro x hx
  simp only [pl3, List.mem_cons, List.not_mem_nil, or_false] at hx
  rcases hx with rfl | rfl | rfl | rfl | rfl | rfl | rfl | rfl | rfl | rfl | rfl | rfl | rfl | rfl | rfl | rfl | rfl | rfl | rfl | rfl
  · exact ck_59
  · exact ck_73
  · exact ck_101
  · exact ck_163
  · exact ck_223
  · exact ck_337
  · exact ck_379
  · exact ck_409
  · exact ck_503
  · exact ck_569
  · exact ck_587
  · exact ck_631
  · exact ck_653
  · exact ck_709
  · exact ck_739
  · exact ck_823
  · exact ck_911
  · exact ck_937
  · exact ck_953
  · exact ck_983
end Go.Proofs.YtphbcfpiklmmeaaGreatDoor.NT

namespace Go.Proofs.YtphbcfpiklmmeaaGreatDoor.NT

set_option maxRecDepth 100000 in
theorem ck_53 : chkP 53 2 208582050 12 [2, 2, 2, 1, 1, 0, 1, 2, 2, 1, 2, 1] = true := by decide +kernel
set_option maxRecDepth 100000 in
theorem ck_67 : chkP 67 1 185514331 4 [1, 1, 1, 1, 1, 1, 0, 0, 0, 0, 1, 0] = true := by decide +kernel
set_option maxRecDepth 100000 in
theorem ck_89 : chkP 89 3 160960704 12 [0, 3, 2, 3, 1, 3, 2, 3, 3, 3, 3, 3] = true := by decide +kernel
set_option maxRecDepth 100000 in
theorem ck_151 : chkP 151 1 123573797 4 [0, 1, 0, 1, 0, 1, 0, 0, 1, 0, 0, 0] = true := by decide +kernel
set_option maxRecDepth 100000 in
theorem ck_229 : chkP 229 2 100345320 12 [2, 0, 1, 2, 1, 2, 0, 0, 2, 2, 2, 0] = true := by decide +kernel
set_option maxRecDepth 100000 in
theorem ck_271 : chkP 271 1 92242321 4 [0, 1, 0, 0, 0, 1, 0, 1, 1, 1, 0, 0] = true := by decide +kernel
set_option maxRecDepth 100000 in
theorem ck_317 : chkP 317 2 85287471 12 [2, 2, 2, 1, 0, 2, 2, 2, 0, 2, 0, 1] = true := by decide +kernel
set_option maxRecDepth 100000 in
theorem ck_419 : chkP 419 1 74183591 4 [1, 0, 0, 0, 1, 0, 1, 1, 0, 0, 1, 0] = true := by decide +kernel
set_option maxRecDepth 100000 in
theorem ck_449 : chkP 449 6 71662457 12 [5, 6, 1, 4, 3, 6, 6, 6, 4, 6, 6, 6] = true := by decide +kernel
set_option maxRecDepth 100000 in
theorem ck_499 : chkP 499 1 67977407 4 [1, 1, 0, 1, 1, 1, 1, 1, 1, 0, 0, 1] = true := by decide +kernel
set_option maxRecDepth 100000 in
theorem ck_509 : chkP 509 2 67306340 12 [2, 2, 1, 2, 1, 2, 0, 2, 0, 1, 2, 1] = true := by decide +kernel
set_option maxRecDepth 100000 in
theorem ck_563 : chkP 563 1 63997155 4 [1, 0, 1, 0, 0, 0, 0, 0, 0, 1, 1, 1] = true := by decide +kernel
set_option maxRecDepth 100000 in
theorem ck_659 : chkP 659 1 59152371 4 [1, 0, 0, 1, 0, 0, 0, 0, 0, 1, 1, 0] = true := by decide +kernel
set_option maxRecDepth 100000 in
theorem ck_677 : chkP 677 2 58360705 12 [2, 2, 2, 2, 2, 0, 2, 2, 2, 2, 2, 1] = true := by decide +kernel
set_option maxRecDepth 100000 in
theorem ck_727 : chkP 727 1 56318056 4 [0, 1, 1, 0, 1, 0, 0, 1, 0, 1, 1, 1] = true := by decide +kernel
set_option maxRecDepth 100000 in
theorem ck_809 : chkP 809 3 53387625 12 [2, 3, 2, 0, 3, 2, 3, 1, 2, 3, 3, 3] = true := by decide +kernel
set_option maxRecDepth 100000 in
theorem ck_827 : chkP 827 1 52803427 4 [1, 0, 1, 1, 0, 1, 1, 0, 0, 1, 0, 1] = true := by decide +kernel
set_option maxRecDepth 100000 in
theorem ck_829 : chkP 829 2 52739693 12 [2, 0, 0, 2, 0, 1, 0, 2, 0, 2, 2, 2] = true := by decide +kernel
set_option maxRecDepth 100000 in
theorem ck_991 : chkP 991 1 48236750 4 [0, 1, 0, 1, 1, 0, 1, 0, 1, 0, 0, 1] = true := by decide +kernel
def pl4 : List (Nat × Nat × Nat × Nat × List Nat) := [(53, 2, 208582050, 12, [2, 2, 2, 1, 1, 0, 1, 2, 2, 1, 2, 1]), (67, 1, 185514331, 4, [1, 1, 1, 1, 1, 1, 0, 0, 0, 0, 1, 0]), (89, 3, 160960704, 12, [0, 3, 2, 3, 1, 3, 2, 3, 3, 3, 3, 3]), (151, 1, 123573797, 4, [0, 1, 0, 1, 0, 1, 0, 0, 1, 0, 0, 0]), (229, 2, 100345320, 12, [2, 0, 1, 2, 1, 2, 0, 0, 2, 2, 2, 0]), (271, 1, 92242321, 4, [0, 1, 0, 0, 0, 1, 0, 1, 1, 1, 0, 0]), (317, 2, 85287471, 12, [2, 2, 2, 1, 0, 2, 2, 2, 0, 2, 0, 1]), (419, 1, 74183591, 4, [1, 0, 0, 0, 1, 0, 1, 1, 0, 0, 1, 0]), (449, 6, 71662457, 12, [5, 6, 1, 4, 3, 6, 6, 6, 4, 6, 6, 6]), (499, 1, 67977407, 4, [1, 1, 0, 1, 1, 1, 1, 1, 1, 0, 0, 1]), (509, 2, 67306340, 12, [2, 2, 1, 2, 1, 2, 0, 2, 0, 1, 2, 1]), (563, 1, 63997155, 4, [1, 0, 1, 0, 0, 0, 0, 0, 0, 1, 1, 1]), (659, 1, 59152371, 4, [1, 0, 0, 1, 0, 0, 0, 0, 0, 1, 1, 0]), (677, 2, 58360705, 12, [2, 2, 2, 2, 2, 0, 2, 2, 2, 2, 2, 1]), (727, 1, 56318056, 4, [0, 1, 1, 0, 1, 0, 0, 1, 0, 1, 1, 1]), (809, 3, 53387625, 12, [2, 3, 2, 0, 3, 2, 3, 1, 2, 3, 3, 3]), (827, 1, 52803427, 4, [1, 0, 1, 1, 0, 1, 1, 0, 0, 1, 0, 1]), (829, 2, 52739693, 12, [2, 0, 0, 2, 0, 1, 0, 2, 0, 2, 2, 2]), (991, 1, 48236750, 4, [0, 1, 0, 1, 1, 0, 1, 0, 1, 0, 0, 1])]
theorem pl4_ok : ∀ x ∈ pl4, chkP x.1 x.2.1 x.2.2.1 x.2.2.2.1 x.2.2.2.2 = true := by
  intro x hx
  simp only [pl4, List.mem_cons, List.not_mem_nil, or_false] at hx
  rcases hx with rfl | rfl | rfl | rfl | rfl | rfl | rfl | rfl | rfl | rfl | rfl | rfl | rfl | rfl | rfl | rfl | rfl | rfl | rfl
  · exact ck_53
  · exact ck_67
  · exact ck_89
  · exact ck_151
  · exact ck_229
  · exact ck_271
  · exact ck_317
  · exact ck_419
  · exact ck_449
  · exact ck_499
  · exact ck_509
  · exact ck_563
  · exact ck_659
  · exact ck_677
  · exact ck_727
  · exact ck_809
  · exact ck_827
  · exact ck_829
  · exact ck_991
end Go.Proofs.YtphbcfpiklmmeaaGreatDoor.NT

namespace Go.Proofs.YtphbcfpiklmmeaaGreatDoor.NT

set_option maxRecDepth 100000 in
theorem ck_71 : chkP 71 1 180212824 4 [0, 0, 0, 1, 1, 1, 1, 0, 1, 0, 1, 0] = true := by decide +kernel
set_option maxRecDepth 100000 in
theorem ck_139 : chkP 139 1 128797510 4 [1, 1, 0, 0, 0, 0, 1, 1, 1, 0, 0, 0] = true := by decide +kernel
set_option maxRecDepth 100000 in
theorem ck_149 : chkP 149 2 124400387 12 [2, 2, 0, 1, 2, 2, 0, 0, 2, 0, 0, 0] = true := by decide +kernel
set_option maxRecDepth 100000 in
theorem ck_157 : chkP 157 2 121189513 12 [2, 1, 2, 2, 0, 1, 0, 0, 2, 2, 1, 0] = true := by decide +kernel
set_option maxRecDepth 100000 in
theorem ck_197 : chkP 197 2 108188663 12 [2, 2, 2, 1, 2, 2, 2, 1, 0, 0, 2, 0] = true := by decide +kernel
set_option maxRecDepth 100000 in
theorem ck_211 : chkP 211 1 104537868 4 [1, 1, 0, 1, 0, 0, 1, 0, 1, 1, 1, 0] = true := by decide +kernel
set_option maxRecDepth 100000 in
theorem ck_233 : chkP 233 3 99480258 12 [0, 3, 3, 2, 3, 2, 3, 0, 0, 1, 2, 0] = true := by decide +kernel
set_option maxRecDepth 100000 in
theorem ck_269 : chkP 269 2 92584594 12 [2, 2, 0, 2, 1, 1, 2, 2, 0, 2, 2, 0] = true := by decide +kernel
set_option maxRecDepth 100000 in
theorem ck_283 : chkP 283 1 90265470 4 [1, 1, 1, 0, 0, 0, 1, 1, 0, 0, 1, 1] = true := by decide +kernel
set_option maxRecDepth 100000 in
theorem ck_293 : chkP 293 2 88711731 12 [2, 2, 2, 2, 2, 2, 0, 2, 2, 2, 1, 1] = true := by decide +kernel
set_option maxRecDepth 100000 in
theorem ck_331 : chkP 331 1 83464322 4 [1, 1, 0, 1, 1, 1, 0, 0, 1, 1, 0, 1] = true := by decide +kernel
set_option maxRecDepth 100000 in
theorem ck_433 : chkP 433 4 72974464 12 [3, 0, 4, 4, 3, 3, 0, 4, 4, 4, 4, 3] = true := by decide +kernel
set_option maxRecDepth 100000 in
theorem ck_443 : chkP 443 1 72146124 4 [1, 0, 1, 1, 1, 0, 0, 1, 1, 1, 1, 0] = true := by decide +kernel
set_option maxRecDepth 100000 in
theorem ck_479 : chkP 479 1 69382047 4 [0, 0, 0, 0, 0, 1, 1, 1, 0, 1, 1, 1] = true := by decide +kernel
set_option maxRecDepth 100000 in
theorem ck_557 : chkP 557 2 64340920 12 [2, 2, 2, 1, 2, 2, 1, 0, 2, 1, 2, 2] = true := by decide +kernel
set_option maxRecDepth 100000 in
theorem ck_661 : chkP 661 2 59062814 12 [2, 1, 1, 2, 0, 2, 1, 2, 2, 1, 1, 2] = true := by decide +kernel
set_option maxRecDepth 100000 in
theorem ck_751 : chkP 751 1 55410861 4 [0, 1, 0, 1, 1, 0, 1, 0, 0, 1, 1, 0] = true := by decide +kernel
set_option maxRecDepth 100000 in
theorem ck_757 : chkP 757 2 55190830 12 [2, 0, 2, 0, 0, 0, 0, 1, 2, 2, 2, 2] = true := by decide +kernel
set_option maxRecDepth 100000 in
theorem ck_877 : chkP 877 2 51276110 12 [2, 1, 2, 0, 2, 2, 2, 2, 0, 1, 0, 0] = true := by decide +kernel
set_option maxRecDepth 100000 in
theorem ck_977 : chkP 977 4 48581127 12 [3, 4, 4, 3, 3, 4, 3, 4, 4, 3, 1, 4] = true := by decide +kernel
def pl5 : List (Nat × Nat × Nat × Nat × List Nat) := [(71, 1, 180212824, 4, [0, 0, 0, 1, 1, 1, 1, 0, 1, 0, 1, 0]), (139, 1, 128797510, 4, [1, 1, 0, 0, 0, 0, 1, 1, 1, 0, 0, 0]), (149, 2, 124400387, 12, [2, 2, 0, 1, 2, 2, 0, 0, 2, 0, 0, 0]), (157, 2, 121189513, 12, [2, 1, 2, 2, 0, 1, 0, 0, 2, 2, 1, 0]), (197, 2, 108188663, 12, [2, 2, 2, 1, 2, 2, 2, 1, 0, 0, 2, 0]), (211, 1, 104537868, 4, [1, 1, 0, 1, 0, 0, 1, 0, 1, 1, 1, 0]), (233, 3, 99480258, 12, [0, 3, 3, 2, 3, 2, 3, 0, 0, 1, 2, 0]), (269, 2, 92584594, 12, [2, 2, 0, 2, 1, 1, 2, 2, 0, 2, 2, 0]), (283, 1, 90265470, 4, [1, 1, 1, 0, 0, 0, 1, 1, 0, 0, 1, 1]), (293, 2, 88711731, 12, [2, 2, 2, 2, 2, 2, 0, 2, 2, 2, 1, 1]), (331, 1, 83464322, 4, [1, 1, 0, 1, 1, 1, 0, 0, 1, 1, 0, 1]), (433, 4, 72974464, 12, [3, 0, 4, 4, 3, 3, 0, 4, 4, 4, 4, 3]), (443, 1, 72146124, 4, [1, 0, 1, 1, 1, 0, 0, 1, 1, 1, 1, 0]), (479, 1, 69382047, 4, [0, 0, 0, 0, 0, 1, 1, 1, 0, 1, 1, 1]), (557, 2, 64340920, 12, [2, 2, 2, 1, 2, 2, 1, 0, 2, 1, 2, 2]), (661, 2, 59062814, 12, [2, 1, 1, 2, 0, 2, 1, 2, 2, 1, 1, 2]), (751, 1, 55410861, 4, [0, 1, 0, 1, 1, 0, 1, 0, 0, 1, 1, 0]), (757, 2, 55190830, 12, [2, 0, 2, 0, 0, 0, 0, 1, 2, 2, 2, 2]), (877, 2, 51276110, 12, [2, 1, 2, 0, 2, 2, 2, 2, 0, 1, 0, 0]), (977, 4, 48581127, 12, [3, 4, 4, 3, 3, 4, 3, 4, 4, 3, 1, 4])]
theorem pl5_ok : ∀ x ∈ pl5, chkP x.1 x.2.1 x.2.2.1 x.2.2.2.1 x.2.2.2.2 = true := by
  intro x hx
  simp only [pl5, List.mem_cons, List.not_mem_nil, or_false] at hx
  rcases hx with rfl | rfl | rfl | rfl | rfl | rfl | rfl | rfl | rfl | rfl | rfl | rfl | rfl | rfl | rfl | rfl | rfl | rfl | rfl | rfl
  · exact ck_71
  · exact ck_139
  · exact ck_149
  · exact ck_157
  · exact ck_197
  · exact ck_211
  · exact ck_233
  · exact ck_269
  · exact ck_283
  · exact ck_293
  · exact ck_331
  · exact ck_433
  · exact ck_443
  · exact ck_479
  · exact ck_557
  · exact ck_661
  · exact ck_751
  · exact ck_757
  · exact ck_877
  · exact ck_977
end Go.Proofs.YtphbcfpiklmmeaaGreatDoor.NT

namespace Go.Proofs.YtphbcfpiklmmeaaGreatDoor.NT

set_option maxRecDepth 100000 in
theorem ck_79 : chkP 79 1 170844625 4 [0, 1, 0, 1, 0, 0, 1, 0, 0, 1, 0, 1] = true := by decide +kernel
set_option maxRecDepth 100000 in
theorem ck_131 : chkP 131 1 132671982 4 [1, 0, 0, 0, 0, 0, 1, 1, 1, 1, 1, 1] = true := by decide +kernel
set_option maxRecDepth 100000 in
theorem ck_137 : chkP 137 3 129734231 12 [2, 3, 3, 2, 2, 3, 2, 2, 3, 3, 3, 2] = true := by decide +kernel
set_option maxRecDepth 100000 in
theorem ck_199 : chkP 199 1 107643628 4 [0, 1, 0, 0, 1, 0, 1, 1, 0, 0, 0, 1] = true := by decide +kernel
set_option maxRecDepth 100000 in
theorem ck_251 : chkP 251 1 95846885 4 [1, 0, 0, 0, 1, 0, 0, 1, 0, 1, 0, 1] = true := by decide +kernel
set_option maxRecDepth 100000 in
theorem ck_349 : chkP 349 2 81283454 12 [2, 1, 1, 2, 2, 2, 1, 0, 0, 1, 0, 1] = true := by decide +kernel
set_option maxRecDepth 100000 in
theorem ck_359 : chkP 359 1 80143377 4 [0, 0, 0, 1, 0, 1, 0, 1, 0, 1, 1, 0] = true := by decide +kernel
set_option maxRecDepth 100000 in
theorem ck_401 : chkP 401 4 75830283 12 [3, 4, 0, 3, 3, 4, 4, 4, 4, 1, 4, 4] = true := by decide +kernel
set_option maxRecDepth 100000 in
theorem ck_439 : chkP 439 1 72474062 4 [0, 1, 0, 0, 0, 0, 1, 0, 1, 0, 1, 1] = true := by decide +kernel
set_option maxRecDepth 100000 in
theorem ck_491 : chkP 491 1 68528956 4 [1, 0, 0, 1, 0, 0, 0, 1, 1, 1, 0, 0] = true := by decide +kernel
set_option maxRecDepth 100000 in
theorem ck_521 : chkP 521 3 66526703 12 [2, 3, 1, 3, 2, 2, 3, 3, 3, 0, 1, 1] = true := by decide +kernel
set_option maxRecDepth 100000 in
theorem ck_683 : chkP 683 1 58103797 4 [1, 0, 1, 1, 1, 1, 1, 0, 1, 0, 1, 1] = true := by decide +kernel
set_option maxRecDepth 100000 in
theorem ck_701 : chkP 701 2 57352962 12 [2, 2, 1, 0, 2, 0, 1, 0, 2, 0, 1, 2] = true := by decide +kernel
set_option maxRecDepth 100000 in
theorem ck_719 : chkP 719 1 56630503 4 [0, 0, 0, 0, 1, 0, 1, 1, 1, 0, 0, 0] = true := by decide +kernel
set_option maxRecDepth 100000 in
theorem ck_761 : chkP 761 3 55045591 12 [2, 3, 1, 3, 3, 3, 2, 2, 2, 2, 3, 2] = true := by decide +kernel
set_option maxRecDepth 100000 in
theorem ck_839 : chkP 839 1 52424450 4 [0, 0, 0, 0, 1, 1, 1, 0, 0, 1, 1, 0] = true := by decide +kernel
set_option maxRecDepth 100000 in
theorem ck_881 : chkP 881 4 51159573 12 [0, 4, 3, 4, 3, 3, 4, 3, 4, 4, 4, 3] = true := by decide +kernel
set_option maxRecDepth 100000 in
theorem ck_907 : chkP 907 1 50420973 4 [1, 1, 1, 1, 1, 0, 1, 0, 0, 1, 1, 1] = true := by decide +kernel
set_option maxRecDepth 100000 in
theorem ck_971 : chkP 971 1 48730992 4 [1, 0, 0, 0, 1, 0, 0, 0, 0, 1, 1, 0] = true := by decide +kernel
set_option maxRecDepth 100000 in
theorem ck_997 : chkP 997 2 48091385 12 [2, 1, 2, 2, 2, 0, 2, 0, 0, 2, 1, 2] = true := by decide +kernel
def pl6 : List (Nat × Nat × Nat × Nat × List Nat) := [(79, 1, 170844625, 4, [0, 1, 0, 1, 0, 0, 1, 0, 0, 1, 0, 1]), (131, 1, 132671982, 4, [1, 0, 0, 0, 0, 0, 1, 1, 1, 1, 1, 1]), (137, 3, 129734231, 12, [2, 3, 3, 2, 2, 3, 2, 2, 3, 3, 3, 2]), (199, 1, 107643628, 4, [0, 1, 0, 0, 1, 0, 1, 1, 0, 0, 0, 1]), (251, 1, 95846885, 4, [1, 0, 0, 0, 1, 0, 0, 1, 0, 1, 0, 1]), (349, 2, 81283454, 12, [2, 1, 1, 2, 2, 2, 1, 0, 0, 1, 0, 1]), (359, 1, 80143377, 4, [0, 0, 0, 1, 0, 1, 0, 1, 0, 1, 1, 0]), (401, 4, 75830283, 12, [3, 4, 0, 3, 3, 4, 4, 4, 4, 1, 4, 4]), (439, 1, 72474062, 4, [0, 1, 0, 0, 0, 0, 1, 0, 1, 0, 1, 1]), (491, 1, 68528956, 4, [1, 0, 0, 1, 0, 0, 0, 1, 1, 1, 0, 0]), (521, 3, 66526703, 12, [2, 3, 1, 3, 2, 2, 3, 3, 3, 0, 1, 1]), (683, 1, 58103797, 4, [1, 0, 1, 1, 1, 1, 1, 0, 1, 0, 1, 1]), (701, 2, 57352962, 12, [2, 2, 1, 0, 2, 0, 1, 0, 2, 0, 1, 2]), (719, 1, 56630503, 4, [0, 0, 0, 0, 1, 0, 1, 1, 1, 0, 0, 0]), (761, 3, 55045591, 12, [2, 3, 1, 3, 3, 3, 2, 2, 2, 2, 3, 2]), (839, 1, 52424450, 4, [0, 0, 0, 0, 1, 1, 1, 0, 0, 1, 1, 0]), (881, 4, 51159573, 12, [0, 4, 3, 4, 3, 3, 4, 3, 4, 4, 4, 3]), (907, 1, 50420973, 4, [1, 1, 1, 1, 1, 0, 1, 0, 0, 1, 1, 1]), (971, 1, 48730992, 4, [1, 0, 0, 0, 1, 0, 0, 0, 0, 1, 1, 0]), (997, 2, 48091385, 12, [2, 1, 2, 2, 2, 0, 2, 0, 0, 2, 1, 2])]
theorem pl6_ok : ∀ x ∈ pl6, chkP x.1 x.2.1 x.2.2.1 x.2.2.2.1 x.2.2.2.2 = true := by
  intro x hx
  simp only [pl6, List.mem_cons, List.not_mem_nil, or_false] at hx
  rcases hx with rfl | rfl | rfl | rfl | rfl | rfl | rfl | rfl | rfl | rfl | rfl | rfl | rfl | rfl | rfl | rfl | rfl | rfl | rfl | rfl
  · exact ck_79
  · exact ck_131
  · exact ck_137
  · exact ck_199
  · exact ck_251
  · exact ck_349
  · exact ck_359
  · exact ck_401
  · exact ck_439
  · exact ck_491
  · exact ck_521
  · exact ck_683
  · exact ck_701
  · exact ck_719
  · exact ck_761
  · exact ck_839
  · exact ck_881
  · exact ck_907
  · exact ck_971
  · exact ck_997
end Go.Proofs.YtphbcfpiklmmeaaGreatDoor.NT

namespace Go.Proofs.YtphbcfpiklmmeaaGreatDoor.NT

set_option maxRecDepth 100000 in
theorem ck_83 : chkP 83 1 166677056 4 [1, 0, 1, 0, 0, 1, 0, 1, 0, 0, 0, 0] = true := by decide +kernel
set_option maxRecDepth 100000 in
theorem ck_109 : chkP 109 2 145445945 12 [2, 0, 0, 0, 2, 2, 2, 2, 2, 1, 1, 2] = true := by decide +kernel
set_option maxRecDepth 100000 in
theorem ck_127 : chkP 127 1 134745108 4 [0, 1, 1, 1, 0, 0, 0, 0, 1, 1, 0, 0] = true := by decide +kernel
set_option maxRecDepth 100000 in
theorem ck_181 : chkP 181 2 112869234 12 [2, 0, 0, 2, 1, 0, 2, 2, 2, 0, 2, 1] = true := by decide +kernel
set_option maxRecDepth 100000 in
theorem ck_191 : chkP 191 1 109874821 4 [0, 0, 0, 1, 1, 0, 0, 1, 0, 1, 1, 1] = true := by decide +kernel
set_option maxRecDepth 100000 in
theorem ck_263 : chkP 263 1 93634736 4 [0, 0, 1, 1, 0, 0, 0, 1, 0, 1, 0, 0] = true := by decide +kernel
set_option maxRecDepth 100000 in
theorem ck_347 : chkP 347 1 81517364 4 [1, 0, 1, 1, 0, 0, 1, 1, 1, 0, 0, 1] = true := by decide +kernel
set_option maxRecDepth 100000 in
theorem ck_353 : chkP 353 5 80821613 12 [3, 5, 5, 5, 3, 5, 3, 4, 4, 3, 5, 5] = true := by decide +kernel
set_option maxRecDepth 100000 in
theorem ck_397 : chkP 397 2 76211342 12 [2, 1, 2, 2, 0, 2, 2, 0, 1, 0, 0, 0] = true := by decide +kernel
set_option maxRecDepth 100000 in
theorem ck_467 : chkP 467 1 70267811 4 [1, 0, 1, 0, 1, 0, 0, 1, 0, 1, 1, 1] = true := by decide +kernel
set_option maxRecDepth 100000 in
theorem ck_541 : chkP 541 2 65285424 12 [2, 0, 0, 1, 2, 2, 2, 1, 0, 2, 1, 2] = true := by decide +kernel
set_option maxRecDepth 100000 in
theorem ck_599 : chkP 599 1 62044238 4 [0, 0, 0, 1, 1, 0, 0, 0, 1, 1, 1, 0] = true := by decide +kernel
set_option maxRecDepth 100000 in
theorem ck_643 : chkP 643 1 59883804 4 [1, 1, 1, 0, 1, 1, 1, 1, 0, 0, 0, 1] = true := by decide +kernel
set_option maxRecDepth 100000 in
theorem ck_673 : chkP 673 5 58533883 12 [4, 3, 5, 4, 5, 2, 5, 5, 1, 4, 5, 2] = true := by decide +kernel
set_option maxRecDepth 100000 in
theorem ck_769 : chkP 769 8 54758519 12 [7, 4, 7, 8, 8, 8, 7, 2, 8, 8, 7, 8] = true := by decide +kernel
set_option maxRecDepth 100000 in
theorem ck_853 : chkP 853 2 51992458 12 [2, 1, 2, 2, 2, 2, 2, 1, 1, 2, 0, 2] = true := by decide +kernel
set_option maxRecDepth 100000 in
theorem ck_859 : chkP 859 1 51810559 4 [1, 1, 0, 0, 1, 0, 0, 1, 1, 1, 0, 1] = true := by decide +kernel
set_option maxRecDepth 100000 in
theorem ck_887 : chkP 887 1 50986248 4 [0, 0, 1, 0, 0, 0, 1, 0, 1, 1, 1, 0] = true := by decide +kernel
set_option maxRecDepth 100000 in
theorem ck_967 : chkP 967 1 48831676 4 [0, 1, 1, 1, 0, 1, 0, 1, 1, 1, 0, 1] = true := by decide +kernel
def pl7 : List (Nat × Nat × Nat × Nat × List Nat) := [(83, 1, 166677056, 4, [1, 0, 1, 0, 0, 1, 0, 1, 0, 0, 0, 0]), (109, 2, 145445945, 12, [2, 0, 0, 0, 2, 2, 2, 2, 2, 1, 1, 2]), (127, 1, 134745108, 4, [0, 1, 1, 1, 0, 0, 0, 0, 1, 1, 0, 0]), (181, 2, 112869234, 12, [2, 0, 0, 2, 1, 0, 2, 2, 2, 0, 2, 1]), (191, 1, 109874821, 4, [0, 0, 0, 1, 1, 0, 0, 1, 0, 1, 1, 1]), (263, 1, 93634736, 4, [0, 0, 1, 1, 0, 0, 0, 1, 0, 1, 0, 0]), (347, 1, 81517364, 4, [1, 0, 1, 1, 0, 0, 1, 1, 1, 0, 0, 1]), (353, 5, 80821613, 12, [3, 5, 5, 5, 3, 5, 3, 4, 4, 3, 5, 5]), (397, 2, 76211342, 12, [2, 1, 2, 2, 0, 2, 2, 0, 1, 0, 0, 0]), (467, 1, 70267811, 4, [1, 0, 1, 0, 1, 0, 0, 1, 0, 1, 1, 1]), (541, 2, 65285424, 12, [2, 0, 0, 1, 2, 2, 2, 1, 0, 2, 1, 2]), (599, 1, 62044238, 4, [0, 0, 0, 1, 1, 0, 0, 0, 1, 1, 1, 0]), (643, 1, 59883804, 4, [1, 1, 1, 0, 1, 1, 1, 1, 0, 0, 0, 1]), (673, 5, 58533883, 12, [4, 3, 5, 4, 5, 2, 5, 5, 1, 4, 5, 2]), (769, 8, 54758519, 12, [7, 4, 7, 8, 8, 8, 7, 2, 8, 8, 7, 8]), (853, 2, 51992458, 12, [2, 1, 2, 2, 2, 2, 2, 1, 1, 2, 0, 2]), (859, 1, 51810559, 4, [1, 1, 0, 0, 1, 0, 0, 1, 1, 1, 0, 1]), (887, 1, 50986248, 4, [0, 0, 1, 0, 0, 0, 1, 0, 1, 1, 1, 0]), (967, 1, 48831676, 4, [0, 1, 1, 1, 0, 1, 0, 1, 1, 1, 0, 1])]
theorem pl7_ok : ∀ x ∈ pl7, chkP x.1 x.2.1 x.2.2.1 x.2.2.2.1 x.2.2.2.2 = true := by
  intro x hx
  simp only [pl7, List.mem_cons, List.not_mem_nil, or_false] at hx
  rcases hx with rfl | rfl | rfl | rfl | rfl | rfl | rfl | rfl | rfl | rfl | rfl | rfl | rfl | rfl | rfl | rfl | rfl | rfl | rfl
  · exact ck_83
  · exact ck_109
  · exact ck_127
  · exact ck_181
  · exact ck_191
  · exact ck_263
  · exact ck_347
  · exact ck_353
  · exact ck_397
  · exact ck_467
  · exact ck_541
  · exact ck_599
  · exact ck_643
  · exact ck_673
  · exact ck_769
  · exact ck_853
  · exact ck_859
  · exact ck_887
  · exact ck_967
end Go.Proofs.YtphbcfpiklmmeaaGreatDoor.NT

namespace Go.Proofs.YtphbcfpiklmmeaaGreatDoor.NT

set_option maxRecDepth 100000 in
theorem ck_61 : chkP 61 2 194424034 12 [2, 1, 1, 2, 2, 0, 2, 1, 2, 2, 2, 2] = true := by decide +kernel
set_option maxRecDepth 100000 in
theorem ck_103 : chkP 103 1 149622275 4 [0, 1, 1, 0, 1, 0, 0, 0, 0, 0, 1, 1] = true := by decide +kernel
set_option maxRecDepth 100000 in
theorem ck_107 : chkP 107 1 146798960 4 [1, 0, 1, 1, 0, 0, 1, 0, 0, 0, 1, 0] = true := by decide +kernel
set_option maxRecDepth 100000 in
theorem ck_179 : chkP 179 1 113498037 4 [1, 0, 0, 1, 1, 0, 0, 0, 1, 0, 0, 1] = true := by decide +kernel
set_option maxRecDepth 100000 in
theorem ck_257 : chkP 257 8 94721443 12 [4, 8, 8, 8, 6, 7, 5, 8, 6, 7, 7, 8] = true := by decide +kernel
set_option maxRecDepth 100000 in
theorem ck_313 : chkP 313 3 85830708 12 [2, 0, 3, 3, 1, 2, 3, 1, 3, 2, 3, 3] = true := by decide +kernel
set_option maxRecDepth 100000 in
theorem ck_367 : chkP 367 1 79265067 4 [0, 1, 1, 0, 1, 0, 1, 1, 0, 1, 0, 0] = true := by decide +kernel
set_option maxRecDepth 100000 in
theorem ck_421 : chkP 421 2 74007173 12 [2, 0, 1, 1, 0, 2, 1, 2, 2, 2, 0, 2] = true := by decide +kernel
set_option maxRecDepth 100000 in
theorem ck_431 : chkP 431 1 73143583 4 [0, 0, 0, 1, 0, 1, 1, 0, 0, 0, 1, 1] = true := by decide +kernel
set_option maxRecDepth 100000 in
theorem ck_487 : chkP 487 1 68809814 4 [0, 1, 1, 1, 1, 1, 1, 0, 1, 0, 0, 1] = true := by decide +kernel
set_option maxRecDepth 100000 in
theorem ck_571 : chkP 571 1 63547257 4 [1, 1, 0, 1, 0, 0, 1, 1, 0, 0, 0, 0] = true := by decide +kernel
set_option maxRecDepth 100000 in
theorem ck_577 : chkP 577 6 63215992 12 [4, 4, 6, 6, 5, 6, 5, 4, 5, 6, 1, 6] = true := by decide +kernel
set_option maxRecDepth 100000 in
theorem ck_641 : chkP 641 7 59977153 12 [6, 7, 6, 6, 5, 2, 7, 7, 7, 7, 7, 5] = true := by decide +kernel
set_option maxRecDepth 100000 in
theorem ck_647 : chkP 647 1 59698404 4 [0, 0, 1, 0, 1, 0, 0, 1, 1, 0, 0, 1] = true := by decide +kernel
set_option maxRecDepth 100000 in
theorem ck_733 : chkP 733 2 56087086 12 [2, 0, 2, 2, 2, 2, 1, 1, 2, 2, 0, 0] = true := by decide +kernel
set_option maxRecDepth 100000 in
theorem ck_743 : chkP 743 1 55708371 4 [0, 0, 1, 1, 0, 1, 1, 0, 0, 1, 0, 0] = true := by decide +kernel
set_option maxRecDepth 100000 in
theorem ck_811 : chkP 811 1 53321755 4 [1, 1, 0, 0, 0, 1, 1, 0, 1, 0, 1, 0] = true := by decide +kernel
set_option maxRecDepth 100000 in
theorem ck_919 : chkP 919 1 50090701 4 [0, 1, 0, 1, 0, 0, 0, 1, 0, 0, 1, 1] = true := by decide +kernel
set_option maxRecDepth 100000 in
theorem ck_929 : chkP 929 5 49820377 12 [4, 5, 3, 5, 4, 5, 5, 2, 2, 4, 5, 3] = true := by decide +kernel
set_option maxRecDepth 100000 in
theorem ck_941 : chkP 941 2 49501693 12 [2, 2, 0, 2, 2, 2, 2, 2, 2, 1, 2, 1] = true := by decide +kernel
def pl8 : List (Nat × Nat × Nat × Nat × List Nat) := [(61, 2, 194424034, 12, [2, 1, 1, 2, 2, 0, 2, 1, 2, 2, 2, 2]), (103, 1, 149622275, 4, [0, 1, 1, 0, 1, 0, 0, 0, 0, 0, 1, 1]), (107, 1, 146798960, 4, [1, 0, 1, 1, 0, 0, 1, 0, 0, 0, 1, 0]), (179, 1, 113498037, 4, [1, 0, 0, 1, 1, 0, 0, 0, 1, 0, 0, 1]), (257, 8, 94721443, 12, [4, 8, 8, 8, 6, 7, 5, 8, 6, 7, 7, 8]), (313, 3, 85830708, 12, [2, 0, 3, 3, 1, 2, 3, 1, 3, 2, 3, 3]), (367, 1, 79265067, 4, [0, 1, 1, 0, 1, 0, 1, 1, 0, 1, 0, 0]), (421, 2, 74007173, 12, [2, 0, 1, 1, 0, 2, 1, 2, 2, 2, 0, 2]), (431, 1, 73143583, 4, [0, 0, 0, 1, 0, 1, 1, 0, 0, 0, 1, 1]), (487, 1, 68809814, 4, [0, 1, 1, 1, 1, 1, 1, 0, 1, 0, 0, 1]), (571, 1, 63547257, 4, [1, 1, 0, 1, 0, 0, 1, 1, 0, 0, 0, 0]), (577, 6, 63215992, 12, [4, 4, 6, 6, 5, 6, 5, 4, 5, 6, 1, 6]), (641, 7, 59977153, 12, [6, 7, 6, 6, 5, 2, 7, 7, 7, 7, 7, 5]), (647, 1, 59698404, 4, [0, 0, 1, 0, 1, 0, 0, 1, 1, 0, 0, 1]), (733, 2, 56087086, 12, [2, 0, 2, 2, 2, 2, 1, 1, 2, 2, 0, 0]), (743, 1, 55708371, 4, [0, 0, 1, 1, 0, 1, 1, 0, 0, 1, 0, 0]), (811, 1, 53321755, 4, [1, 1, 0, 0, 0, 1, 1, 0, 1, 0, 1, 0]), (919, 1, 50090701, 4, [0, 1, 0, 1, 0, 0, 0, 1, 0, 0, 1, 1]), (929, 5, 49820377, 12, [4, 5, 3, 5, 4, 5, 5, 2, 2, 4, 5, 3]), (941, 2, 49501693, 12, [2, 2, 0, 2, 2, 2, 2, 2, 2, 1, 2, 1])]
theorem pl8_ok : ∀ x ∈ pl8, chkP x.1 x.2.1 x.2.2.1 x.2.2.2.1 x.2.2.2.2 = true := by
  intro x hx
  simp only [pl8, List.mem_cons, List.not_mem_nil, or_false] at hx
  rcases hx with rfl | rfl | rfl | rfl | rfl | rfl | rfl | rfl | rfl | rfl | rfl | rfl | rfl | rfl | rfl | rfl | rfl | rfl | rfl | rfl
  · exact ck_61
  · exact ck_103
  · exact ck_107
  · exact ck_179
  · exact ck_257
  · exact ck_313
  · exact ck_367
  · exact ck_421
  · exact ck_431
  · exact ck_487
  · exact ck_571
  · exact ck_577
  · exact ck_641
  · exact ck_647
  · exact ck_733
  · exact ck_743
  · exact ck_811
  · exact ck_919
  · exact ck_929
  · exact ck_941
end Go.Proofs.YtphbcfpiklmmeaaGreatDoor.NT

namespace Go.Proofs.YtphbcfpiklmmeaaGreatDoor.NT

def pl : List (Nat × Nat × Nat × Nat × List Nat) := pl1 ++ pl2 ++ pl3 ++ pl4 ++ pl5 ++ pl6 ++ pl7 ++ pl8
theorem pl_ok : ∀ x ∈ pl, chkP x.1 x.2.1 x.2.2.1 x.2.2.2.1 x.2.2.2.2 = true := by
  intro x hx
  simp only [pl, List.mem_append, or_assoc] at hx
  rcases hx with h | h | h | h | h | h | h | h
  · exact pl1_ok x h
  · exact pl2_ok x h
  · exact pl3_ok x h
  · exact pl4_ok x h
  · exact pl5_ok x h
  · exact pl6_ok x h
  · exact pl7_ok x h
  · exact pl8_ok x h
def plchk (n : Nat) : Bool := Nat.rec (motive := fun _ => Bool) true (fun p ih => (bif Nat.blt 37 p && isP p then pl.any (fun x => Nat.beq x.1 p) else true) && ih) n
theorem plchk_of : ∀ n, plchk n = true → ∀ p, p < n → 37 < p → isP p = true → ∃ x, x ∈ pl ∧ x.1 = p
  | 0, _, p, h, _, _ => by omega
  | n + 1, h, p, hp, h37, hi => by
    have h' : ((bif Nat.blt 37 n && isP n then pl.any (fun x => Nat.beq x.1 n) else true) && plchk n) = true := h
    rw [Bool.and_eq_true] at h'
    rcases Nat.lt_or_ge p n with hlt | hge
    · exact plchk_of n h'.2 p hlt h37 hi
    · obtain rfl : p = n := by omega
      have h1 := h'.1
      have hb : Nat.blt 37 p = true := Nat.blt_eq ▸ h37
      rw [hb, hi] at h1
      obtain ⟨x, hx, he⟩ := List.any_eq_true.1 h1
      exact ⟨x, hx, Nat.eq_of_beq_eq_true he⟩
set_option maxRecDepth 100000 in
theorem plchk_ok : plchk 1000 = true := by decide +kernel
theorem pl_small : pl.all (fun x => Nat.blt 0 x.2.1 && Nat.blt x.2.2.1 (Nat.pow 2 32)) = true := by decide +kernel
/-- The claim of this row of texts. -/
theorem small_div {n d : Nat} (hn : n ≤ 2305843009213693952) (hsp : ∀ a ∈ bases, SP n a) (hnd : ∀ a ∈ bases, ¬ a ∣ n) (hd2 : 2 ≤ d) (hd : d ∣ n) (hd3 : d < 1000) (hne : d ≠ n) (hn0 : 0 < n) : False := by
  have h37 : ∀ q, Pr q → q ∣ n → 37 < q := fun q hq hqd => by
    refine Classical.byContradiction fun hc => ?_
    have key : ∀ q, q < 38 → isP q = true → 2 ≤ q → q ∈ bases := by decide
    exact hnd q (key q (by omega) (isP_of hq) hq.1) hqd
  obtain ⟨p, hp, hpn, hl⟩ := least_pr n (Nat.le_trans hd2 (Nat.le_of_dvd hn0 hd))
  have hpd := hl d hd2 hd
  have hnp : n ≠ p := fun e => by
    subst e
    rcases hp.2 d hd with h | h <;> omega
  obtain ⟨x, hx, rfl⟩ := plchk_of 1000 plchk_ok p (by omega) (h37 p hp hpn) (isP_of hp)
  have hs := List.all_eq_true.1 pl_small x hx
  rw [Bool.and_eq_true] at hs
  exact no_small (pl_ok x hx) hp (h37 _ hp hpn) (by omega) (blt_of hs.1) (blt_of hs.2) hpn hnp hn hn0 hsp hnd hl
end Go.Proofs.YtphbcfpiklmmeaaGreatDoor.NT

namespace Go.Proofs.YtphbcfpiklmmeaaGreatDoor
open Go.RowKit

theorem neg_iff {z N : Nat} (hN : 2 ≤ N) : z % N = N - 1 ↔ (z + 1) % N = 0 := by
  have h := Nat.mod_lt z (show 0 < N by omega)
  rw [Nat.add_mod, Nat.mod_eq_of_lt (show 1 < N by omega)]
  constructor
  · intro e
    rw [e, Nat.sub_add_cancel (by omega), Nat.mod_self]
  · intro e
    rcases Nat.lt_or_ge (z % N + 1) N with hl | hg
    · rw [Nat.mod_eq_of_lt hl] at e; omega
    · omega
theorem may_nat {N : Nat} (h2 : 2 ≤ N) (h3 : N ≤ 2305843009213693952) : mayB (N : Int) = true := by simp [mayB]; omega
theorem mulI_nat {N : Nat} (h2 : 2 ≤ N) (h3 : N ≤ 2305843009213693952) (z : Nat) : mulI ((z % N : Nat) : Int) ((z % N : Nat) : Int) (N : Int) = ((z * z % N : Nat) : Int) := by
  rw [mulI_yes _ _ _ (may_nat h2 h3), ← Int.natCast_mul, ← Int.natCast_emod, ← Nat.mul_mod]
theorem witB_iff {N : Nat} (h2 : 2 ≤ N) (h3 : N ≤ 2305843009213693952) : ∀ (k z : Nat), witB (N : Int) k ((z % N : Nat) : Int) = true ↔ ∃ i, i < k ∧ (z ^ 2 ^ i + 1) % N = 0
  | 0, z => by simp [witB]
  | k + 1, z => by
    rw [witB, mulI_nat h2 h3, Bool.or_eq_true, witB_iff h2 h3 k (z * z)]
    have e1 : (((z % N : Nat) : Int) == (N : Int) - 1) = true ↔ (z + 1) % N = 0 := by
      rw [← neg_iff h2, beq_iff_eq]
      omega
    rw [e1]
    constructor
    · rintro (h | ⟨i, hi, h⟩)
      · exact ⟨0, by omega, by simpa using h⟩
      · refine ⟨i + 1, by omega, ?_⟩
        rwa [show z ^ 2 ^ (i + 1) = (z * z) ^ 2 ^ i by rw [Nat.pow_succ', Nat.pow_mul, Nat.pow_two]]
    · rintro ⟨i, hi, h⟩
      cases i with
      | zero => left; simpa using h
      | succ i =>
        refine .inr ⟨i, by omega, ?_⟩
        rwa [show (z * z) ^ 2 ^ i = z ^ 2 ^ (i + 1) by rw [Nat.pow_succ', Nat.pow_mul, Nat.pow_two]]
theorem passB_iff {N : Nat} (h2 : 2 ≤ N) (h3 : N ≤ 2305843009213693952) {t u : Nat} (hu : N - 1 = 2 ^ t * u) (a : Nat) : passB (N : Int) (a : Int) t = true ↔ a ^ u % N = 1 % N ∨ ∃ i, i < t ∧ (a ^ (2 ^ i * u) + 1) % N = 0 := by
  have e1 : ((N : Int) - 1) / 2 ^ t = (u : Int) := by
    have : (N : Int) - 1 = 2 ^ t * (u : Int) := by
      have h : ((N - 1 : Nat) : Int) = ((2 ^ t * u : Nat) : Int) := by rw [hu]
      rw [Int.natCast_mul, Int.natCast_pow] at h
      have h5 : ((2 : Nat) : Int) = 2 := rfl
      rw [h5] at h
      omega
    rw [this]
    exact Int.mul_ediv_cancel_left _ (Int.ne_of_gt (Int.pow_pos (by decide)))
  have e2 : powI (a : Int) (u : Int) (N : Int) = ((a ^ u % N : Nat) : Int) := by
    unfold powI
    rw [if_pos (may_nat h2 h3), Int.toNat_natCast, ← Int.natCast_pow, ← Int.natCast_emod]
  unfold passB
  rw [e1, e2, Bool.or_eq_true, witB_iff h2 h3, beq_iff_eq, Nat.mod_eq_of_lt (show 1 < N by omega)]
  have e3 : (((a ^ u % N : Nat) : Int) = 1) ↔ a ^ u % N = 1 := by omega
  rw [e3]
  constructor
  · rintro (h | ⟨i, hi, h⟩)
    · exact .inl h
    · exact .inr ⟨i, hi, by rwa [Nat.mul_comm, Nat.pow_mul]⟩
  · rintro (h | ⟨i, hi, h⟩)
    · exact .inl h
    · exact .inr ⟨i, hi, by rwa [Nat.mul_comm, Nat.pow_mul] at h⟩
/-- A prime passes. -/
theorem prime_pass {N : Nat} (hN : NT.Pr N) (h2 : 2 < N) (h3 : N ≤ 2305843009213693952) {t u : Nat} (hu : N - 1 = 2 ^ t * u) {a : Nat} (ha : ¬ N ∣ a) : passB (N : Int) (a : Int) t = true := by
  rw [passB_iff (by omega) h3 hu]
  have hf := hN.fermat h2 ha
  rw [hu] at hf
  have key : ∀ j, a ^ (2 ^ j * u) % N = 1 % N → a ^ u % N = 1 % N ∨ ∃ i, i < j ∧ (a ^ (2 ^ i * u) + 1) % N = 0 := by
    intro j
    induction j with
    | zero => intro h; left; simpa using h
    | succ j ih =>
      intro h
      have e : 2 ^ (j + 1) * u = 2 ^ j * u + 2 ^ j * u := by rw [Nat.pow_succ]; grind
      rw [e, Nat.pow_add] at h
      rcases hN.sqrt h with h1 | h1
      · rcases ih h1 with h2 | ⟨i, hi, h2⟩
        · exact .inl h2
        · exact .inr ⟨i, by omega, h2⟩
      · exact .inr ⟨j, by omega, h1⟩
  exact key t hf
theorem tried_bases : ∀ a ∈ NT.bases, (a : Int) ∈ triedL := by decide
theorem tried_nat : ∀ a ∈ triedL, ∃ b ∈ NT.bases, a = (b : Int) := by decide
theorem tdivB_out {n : Int} : ∀ (g : Nat) (d : Int), tdivB n g d = true → ∃ c, d ≤ c ∧ c < d + g ∧ c * c ≤ n ∧ n % c = 0
  | 0, d, h => by simp [tdivB] at h
  | g + 1, d, h => by
    rw [tdivB] at h
    split at h
    · rename_i h1
      split at h
      · rename_i h2
        exact ⟨d, by omega, by omega, h1, h2⟩
      · obtain ⟨c, h3, h4, h5, h6⟩ := tdivB_out g (d + 1) h
        exact ⟨c, by omega, by omega, h5, h6⟩
    · cases h
theorem tdivB_no {n : Int} : ∀ (g : Nat) (d : Int), 0 ≤ d → tdivB n g d = false → ∀ c, d ≤ c → c < d + g → c * c ≤ n → n % c ≠ 0
  | 0, d, _, _, c, h1, h2, _ => by omega
  | g + 1, d, hd, h, c, h1, h2, h3 => by
    rw [tdivB] at h
    split at h
    · split at h
      · cases h
      · rename_i h5
        by_cases hc : c = d
        · subst hc; exact h5
        · exact tdivB_no g (d + 1) (by omega) h c (by omega) (by omega) h3
    · rename_i h4
      have : d * d ≤ c * c := Int.mul_le_mul h1 h1 hd (by omega)
      omega
/-- goB where nothing of the list divides. -/
theorem goB_all {n : Int} {t : Nat} : ∀ {l : List Int}, (∀ a ∈ l, n % a ≠ 0) → goB n t l = l.all fun a => passB n a t
  | [], _ => rfl
  | a :: l, h => by
    rw [goB, if_neg (h a (by simp)), goB_all fun b hb => h b (by simp [hb]), List.all_cons]
    cases passB n a t <;> rfl
theorem goB_first {n : Int} {t : Nat} : ∀ {l : List Int}, goB n t l = true → (∀ a ∈ l, n % a ≠ 0 ∧ passB n a t = true) ∨ ∃ a ∈ l, n = a
  | [], _ => .inl fun a ha => by simp at ha
  | a :: l, h => by
    rw [goB] at h
    split at h
    · exact .inr ⟨a, by simp, by simpa using h⟩
    · rename_i h1
      split at h
      · rename_i h2
        rcases goB_first h with h3 | ⟨b, hb, h3⟩
        · refine .inl fun b hb => ?_
          rcases List.mem_cons.1 hb with rfl | hb
          · exact ⟨h1, h2⟩
          · exact h3 b hb
        · exact .inr ⟨b, by simp [hb], h3⟩
      · cases h
theorem goB_prime {n : Int} {t : Nat} : ∀ {l : List Int}, (∀ a ∈ l, n % a = 0 → n = a) → (∀ a ∈ l, n % a ≠ 0 → passB n a t = true) → goB n t l = true
  | [], _, _ => rfl
  | a :: l, h1, h2 => by
    rw [goB]
    split
    · rename_i h
      have := h1 a (by simp) h
      simpa using this
    · rename_i h
      rw [if_pos (h2 a (by simp) h)]
      exact goB_prime (fun b hb => h1 b (by simp [hb])) fun b hb => h2 b (by simp [hb])
theorem prime_same (n : Int) : primeB n = refPrimeB n := by
  unfold primeB refPrimeB
  split
  · rfl
  · rename_i hr
    obtain ⟨N, rfl⟩ := Int.eq_ofNat_of_zero_le (show 0 ≤ n by omega)
    have h2 : 2 ≤ N := by omega
    have h3 : N ≤ 2305843009213693952 := by omega
    obtain ⟨u', hu', hu1, hu0, _, _⟩ := ctz_split (N : Int) (by omega) (by omega)
    generalize Lib.ctz 64 ((N : Int) - 1).toNat = t at *
    obtain ⟨u, rfl⟩ := Int.eq_ofNat_of_zero_le (show 0 ≤ u' by omega)
    have hu : N - 1 = 2 ^ t * u := by
      have h : ((N - 1 : Nat) : Int) = ((2 ^ t * u : Nat) : Int) := by
        rw [Int.natCast_mul, Int.natCast_pow]
        have h5 : ((2 : Nat) : Int) = 2 := rfl
        rw [h5]
        omega
      exact_mod_cast h
    have hsp : (∀ a ∈ triedL, passB (N : Int) a t = true) → ∀ a ∈ NT.bases, NT.SP N a := fun h a ha => ⟨t, u, hu, by omega, (passB_iff h2 h3 hu a).1 (h _ (tried_bases a ha))⟩
    have hnd : (∀ a ∈ triedL, (N : Int) % a ≠ 0) → ∀ a ∈ NT.bases, ¬ a ∣ N := fun h a ha hd => h _ (tried_bases a ha) (by
      have := Nat.mod_eq_zero_of_dvd hd
      rw [← Int.natCast_emod, this]; rfl)
    cases hd : tdivB (N : Int) 998 2 with
    | true =>
      rw [if_pos rfl]
      obtain ⟨c, c1, c2, c3, c4⟩ := tdivB_out _ _ hd
      obtain ⟨d, rfl⟩ := Int.eq_ofNat_of_zero_le (show 0 ≤ c by omega)
      have hdn : d ∣ N := Nat.dvd_of_mod_eq_zero (by rw [← Int.natCast_emod] at c4; exact_mod_cast c4)
      have hdd : d * d ≤ N := by exact_mod_cast c3
      have hdl : d * 2 ≤ d * d := Nat.mul_le_mul_left d (by omega)
      cases hg : goB (N : Int) t triedL with
      | false => rfl
      | true =>
        exfalso
        rcases goB_first hg with h | ⟨a, ha, h⟩
        · exact NT.small_div h3 (hsp fun a ha => (h a ha).2) (hnd fun a ha => (h a ha).1) (d := d) (by omega) hdn (by omega) (by omega) (by omega)
        · have key : ∀ a ∈ triedL, ∀ d : Nat, d < 38 → 2 ≤ d → (d : Int) * d ≤ a → a % d ≠ 0 := by decide
          have ha37 : ∀ a ∈ triedL, a ≤ 37 := by decide
          have := ha37 a ha
          exact key a ha d (by omega) (by omega) (by rw [← h]; exact c3) (by rw [← h]; exact c4)
    | false =>
      rw [if_neg (by simp)]
      have hno := tdivB_no 998 2 (by decide) hd
      split
      · rename_i hsm
        have hpr : NT.Pr N := by
          obtain ⟨q, hq, hqd, hl⟩ := NT.least_pr N h2
          by_cases he : q = N
          · rw [← he]; exact hq
          · exfalso
            obtain ⟨c, hc⟩ := hqd
            have hc0 : c ≠ 0 := fun e => by rw [e] at hc; omega
            have hc1 : c ≠ 1 := fun e => by rw [e, Nat.mul_one] at hc; omega
            have hqc := hl c (by omega) ⟨q, by rw [hc, Nat.mul_comm]⟩
            have hqq : q * q ≤ N := by rw [hc]; exact Nat.mul_le_mul_left q hqc
            have hq2 := hq.1
            have hq1000 : q < 1000 := by
              refine Classical.byContradiction fun h => ?_
              have : 1000 * 1000 ≤ q * q := Nat.mul_le_mul (by omega) (by omega)
              omega
            refine hno (q : Int) (by omega) (by omega) (by exact_mod_cast hqq) ?_
            rw [← Int.natCast_emod, hc, Nat.mul_mod_right]; rfl
        refine goB_prime (fun a ha h => ?_) (fun a ha h => ?_)
        all_goals obtain ⟨b, hb, rfl⟩ := tried_nat a ha
        all_goals have hb2 : 2 ≤ b := (show ∀ b ∈ NT.bases, 2 ≤ b by decide) b hb
        · have hbd : b ∣ N := Nat.dvd_of_mod_eq_zero (by rw [← Int.natCast_emod] at h; exact_mod_cast h)
          rcases hpr.2 b hbd with e | e
          · omega
          · rw [e]
        · by_cases hN2 : N = 2
          · subst hN2
            have hbp : ∀ b ∈ NT.bases, b ≠ 2 → b % 2 = 1 := by decide
            have hne : b ≠ 2 := fun e => by subst e; exact h rfl
            exact (passB_iff (by omega) h3 hu b).2 (.inl (by
              have : b ^ u % 2 = 1 := by
                rw [Nat.pow_mod, hbp b hb hne, Nat.one_pow]
              rw [this]))
          · refine prime_pass hpr (by omega) h3 hu fun hd => ?_
            have hbp : ∀ b ∈ NT.bases, ∀ d, d < 38 → d ∣ b → d = 1 ∨ d = b := by decide
            have hb37 : ∀ b ∈ NT.bases, b ≤ 37 := by decide
            have h37 := hb37 b hb
            have hle := Nat.le_of_dvd (by omega) hd
            rcases hbp b hb N (by omega) hd with e | e
            · omega
            · subst e
              exact h (Int.emod_self)
      · rename_i hbig
        refine goB_all fun a ha h => ?_
        have hab : ∀ a ∈ triedL, 2 ≤ a ∧ a ≤ 37 := by decide
        have h37 := hab a ha
        have : a * a ≤ 37 * 37 := Int.mul_le_mul h37.2 h37.2 (by omega) (by omega)
        exact hno a h37.1 (by omega) (by omega) h
end Go.Proofs.YtphbcfpiklmmeaaGreatDoor

namespace Go.Proofs.YtphbcfpiklmmeaaGreatDoor
open Go.RowKit

def refMayB (p : Par) : Bool := plainB p && refPrimeB p.P && refPrimeB p.Q
set_option maxHeartbeats 1000000 in
theorem rmay_any (p : Par) (w : World) (hp : p.ok) : Calls Tryz.prog 34 #[p.v] w fun e w' => e = .returned (.bool (refMayB p)) ∧ w.grownBy w' none := by
  have HB0 : Hid (Bk (w.alloc (.cells p.cells 24)) w.heap.size 24 p.cells) := Lib.hid (Bk.new w _ _)
  have HG0 : Hid (w.grownBy (w.alloc (.cells p.cells 24)) none) := Lib.hid (World.grownBy_alloc w _ none)
  have hp0 := HB0.out.prule
  have HP := Lib.hid (fun (w' : World) => plain_any p w' hp)
  have HX := Lib.hid (fun (w' : World) => refprime_any p.P w')
  have HY := Lib.hid (fun (w' : World) => refprime_any p.Q w')
  obtain ⟨res, hres⟩ : ∃ r, r = refMayB p := ⟨_, rfl⟩
  rw [← hres]
  have HE : Hid (res = (plainB p && refPrimeB p.P && refPrimeB p.Q)) := Lib.hid hres
  clear hp hres
  generalize plainB p = b1 at HP HE
  generalize refPrimeB p.P = b2 at HX HE
  generalize refPrimeB p.Q = b3 at HY HE
  cases b1 with
  | false =>
    have HF : Hid (false = res) := Lib.hid (by rw [HE.out]; rfl)
    go_enter Tryz.func34, Tryz.ntmps34
    go_wp2_with fail
    refine (HP.out _).mono ?_
    rintro e w1 ⟨rfl, hg⟩
    have HG1 := hidTrans hg HG0
    clear hg
    go_wp2_with fail
    go_ret
    exact ⟨ret_bool HF.out, HG1.out⟩
  | true =>
    cases b2 with
    | false =>
      have HF : Hid (false = res) := Lib.hid (by rw [HE.out]; rfl)
      go_enter Tryz.func34, Tryz.ntmps34
      go_wp2_with fail
      refine (HP.out _).mono ?_
      rintro e w1 ⟨rfl, hg⟩
      have HG1 := hidTrans hg HG0
      have HB1 := bkGrown hg HB0
      have hp1 := HB1.out.prule
      clear hg hp0
      go_wp2_with fail
      refine (HX.out _).mono ?_
      rintro e w2 ⟨rfl, hg⟩
      have HG2 := hidTrans hg HG1
      clear hg
      go_wp2_with fail
      go_ret
      exact ⟨ret_bool HF.out, HG2.out⟩
    | true =>
      have HF : Hid (b3 = res) := Lib.hid (by rw [HE.out]; rfl)
      go_enter Tryz.func34, Tryz.ntmps34
      go_wp2_with fail
      refine (HP.out _).mono ?_
      rintro e w1 ⟨rfl, hg⟩
      have HG1 := hidTrans hg HG0
      have HB1 := bkGrown hg HB0
      have hp1 := HB1.out.prule
      clear hg hp0
      go_wp2_with fail
      refine (HX.out _).mono ?_
      rintro e w2 ⟨rfl, hg⟩
      have HG2 := hidTrans hg HG1
      have HB2 := bkGrown hg HB1
      have hp2 := HB2.out.prule
      clear hg hp1
      go_wp2_with fail
      refine (HY.out _).mono ?_
      rintro e w3 ⟨rfl, hg⟩
      have HG3 := hidTrans hg HG2
      clear hg
      go_wp2_with fail
      go_ret
      exact ⟨ret_bool HF.out, HG3.out⟩
theorem may_same (p : Par) : mayP p = refMayB p := by
  unfold refMayB
  rw [← prime_same, ← prime_same, Bool.eq_iff_iff]
  simp only [mayP, plainB, tests, m1, m2, m3, m4, m5, m6, m7, m9, m10, withinB, List.any_cons, List.any_nil, Bool.or_false, id_eq, Bool.and_eq_true, Bool.not_eq_true', Bool.or_eq_false_iff, decide_eq_true_eq, decide_eq_false_iff_not, beq_iff_eq, bne_eq_false_iff_eq, beq_eq_false_iff_ne, Bool.not_eq_false']
  constructor
  · rintro ⟨⟨⟨⟨⟨⟨⟨⟨⟨⟨⟨⟨a1, a2⟩, a3⟩, a4⟩, b1, b2⟩, ⟨c1, c2⟩, c3⟩, d1, d2⟩, ⟨e1, e2⟩, e3, e4⟩, f1, f2⟩, ⟨g1, g2⟩, g3, g4⟩, h1⟩, i1, i2⟩, ⟨⟨j1, j2⟩, j3⟩, j4⟩
    refine ⟨⟨⟨⟨by omega, by omega, by omega, a4, j1, j3, j2, j4, by omega, by omega, by omega, by omega, by omega, by omega, by omega, by omega, by omega, by omega, by omega, by omega, by omega, by omega, by omega, by omega, by omega⟩, h1⟩, i2⟩, i1⟩
  · rintro ⟨⟨⟨⟨a1, a2, a3, a4, j1, j3, j2, j4, b1, b2, c1, c2, c3, d1, d2, e1, e2, e3, e4, f1, f2, g1, g2, g3, g4⟩, h1⟩, i2⟩, i1⟩
    refine ⟨⟨⟨⟨⟨⟨⟨⟨⟨⟨⟨⟨by omega, by omega⟩, by omega⟩, a4⟩, by omega, by omega⟩, ⟨by omega, by omega⟩, by omega⟩, by omega, by omega⟩, ⟨by omega, by omega⟩, by omega, by omega⟩, by omega, by omega⟩, ⟨by omega, by omega⟩, by omega, by omega⟩, h1⟩, i1, i2⟩, ⟨⟨j1, j2⟩, j3⟩, j4⟩
end Go.Proofs.YtphbcfpiklmmeaaGreatDoor

namespace Go.Proofs.YtphbcfpiklmmeaaGreatDoor
open Go Go.RowKit Go.Shelf

/-- The document's blinders: T + 1 draws. -/
def rdealR (dr : Nat → Int) (T k s : Nat) : List Int := drL dr (T + 1) (k + s * (2 * T + 1) + T)
def rdealRs (dr : Nat → Int) (T k n : Nat) : List (List Int) := (List.range n).map (rdealR dr T k)
theorem rdealRs_eq {q : Int} {dr : Nat → Int} (h : ∀ k, 0 ≤ dr k ∧ dr k < q) (T k n : Nat) : rdealRs dr T k n = dealRs q dr T k n := by
  refine List.map_congr_left fun s _ => ?_
  unfold rdealR dealR behI drL
  rw [Int.emod_eq_of_lt (h _).1 (h _).2, List.range_succ_eq_map, List.map_cons, List.map_map]
  congr 1
  exact List.map_congr_left fun j _ => by simp [Nat.add_assoc, Nat.add_comm 1 j]
theorem Side.wide {α β : Type} {E : Enc α} {F : Enc β} {base : Nat} {e f : TypeId} {Z Y : Nat → Prop} {w : World} {v u : Value} {xs : List α} {ys : List β} (h : Side E F base e f Z w v u xs ys) (hz : ∀ g, g < w.heap.size → Z g → Y g) : Side E F base e f Y w v u xs ys := ⟨h.fst.more fun g hg hx => ⟨hz g hg hx.1, hx.2⟩, h.snd.more fun g hg hx => ⟨hz g hg hx.1, hx.2⟩⟩
/-- Where the worlds stand while a number, with draws behind it, is put to the first of two lists. -/
def mdLt (w2 : World) (N g : Nat) (TI : Nat → World → Prop) (hTI : ∀ k w w', TI k w → w.grownBy w' none → TI k w') (k n : Nat) (z : Int) (ds : List Int) (v9 v10 : Value) (xs ys : List (List Int)) : Lt where
  C vs W := (w2.grownBy W (some g) ∧ N ≤ W.heap.size) ∧ match vs with
    | [] => TI k W ∧ Side (encS encU) (encS encU) w2.heap.size 25 25 (fun b => w2.heap.size ≤ b ∧ b < N) W v9 v10 xs ys
    | [u] => TI (k + n) W ∧ Side (encS encU) (encS encU) w2.heap.size 25 25 (fun b => w2.heap.size ≤ b ∧ b < N) W v9 v10 xs ys ∧ Sl encU (fun b => N ≤ b) W u ds
    | [_, u] => TI (k + n) W ∧ Side (encS encU) (encS encU) w2.heap.size 25 25 (fun b => w2.heap.size ≤ b ∧ b < N) W v9 v10 xs ys ∧ Sl encU (fun b => N ≤ b) W u (z :: ds)
    | [_, b, u] => (∃ A n c, b = .slice A n c) ∧ TI (k + n) W ∧ Side (encS encU) (encS encU) w2.heap.size 25 25 (fun b => w2.heap.size ≤ b) W u v10 (xs ++ [z :: ds]) ys
    | _ => False
  R q w w' := q = 0 → w.grownBy w' (some g)
  g := fun {vs w w'} h hg => by
    obtain ⟨⟨h1, h2⟩, h3⟩ := h
    refine ⟨⟨h1.trans (hg.but _), Nat.le_trans h2 hg.size⟩, ?_⟩
    match vs, h3 with
    | [], h => exact ⟨hTI _ _ _ h.1 hg, h.2.kept hg⟩
    | [u], h => exact ⟨hTI _ _ _ h.1 hg, h.2.1.kept hg, h.2.2.kept hg⟩
    | [_, u], h => exact ⟨hTI _ _ _ h.1 hg, h.2.1.kept hg, h.2.2.kept hg⟩
    | [_, _, u], h => exact ⟨h.1, hTI _ _ _ h.2.1 hg, h.2.2.kept hg⟩
section
variable {w2 : World} {N g : Nat} {TI : Nat → World → Prop} {hTI : ∀ k w w', TI k w → w.grownBy w' none → TI k w'} {k n : Nat} {z : Int} {ds : List Int} {v9 v10 : Value} {xs ys : List (List Int)}
/-- The slice of one number that was built ahead. -/
def mdQ (hg : g < N) : Qv (mdLt w2 N g TI hTI k n z ds v9 v10 xs ys) where
  p vs v W := vs.length ≤ 1 → Acc encU N 22 (fun b => N ≤ b) W v [z]
  fr := 0
  st := fun h hg e => (h e).kept hg
  sr := fun {vs u v w w'} _ _ hR h e => by
    have e2 : vs.length = 0 := by
      rw [List.length_append, List.length_singleton] at e
      omega
    exact (h (by omega)).keep (hR e2) (fun b hb e => by injection e with e; omega)
theorem mdLt_shape {vs : List Value} {W : World} {x : Value} (h : (mdLt w2 N g TI hTI k n z ds v9 v10 xs ys).C vs W) (hv : vs[1]? = some x) : ∃ A m c, x = .slice A m c := by
  obtain ⟨_, h⟩ := h
  match vs, h, hv with
  | [_, u], h, hv =>
    injection hv with hv
    subst hv
    exact h.2.2.shape
  | [_, b, _], h, hv =>
    injection hv with hv
    subst hv
    exact h.1
/-- The slice of what was put together. -/
def mdS : Qv (mdLt w2 N g TI hTI k n z ds v9 v10 xs ys) where
  p vs v W := vs.length ≤ 2 → ∃ u b, vs[1]? = some u ∧ v = .slice (some ⟨b, 0, none⟩) 1 1 ∧ Bk W b 25 #[u]
  fr := 0
  st := fun h hg e => by
    obtain ⟨u, b, h1, h2, h3⟩ := h e
    exact ⟨u, b, h1, h2, h3.grown hg (by simp)⟩
  sr := fun {vs u v w w'} _ _ _ h e => by
    rw [List.length_append, List.length_singleton] at e
    obtain ⟨u, b, h1, _, _⟩ := h (by omega)
    have := (List.getElem?_eq_some_iff.1 h1).1
    omega
end
theorem rmodel_no (p : Par) (vl : Value) (l : List Int) (X : Nat → Prop) (vt : Value) (w : World) (hp : p.ok) (h : Sl encU X w vl l) (hno : ¬ (mayP p = true ∧ (l.length : Int) = secretsI p)) :
    Calls Tryz.prog 8 #[p.v, vl, vt] w fun e w' => e = .returned (.tuple #[.slice none 0 0, .slice none 0 0, .int .i64 1]) ∧ w.grownBy w' none := by
  have HG0 : Hid (w.grownBy (w.alloc (Obj.cells p.cells 24)) none) := Lib.hid (World.grownBy_alloc w _ none)
  have HB0 : Hid (Bk (w.alloc (Obj.cells p.cells 24)) w.heap.size 24 p.cells) := Lib.hid (Bk.new w _ _)
  have HMY := Lib.hid (fun W => rmay_any p W hp)
  rw [← may_same p] at HMY
  have HSEC := Lib.hid (rsecrets_any p)
  obtain ⟨A, c, rfl, _, _⟩ := h.form
  clear h hp
  cases hm : mayP p with
  | false =>
    rw [hm] at HMY
    generalize l.length = n at *
    clear hno hm
    go_enter Tryz.func8, Tryz.ntmps8
    have hp0 := HB0.out.prule
    go_wp2_with fail
    refine (HMY.out _).mono ?_
    rintro e w1 ⟨rfl, hg⟩
    have HG1 : Hid (w.grownBy w1 none) := Lib.hid (HG0.out.trans hg)
    clear hg hp0
    go_wp2_with fail
    go_ret3
    exact ⟨rfl, HG1.out⟩
  | true =>
    rw [hm] at HMY
    have hne : ((l.length : Int) != secretsI p) = true := by
      have : ¬ (l.length : Int) = secretsI p := fun e => hno ⟨hm, e⟩
      simpa using this
    obtain ⟨sI, hs⟩ : ∃ y, y = secretsI p := ⟨_, rfl⟩
    rw [← hs] at hne HSEC
    generalize l.length = n at *
    clear hno hm hs
    go_enter Tryz.func8, Tryz.ntmps8
    have hp0 := HB0.out.prule
    go_wp2_with fail
    refine (HMY.out _).mono ?_
    rintro e w1 ⟨rfl, hg⟩
    have HG1 : Hid (w.grownBy w1 none) := Lib.hid (HG0.out.trans hg)
    have hp1 := (HB0.out.grown hg (by simp)).prule
    clear hg hp0
    go_wp2_with fail
    refine (HSEC.out _).mono ?_
    rintro e w2 ⟨rfl, hg⟩
    have HG2 : Hid (w.grownBy w2 none) := Lib.hid (HG1.out.trans hg)
    clear hg hp1
    go_wp2_with fail
    go_ret3
    exact ⟨rfl, HG2.out⟩
end Go.Proofs.YtphbcfpiklmmeaaGreatDoor

namespace Go.Proofs.YtphbcfpiklmmeaaGreatDoor
open Go Go.RowKit Go.Shelf

set_option maxRecDepth 100000 in
set_option maxHeartbeats 8000000 in
theorem rmodel1_any (p : Par) (vl : Value) (l : List Int) (X : Nat → Prop) (w : World) {pa : Option Addr} {g : Nat} {dr : Nat → Int} {TI : Nat → World → Prop} {bl : Nat → Prop} {most : Nat} (hT : RTp pa g p.Q dr TI bl most) (hp : p.ok) (hm : mayP p = true) (h : Sl encU X w vl l) (hX : ∀ b, X b → b ≠ g) (hl : (l.length : Int) = secretsI p) (k0 : Nat) (hTT : p.T = 1) (hI : TI k0 w) (hmost : k0 + l.length * 3 ≤ most) :
    Calls Tryz.prog 8 #[p.v, vl, .pointer pa] w fun e w' => ∃ vs vc, e = .returned (.tuple #[vs, vc, .int .i64 0]) ∧ Sl (encS encP) (fun b => w.heap.size ≤ b) w' vs ((List.range p.N.toNat).map fun i : Nat => dealtI p (dealFs l p.Q dr 1 k0 l.length) (rdealRs dr 1 k0 l.length) ((i : Int) + 1)) ∧ Sl (encS encU) (fun b => w.heap.size ≤ b) w' vc (comsI p (dealFs l p.Q dr 1 k0 l.length) (rdealRs dr 1 k0 l.length)) ∧ TI (k0 + l.length * 3) w' ∧ w.grownBy w' (some g) := by
  have HT := Lib.hid hT
  have HP := Lib.hid hp
  have HX := Lib.hid hX
  obtain ⟨hq, _, _, n1, n2, n3, t1, t2, t3, hs, kk1, dd1⟩ := may_apart hm
  have hsec := smallB_secrets hs
  have HQ : Hid (U64 p.Q ∧ 0 < p.Q) := Lib.hid ⟨hp.Q, mayB_pos hq⟩
  have hL10 : l.length ≤ 10 := by omega
  obtain ⟨NN, hN⟩ : ∃ k : Nat, (k : Int) = p.N := ⟨p.N.toNat, by omega⟩
  have hNt : p.N.toNat = NN := by omega
  have hN7 : NN ≤ 7 := by omega
  have HN := Lib.hid hN
  have hGW : g < w.heap.size := hT.old hI hT.own
  have HGW := Lib.hid hGW
  have HOB : Hid (∀ b, bl b → b < w.heap.size) := Lib.hid (fun b hb => hT.old hI hb)
  obtain ⟨w0, hw0⟩ : ∃ y, y = w.alloc (Obj.cells p.cells 24) := ⟨_, rfl⟩
  have HG0 : Hid (w.grownBy w0 none) := Lib.hid (by rw [hw0]; exact World.grownBy_alloc w _ none)
  have HB0 : Hid (Bk w0 w.heap.size 24 p.cells) := Lib.hid (by rw [hw0]; exact Bk.new w _ _)
  have HI0 : Hid (TI k0 w0) := Lib.hid (hT.keep hI HG0.out (by simp))
  have HMY := Lib.hid (fun W => rmay_any p W hp)
  rw [← may_same p, hm] at HMY
  have HSEC := Lib.hid (rsecrets_any p)
  rw [← hl] at HSEC
  have HL := Lib.hid (h.kept HG0.out)
  have HTP := Lib.hid hTT
  have HMO := Lib.hid hmost
  have HTI : Hid (∀ k w w', TI k w → w.grownBy w' none → TI k w') := Lib.hid (fun k w w' h hg => hT.keep h hg (by simp))
  obtain ⟨A, c, rfl, hl1, hl2⟩ := h.form
  have hq0 : ¬ p.Q = 0 := by have := HQ.out.2; omega
  have hq1 : (p.Q == 0) = false := by simpa using hq0
  rw [hNt]
  clear hT hp hX hq n1 n2 n3 t1 t2 t3 hs kk1 dd1 hsec hm h hI hTT hmost hl hGW hN hNt
  go_enter Tryz.func8, Tryz.ntmps8
  go_wp2_with fail
  rw [← hw0]
  have hp0 := HB0.out.prule
  clear hw0
  go_wp2_with fail
  refine (HMY.out _).mono ?_
  rintro e w1 ⟨rfl, hg⟩
  have HG1 : Hid (w0.grownBy w1 none) := Lib.hid hg
  have hp1 := (HB0.out.grown hg (by simp)).prule
  clear hg hp0 HMY
  go_wp2_with fail
  refine (HSEC.out _).mono ?_
  rintro e w2 ⟨rfl, hg⟩
  have HG2 : Hid (w0.grownBy w2 none) := Lib.hid (HG1.out.trans hg)
  clear hg hp1 HSEC
  go_wp2_with fail
  have HB2 : Hid (Bk w2 w.heap.size 24 p.cells) := Lib.hid (HB0.out.grown HG2.out (by simp))
  have HI2 : Hid (TI k0 w2) := Lib.hid (HT.out.keep HI0.out HG2.out (by simp))
  have HW2 : Hid (w.heap.size < w2.heap.size ∧ g < w.heap.size) := Lib.hid ⟨HB2.out.lt, HGW.out⟩
  have HPX : Hid (∀ wx, w2.grownBy wx (some g) → Bk wx w.heap.size 24 p.cells) := Lib.hid (fun wx hg => HB2.out.grown hg (fun e => by injection e with e; have := HW2.out.2; omega))
  have HPC : Hid (∀ wx, w2.grownBy wx (some g) → wx.cell? ⟨w.heap.size, 1, none⟩ = some (.int .u64 p.Q) ∧ wx.cell? ⟨w.heap.size, 6, none⟩ = some (.int .i64 1) ∧ wx.cell? ⟨w.heap.size, 5, none⟩ = some (.int .i64 (NN : Int))) := Lib.hid (fun wx hg => by
    have h := (HPX.out wx hg).cell
    exact ⟨h 1, by rw [h 6, ← HTP.out]; rfl, by rw [h 5, HN.out]; rfl⟩)
  have HLX : Hid (∀ wx, w2.grownBy wx (some g) → Sl encU X wx (.slice A l.length c) l) := Lib.hid (fun wx hg => (HL.out.kept HG2.out).keep hg (fun b hb e => HX.out b hb (by injection e with e)))
  have HDR : Hid (∀ (n k : Nat) (W : World), n ≤ 1000 → k + n ≤ most → TI k W → Calls Tryz.prog 36 #[.pointer pa, .int .i64 n, .int .u64 p.Q] W fun e w' => ∃ v, e = .returned v ∧ Sl encU (fun b => W.heap.size ≤ b) w' v (drL dr n k) ∧ TI (k + n) w' ∧ W.grownBy w' (some g)) := Lib.hid (fun n k W hn hk hi => rdraw_any HT.out n k W hn hk hi)
  obtain ⟨L, hLL⟩ : ∃ y, y = l.length := ⟨_, rfl⟩
  have HLN := Lib.hid hLL
  rw [← hLL] at hL10 hl1 HMO HLX ⊢
  clear hLL
  go_loopg [9, 10, 11] L (fun gk s9 s10 s11 wx => ∃ s : Nat, s + gk = L ∧ s11 = .int .i64 s ∧ Hid (Side (encS encU) (encS encU) w2.heap.size 25 25 (fun b => w2.heap.size ≤ b) wx s9 s10 (dealFs l p.Q dr 1 k0 s) (rdealRs dr 1 k0 s) ∧ TI (k0 + s * 3) wx ∧ w2.grownBy wx (some g)))
  case atStart => exact ⟨0, by omega, rfl, Lib.hid ⟨⟨Acc.nil _ _ _ _ _, Acc.nil _ _ _ _ _⟩, by simpa using HI2.out, World.grownBy.refl _ _⟩⟩
  case round =>
    obtain ⟨s, hsL, rfl, HXX⟩ := hrel
    have HS0 := Lib.hid HXX.out.1
    have HI3 := Lib.hid HXX.out.2.1
    have HG3 := Lib.hid HXX.out.2.2
    clear HXX
    cases gk with
    | zero =>
      have eL : L = s := by omega
      subst eL
      have hno : ¬ ((L : Int) < (L : Int)) := by omega
      obtain ⟨F, hF⟩ : ∃ y, y = dealFs l p.Q dr 1 k0 L := ⟨_, rfl⟩
      obtain ⟨R, hR⟩ : ∃ y, y = rdealRs dr 1 k0 L := ⟨_, rfl⟩
      rw [← hF, ← hR] at HS0
      have HFL : Hid (F.length = L ∧ R.length = L) := Lib.hid (by rw [hF, hR]; simp [dealFs, rdealRs])
      have HFT : Hid ((∀ c ∈ F, c.length = 2) ∧ (∀ c ∈ R, c.length = 2)) := Lib.hid (by
        rw [hF, hR]
        refine ⟨fun c hc => ?_, fun c hc => ?_⟩
        · obtain ⟨i, _, rfl⟩ := List.mem_map.1 hc
          exact behI_len _ _ _ _ _
        · obtain ⟨i, _, rfl⟩ := List.mem_map.1 hc
          exact drL_len _ _ _)
      have HFE := Lib.hid hF
      have HRE := Lib.hid hR
      obtain ⟨AF, cF, eF, _, _⟩ := HS0.out.fst.sl.form
      obtain ⟨AR, cR, eR, _, _⟩ := HS0.out.snd.sl.form
      rw [HFL.out.1] at eF
      rw [HFL.out.2] at eR
      subst eF eR
      have HF : Hid (Sl (encS encU) (fun b => w2.heap.size ≤ b) wr (.slice AF L cF) F) := Lib.hid (HS0.out.fst.sl.more fun b _ hb => hb.1)
      have HR : Hid (Sl (encS encU) (fun b => w2.heap.size ≤ b) wr (.slice AR L cR) R) := Lib.hid (HS0.out.snd.sl.more fun b _ hb => hb.1)
      clear HS0 HLX HMO hF hR
      obtain ⟨q0, q1, q2⟩ := HPC.out wr HG3.out
      go_wp2_with fail
      go_loopg [12, 13] NN (fun gk s12 s13 wx => ∃ i : Nat, i + gk = NN ∧ s13 = .int .i64 ((i : Int) + 1) ∧ Hid (Acc (encS encP) wr.heap.size 26 (fun b => wr.heap.size ≤ b) wx s12 ((List.range i).map fun i : Nat => dealtI p F R ((i : Int) + 1)) ∧ wr.grownBy wx none))
      case atStart => exact ⟨0, by omega, rfl, Lib.hid ⟨Acc.nil _ _ _ _ _, World.grownBy.refl _ _⟩⟩
      case round =>
        rename World => wj
        obtain ⟨i, hi, rfl, HY⟩ := hrel
        have HGJ : Hid (w2.grownBy wj (some g)) := Lib.hid (HG3.out.trans (HY.out.2.but _))
        obtain ⟨q0, q1, q2⟩ := HPC.out wj HGJ.out
        cases gk with
        | zero =>
          have eN : NN = i := by omega
          subst eN
          have hno2 : ¬ ((NN : Int) + 1 ≤ p.N) := by have := HN.out; omega
          clear q0 q1 q2
          obtain ⟨As, ns, cs, rfl⟩ := HY.out.1.sl.shape
          have HCO := Lib.hid (rcoms_sq p (.slice AF L cF) (.slice AR L cR) F R L 2 (fun b => w2.heap.size ≤ b) wj HP.out (HF.out.kept HY.out.2) (HR.out.kept HY.out.2) HFL.out.1 HFL.out.2 HFT.out.1 HFT.out.2 (by omega) (by decide))
          have hpj := (HPX.out wj HGJ.out).prule
          go_wp2_with fail
          refine HCO.out.mono ?_
          rintro e w5 ⟨vc, rfl, hsc, hgc⟩
          have HFIN : Hid (Sl (encS encP) (fun b => w.heap.size ≤ b) w5 (.slice As ns cs) ((List.range NN).map fun i : Nat => dealtI p F R ((i : Int) + 1)) ∧ Sl (encS encU) (fun b => w.heap.size ≤ b) w5 vc (comsI p F R) ∧ TI (k0 + L * 3) w5 ∧ w.grownBy w5 (some g)) := Lib.hid (by
            have z1 := HW2.out.1
            have z2 := HG3.out.size
            have z3 := HY.out.2.size
            exact ⟨(HY.out.1.sl.kept hgc).more fun b _ hb => by omega, hsc.more fun b _ hb => by omega, HTI.out _ _ _ HI3.out (HY.out.2.trans hgc), (HG0.out.trans HG2.out).but _ |>.trans (HGJ.out.trans (hgc.but _))⟩)
          rw [HFE.out, HRE.out] at HFIN
          clear hsc hgc hpj HY
          go_wp2
          go_ret3
          refine ⟨_, _, rfl, ?_⟩
          rw [← HLN.out]
          exact HFIN.out
        | succ m =>
          have hiN : (i : Int) + 1 ≤ (NN : Int) := by omega
          have HAJ := Lib.hid HY.out.1
          have HGK := Lib.hid HY.out.2
          have HLN2 : Hid ((((List.range i).map fun i : Nat => dealtI p F R ((i : Int) + 1)).length + 1) * 24 ≤ 140737488355328) := Lib.hid (by simp; omega)
          have HHN : Hid ((List.range (i + 1)).map (fun i : Nat => dealtI p F R ((i : Int) + 1)) = (List.range i).map (fun i : Nat => dealtI p F R ((i : Int) + 1)) ++ [dealtI p F R ((i : Int) + 1)]) := Lib.hid (hsnoc _ _)
          clear HY
          go_wp2_with fail
          go_loopg [14, 15] L (fun gk s14 s15 wx => ∃ s : Nat, s + gk = L ∧ s15 = .int .i64 s ∧ Hid (Acc encP wj.heap.size 58 (fun b => wj.heap.size ≤ b) wx s14 (evsI p F R i s) ∧ wj.grownBy wx none))
          case atStart => exact ⟨0, by omega, rfl, Lib.hid ⟨Acc.nil _ _ _ _ _, World.grownBy.refl _ _⟩⟩
          case round =>
            rename World => wi
            obtain ⟨s, hs, rfl, HZ⟩ := hrel
            have HGI : Hid (wr.grownBy wi none) := Lib.hid (HGK.out.trans HZ.out.2)
            cases gk with
            | zero =>
              have eL : L = s := by omega
              subst eL
              obtain ⟨A5, n5, c5, rfl⟩ := HZ.out.1.sl.shape
              have HAO := Lib.hid (HAJ.out.kept HZ.out.2)
              have HREP : Hid (Enc.rep (encS encP) (fun b => wr.heap.size ≤ b ∧ some b ≠ u12.ownBlock) wi [.slice A5 n5 c5] (dealtI p F R ((i : Int) + 1))) := Lib.hid ⟨_, rfl, by
                have h := HZ.out.1.sl
                rw [← HFL.out.1, evsI_all] at h
                exact h.fresh HGK.out HAJ.out⟩
              clear HZ
              go_wp2_with (at_builtin; refine wpList_pushG rfl (.tmp 94) (.tmp 96) rfl (E := encS encP) el_pairs HGI.out HAO.out (fun _ h => h) HREP.out HLN2.out rfl rfl ?_)
              intro v3 w3 ha hg hgo
              have HFIN : Hid (Acc (encS encP) wr.heap.size 26 (fun b => wr.heap.size ≤ b) w3 v3 ((List.range (i + 1)).map fun i : Nat => dealtI p F R ((i : Int) + 1)) ∧ wr.grownBy w3 none) := Lib.hid ⟨by rw [HHN.out]; exact ha, hg⟩
              clear ha hg hgo
              go_wp2_with fail
              go_roundg m
              case measure => omega
              case rel => exact ⟨i + 1, by omega, by go_num, HFIN⟩
            | succ q =>
              have hsI : (s : Int) < (L : Int) := by omega
              have hs0 : (0 : Int) ≤ (s : Int) := Int.natCast_nonneg s
              have hsF : s < F.length := by rw [HFL.out.1]; omega
              have hsR : s < R.length := by rw [HFL.out.2]; omega
              obtain ⟨gF, oF, cF', uF, eF, z1, z2, hcF, hslF⟩ := (HF.out.kept HGI.out).atS hsF
              clear z1 z2
              injection eF with eF1 eF2 eF3
              clear eF2
              subst eF1 eF3
              obtain ⟨gR, oR, cR', uR, eR, z1, z2, hcR, hslR⟩ := (HR.out.kept HGI.out).atS hsR
              clear z1 z2
              injection eR with eR1 eR2 eR3
              clear eR2
              subst eR1 eR3
              obtain ⟨Af, nf, cf, rfl⟩ := hslF.shape
              obtain ⟨Ar, nr, cr, rfl⟩ := hslR.shape
              have HI1 : Hid (U64 ((i : Int) + 1)) := Lib.hid ⟨by omega, by omega⟩
              have hwi : IntKind.u64.wrap ((i : Int) + 1) = (i : Int) + 1 := IntWalk.u64_in _ (by omega)
              have HGw : Hid (wj.grownBy wi.drew none) := Lib.hid (HZ.out.2.trans (grown_drewN' wi 1))
              have HGi : Hid (wr.grownBy wi.drew none) := Lib.hid (HGI.out.trans (grown_drewN' wi 1))
              have HE1 : Hid (∀ W, wi.drew.grownBy W none → Calls Tryz.prog 37 #[.slice Af nf cf, .int .u64 ((i : Int) + 1), .int .u64 p.Q] W fun e w' => e = .returned (.int .u64 (evalI p.Q F[s] ((i : Int) + 1))) ∧ W.grownBy w' none) := Lib.hid (fun W hW => rvalue_any _ F[s] _ _ _ W ((hslF.kept (grown_drewN' wi 1)).kept hW) HI1.out HQ.out.1)
              have HE2 : Hid (∀ W, wi.drew.grownBy W none → Calls Tryz.prog 37 #[.slice Ar nr cr, .int .u64 ((i : Int) + 1), .int .u64 p.Q] W fun e w' => e = .returned (.int .u64 (evalI p.Q R[s] ((i : Int) + 1))) ∧ W.grownBy w' none) := Lib.hid (fun W hW => rvalue_any _ R[s] _ _ _ W ((hslR.kept (grown_drewN' wi 1)).kept hW) HI1.out HQ.out.1)
              have HSN : Hid (evsI p F R i (s + 1) = evsI p F R i s ++ [(evalI p.Q F[s] ((i : Int) + 1), evalI p.Q R[s] ((i : Int) + 1))]) := Lib.hid (by
                rw [evsI_succ, List.getElem?_eq_getElem hsF, List.getElem?_eq_getElem hsR]
                rfl)
              obtain ⟨ea, hea⟩ : ∃ y, y = evalI p.Q F[s] ((i : Int) + 1) := ⟨_, rfl⟩
              obtain ⟨eb, heb⟩ : ∃ y, y = evalI p.Q R[s] ((i : Int) + 1) := ⟨_, rfl⟩
              have HU : Hid (U64 ea ∧ U64 eb) := Lib.hid (by rw [hea, heb]; exact ⟨evalI_U64 _ _ _, evalI_U64 _ _ _⟩)
              rw [← hea, ← heb] at HSN
              rw [← hea] at HE1
              rw [← heb] at HE2
              have HLD : Hid (∀ W, wi.drew.grownBy W none → W.cell? ⟨w.heap.size, 1, none⟩ = some (.int .u64 p.Q) ∧ W.cell? ⟨gF, oF + s, none⟩ = some (.slice Af nf cf) ∧ W.cell? ⟨gR, oR + s, none⟩ = some (.slice Ar nr cr)) := Lib.hid (fun W hW => ⟨(HPC.out W (HG3.out.trans ((HGi.out.trans hW).but _))).1, cellK hcF ((grown_drewN' wi 1).trans hW) (by simp), cellK hcR ((grown_drewN' wi 1).trans hW) (by simp)⟩)
              obtain ⟨A14, n14, c14, rfl⟩ := HZ.out.1.sl.shape
              have HAw := Lib.hid (HZ.out.1.kept (grown_drewN' wi 1))
              have HLC : Hid (((evsI p F R i s).length + [(ea, eb)].length) * 16 ≤ 140737488355328) := Lib.hid (by simp [evsI]; omega)
              clear hcF hcR hslF hslR hea heb HZ hsF hsR q0 q1 q2
              go_upto_region 17 with (fail)
              refine wp_region_mono 21 (by kernel_rfl) (by kernel_rfl) ?_
              -- op 0 (slot 72): move
              refine MonoR.step (Pv.eq (.slice A14 n14 c14)) [] (by kernel_rfl) (fun w' hw' => ?_) ?_
              · refine ask_do rfl fun K hK => ?_
                go_simp
                exact hK _ _ rfl rfl (World.grownBy.refl _ none)
              -- op 1 (slot 73): move
              refine MonoR.step (Pv.eq (.slice (some ⟨gF, oF, none⟩) L cF)) [] (by kernel_rfl) (fun w' hw' => ?_) ?_
              · refine ask_do rfl fun K hK => ?_
                go_simp
                exact hK _ _ rfl rfl (World.grownBy.refl _ none)
              -- op 2 (slot 74): move
              refine MonoR.step (Pv.eq (.int .i64 (s : Int))) [] (by kernel_rfl) (fun w' hw' => ?_) ?_
              · refine ask_do rfl fun K hK => ?_
                go_simp
                exact hK _ _ rfl rfl (World.grownBy.refl _ none)
              -- op 3 (slot 75): indexAddr
              refine MonoR.step (Pv.eq (.pointer (some ⟨gF, oF + s, none⟩))) [(1, 73), (2, 74)] (by kernel_rfl) (fun w' hw' => ?_) ?_
              · intro x73 h73
                intro x74 h74
                have e73 : x73 = .slice (some ⟨gF, oF, none⟩) L cF := h73
                clear h73
                subst e73
                have e74 : x74 = .int .i64 (s : Int) := h74
                clear h74
                subst e74
                refine ask_do rfl fun K hK => ?_
                go_simp
                exact hK _ _ rfl rfl (World.grownBy.refl _ none)
              -- op 4 (slot 76): load
              refine MonoR.step (Pv.eq (.slice Af nf cf)) [(3, 75)] (by kernel_rfl) (fun w' hw' => ?_) ?_
              · intro x75 h75
                have e75 : x75 = .pointer (some ⟨gF, oF + s, none⟩) := h75
                clear h75
                subst e75
                refine ask_do rfl fun K hK => ?_
                obtain ⟨q0, q1, q2⟩ := HLD.out w' hw'
                go_simp
                exact hK _ _ rfl rfl (World.grownBy.refl _ none)
              -- op 5 (slot 77): move
              refine MonoR.step (Pv.eq (.int .i64 ((i : Int) + 1))) [] (by kernel_rfl) (fun w' hw' => ?_) ?_
              · refine ask_do rfl fun K hK => ?_
                go_simp
                exact hK _ _ rfl rfl (World.grownBy.refl _ none)
              -- op 6 (slot 78): convert
              refine MonoR.step (Pv.eq (.int .u64 ((i : Int) + 1))) [(5, 77)] (by kernel_rfl) (fun w' hw' => ?_) ?_
              · intro x77 h77
                have e77 : x77 = .int .i64 ((i : Int) + 1) := h77
                clear h77
                subst e77
                refine ask_do rfl fun K hK => ?_
                go_simp
                exact hK _ _ rfl rfl (World.grownBy.refl _ none)
              -- op 7 (slot 79): fieldAddr
              refine MonoR.step (Pv.eq (.pointer (some ⟨w.heap.size, 1, none⟩))) [] (by kernel_rfl) (fun w' hw' => ?_) ?_
              · refine ask_do rfl fun K hK => ?_
                go_simp
                exact hK _ _ rfl rfl (World.grownBy.refl _ none)
              -- op 8 (slot 80): load
              refine MonoR.step (Pv.eq (.int .u64 p.Q)) [(7, 79)] (by kernel_rfl) (fun w' hw' => ?_) ?_
              · intro x79 h79
                have e79 : x79 = .pointer (some ⟨w.heap.size, 1, none⟩) := h79
                clear h79
                subst e79
                refine ask_do rfl fun K hK => ?_
                obtain ⟨q0, q1, q2⟩ := HLD.out w' hw'
                go_simp
                exact hK _ _ rfl rfl (World.grownBy.refl _ none)
              -- op 9 (slot 81): call
              refine MonoR.step (Pv.eq (.int .u64 ea)) [(4, 76), (6, 78), (8, 80)] (by kernel_rfl) (fun w' hw' => ?_) ?_
              · intro x76 h76
                intro x78 h78
                intro x80 h80
                have e76 : x76 = .slice Af nf cf := h76
                clear h76
                subst e76
                have e78 : x78 = .int .u64 ((i : Int) + 1) := h78
                clear h78
                subst e78
                have e80 : x80 = .int .u64 p.Q := h80
                clear h80
                subst e80
                refine ask_do rfl fun K hK => ?_
                go_simp
                refine (HE1.out w' hw').mono ?_
                rintro e w3 ⟨rfl, hg⟩
                exact hK _ _ rfl rfl hg
              -- op 10 (slot 82): move
              refine MonoR.step (Pv.eq (.slice (some ⟨gR, oR, none⟩) L cR)) [] (by kernel_rfl) (fun w' hw' => ?_) ?_
              · refine ask_do rfl fun K hK => ?_
                go_simp
                exact hK _ _ rfl rfl (World.grownBy.refl _ none)
              -- op 11 (slot 83): move
              refine MonoR.step (Pv.eq (.int .i64 (s : Int))) [] (by kernel_rfl) (fun w' hw' => ?_) ?_
              · refine ask_do rfl fun K hK => ?_
                go_simp
                exact hK _ _ rfl rfl (World.grownBy.refl _ none)
              -- op 12 (slot 84): indexAddr
              refine MonoR.step (Pv.eq (.pointer (some ⟨gR, oR + s, none⟩))) [(10, 82), (11, 83)] (by kernel_rfl) (fun w' hw' => ?_) ?_
              · intro x82 h82
                intro x83 h83
                have e82 : x82 = .slice (some ⟨gR, oR, none⟩) L cR := h82
                clear h82
                subst e82
                have e83 : x83 = .int .i64 (s : Int) := h83
                clear h83
                subst e83
                refine ask_do rfl fun K hK => ?_
                go_simp
                exact hK _ _ rfl rfl (World.grownBy.refl _ none)
              -- op 13 (slot 85): load
              refine MonoR.step (Pv.eq (.slice Ar nr cr)) [(12, 84)] (by kernel_rfl) (fun w' hw' => ?_) ?_
              · intro x84 h84
                have e84 : x84 = .pointer (some ⟨gR, oR + s, none⟩) := h84
                clear h84
                subst e84
                refine ask_do rfl fun K hK => ?_
                obtain ⟨q0, q1, q2⟩ := HLD.out w' hw'
                go_simp
                exact hK _ _ rfl rfl (World.grownBy.refl _ none)
              -- op 14 (slot 86): move
              refine MonoR.step (Pv.eq (.int .i64 ((i : Int) + 1))) [] (by kernel_rfl) (fun w' hw' => ?_) ?_
              · refine ask_do rfl fun K hK => ?_
                go_simp
                exact hK _ _ rfl rfl (World.grownBy.refl _ none)
              -- op 15 (slot 87): convert
              refine MonoR.step (Pv.eq (.int .u64 ((i : Int) + 1))) [(14, 86)] (by kernel_rfl) (fun w' hw' => ?_) ?_
              · intro x86 h86
                have e86 : x86 = .int .i64 ((i : Int) + 1) := h86
                clear h86
                subst e86
                refine ask_do rfl fun K hK => ?_
                go_simp
                exact hK _ _ rfl rfl (World.grownBy.refl _ none)
              -- op 16 (slot 88): fieldAddr
              refine MonoR.step (Pv.eq (.pointer (some ⟨w.heap.size, 1, none⟩))) [] (by kernel_rfl) (fun w' hw' => ?_) ?_
              · refine ask_do rfl fun K hK => ?_
                go_simp
                exact hK _ _ rfl rfl (World.grownBy.refl _ none)
              -- op 17 (slot 89): load
              refine MonoR.step (Pv.eq (.int .u64 p.Q)) [(16, 88)] (by kernel_rfl) (fun w' hw' => ?_) ?_
              · intro x88 h88
                have e88 : x88 = .pointer (some ⟨w.heap.size, 1, none⟩) := h88
                clear h88
                subst e88
                refine ask_do rfl fun K hK => ?_
                obtain ⟨q0, q1, q2⟩ := HLD.out w' hw'
                go_simp
                exact hK _ _ rfl rfl (World.grownBy.refl _ none)
              -- op 18 (slot 90): call
              refine MonoR.step (Pv.eq (.int .u64 eb)) [(13, 85), (15, 87), (17, 89)] (by kernel_rfl) (fun w' hw' => ?_) ?_
              · intro x85 h85
                intro x87 h87
                intro x89 h89
                have e85 : x85 = .slice Ar nr cr := h85
                clear h85
                subst e85
                have e87 : x87 = .int .u64 ((i : Int) + 1) := h87
                clear h87
                subst e87
                have e89 : x89 = .int .u64 p.Q := h89
                clear h89
                subst e89
                refine ask_do rfl fun K hK => ?_
                go_simp
                refine (HE2.out w' hw').mono ?_
                rintro e w3 ⟨rfl, hg⟩
                exact hK _ _ rfl rfl hg
              -- op 19 (slot 91): build
              refine MonoR.step (Pv.eq (.agg #[.int .u64 ea, .int .u64 eb])) [(9, 81), (18, 90)] (by kernel_rfl) (fun w' hw' => ?_) ?_
              · intro x81 h81
                intro x90 h90
                have e81 : x81 = .int .u64 ea := h81
                clear h81
                subst e81
                have e90 : x90 = .int .u64 eb := h90
                clear h90
                subst e90
                refine ask_do rfl fun K hK => ?_
                go_simp
                exact hK _ _ rfl rfl (World.grownBy.refl _ none)
              -- op 20 (slot 92): buildSlice
              refine MonoR.step (Pv.sl (encP) TT [(ea, eb)]) [(19, 91)] (by kernel_rfl) (fun w' hw' => ?_) ?_
              · intro x91 h91
                have e91 : x91 = .agg #[.int .u64 ea, .int .u64 eb] := h91
                clear h91
                subst e91
                refine ask_do rfl fun K hK => ?_
                go_simp
                exact hK _ _ rfl (Sl.build [[.int .u64 ea, .int .u64 eb]] rfl ⟨⟨rfl, HU.out⟩, trivial⟩ rfl (by decide)) (World.grownBy_alloc w' _ none)
              
              intro w5 hw5
              intro y0 k0 y1 k1 y2 k2 y3 k3 y4 k4 y5 k5 y6 k6 y7 k7 y8 k8 y9 k9 y10 k10 y11 k11 y12 k12 y13 k13 y14 k14 y15 k15 y16 k16 y17 k17 y18 k18 y19 k19 y20 h20
              show wpList Tryz.prog _ _ _ _ w5
              simp only [Act.put, List.setIfInBounds_toArray, List.set_cons_zero, List.set_cons_succ]
              have e0 : y0 = .slice A14 n14 c14 := k0
              subst e0
              obtain ⟨A20, c20, e20, _, _⟩ := h20.form
              have e20 : y20 = .slice A20 1 c20 := e20
              subst e20
              have HA5 := Lib.hid (HAw.out.kept hw5)
              have HG5 : Hid (wj.grownBy w5 none) := Lib.hid (HGw.out.trans hw5)
              have HS20 : Hid (Sl encP TT w5 (.slice A20 1 c20) [(ea, eb)]) := Lib.hid h20
              clear k0 k1 k2 k3 k4 k5 k6 k7 k8 k9 k10 k11 k12 k13 k14 k15 k16 k17 k18 k19 h20 hw5
              refine wpList_apps rfl (.tmp 72) (.tmp 92) rfl (E := encP) el_pair HA5.out rfl rfl HS20.out (fun _ _ h => h) HLC.out HG5.out.size (fun g hg => Nat.le_trans HG5.out.size hg) ?_
              intro v6 w6 ha hgr _
              have HFIN : Hid (Acc encP wj.heap.size 58 (fun b => wj.heap.size ≤ b) w6 v6 (evsI p F R i (s + 1)) ∧ wj.grownBy w6 none) := Lib.hid ⟨by rw [HSN.out]; exact ha, grown_up HG5.out hgr (fun g he => (HA5.out.lt g he).1)⟩
              clear ha hgr
              go_wp2_with fail
              go_roundg q
              case measure => omega
              case rel => exact ⟨s + 1, by omega, by go_num, HFIN⟩
    | succ m =>
      have hin : (s : Int) < (L : Int) := by omega
      have hs0 : (0 : Int) ≤ (s : Int) := Int.natCast_nonneg s
      have hsl : s < l.length := by have := HLN.out; omega
      obtain ⟨gl, ol, cl, el, _, _, hcl, hul⟩ := (HLX.out _ HG3.out).atU hsl
      injection el with el1 el2 el3
      subst el1 el3
      obtain ⟨kb, hkb⟩ : ∃ y, y = k0 + s * 3 := ⟨_, rfl⟩
      have hkm : kb + 3 ≤ most := by
        have h1 : (s + 1) * 3 ≤ L * 3 := Nat.mul_le_mul_right _ (by omega)
        have h2 := HMO.out
        omega
      have HKN : Hid (k0 + (s + 1) * 3 = kb + 1 + 2) := Lib.hid (by omega)
      have HFN : Hid (dealFs l p.Q dr 1 k0 (s + 1) = dealFs l p.Q dr 1 k0 s ++ [l[s] % p.Q :: drL dr 1 kb]) := Lib.hid (by
        rw [hkb]
        refine (dsnoc _ _).trans ?_
        show _ ++ [behI (l[s]?.getD 0) p.Q dr 1 (k0 + s * 3)] = _
        rw [List.getElem?_eq_getElem hsl]
        rfl)
      have HRN : Hid (rdealRs dr 1 k0 (s + 1) = rdealRs dr 1 k0 s ++ [drL dr 2 (kb + 1)]) := Lib.hid (by
        rw [hkb]
        exact dsnoc _ _)
      rw [← hkb] at HI3
      obtain ⟨x, hx⟩ : ∃ y, y = l[s] := ⟨_, rfl⟩
      rw [← hx] at HFN hcl hul
      obtain ⟨x0, x1⟩ := hul
      have hmod : Int.tmod x p.Q = x % p.Q := Int.tmod_eq_emod_of_nonneg x0
      obtain ⟨z, hz⟩ : ∃ y, y = x % p.Q := ⟨_, rfl⟩
      have HZ : Hid (U64 z) := Lib.hid (by rw [hz]; exact ⟨Int.emod_nonneg _ hq0, by have := HQ.out.1.2; have := Int.emod_lt_of_pos x HQ.out.2; omega⟩)
      have hzw : IntKind.u64.wrap z = z := IntWalk.u64_in _ (by have := HZ.out; obtain ⟨a, b⟩ := this; omega)
      rw [← hz] at hmod HFN
      have HGd : Hid (wr.grownBy wr.drew none) := Lib.hid (grown_drewN' wr 1)
      have HGW2 : Hid (w2.grownBy wr.drew (some g)) := Lib.hid (HG3.out.trans (HGd.out.but _))
      obtain ⟨A9, n9, c9, rfl⟩ := HS0.out.fst.sl.shape
      obtain ⟨A10, n10, c10, rfl⟩ := HS0.out.snd.sl.shape
      obtain ⟨N0, hN0⟩ : ∃ y, y = wr.drew.heap.size := ⟨_, rfl⟩
      have HN0 : Hid (N0 = wr.drew.heap.size ∧ g < N0 ∧ w2.heap.size ≤ N0 ∧ (∀ b, bl b → b < w2.heap.size)) := Lib.hid ⟨hN0, by rw [hN0]; have := HW2.out; have := HGW2.out.size; omega, by rw [hN0]; exact HGW2.out.size, fun b hb => by have := HOB.out b hb; have := HW2.out.1; omega⟩
      have HOW : Hid ((∀ b, (Value.slice A9 n9 c9).ownBlock = some b → b < N0) ∧ (∀ b, (Value.slice A10 n10 c10).ownBlock = some b → b < N0)) := Lib.hid (by rw [hN0]; exact ⟨fun b e => (HS0.out.fst.lt b e).2, fun b e => (HS0.out.snd.lt b e).2⟩)
      obtain ⟨xs, hxs⟩ : ∃ y, y = dealFs l p.Q dr 1 k0 s := ⟨_, rfl⟩
      obtain ⟨ys, hys⟩ : ∃ y, y = rdealRs dr 1 k0 s := ⟨_, rfl⟩
      have HLX1 : Hid ((xs.length + 1) * 24 ≤ 140737488355328 ∧ (ys.length + 1) * 24 ≤ 140737488355328) := Lib.hid (by rw [hxs, hys]; simp [dealFs, rdealRs]; omega)
      rw [← hxs, ← hys] at HS0
      rw [← hxs] at HFN
      rw [← hys] at HRN
      have HC0 : Hid ((mdLt w2 N0 g TI HTI.out kb 1 z (drL dr 1 kb) (.slice A9 n9 c9) (.slice A10 n10 c10) xs ys).C [] wr.drew) := Lib.hid ⟨⟨HGW2.out, by rw [hN0]; exact Nat.le_refl _⟩, HTI.out _ _ _ HI3.out HGd.out, (HS0.out.kept HGd.out).wide fun b hb hx => ⟨hx, by rw [hN0]; exact hb⟩⟩
      have HLD : Hid (∀ vs W, (mdLt w2 N0 g TI HTI.out kb 1 z (drL dr 1 kb) (.slice A9 n9 c9) (.slice A10 n10 c10) xs ys).C vs W → W.cell? ⟨w.heap.size, 1, none⟩ = some (.int .u64 p.Q) ∧ W.cell? ⟨w.heap.size, 6, none⟩ = some (.int .i64 1) ∧ W.cell? ⟨gl, ol + s, none⟩ = some (.int .u64 x)) := Lib.hid (fun vs W hC => by
        obtain ⟨q0, q1, q2⟩ := HPC.out W hC.1.1
        obtain ⟨gl', ol', cl', el', _, _, hcl', _⟩ := (HLX.out W hC.1.1).atU hsl
        injection el' with e1 e2 e3
        injection e1 with e1
        injection e1 with e1 e4
        subst e1 e4
        rw [← hx] at hcl'
        exact ⟨q0, q1, hcl'⟩)
      clear hz hxs hys hcl hkb el2 hN0 hx hsl HS0 HI3
      go_upto_region 7 with (fail)
      refine wp_region_late (mdLt w2 N0 g TI HTI.out kb 1 z (drL dr 1 kb) (.slice A9 n9 c9) (.slice A10 n10 c10) xs ys) [14, 15, 17] 18 (by kernel_rfl) (by kernel_rfl) (by kernel_rfl) HC0.out ?_
      -- op 0 (slot 32): move
      refine LateR.mono (Qv.eq (.slice A9 n9 c9)) [] (by kernel_rfl) (by rfl) rfl (fun vs w' hC => ?_) ?_
      · refine askl_do rfl fun K hK => ?_
        go_simp
        exact hK _ _ rfl ⟨rfl, World.grownBy.refl _ none⟩
      -- op 1 (slot 33): move
      refine LateR.mono (Qv.eq (.slice (some ⟨gl, ol, none⟩) L c)) [] (by kernel_rfl) (by rfl) rfl (fun vs w' hC => ?_) ?_
      · refine askl_do rfl fun K hK => ?_
        go_simp
        exact hK _ _ rfl ⟨rfl, World.grownBy.refl _ none⟩
      -- op 2 (slot 34): move
      refine LateR.mono (Qv.eq (.int .i64 (s : Int))) [] (by kernel_rfl) (by rfl) rfl (fun vs w' hC => ?_) ?_
      · refine askl_do rfl fun K hK => ?_
        go_simp
        exact hK _ _ rfl ⟨rfl, World.grownBy.refl _ none⟩
      -- op 3 (slot 35): indexAddr
      refine LateR.mono (Qv.eq (.pointer (some ⟨gl, ol + s, none⟩))) [(1, 33), (2, 34)] (by kernel_rfl) (by rfl) rfl (fun vs w' hC => ?_) ?_
      · intro x33 h33
        intro x34 h34
        have e33 : x33 = .slice (some ⟨gl, ol, none⟩) L c := h33
        clear h33
        subst e33
        have e34 : x34 = .int .i64 (s : Int) := h34
        clear h34
        subst e34
        refine askl_do rfl fun K hK => ?_
        go_simp
        exact hK _ _ rfl ⟨rfl, World.grownBy.refl _ none⟩
      -- op 4 (slot 36): load
      refine LateR.mono (Qv.eq (.int .u64 x)) [(3, 35)] (by kernel_rfl) (by rfl) rfl (fun vs w' hC => ?_) ?_
      · intro x35 h35
        have e35 : x35 = .pointer (some ⟨gl, ol + s, none⟩) := h35
        clear h35
        subst e35
        refine askl_do rfl fun K hK => ?_
        obtain ⟨q0, q1, q2⟩ := HLD.out vs w' hC
        go_simp
        exact hK _ _ rfl ⟨rfl, World.grownBy.refl _ none⟩
      -- op 5 (slot 37): fieldAddr
      refine LateR.mono (Qv.eq (.pointer (some ⟨w.heap.size, 1, none⟩))) [] (by kernel_rfl) (by rfl) rfl (fun vs w' hC => ?_) ?_
      · refine askl_do rfl fun K hK => ?_
        go_simp
        exact hK _ _ rfl ⟨rfl, World.grownBy.refl _ none⟩
      -- op 6 (slot 38): load
      refine LateR.mono (Qv.eq (.int .u64 p.Q)) [(5, 37)] (by kernel_rfl) (by rfl) rfl (fun vs w' hC => ?_) ?_
      · intro x37 h37
        have e37 : x37 = .pointer (some ⟨w.heap.size, 1, none⟩) := h37
        clear h37
        subst e37
        refine askl_do rfl fun K hK => ?_
        obtain ⟨q0, q1, q2⟩ := HLD.out vs w' hC
        go_simp
        exact hK _ _ rfl ⟨rfl, World.grownBy.refl _ none⟩
      -- op 7 (slot 39): binOp
      refine LateR.mono (Qv.eq (.int .u64 z)) [(4, 36), (6, 38)] (by kernel_rfl) (by rfl) rfl (fun vs w' hC => ?_) ?_
      · intro x36 h36
        intro x38 h38
        have e36 : x36 = .int .u64 x := h36
        clear h36
        subst e36
        have e38 : x38 = .int .u64 p.Q := h38
        clear h38
        subst e38
        refine askl_do rfl fun K hK => ?_
        go_simp
        exact hK _ _ rfl ⟨rfl, World.grownBy.refl _ none⟩
      -- op 8 (slot 40): buildSlice
      refine LateR.mono (mdQ HN0.out.2.1) [(7, 39)] (by kernel_rfl) (by rfl) rfl (fun vs w' hC => ?_) ?_
      · intro x39 h39
        have e39 : x39 = .int .u64 z := h39
        clear h39
        subst e39
        refine askl_do rfl fun K hK => ?_
        have hsz := hC.1.2
        go_simp
        exact hK _ _ rfl ⟨fun _ => Acc.made1 w' _ hsz _ hsz z HZ.out, World.grownBy_alloc w' _ none⟩
      -- op 9 (slot 41): move
      refine LateR.mono (Qv.eq (.pointer pa)) [] (by kernel_rfl) (by rfl) rfl (fun vs w' hC => ?_) ?_
      · refine askl_do rfl fun K hK => ?_
        go_simp
        exact hK _ _ rfl ⟨rfl, World.grownBy.refl _ none⟩
      -- op 10 (slot 42): fieldAddr
      refine LateR.mono (Qv.eq (.pointer (some ⟨w.heap.size, 6, none⟩))) [] (by kernel_rfl) (by rfl) rfl (fun vs w' hC => ?_) ?_
      · refine askl_do rfl fun K hK => ?_
        go_simp
        exact hK _ _ rfl ⟨rfl, World.grownBy.refl _ none⟩
      -- op 11 (slot 43): load
      refine LateR.mono (Qv.eq (.int .i64 1)) [(10, 42)] (by kernel_rfl) (by rfl) rfl (fun vs w' hC => ?_) ?_
      · intro x42 h42
        have e42 : x42 = .pointer (some ⟨w.heap.size, 6, none⟩) := h42
        clear h42
        subst e42
        refine askl_do rfl fun K hK => ?_
        obtain ⟨q0, q1, q2⟩ := HLD.out vs w' hC
        go_simp
        exact hK _ _ rfl ⟨rfl, World.grownBy.refl _ none⟩
      -- op 12 (slot 44): fieldAddr
      refine LateR.mono (Qv.eq (.pointer (some ⟨w.heap.size, 1, none⟩))) [] (by kernel_rfl) (by rfl) rfl (fun vs w' hC => ?_) ?_
      · refine askl_do rfl fun K hK => ?_
        go_simp
        exact hK _ _ rfl ⟨rfl, World.grownBy.refl _ none⟩
      -- op 13 (slot 45): load
      refine LateR.mono (Qv.eq (.int .u64 p.Q)) [(12, 44)] (by kernel_rfl) (by rfl) rfl (fun vs w' hC => ?_) ?_
      · intro x44 h44
        have e44 : x44 = .pointer (some ⟨w.heap.size, 1, none⟩) := h44
        clear h44
        subst e44
        refine askl_do rfl fun K hK => ?_
        obtain ⟨q0, q1, q2⟩ := HLD.out vs w' hC
        go_simp
        exact hK _ _ rfl ⟨rfl, World.grownBy.refl _ none⟩
      -- op 14 (slot 46): call
      refine LateR.turn 0 [(9, 41), (11, 43), (13, 45)] (by kernel_rfl) rfl (fun vs w' hl hC => ?_) ?_
      · intro x41 h41
        intro x43 h43
        intro x45 h45
        have e41 : x41 = .pointer pa := h41
        clear h41
        subst e41
        have e43 : x43 = .int .i64 1 := h43
        clear h43
        subst e43
        have e45 : x45 = .int .u64 p.Q := h45
        clear h45
        subst e45
        refine askl_do rfl fun K hK => ?_
        obtain rfl : vs = [] := List.eq_nil_of_length_eq_zero hl
        obtain ⟨⟨g1, g2⟩, g3, g4⟩ := hC
        go_simp
        refine (HDR.out 1 kb w' (by decide) (by omega) g3).mono ?_
        rintro e w3 ⟨v3, rfl, hs3, hi3, hg3⟩
        exact hK _ _ rfl ⟨fun _ => hg3, ⟨g1.trans hg3, Nat.le_trans g2 hg3.size⟩, hi3, g4.keep hg3 (fun b hb e => by injection e with e; have := HW2.out; have := hb.1; omega), hs3.more fun b _ hb => Nat.le_trans g2 hb⟩
      -- op 15 (slot 47): call
      refine LateR.turn 1 [(8, 40), (14, 46)] (by kernel_rfl) rfl (fun vs w' hl hC => ?_) ?_
      · intro x40 h40
        have h40 : vs.length ≤ 1 → Acc encU N0 22 (fun b => N0 ≤ b) w' x40 [z] := h40
        intro x46 h46
        refine askl_do rfl fun K hK => ?_
        obtain ⟨u, rfl⟩ : ∃ u, vs = [u] := List.length_eq_one_iff.1 hl
        obtain ⟨⟨g1, g2⟩, g3, g4, g5⟩ := hC
        have e46 : some u = some x46 := h46
        injection e46 with e46
        subst e46
        have ha40 := h40 (Nat.le_refl 1)
        obtain ⟨A46, n46, c46, rfl⟩ := g5.shape
        obtain ⟨A46', c46', e46, _, _⟩ := g5.form
        refine apps_core (E := encU) el_u64 ha40 (by rw [e46] at g5 ⊢; exact g5) (Z := fun b => N0 ≤ b) (fun _ _ h => h) (by simp [drL_len]) g2 (fun b hb => Nat.le_trans g2 hb) (.tmp 40) (.tmp 46) rfl rfl rfl ?_
        intro v3 w3 ha hgr hm
        have hb0 : ∀ b, x40.ownBlock = some b → N0 ≤ b := fun b e => (ha40.lt b e).1
        exact hK _ _ rfl ⟨fun e => absurd e (by decide), ⟨g1.andThen hgr (fun b e => .inl (Nat.le_trans HN0.out.2.2.1 (hb0 b e))), Nat.le_trans g2 hgr.size⟩, HT.out.keep g3 hgr (fun b e hb => by have := hb0 b e; have := HN0.out.2.2.2 b hb; have := HN0.out.2.2.1; omega), g4.keep hgr (fun b hb e => by have h1 := hb0 b e.symm; have h2 := hb.2; omega), ha.sl⟩
      -- op 16 (slot 48): buildSlice
      refine LateR.mono (mdS) [(15, 47)] (by kernel_rfl) (by rfl) rfl (fun vs w' hC => ?_) ?_
      · intro x47 h47
        refine askl_do rfl fun K hK => ?_
        obtain ⟨A47, n47, c47, e47⟩ := mdLt_shape hC h47
        subst e47
        go_simp
        exact hK _ _ rfl ⟨fun e => ⟨_, _, h47, rfl, Bk.new w' _ _⟩, World.grownBy_alloc w' _ none⟩
      -- op 17 (slot 49): call
      refine LateR.turn 2 [(0, 32), (16, 48)] (by kernel_rfl) rfl (fun vs w' hl hC => ?_) ?_
      · intro x32 h32
        intro x48 h48
        have h48 : vs.length ≤ 2 → ∃ u b, vs[1]? = some u ∧ x48 = .slice (some ⟨b, 0, none⟩) 1 1 ∧ Bk w' b 25 #[u] := h48
        have e32 : x32 = .slice A9 n9 c9 := h32
        clear h32
        subst e32
        refine askl_do rfl fun K hK => ?_
        obtain ⟨u1, u, rfl⟩ : ∃ u1 u, vs = [u1, u] := by
          match vs, hl with
          | [a, b], _ => exact ⟨a, b, rfl⟩
        obtain ⟨⟨g1, g2⟩, g3, g4', g5⟩ := hC
        have g4 := g4'.wide (Y := fun b => w2.heap.size ≤ b) fun b _ hb => hb.1
        obtain ⟨u', b48, e47, e48, hk48⟩ := h48 (Nat.le_refl 2)
        have e47 : some u = some u' := e47
        injection e47 with e47
        subst e47 e48
        have HREP : (encS encU).rep (fun b => (w2.heap.size ≤ b ∧ some b ≠ (Value.slice A10 n10 c10).ownBlock) ∧ some b ≠ (Value.slice A9 n9 c9).ownBlock) w' [u] (z :: drL dr 1 kb) := ⟨_, rfl, g5.more fun b _ hb => ⟨⟨Nat.le_trans HN0.out.2.2.1 hb, fun e => absurd hb (Nat.not_le_of_lt (HOW.out.2 b e.symm))⟩, fun e => absurd hb (Nat.not_le_of_lt (HOW.out.1 b e.symm))⟩⟩
        refine pushAt_core (E := encS encU) (y := z :: drL dr 1 kb) el_nums g4.fst HREP (Bk.one hk48) HLX1.out.1 g1.size (g4.new1 (fun _ h => Nat.le_trans g1.size h)) (.tmp 32) (.tmp 48) rfl rfl rfl ?_
        intro v3 w3 ha hgr hm
        exact hK _ _ rfl ⟨fun e => absurd e (by decide), ⟨g1.andThen hgr (fun b e => .inl (g4.fst.lt b e).1), Nat.le_trans g2 hgr.size⟩, g5.shape, HT.out.keep g3 hgr (fun b e hb => by have := (g4.fst.lt b e).1; have := HN0.out.2.2.2 b hb; omega), g4.one ha hgr hm⟩
      intro vs w5 hvl hC5
      obtain ⟨v1, v2, v3, rfl⟩ : ∃ v1 v2 v3, vs = [v1, v2, v3] := by
        match vs, hvl with
        | [a, b, c], _ => exact ⟨a, b, c, rfl⟩
      intro y0 k0 y1 k1 y2 k2 y3 k3 y4 k4 y5 k5 y6 k6 y7 k7 y8 k8 y9 k9 y10 k10 y11 k11 y12 k12 y13 k13 y14 k14 y15 k15 y16 k16 y17 k17
      show wpList Tryz.prog _ _ _ _ w5
      simp only [Act.put, List.setIfInBounds_toArray, List.set_cons_zero, List.set_cons_succ]
      have e17 : y17 = v3 := by have : some v3 = some y17 := k17; injection this with this; exact this.symm
      subst e17
      obtain ⟨⟨g1, g2⟩, _, g3, g4⟩ := hC5
      have HG5 : Hid (w2.grownBy w5 (some g)) := Lib.hid g1
      have HI5 : Hid (TI (kb + 1) w5) := Lib.hid g3
      rw [← HFN.out] at g4
      have HS5 := Lib.hid g4
      clear g1 g2 g3 g4 k0 k1 k2 k3 k4 k5 k6 k7 k8 k9 k10 k11 k12 k13 k14 k15 k16 k17 HC0 HLD HN0 HOW
      obtain ⟨q0, q1, q2⟩ := HPC.out w5 HG5.out
      have HD5 := Lib.hid (HDR.out 2 (kb + 1) w5 (by decide) (by omega) HI5.out)
      go_wp2_with fail
      refine HD5.out.mono ?_
      rintro e w6 ⟨v57, rfl, hs6, hi6, hg6⟩
      obtain ⟨A57, n57, c57, rfl⟩ := hs6.shape
      have HG6 : Hid (w2.grownBy w6 (some g)) := Lib.hid (HG5.out.trans hg6)
      have HI6 : Hid (TI (k0 + (s + 1) * 3) w6) := Lib.hid (by rw [HKN.out]; exact hi6)
      have HS6 := Lib.hid (HS5.out.keep hg6 (fun b hb e => by injection e with e; have := HW2.out; omega))
      have HREP : Hid ((encS encU).rep (fun b => (w2.heap.size ≤ b ∧ some b ≠ y17.ownBlock) ∧ some b ≠ (Value.slice A10 n10 c10).ownBlock) w6 [.slice A57 n57 c57] (drL dr 2 (kb + 1))) := Lib.hid ⟨_, rfl, hs6.more fun b _ hb => ⟨⟨Nat.le_trans HG5.out.size hb, fun e => absurd hb (Nat.not_le_of_lt (HS5.out.fst.lt b e.symm).2)⟩, fun e => absurd hb (Nat.not_le_of_lt (HS5.out.snd.lt b e.symm).2)⟩⟩
      have HZ6 : Hid (w2.heap.size ≤ w6.heap.size ∧ ∀ b, bl b → b < w2.heap.size) := Lib.hid ⟨HG6.out.size, fun b hb => by have := HOB.out b hb; have := HW2.out.1; omega⟩
      clear hs6 hi6 hg6 q0 q1 q2 HD5 HS5
      go_wp2_with (at_builtin; refine wpList_push rfl (.tmp 50) (.tmp 58) rfl (E := encS encU) (y := drL dr 2 (kb + 1)) el_nums HS6.out.snd rfl rfl HREP.out HLX1.out.2 HZ6.out.1 (HS6.out.new2 (fun _ h => Nat.le_trans HZ6.out.1 h)) ?_)
      intro v11 w7 ha hg hm
      have HFIN : Hid (Side (encS encU) (encS encU) w2.heap.size 25 25 (fun b => w2.heap.size ≤ b) w7 y17 v11 (dealFs l p.Q dr 1 k0 (s + 1)) (rdealRs dr 1 k0 (s + 1)) ∧ TI (k0 + (s + 1) * 3) w7 ∧ w2.grownBy w7 (some g)) := Lib.hid ⟨by rw [HRN.out]; exact HS6.out.two ha hg hm, HT.out.keep HI6.out hg (fun b e hb => by have := (HS6.out.snd.lt b e).1; have := HZ6.out.2 b hb; omega), HG6.out.andThen hg (fun b e => .inl (HS6.out.snd.lt b e).1)⟩
      clear ha hg hm
      go_wp2_with fail
      go_roundg m
      case measure => omega
      case rel => exact ⟨s + 1, by omega, by go_num, HFIN⟩
end Go.Proofs.YtphbcfpiklmmeaaGreatDoor

namespace Go.Proofs.YtphbcfpiklmmeaaGreatDoor
open Go Go.RowKit Go.Shelf

set_option maxRecDepth 100000 in
set_option maxHeartbeats 8000000 in
theorem rmodel2_any (p : Par) (vl : Value) (l : List Int) (X : Nat → Prop) (w : World) {pa : Option Addr} {g : Nat} {dr : Nat → Int} {TI : Nat → World → Prop} {bl : Nat → Prop} {most : Nat} (hT : RTp pa g p.Q dr TI bl most) (hp : p.ok) (hm : mayP p = true) (h : Sl encU X w vl l) (hX : ∀ b, X b → b ≠ g) (hl : (l.length : Int) = secretsI p) (k0 : Nat) (hTT : p.T = 2) (hI : TI k0 w) (hmost : k0 + l.length * 5 ≤ most) :
    Calls Tryz.prog 8 #[p.v, vl, .pointer pa] w fun e w' => ∃ vs vc, e = .returned (.tuple #[vs, vc, .int .i64 0]) ∧ Sl (encS encP) (fun b => w.heap.size ≤ b) w' vs ((List.range p.N.toNat).map fun i : Nat => dealtI p (dealFs l p.Q dr 2 k0 l.length) (rdealRs dr 2 k0 l.length) ((i : Int) + 1)) ∧ Sl (encS encU) (fun b => w.heap.size ≤ b) w' vc (comsI p (dealFs l p.Q dr 2 k0 l.length) (rdealRs dr 2 k0 l.length)) ∧ TI (k0 + l.length * 5) w' ∧ w.grownBy w' (some g) := by
  have HT := Lib.hid hT
  have HP := Lib.hid hp
  have HX := Lib.hid hX
  obtain ⟨hq, _, _, n1, n2, n3, t1, t2, t3, hs, kk1, dd1⟩ := may_apart hm
  have hsec := smallB_secrets hs
  have HQ : Hid (U64 p.Q ∧ 0 < p.Q) := Lib.hid ⟨hp.Q, mayB_pos hq⟩
  have hL10 : l.length ≤ 10 := by omega
  obtain ⟨NN, hN⟩ : ∃ k : Nat, (k : Int) = p.N := ⟨p.N.toNat, by omega⟩
  have hNt : p.N.toNat = NN := by omega
  have hN7 : NN ≤ 7 := by omega
  have HN := Lib.hid hN
  have hGW : g < w.heap.size := hT.old hI hT.own
  have HGW := Lib.hid hGW
  have HOB : Hid (∀ b, bl b → b < w.heap.size) := Lib.hid (fun b hb => hT.old hI hb)
  obtain ⟨w0, hw0⟩ : ∃ y, y = w.alloc (Obj.cells p.cells 24) := ⟨_, rfl⟩
  have HG0 : Hid (w.grownBy w0 none) := Lib.hid (by rw [hw0]; exact World.grownBy_alloc w _ none)
  have HB0 : Hid (Bk w0 w.heap.size 24 p.cells) := Lib.hid (by rw [hw0]; exact Bk.new w _ _)
  have HI0 : Hid (TI k0 w0) := Lib.hid (hT.keep hI HG0.out (by simp))
  have HMY := Lib.hid (fun W => rmay_any p W hp)
  rw [← may_same p, hm] at HMY
  have HSEC := Lib.hid (rsecrets_any p)
  rw [← hl] at HSEC
  have HL := Lib.hid (h.kept HG0.out)
  have HTP := Lib.hid hTT
  have HMO := Lib.hid hmost
  have HTI : Hid (∀ k w w', TI k w → w.grownBy w' none → TI k w') := Lib.hid (fun k w w' h hg => hT.keep h hg (by simp))
  obtain ⟨A, c, rfl, hl1, hl2⟩ := h.form
  have hq0 : ¬ p.Q = 0 := by have := HQ.out.2; omega
  have hq1 : (p.Q == 0) = false := by simpa using hq0
  rw [hNt]
  clear hT hp hX hq n1 n2 n3 t1 t2 t3 hs kk1 dd1 hsec hm h hI hTT hmost hl hGW hN hNt
  go_enter Tryz.func8, Tryz.ntmps8
  go_wp2_with fail
  rw [← hw0]
  have hp0 := HB0.out.prule
  clear hw0
  go_wp2_with fail
  refine (HMY.out _).mono ?_
  rintro e w1 ⟨rfl, hg⟩
  have HG1 : Hid (w0.grownBy w1 none) := Lib.hid hg
  have hp1 := (HB0.out.grown hg (by simp)).prule
  clear hg hp0 HMY
  go_wp2_with fail
  refine (HSEC.out _).mono ?_
  rintro e w2 ⟨rfl, hg⟩
  have HG2 : Hid (w0.grownBy w2 none) := Lib.hid (HG1.out.trans hg)
  clear hg hp1 HSEC
  go_wp2_with fail
  have HB2 : Hid (Bk w2 w.heap.size 24 p.cells) := Lib.hid (HB0.out.grown HG2.out (by simp))
  have HI2 : Hid (TI k0 w2) := Lib.hid (HT.out.keep HI0.out HG2.out (by simp))
  have HW2 : Hid (w.heap.size < w2.heap.size ∧ g < w.heap.size) := Lib.hid ⟨HB2.out.lt, HGW.out⟩
  have HPX : Hid (∀ wx, w2.grownBy wx (some g) → Bk wx w.heap.size 24 p.cells) := Lib.hid (fun wx hg => HB2.out.grown hg (fun e => by injection e with e; have := HW2.out.2; omega))
  have HPC : Hid (∀ wx, w2.grownBy wx (some g) → wx.cell? ⟨w.heap.size, 1, none⟩ = some (.int .u64 p.Q) ∧ wx.cell? ⟨w.heap.size, 6, none⟩ = some (.int .i64 2) ∧ wx.cell? ⟨w.heap.size, 5, none⟩ = some (.int .i64 (NN : Int))) := Lib.hid (fun wx hg => by
    have h := (HPX.out wx hg).cell
    exact ⟨h 1, by rw [h 6, ← HTP.out]; rfl, by rw [h 5, HN.out]; rfl⟩)
  have HLX : Hid (∀ wx, w2.grownBy wx (some g) → Sl encU X wx (.slice A l.length c) l) := Lib.hid (fun wx hg => (HL.out.kept HG2.out).keep hg (fun b hb e => HX.out b hb (by injection e with e)))
  have HDR : Hid (∀ (n k : Nat) (W : World), n ≤ 1000 → k + n ≤ most → TI k W → Calls Tryz.prog 36 #[.pointer pa, .int .i64 n, .int .u64 p.Q] W fun e w' => ∃ v, e = .returned v ∧ Sl encU (fun b => W.heap.size ≤ b) w' v (drL dr n k) ∧ TI (k + n) w' ∧ W.grownBy w' (some g)) := Lib.hid (fun n k W hn hk hi => rdraw_any HT.out n k W hn hk hi)
  obtain ⟨L, hLL⟩ : ∃ y, y = l.length := ⟨_, rfl⟩
  have HLN := Lib.hid hLL
  rw [← hLL] at hL10 hl1 HMO HLX ⊢
  clear hLL
  go_loopg [9, 10, 11] L (fun gk s9 s10 s11 wx => ∃ s : Nat, s + gk = L ∧ s11 = .int .i64 s ∧ Hid (Side (encS encU) (encS encU) w2.heap.size 25 25 (fun b => w2.heap.size ≤ b) wx s9 s10 (dealFs l p.Q dr 2 k0 s) (rdealRs dr 2 k0 s) ∧ TI (k0 + s * 5) wx ∧ w2.grownBy wx (some g)))
  case atStart => exact ⟨0, by omega, rfl, Lib.hid ⟨⟨Acc.nil _ _ _ _ _, Acc.nil _ _ _ _ _⟩, by simpa using HI2.out, World.grownBy.refl _ _⟩⟩
  case round =>
    obtain ⟨s, hsL, rfl, HXX⟩ := hrel
    have HS0 := Lib.hid HXX.out.1
    have HI3 := Lib.hid HXX.out.2.1
    have HG3 := Lib.hid HXX.out.2.2
    clear HXX
    cases gk with
    | zero =>
      have eL : L = s := by omega
      subst eL
      have hno : ¬ ((L : Int) < (L : Int)) := by omega
      obtain ⟨F, hF⟩ : ∃ y, y = dealFs l p.Q dr 2 k0 L := ⟨_, rfl⟩
      obtain ⟨R, hR⟩ : ∃ y, y = rdealRs dr 2 k0 L := ⟨_, rfl⟩
      rw [← hF, ← hR] at HS0
      have HFL : Hid (F.length = L ∧ R.length = L) := Lib.hid (by rw [hF, hR]; simp [dealFs, rdealRs])
      have HFT : Hid ((∀ c ∈ F, c.length = 3) ∧ (∀ c ∈ R, c.length = 3)) := Lib.hid (by
        rw [hF, hR]
        refine ⟨fun c hc => ?_, fun c hc => ?_⟩
        · obtain ⟨i, _, rfl⟩ := List.mem_map.1 hc
          exact behI_len _ _ _ _ _
        · obtain ⟨i, _, rfl⟩ := List.mem_map.1 hc
          exact drL_len _ _ _)
      have HFE := Lib.hid hF
      have HRE := Lib.hid hR
      obtain ⟨AF, cF, eF, _, _⟩ := HS0.out.fst.sl.form
      obtain ⟨AR, cR, eR, _, _⟩ := HS0.out.snd.sl.form
      rw [HFL.out.1] at eF
      rw [HFL.out.2] at eR
      subst eF eR
      have HF : Hid (Sl (encS encU) (fun b => w2.heap.size ≤ b) wr (.slice AF L cF) F) := Lib.hid (HS0.out.fst.sl.more fun b _ hb => hb.1)
      have HR : Hid (Sl (encS encU) (fun b => w2.heap.size ≤ b) wr (.slice AR L cR) R) := Lib.hid (HS0.out.snd.sl.more fun b _ hb => hb.1)
      clear HS0 HLX HMO hF hR
      obtain ⟨q0, q1, q2⟩ := HPC.out wr HG3.out
      go_wp2_with fail
      go_loopg [12, 13] NN (fun gk s12 s13 wx => ∃ i : Nat, i + gk = NN ∧ s13 = .int .i64 ((i : Int) + 1) ∧ Hid (Acc (encS encP) wr.heap.size 26 (fun b => wr.heap.size ≤ b) wx s12 ((List.range i).map fun i : Nat => dealtI p F R ((i : Int) + 1)) ∧ wr.grownBy wx none))
      case atStart => exact ⟨0, by omega, rfl, Lib.hid ⟨Acc.nil _ _ _ _ _, World.grownBy.refl _ _⟩⟩
      case round =>
        rename World => wj
        obtain ⟨i, hi, rfl, HY⟩ := hrel
        have HGJ : Hid (w2.grownBy wj (some g)) := Lib.hid (HG3.out.trans (HY.out.2.but _))
        obtain ⟨q0, q1, q2⟩ := HPC.out wj HGJ.out
        cases gk with
        | zero =>
          have eN : NN = i := by omega
          subst eN
          have hno2 : ¬ ((NN : Int) + 1 ≤ p.N) := by have := HN.out; omega
          clear q0 q1 q2
          obtain ⟨As, ns, cs, rfl⟩ := HY.out.1.sl.shape
          have HCO := Lib.hid (rcoms_sq p (.slice AF L cF) (.slice AR L cR) F R L 3 (fun b => w2.heap.size ≤ b) wj HP.out (HF.out.kept HY.out.2) (HR.out.kept HY.out.2) HFL.out.1 HFL.out.2 HFT.out.1 HFT.out.2 (by omega) (by decide))
          have hpj := (HPX.out wj HGJ.out).prule
          go_wp2_with fail
          refine HCO.out.mono ?_
          rintro e w5 ⟨vc, rfl, hsc, hgc⟩
          have HFIN : Hid (Sl (encS encP) (fun b => w.heap.size ≤ b) w5 (.slice As ns cs) ((List.range NN).map fun i : Nat => dealtI p F R ((i : Int) + 1)) ∧ Sl (encS encU) (fun b => w.heap.size ≤ b) w5 vc (comsI p F R) ∧ TI (k0 + L * 5) w5 ∧ w.grownBy w5 (some g)) := Lib.hid (by
            have z1 := HW2.out.1
            have z2 := HG3.out.size
            have z3 := HY.out.2.size
            exact ⟨(HY.out.1.sl.kept hgc).more fun b _ hb => by omega, hsc.more fun b _ hb => by omega, HTI.out _ _ _ HI3.out (HY.out.2.trans hgc), (HG0.out.trans HG2.out).but _ |>.trans (HGJ.out.trans (hgc.but _))⟩)
          rw [HFE.out, HRE.out] at HFIN
          clear hsc hgc hpj HY
          go_wp2
          go_ret3
          refine ⟨_, _, rfl, ?_⟩
          rw [← HLN.out]
          exact HFIN.out
        | succ m =>
          have hiN : (i : Int) + 1 ≤ (NN : Int) := by omega
          have HAJ := Lib.hid HY.out.1
          have HGK := Lib.hid HY.out.2
          have HLN2 : Hid ((((List.range i).map fun i : Nat => dealtI p F R ((i : Int) + 1)).length + 1) * 24 ≤ 140737488355328) := Lib.hid (by simp; omega)
          have HHN : Hid ((List.range (i + 1)).map (fun i : Nat => dealtI p F R ((i : Int) + 1)) = (List.range i).map (fun i : Nat => dealtI p F R ((i : Int) + 1)) ++ [dealtI p F R ((i : Int) + 1)]) := Lib.hid (hsnoc _ _)
          clear HY
          go_wp2_with fail
          go_loopg [14, 15] L (fun gk s14 s15 wx => ∃ s : Nat, s + gk = L ∧ s15 = .int .i64 s ∧ Hid (Acc encP wj.heap.size 58 (fun b => wj.heap.size ≤ b) wx s14 (evsI p F R i s) ∧ wj.grownBy wx none))
          case atStart => exact ⟨0, by omega, rfl, Lib.hid ⟨Acc.nil _ _ _ _ _, World.grownBy.refl _ _⟩⟩
          case round =>
            rename World => wi
            obtain ⟨s, hs, rfl, HZ⟩ := hrel
            have HGI : Hid (wr.grownBy wi none) := Lib.hid (HGK.out.trans HZ.out.2)
            cases gk with
            | zero =>
              have eL : L = s := by omega
              subst eL
              obtain ⟨A5, n5, c5, rfl⟩ := HZ.out.1.sl.shape
              have HAO := Lib.hid (HAJ.out.kept HZ.out.2)
              have HREP : Hid (Enc.rep (encS encP) (fun b => wr.heap.size ≤ b ∧ some b ≠ u12.ownBlock) wi [.slice A5 n5 c5] (dealtI p F R ((i : Int) + 1))) := Lib.hid ⟨_, rfl, by
                have h := HZ.out.1.sl
                rw [← HFL.out.1, evsI_all] at h
                exact h.fresh HGK.out HAJ.out⟩
              clear HZ
              go_wp2_with (at_builtin; refine wpList_pushG rfl (.tmp 94) (.tmp 96) rfl (E := encS encP) el_pairs HGI.out HAO.out (fun _ h => h) HREP.out HLN2.out rfl rfl ?_)
              intro v3 w3 ha hg hgo
              have HFIN : Hid (Acc (encS encP) wr.heap.size 26 (fun b => wr.heap.size ≤ b) w3 v3 ((List.range (i + 1)).map fun i : Nat => dealtI p F R ((i : Int) + 1)) ∧ wr.grownBy w3 none) := Lib.hid ⟨by rw [HHN.out]; exact ha, hg⟩
              clear ha hg hgo
              go_wp2_with fail
              go_roundg m
              case measure => omega
              case rel => exact ⟨i + 1, by omega, by go_num, HFIN⟩
            | succ q =>
              have hsI : (s : Int) < (L : Int) := by omega
              have hs0 : (0 : Int) ≤ (s : Int) := Int.natCast_nonneg s
              have hsF : s < F.length := by rw [HFL.out.1]; omega
              have hsR : s < R.length := by rw [HFL.out.2]; omega
              obtain ⟨gF, oF, cF', uF, eF, z1, z2, hcF, hslF⟩ := (HF.out.kept HGI.out).atS hsF
              clear z1 z2
              injection eF with eF1 eF2 eF3
              clear eF2
              subst eF1 eF3
              obtain ⟨gR, oR, cR', uR, eR, z1, z2, hcR, hslR⟩ := (HR.out.kept HGI.out).atS hsR
              clear z1 z2
              injection eR with eR1 eR2 eR3
              clear eR2
              subst eR1 eR3
              obtain ⟨Af, nf, cf, rfl⟩ := hslF.shape
              obtain ⟨Ar, nr, cr, rfl⟩ := hslR.shape
              have HI1 : Hid (U64 ((i : Int) + 1)) := Lib.hid ⟨by omega, by omega⟩
              have hwi : IntKind.u64.wrap ((i : Int) + 1) = (i : Int) + 1 := IntWalk.u64_in _ (by omega)
              have HGw : Hid (wj.grownBy wi.drew none) := Lib.hid (HZ.out.2.trans (grown_drewN' wi 1))
              have HGi : Hid (wr.grownBy wi.drew none) := Lib.hid (HGI.out.trans (grown_drewN' wi 1))
              have HE1 : Hid (∀ W, wi.drew.grownBy W none → Calls Tryz.prog 37 #[.slice Af nf cf, .int .u64 ((i : Int) + 1), .int .u64 p.Q] W fun e w' => e = .returned (.int .u64 (evalI p.Q F[s] ((i : Int) + 1))) ∧ W.grownBy w' none) := Lib.hid (fun W hW => rvalue_any _ F[s] _ _ _ W ((hslF.kept (grown_drewN' wi 1)).kept hW) HI1.out HQ.out.1)
              have HE2 : Hid (∀ W, wi.drew.grownBy W none → Calls Tryz.prog 37 #[.slice Ar nr cr, .int .u64 ((i : Int) + 1), .int .u64 p.Q] W fun e w' => e = .returned (.int .u64 (evalI p.Q R[s] ((i : Int) + 1))) ∧ W.grownBy w' none) := Lib.hid (fun W hW => rvalue_any _ R[s] _ _ _ W ((hslR.kept (grown_drewN' wi 1)).kept hW) HI1.out HQ.out.1)
              have HSN : Hid (evsI p F R i (s + 1) = evsI p F R i s ++ [(evalI p.Q F[s] ((i : Int) + 1), evalI p.Q R[s] ((i : Int) + 1))]) := Lib.hid (by
                rw [evsI_succ, List.getElem?_eq_getElem hsF, List.getElem?_eq_getElem hsR]
                rfl)
              obtain ⟨ea, hea⟩ : ∃ y, y = evalI p.Q F[s] ((i : Int) + 1) := ⟨_, rfl⟩
              obtain ⟨eb, heb⟩ : ∃ y, y = evalI p.Q R[s] ((i : Int) + 1) := ⟨_, rfl⟩
              have HU : Hid (U64 ea ∧ U64 eb) := Lib.hid (by rw [hea, heb]; exact ⟨evalI_U64 _ _ _, evalI_U64 _ _ _⟩)
              rw [← hea, ← heb] at HSN
              rw [← hea] at HE1
              rw [← heb] at HE2
              have HLD : Hid (∀ W, wi.drew.grownBy W none → W.cell? ⟨w.heap.size, 1, none⟩ = some (.int .u64 p.Q) ∧ W.cell? ⟨gF, oF + s, none⟩ = some (.slice Af nf cf) ∧ W.cell? ⟨gR, oR + s, none⟩ = some (.slice Ar nr cr)) := Lib.hid (fun W hW => ⟨(HPC.out W (HG3.out.trans ((HGi.out.trans hW).but _))).1, cellK hcF ((grown_drewN' wi 1).trans hW) (by simp), cellK hcR ((grown_drewN' wi 1).trans hW) (by simp)⟩)
              obtain ⟨A14, n14, c14, rfl⟩ := HZ.out.1.sl.shape
              have HAw := Lib.hid (HZ.out.1.kept (grown_drewN' wi 1))
              have HLC : Hid (((evsI p F R i s).length + [(ea, eb)].length) * 16 ≤ 140737488355328) := Lib.hid (by simp [evsI]; omega)
              clear hcF hcR hslF hslR hea heb HZ hsF hsR q0 q1 q2
              go_upto_region 17 with (fail)
              refine wp_region_mono 21 (by kernel_rfl) (by kernel_rfl) ?_
              -- op 0 (slot 72): move
              refine MonoR.step (Pv.eq (.slice A14 n14 c14)) [] (by kernel_rfl) (fun w' hw' => ?_) ?_
              · refine ask_do rfl fun K hK => ?_
                go_simp
                exact hK _ _ rfl rfl (World.grownBy.refl _ none)
              -- op 1 (slot 73): move
              refine MonoR.step (Pv.eq (.slice (some ⟨gF, oF, none⟩) L cF)) [] (by kernel_rfl) (fun w' hw' => ?_) ?_
              · refine ask_do rfl fun K hK => ?_
                go_simp
                exact hK _ _ rfl rfl (World.grownBy.refl _ none)
              -- op 2 (slot 74): move
              refine MonoR.step (Pv.eq (.int .i64 (s : Int))) [] (by kernel_rfl) (fun w' hw' => ?_) ?_
              · refine ask_do rfl fun K hK => ?_
                go_simp
                exact hK _ _ rfl rfl (World.grownBy.refl _ none)
              -- op 3 (slot 75): indexAddr
              refine MonoR.step (Pv.eq (.pointer (some ⟨gF, oF + s, none⟩))) [(1, 73), (2, 74)] (by kernel_rfl) (fun w' hw' => ?_) ?_
              · intro x73 h73
                intro x74 h74
                have e73 : x73 = .slice (some ⟨gF, oF, none⟩) L cF := h73
                clear h73
                subst e73
                have e74 : x74 = .int .i64 (s : Int) := h74
                clear h74
                subst e74
                refine ask_do rfl fun K hK => ?_
                go_simp
                exact hK _ _ rfl rfl (World.grownBy.refl _ none)
              -- op 4 (slot 76): load
              refine MonoR.step (Pv.eq (.slice Af nf cf)) [(3, 75)] (by kernel_rfl) (fun w' hw' => ?_) ?_
              · intro x75 h75
                have e75 : x75 = .pointer (some ⟨gF, oF + s, none⟩) := h75
                clear h75
                subst e75
                refine ask_do rfl fun K hK => ?_
                obtain ⟨q0, q1, q2⟩ := HLD.out w' hw'
                go_simp
                exact hK _ _ rfl rfl (World.grownBy.refl _ none)
              -- op 5 (slot 77): move
              refine MonoR.step (Pv.eq (.int .i64 ((i : Int) + 1))) [] (by kernel_rfl) (fun w' hw' => ?_) ?_
              · refine ask_do rfl fun K hK => ?_
                go_simp
                exact hK _ _ rfl rfl (World.grownBy.refl _ none)
              -- op 6 (slot 78): convert
              refine MonoR.step (Pv.eq (.int .u64 ((i : Int) + 1))) [(5, 77)] (by kernel_rfl) (fun w' hw' => ?_) ?_
              · intro x77 h77
                have e77 : x77 = .int .i64 ((i : Int) + 1) := h77
                clear h77
                subst e77
                refine ask_do rfl fun K hK => ?_
                go_simp
                exact hK _ _ rfl rfl (World.grownBy.refl _ none)
              -- op 7 (slot 79): fieldAddr
              refine MonoR.step (Pv.eq (.pointer (some ⟨w.heap.size, 1, none⟩))) [] (by kernel_rfl) (fun w' hw' => ?_) ?_
              · refine ask_do rfl fun K hK => ?_
                go_simp
                exact hK _ _ rfl rfl (World.grownBy.refl _ none)
              -- op 8 (slot 80): load
              refine MonoR.step (Pv.eq (.int .u64 p.Q)) [(7, 79)] (by kernel_rfl) (fun w' hw' => ?_) ?_
              · intro x79 h79
                have e79 : x79 = .pointer (some ⟨w.heap.size, 1, none⟩) := h79
                clear h79
                subst e79
                refine ask_do rfl fun K hK => ?_
                obtain ⟨q0, q1, q2⟩ := HLD.out w' hw'
                go_simp
                exact hK _ _ rfl rfl (World.grownBy.refl _ none)
              -- op 9 (slot 81): call
              refine MonoR.step (Pv.eq (.int .u64 ea)) [(4, 76), (6, 78), (8, 80)] (by kernel_rfl) (fun w' hw' => ?_) ?_
              · intro x76 h76
                intro x78 h78
                intro x80 h80
                have e76 : x76 = .slice Af nf cf := h76
                clear h76
                subst e76
                have e78 : x78 = .int .u64 ((i : Int) + 1) := h78
                clear h78
                subst e78
                have e80 : x80 = .int .u64 p.Q := h80
                clear h80
                subst e80
                refine ask_do rfl fun K hK => ?_
                go_simp
                refine (HE1.out w' hw').mono ?_
                rintro e w3 ⟨rfl, hg⟩
                exact hK _ _ rfl rfl hg
              -- op 10 (slot 82): move
              refine MonoR.step (Pv.eq (.slice (some ⟨gR, oR, none⟩) L cR)) [] (by kernel_rfl) (fun w' hw' => ?_) ?_
              · refine ask_do rfl fun K hK => ?_
                go_simp
                exact hK _ _ rfl rfl (World.grownBy.refl _ none)
              -- op 11 (slot 83): move
              refine MonoR.step (Pv.eq (.int .i64 (s : Int))) [] (by kernel_rfl) (fun w' hw' => ?_) ?_
              · refine ask_do rfl fun K hK => ?_
                go_simp
                exact hK _ _ rfl rfl (World.grownBy.refl _ none)
              -- op 12 (slot 84): indexAddr
              refine MonoR.step (Pv.eq (.pointer (some ⟨gR, oR + s, none⟩))) [(10, 82), (11, 83)] (by kernel_rfl) (fun w' hw' => ?_) ?_
              · intro x82 h82
                intro x83 h83
                have e82 : x82 = .slice (some ⟨gR, oR, none⟩) L cR := h82
                clear h82
                subst e82
                have e83 : x83 = .int .i64 (s : Int) := h83
                clear h83
                subst e83
                refine ask_do rfl fun K hK => ?_
                go_simp
                exact hK _ _ rfl rfl (World.grownBy.refl _ none)
              -- op 13 (slot 85): load
              refine MonoR.step (Pv.eq (.slice Ar nr cr)) [(12, 84)] (by kernel_rfl) (fun w' hw' => ?_) ?_
              · intro x84 h84
                have e84 : x84 = .pointer (some ⟨gR, oR + s, none⟩) := h84
                clear h84
                subst e84
                refine ask_do rfl fun K hK => ?_
                obtain ⟨q0, q1, q2⟩ := HLD.out w' hw'
                go_simp
                exact hK _ _ rfl rfl (World.grownBy.refl _ none)
              -- op 14 (slot 86): move
              refine MonoR.step (Pv.eq (.int .i64 ((i : Int) + 1))) [] (by kernel_rfl) (fun w' hw' => ?_) ?_
              · refine ask_do rfl fun K hK => ?_
                go_simp
                exact hK _ _ rfl rfl (World.grownBy.refl _ none)
              -- op 15 (slot 87): convert
              refine MonoR.step (Pv.eq (.int .u64 ((i : Int) + 1))) [(14, 86)] (by kernel_rfl) (fun w' hw' => ?_) ?_
              · intro x86 h86
                have e86 : x86 = .int .i64 ((i : Int) + 1) := h86
                clear h86
                subst e86
                refine ask_do rfl fun K hK => ?_
                go_simp
                exact hK _ _ rfl rfl (World.grownBy.refl _ none)
              -- op 16 (slot 88): fieldAddr
              refine MonoR.step (Pv.eq (.pointer (some ⟨w.heap.size, 1, none⟩))) [] (by kernel_rfl) (fun w' hw' => ?_) ?_
              · refine ask_do rfl fun K hK => ?_
                go_simp
                exact hK _ _ rfl rfl (World.grownBy.refl _ none)
              -- op 17 (slot 89): load
              refine MonoR.step (Pv.eq (.int .u64 p.Q)) [(16, 88)] (by kernel_rfl) (fun w' hw' => ?_) ?_
              · intro x88 h88
                have e88 : x88 = .pointer (some ⟨w.heap.size, 1, none⟩) := h88
                clear h88
                subst e88
                refine ask_do rfl fun K hK => ?_
                obtain ⟨q0, q1, q2⟩ := HLD.out w' hw'
                go_simp
                exact hK _ _ rfl rfl (World.grownBy.refl _ none)
              -- op 18 (slot 90): call
              refine MonoR.step (Pv.eq (.int .u64 eb)) [(13, 85), (15, 87), (17, 89)] (by kernel_rfl) (fun w' hw' => ?_) ?_
              · intro x85 h85
                intro x87 h87
                intro x89 h89
                have e85 : x85 = .slice Ar nr cr := h85
                clear h85
                subst e85
                have e87 : x87 = .int .u64 ((i : Int) + 1) := h87
                clear h87
                subst e87
                have e89 : x89 = .int .u64 p.Q := h89
                clear h89
                subst e89
                refine ask_do rfl fun K hK => ?_
                go_simp
                refine (HE2.out w' hw').mono ?_
                rintro e w3 ⟨rfl, hg⟩
                exact hK _ _ rfl rfl hg
              -- op 19 (slot 91): build
              refine MonoR.step (Pv.eq (.agg #[.int .u64 ea, .int .u64 eb])) [(9, 81), (18, 90)] (by kernel_rfl) (fun w' hw' => ?_) ?_
              · intro x81 h81
                intro x90 h90
                have e81 : x81 = .int .u64 ea := h81
                clear h81
                subst e81
                have e90 : x90 = .int .u64 eb := h90
                clear h90
                subst e90
                refine ask_do rfl fun K hK => ?_
                go_simp
                exact hK _ _ rfl rfl (World.grownBy.refl _ none)
              -- op 20 (slot 92): buildSlice
              refine MonoR.step (Pv.sl (encP) TT [(ea, eb)]) [(19, 91)] (by kernel_rfl) (fun w' hw' => ?_) ?_
              · intro x91 h91
                have e91 : x91 = .agg #[.int .u64 ea, .int .u64 eb] := h91
                clear h91
                subst e91
                refine ask_do rfl fun K hK => ?_
                go_simp
                exact hK _ _ rfl (Sl.build [[.int .u64 ea, .int .u64 eb]] rfl ⟨⟨rfl, HU.out⟩, trivial⟩ rfl (by decide)) (World.grownBy_alloc w' _ none)
              
              intro w5 hw5
              intro y0 k0 y1 k1 y2 k2 y3 k3 y4 k4 y5 k5 y6 k6 y7 k7 y8 k8 y9 k9 y10 k10 y11 k11 y12 k12 y13 k13 y14 k14 y15 k15 y16 k16 y17 k17 y18 k18 y19 k19 y20 h20
              show wpList Tryz.prog _ _ _ _ w5
              simp only [Act.put, List.setIfInBounds_toArray, List.set_cons_zero, List.set_cons_succ]
              have e0 : y0 = .slice A14 n14 c14 := k0
              subst e0
              obtain ⟨A20, c20, e20, _, _⟩ := h20.form
              have e20 : y20 = .slice A20 1 c20 := e20
              subst e20
              have HA5 := Lib.hid (HAw.out.kept hw5)
              have HG5 : Hid (wj.grownBy w5 none) := Lib.hid (HGw.out.trans hw5)
              have HS20 : Hid (Sl encP TT w5 (.slice A20 1 c20) [(ea, eb)]) := Lib.hid h20
              clear k0 k1 k2 k3 k4 k5 k6 k7 k8 k9 k10 k11 k12 k13 k14 k15 k16 k17 k18 k19 h20 hw5
              refine wpList_apps rfl (.tmp 72) (.tmp 92) rfl (E := encP) el_pair HA5.out rfl rfl HS20.out (fun _ _ h => h) HLC.out HG5.out.size (fun g hg => Nat.le_trans HG5.out.size hg) ?_
              intro v6 w6 ha hgr _
              have HFIN : Hid (Acc encP wj.heap.size 58 (fun b => wj.heap.size ≤ b) w6 v6 (evsI p F R i (s + 1)) ∧ wj.grownBy w6 none) := Lib.hid ⟨by rw [HSN.out]; exact ha, grown_up HG5.out hgr (fun g he => (HA5.out.lt g he).1)⟩
              clear ha hgr
              go_wp2_with fail
              go_roundg q
              case measure => omega
              case rel => exact ⟨s + 1, by omega, by go_num, HFIN⟩
    | succ m =>
      have hin : (s : Int) < (L : Int) := by omega
      have hs0 : (0 : Int) ≤ (s : Int) := Int.natCast_nonneg s
      have hsl : s < l.length := by have := HLN.out; omega
      obtain ⟨gl, ol, cl, el, _, _, hcl, hul⟩ := (HLX.out _ HG3.out).atU hsl
      injection el with el1 el2 el3
      subst el1 el3
      obtain ⟨kb, hkb⟩ : ∃ y, y = k0 + s * 5 := ⟨_, rfl⟩
      have hkm : kb + 5 ≤ most := by
        have h1 : (s + 1) * 5 ≤ L * 5 := Nat.mul_le_mul_right _ (by omega)
        have h2 := HMO.out
        omega
      have HKN : Hid (k0 + (s + 1) * 5 = kb + 2 + 3) := Lib.hid (by omega)
      have HFN : Hid (dealFs l p.Q dr 2 k0 (s + 1) = dealFs l p.Q dr 2 k0 s ++ [l[s] % p.Q :: drL dr 2 kb]) := Lib.hid (by
        rw [hkb]
        refine (dsnoc _ _).trans ?_
        show _ ++ [behI (l[s]?.getD 0) p.Q dr 2 (k0 + s * 5)] = _
        rw [List.getElem?_eq_getElem hsl]
        rfl)
      have HRN : Hid (rdealRs dr 2 k0 (s + 1) = rdealRs dr 2 k0 s ++ [drL dr 3 (kb + 2)]) := Lib.hid (by
        rw [hkb]
        exact dsnoc _ _)
      rw [← hkb] at HI3
      obtain ⟨x, hx⟩ : ∃ y, y = l[s] := ⟨_, rfl⟩
      rw [← hx] at HFN hcl hul
      obtain ⟨x0, x1⟩ := hul
      have hmod : Int.tmod x p.Q = x % p.Q := Int.tmod_eq_emod_of_nonneg x0
      obtain ⟨z, hz⟩ : ∃ y, y = x % p.Q := ⟨_, rfl⟩
      have HZ : Hid (U64 z) := Lib.hid (by rw [hz]; exact ⟨Int.emod_nonneg _ hq0, by have := HQ.out.1.2; have := Int.emod_lt_of_pos x HQ.out.2; omega⟩)
      have hzw : IntKind.u64.wrap z = z := IntWalk.u64_in _ (by have := HZ.out; obtain ⟨a, b⟩ := this; omega)
      rw [← hz] at hmod HFN
      have HGd : Hid (wr.grownBy wr.drew none) := Lib.hid (grown_drewN' wr 1)
      have HGW2 : Hid (w2.grownBy wr.drew (some g)) := Lib.hid (HG3.out.trans (HGd.out.but _))
      obtain ⟨A9, n9, c9, rfl⟩ := HS0.out.fst.sl.shape
      obtain ⟨A10, n10, c10, rfl⟩ := HS0.out.snd.sl.shape
      obtain ⟨N0, hN0⟩ : ∃ y, y = wr.drew.heap.size := ⟨_, rfl⟩
      have HN0 : Hid (N0 = wr.drew.heap.size ∧ g < N0 ∧ w2.heap.size ≤ N0 ∧ (∀ b, bl b → b < w2.heap.size)) := Lib.hid ⟨hN0, by rw [hN0]; have := HW2.out; have := HGW2.out.size; omega, by rw [hN0]; exact HGW2.out.size, fun b hb => by have := HOB.out b hb; have := HW2.out.1; omega⟩
      have HOW : Hid ((∀ b, (Value.slice A9 n9 c9).ownBlock = some b → b < N0) ∧ (∀ b, (Value.slice A10 n10 c10).ownBlock = some b → b < N0)) := Lib.hid (by rw [hN0]; exact ⟨fun b e => (HS0.out.fst.lt b e).2, fun b e => (HS0.out.snd.lt b e).2⟩)
      obtain ⟨xs, hxs⟩ : ∃ y, y = dealFs l p.Q dr 2 k0 s := ⟨_, rfl⟩
      obtain ⟨ys, hys⟩ : ∃ y, y = rdealRs dr 2 k0 s := ⟨_, rfl⟩
      have HLX1 : Hid ((xs.length + 1) * 24 ≤ 140737488355328 ∧ (ys.length + 1) * 24 ≤ 140737488355328) := Lib.hid (by rw [hxs, hys]; simp [dealFs, rdealRs]; omega)
      rw [← hxs, ← hys] at HS0
      rw [← hxs] at HFN
      rw [← hys] at HRN
      have HC0 : Hid ((mdLt w2 N0 g TI HTI.out kb 2 z (drL dr 2 kb) (.slice A9 n9 c9) (.slice A10 n10 c10) xs ys).C [] wr.drew) := Lib.hid ⟨⟨HGW2.out, by rw [hN0]; exact Nat.le_refl _⟩, HTI.out _ _ _ HI3.out HGd.out, (HS0.out.kept HGd.out).wide fun b hb hx => ⟨hx, by rw [hN0]; exact hb⟩⟩
      have HLD : Hid (∀ vs W, (mdLt w2 N0 g TI HTI.out kb 2 z (drL dr 2 kb) (.slice A9 n9 c9) (.slice A10 n10 c10) xs ys).C vs W → W.cell? ⟨w.heap.size, 1, none⟩ = some (.int .u64 p.Q) ∧ W.cell? ⟨w.heap.size, 6, none⟩ = some (.int .i64 2) ∧ W.cell? ⟨gl, ol + s, none⟩ = some (.int .u64 x)) := Lib.hid (fun vs W hC => by
        obtain ⟨q0, q1, q2⟩ := HPC.out W hC.1.1
        obtain ⟨gl', ol', cl', el', _, _, hcl', _⟩ := (HLX.out W hC.1.1).atU hsl
        injection el' with e1 e2 e3
        injection e1 with e1
        injection e1 with e1 e4
        subst e1 e4
        rw [← hx] at hcl'
        exact ⟨q0, q1, hcl'⟩)
      clear hz hxs hys hcl hkb el2 hN0 hx hsl HS0 HI3
      go_upto_region 7 with (fail)
      refine wp_region_late (mdLt w2 N0 g TI HTI.out kb 2 z (drL dr 2 kb) (.slice A9 n9 c9) (.slice A10 n10 c10) xs ys) [14, 15, 17] 18 (by kernel_rfl) (by kernel_rfl) (by kernel_rfl) HC0.out ?_
      -- op 0 (slot 32): move
      refine LateR.mono (Qv.eq (.slice A9 n9 c9)) [] (by kernel_rfl) (by rfl) rfl (fun vs w' hC => ?_) ?_
      · refine askl_do rfl fun K hK => ?_
        go_simp
        exact hK _ _ rfl ⟨rfl, World.grownBy.refl _ none⟩
      -- op 1 (slot 33): move
      refine LateR.mono (Qv.eq (.slice (some ⟨gl, ol, none⟩) L c)) [] (by kernel_rfl) (by rfl) rfl (fun vs w' hC => ?_) ?_
      · refine askl_do rfl fun K hK => ?_
        go_simp
        exact hK _ _ rfl ⟨rfl, World.grownBy.refl _ none⟩
      -- op 2 (slot 34): move
      refine LateR.mono (Qv.eq (.int .i64 (s : Int))) [] (by kernel_rfl) (by rfl) rfl (fun vs w' hC => ?_) ?_
      · refine askl_do rfl fun K hK => ?_
        go_simp
        exact hK _ _ rfl ⟨rfl, World.grownBy.refl _ none⟩
      -- op 3 (slot 35): indexAddr
      refine LateR.mono (Qv.eq (.pointer (some ⟨gl, ol + s, none⟩))) [(1, 33), (2, 34)] (by kernel_rfl) (by rfl) rfl (fun vs w' hC => ?_) ?_
      · intro x33 h33
        intro x34 h34
        have e33 : x33 = .slice (some ⟨gl, ol, none⟩) L c := h33
        clear h33
        subst e33
        have e34 : x34 = .int .i64 (s : Int) := h34
        clear h34
        subst e34
        refine askl_do rfl fun K hK => ?_
        go_simp
        exact hK _ _ rfl ⟨rfl, World.grownBy.refl _ none⟩
      -- op 4 (slot 36): load
      refine LateR.mono (Qv.eq (.int .u64 x)) [(3, 35)] (by kernel_rfl) (by rfl) rfl (fun vs w' hC => ?_) ?_
      · intro x35 h35
        have e35 : x35 = .pointer (some ⟨gl, ol + s, none⟩) := h35
        clear h35
        subst e35
        refine askl_do rfl fun K hK => ?_
        obtain ⟨q0, q1, q2⟩ := HLD.out vs w' hC
        go_simp
        exact hK _ _ rfl ⟨rfl, World.grownBy.refl _ none⟩
      -- op 5 (slot 37): fieldAddr
      refine LateR.mono (Qv.eq (.pointer (some ⟨w.heap.size, 1, none⟩))) [] (by kernel_rfl) (by rfl) rfl (fun vs w' hC => ?_) ?_
      · refine askl_do rfl fun K hK => ?_
        go_simp
        exact hK _ _ rfl ⟨rfl, World.grownBy.refl _ none⟩
      -- op 6 (slot 38): load
      refine LateR.mono (Qv.eq (.int .u64 p.Q)) [(5, 37)] (by kernel_rfl) (by rfl) rfl (fun vs w' hC => ?_) ?_
      · intro x37 h37
        have e37 : x37 = .pointer (some ⟨w.heap.size, 1, none⟩) := h37
        clear h37
        subst e37
        refine askl_do rfl fun K hK => ?_
        obtain ⟨q0, q1, q2⟩ := HLD.out vs w' hC
        go_simp
        exact hK _ _ rfl ⟨rfl, World.grownBy.refl _ none⟩
      -- op 7 (slot 39): binOp
      refine LateR.mono (Qv.eq (.int .u64 z)) [(4, 36), (6, 38)] (by kernel_rfl) (by rfl) rfl (fun vs w' hC => ?_) ?_
      · intro x36 h36
        intro x38 h38
        have e36 : x36 = .int .u64 x := h36
        clear h36
        subst e36
        have e38 : x38 = .int .u64 p.Q := h38
        clear h38
        subst e38
        refine askl_do rfl fun K hK => ?_
        go_simp
        exact hK _ _ rfl ⟨rfl, World.grownBy.refl _ none⟩
      -- op 8 (slot 40): buildSlice
      refine LateR.mono (mdQ HN0.out.2.1) [(7, 39)] (by kernel_rfl) (by rfl) rfl (fun vs w' hC => ?_) ?_
      · intro x39 h39
        have e39 : x39 = .int .u64 z := h39
        clear h39
        subst e39
        refine askl_do rfl fun K hK => ?_
        have hsz := hC.1.2
        go_simp
        exact hK _ _ rfl ⟨fun _ => Acc.made1 w' _ hsz _ hsz z HZ.out, World.grownBy_alloc w' _ none⟩
      -- op 9 (slot 41): move
      refine LateR.mono (Qv.eq (.pointer pa)) [] (by kernel_rfl) (by rfl) rfl (fun vs w' hC => ?_) ?_
      · refine askl_do rfl fun K hK => ?_
        go_simp
        exact hK _ _ rfl ⟨rfl, World.grownBy.refl _ none⟩
      -- op 10 (slot 42): fieldAddr
      refine LateR.mono (Qv.eq (.pointer (some ⟨w.heap.size, 6, none⟩))) [] (by kernel_rfl) (by rfl) rfl (fun vs w' hC => ?_) ?_
      · refine askl_do rfl fun K hK => ?_
        go_simp
        exact hK _ _ rfl ⟨rfl, World.grownBy.refl _ none⟩
      -- op 11 (slot 43): load
      refine LateR.mono (Qv.eq (.int .i64 2)) [(10, 42)] (by kernel_rfl) (by rfl) rfl (fun vs w' hC => ?_) ?_
      · intro x42 h42
        have e42 : x42 = .pointer (some ⟨w.heap.size, 6, none⟩) := h42
        clear h42
        subst e42
        refine askl_do rfl fun K hK => ?_
        obtain ⟨q0, q1, q2⟩ := HLD.out vs w' hC
        go_simp
        exact hK _ _ rfl ⟨rfl, World.grownBy.refl _ none⟩
      -- op 12 (slot 44): fieldAddr
      refine LateR.mono (Qv.eq (.pointer (some ⟨w.heap.size, 1, none⟩))) [] (by kernel_rfl) (by rfl) rfl (fun vs w' hC => ?_) ?_
      · refine askl_do rfl fun K hK => ?_
        go_simp
        exact hK _ _ rfl ⟨rfl, World.grownBy.refl _ none⟩
      -- op 13 (slot 45): load
      refine LateR.mono (Qv.eq (.int .u64 p.Q)) [(12, 44)] (by kernel_rfl) (by rfl) rfl (fun vs w' hC => ?_) ?_
      · intro x44 h44
        have e44 : x44 = .pointer (some ⟨w.heap.size, 1, none⟩) := h44
        clear h44
        subst e44
        refine askl_do rfl fun K hK => ?_
        obtain ⟨q0, q1, q2⟩ := HLD.out vs w' hC
        go_simp
        exact hK _ _ rfl ⟨rfl, World.grownBy.refl _ none⟩
      -- op 14 (slot 46): call
      refine LateR.turn 0 [(9, 41), (11, 43), (13, 45)] (by kernel_rfl) rfl (fun vs w' hl hC => ?_) ?_
      · intro x41 h41
        intro x43 h43
        intro x45 h45
        have e41 : x41 = .pointer pa := h41
        clear h41
        subst e41
        have e43 : x43 = .int .i64 2 := h43
        clear h43
        subst e43
        have e45 : x45 = .int .u64 p.Q := h45
        clear h45
        subst e45
        refine askl_do rfl fun K hK => ?_
        obtain rfl : vs = [] := List.eq_nil_of_length_eq_zero hl
        obtain ⟨⟨g1, g2⟩, g3, g4⟩ := hC
        go_simp
        refine (HDR.out 2 kb w' (by decide) (by omega) g3).mono ?_
        rintro e w3 ⟨v3, rfl, hs3, hi3, hg3⟩
        exact hK _ _ rfl ⟨fun _ => hg3, ⟨g1.trans hg3, Nat.le_trans g2 hg3.size⟩, hi3, g4.keep hg3 (fun b hb e => by injection e with e; have := HW2.out; have := hb.1; omega), hs3.more fun b _ hb => Nat.le_trans g2 hb⟩
      -- op 15 (slot 47): call
      refine LateR.turn 1 [(8, 40), (14, 46)] (by kernel_rfl) rfl (fun vs w' hl hC => ?_) ?_
      · intro x40 h40
        have h40 : vs.length ≤ 1 → Acc encU N0 22 (fun b => N0 ≤ b) w' x40 [z] := h40
        intro x46 h46
        refine askl_do rfl fun K hK => ?_
        obtain ⟨u, rfl⟩ : ∃ u, vs = [u] := List.length_eq_one_iff.1 hl
        obtain ⟨⟨g1, g2⟩, g3, g4, g5⟩ := hC
        have e46 : some u = some x46 := h46
        injection e46 with e46
        subst e46
        have ha40 := h40 (Nat.le_refl 1)
        obtain ⟨A46, n46, c46, rfl⟩ := g5.shape
        obtain ⟨A46', c46', e46, _, _⟩ := g5.form
        refine apps_core (E := encU) el_u64 ha40 (by rw [e46] at g5 ⊢; exact g5) (Z := fun b => N0 ≤ b) (fun _ _ h => h) (by simp [drL_len]) g2 (fun b hb => Nat.le_trans g2 hb) (.tmp 40) (.tmp 46) rfl rfl rfl ?_
        intro v3 w3 ha hgr hm
        have hb0 : ∀ b, x40.ownBlock = some b → N0 ≤ b := fun b e => (ha40.lt b e).1
        exact hK _ _ rfl ⟨fun e => absurd e (by decide), ⟨g1.andThen hgr (fun b e => .inl (Nat.le_trans HN0.out.2.2.1 (hb0 b e))), Nat.le_trans g2 hgr.size⟩, HT.out.keep g3 hgr (fun b e hb => by have := hb0 b e; have := HN0.out.2.2.2 b hb; have := HN0.out.2.2.1; omega), g4.keep hgr (fun b hb e => by have h1 := hb0 b e.symm; have h2 := hb.2; omega), ha.sl⟩
      -- op 16 (slot 48): buildSlice
      refine LateR.mono (mdS) [(15, 47)] (by kernel_rfl) (by rfl) rfl (fun vs w' hC => ?_) ?_
      · intro x47 h47
        refine askl_do rfl fun K hK => ?_
        obtain ⟨A47, n47, c47, e47⟩ := mdLt_shape hC h47
        subst e47
        go_simp
        exact hK _ _ rfl ⟨fun e => ⟨_, _, h47, rfl, Bk.new w' _ _⟩, World.grownBy_alloc w' _ none⟩
      -- op 17 (slot 49): call
      refine LateR.turn 2 [(0, 32), (16, 48)] (by kernel_rfl) rfl (fun vs w' hl hC => ?_) ?_
      · intro x32 h32
        intro x48 h48
        have h48 : vs.length ≤ 2 → ∃ u b, vs[1]? = some u ∧ x48 = .slice (some ⟨b, 0, none⟩) 1 1 ∧ Bk w' b 25 #[u] := h48
        have e32 : x32 = .slice A9 n9 c9 := h32
        clear h32
        subst e32
        refine askl_do rfl fun K hK => ?_
        obtain ⟨u1, u, rfl⟩ : ∃ u1 u, vs = [u1, u] := by
          match vs, hl with
          | [a, b], _ => exact ⟨a, b, rfl⟩
        obtain ⟨⟨g1, g2⟩, g3, g4', g5⟩ := hC
        have g4 := g4'.wide (Y := fun b => w2.heap.size ≤ b) fun b _ hb => hb.1
        obtain ⟨u', b48, e47, e48, hk48⟩ := h48 (Nat.le_refl 2)
        have e47 : some u = some u' := e47
        injection e47 with e47
        subst e47 e48
        have HREP : (encS encU).rep (fun b => (w2.heap.size ≤ b ∧ some b ≠ (Value.slice A10 n10 c10).ownBlock) ∧ some b ≠ (Value.slice A9 n9 c9).ownBlock) w' [u] (z :: drL dr 2 kb) := ⟨_, rfl, g5.more fun b _ hb => ⟨⟨Nat.le_trans HN0.out.2.2.1 hb, fun e => absurd hb (Nat.not_le_of_lt (HOW.out.2 b e.symm))⟩, fun e => absurd hb (Nat.not_le_of_lt (HOW.out.1 b e.symm))⟩⟩
        refine pushAt_core (E := encS encU) (y := z :: drL dr 2 kb) el_nums g4.fst HREP (Bk.one hk48) HLX1.out.1 g1.size (g4.new1 (fun _ h => Nat.le_trans g1.size h)) (.tmp 32) (.tmp 48) rfl rfl rfl ?_
        intro v3 w3 ha hgr hm
        exact hK _ _ rfl ⟨fun e => absurd e (by decide), ⟨g1.andThen hgr (fun b e => .inl (g4.fst.lt b e).1), Nat.le_trans g2 hgr.size⟩, g5.shape, HT.out.keep g3 hgr (fun b e hb => by have := (g4.fst.lt b e).1; have := HN0.out.2.2.2 b hb; omega), g4.one ha hgr hm⟩
      intro vs w5 hvl hC5
      obtain ⟨v1, v2, v3, rfl⟩ : ∃ v1 v2 v3, vs = [v1, v2, v3] := by
        match vs, hvl with
        | [a, b, c], _ => exact ⟨a, b, c, rfl⟩
      intro y0 k0 y1 k1 y2 k2 y3 k3 y4 k4 y5 k5 y6 k6 y7 k7 y8 k8 y9 k9 y10 k10 y11 k11 y12 k12 y13 k13 y14 k14 y15 k15 y16 k16 y17 k17
      show wpList Tryz.prog _ _ _ _ w5
      simp only [Act.put, List.setIfInBounds_toArray, List.set_cons_zero, List.set_cons_succ]
      have e17 : y17 = v3 := by have : some v3 = some y17 := k17; injection this with this; exact this.symm
      subst e17
      obtain ⟨⟨g1, g2⟩, _, g3, g4⟩ := hC5
      have HG5 : Hid (w2.grownBy w5 (some g)) := Lib.hid g1
      have HI5 : Hid (TI (kb + 2) w5) := Lib.hid g3
      rw [← HFN.out] at g4
      have HS5 := Lib.hid g4
      clear g1 g2 g3 g4 k0 k1 k2 k3 k4 k5 k6 k7 k8 k9 k10 k11 k12 k13 k14 k15 k16 k17 HC0 HLD HN0 HOW
      obtain ⟨q0, q1, q2⟩ := HPC.out w5 HG5.out
      have HD5 := Lib.hid (HDR.out 3 (kb + 2) w5 (by decide) (by omega) HI5.out)
      go_wp2_with fail
      refine HD5.out.mono ?_
      rintro e w6 ⟨v57, rfl, hs6, hi6, hg6⟩
      obtain ⟨A57, n57, c57, rfl⟩ := hs6.shape
      have HG6 : Hid (w2.grownBy w6 (some g)) := Lib.hid (HG5.out.trans hg6)
      have HI6 : Hid (TI (k0 + (s + 1) * 5) w6) := Lib.hid (by rw [HKN.out]; exact hi6)
      have HS6 := Lib.hid (HS5.out.keep hg6 (fun b hb e => by injection e with e; have := HW2.out; omega))
      have HREP : Hid ((encS encU).rep (fun b => (w2.heap.size ≤ b ∧ some b ≠ y17.ownBlock) ∧ some b ≠ (Value.slice A10 n10 c10).ownBlock) w6 [.slice A57 n57 c57] (drL dr 3 (kb + 2))) := Lib.hid ⟨_, rfl, hs6.more fun b _ hb => ⟨⟨Nat.le_trans HG5.out.size hb, fun e => absurd hb (Nat.not_le_of_lt (HS5.out.fst.lt b e.symm).2)⟩, fun e => absurd hb (Nat.not_le_of_lt (HS5.out.snd.lt b e.symm).2)⟩⟩
      have HZ6 : Hid (w2.heap.size ≤ w6.heap.size ∧ ∀ b, bl b → b < w2.heap.size) := Lib.hid ⟨HG6.out.size, fun b hb => by have := HOB.out b hb; have := HW2.out.1; omega⟩
      clear hs6 hi6 hg6 q0 q1 q2 HD5 HS5
      go_wp2_with (at_builtin; refine wpList_push rfl (.tmp 50) (.tmp 58) rfl (E := encS encU) (y := drL dr 3 (kb + 2)) el_nums HS6.out.snd rfl rfl HREP.out HLX1.out.2 HZ6.out.1 (HS6.out.new2 (fun _ h => Nat.le_trans HZ6.out.1 h)) ?_)
      intro v11 w7 ha hg hm
      have HFIN : Hid (Side (encS encU) (encS encU) w2.heap.size 25 25 (fun b => w2.heap.size ≤ b) w7 y17 v11 (dealFs l p.Q dr 2 k0 (s + 1)) (rdealRs dr 2 k0 (s + 1)) ∧ TI (k0 + (s + 1) * 5) w7 ∧ w2.grownBy w7 (some g)) := Lib.hid ⟨by rw [HRN.out]; exact HS6.out.two ha hg hm, HT.out.keep HI6.out hg (fun b e hb => by have := (HS6.out.snd.lt b e).1; have := HZ6.out.2 b hb; omega), HG6.out.andThen hg (fun b e => .inl (HS6.out.snd.lt b e).1)⟩
      clear ha hg hm
      go_wp2_with fail
      go_roundg m
      case measure => omega
      case rel => exact ⟨s + 1, by omega, by go_num, HFIN⟩
end Go.Proofs.YtphbcfpiklmmeaaGreatDoor

namespace Go.Proofs.YtphbcfpiklmmeaaGreatDoor
open Go Go.RowKit Go.Shelf

theorem rtwo_any {pa : Option Addr} {g : Nat} {dr : Nat → Int} {TI : Nat → World → Prop} {bl : Nat → Prop} {most : Nat} (p : Par) (hT : RTp pa g p.Q dr TI bl most) (x : Int) (t k : Nat) (w : World) (hx : U64 x) (hq : U64 p.Q) (hq0 : 0 < p.Q) (ht : (t : Int) = p.T + 1) (h2 : t = 2 ∨ t = 3) (hk : k + (t * t - 1) ≤ most) (hI : TI k w) :
    Calls Tryz.prog 44 #[p.v, .int .u64 x, .pointer pa] w fun e w' => ∃ v, e = .returned v ∧ Sl (encS encU) (fun b => w.heap.size ≤ b) w' v (twoL x p.Q dr t k) ∧ TI (k + (t * t - 1)) w' ∧ w.grownBy w' (some g) := by
  rcases h2 with rfl | rfl
  · exact rtwo2_any p hT x k w hx hq hq0 (by omega) hk hI
  · exact rtwo3_any p hT x k w hx hq hq0 (by omega) hk hI
/-- Where the worlds stand while a polynomial of two is drawn, and put to the first of two lists. -/
def mkLt (w2 : World) (N g : Nat) (TI : Nat → World → Prop) (hTI : ∀ k w w', TI k w → w.grownBy w' none → TI k w') (k n : Nat) (y : List (List Int)) (vA vB : Value) (xs ys : List (List (List Int))) : Lt where
  C vs W := (w2.grownBy W (some g) ∧ N ≤ W.heap.size) ∧ match vs with
    | [] => TI k W ∧ Side (encS (encS encU)) (encS (encS encU)) w2.heap.size 32 32 (fun b => w2.heap.size ≤ b) W vA vB xs ys
    | [u] => TI (k + n) W ∧ Side (encS (encS encU)) (encS (encS encU)) w2.heap.size 32 32 (fun b => w2.heap.size ≤ b) W vA vB xs ys ∧ Sl (encS encU) (fun b => N ≤ b) W u y
    | [b, u] => (∃ A n c, b = .slice A n c) ∧ TI (k + n) W ∧ Side (encS (encS encU)) (encS (encS encU)) w2.heap.size 32 32 (fun b => w2.heap.size ≤ b) W u vB (xs ++ [y]) ys
    | _ => False
  R _ _ _ := True
  g := fun {vs w w'} h hg => by
    obtain ⟨⟨h1, h2⟩, h3⟩ := h
    refine ⟨⟨h1.trans (hg.but _), Nat.le_trans h2 hg.size⟩, ?_⟩
    match vs, h3 with
    | [], h => exact ⟨hTI _ _ _ h.1 hg, h.2.kept hg⟩
    | [u], h => exact ⟨hTI _ _ _ h.1 hg, h.2.1.kept hg, h.2.2.kept hg⟩
    | [_, u], h => exact ⟨h.1, hTI _ _ _ h.2.1 hg, h.2.2.kept hg⟩
section
variable {w2 : World} {N g : Nat} {TI : Nat → World → Prop} {hTI : ∀ k w w', TI k w → w.grownBy w' none → TI k w'} {k n : Nat} {y : List (List Int)} {vA vB : Value} {xs ys : List (List (List Int))}
theorem mkLt_shape {vs : List Value} {W : World} {x : Value} (h : (mkLt w2 N g TI hTI k n y vA vB xs ys).C vs W) (hv : vs[0]? = some x) : ∃ A m c, x = .slice A m c := by
  obtain ⟨_, h⟩ := h
  match vs, h, hv with
  | [u], h, hv =>
    injection hv with hv
    subst hv
    exact h.2.2.shape
  | [b, _], h, hv =>
    injection hv with hv
    subst hv
    exact h.1
/-- The slice of what was drawn. -/
def mkS : Qv (mkLt w2 N g TI hTI k n y vA vB xs ys) where
  p vs v W := vs.length ≤ 1 → ∃ u b, vs[0]? = some u ∧ v = .slice (some ⟨b, 0, none⟩) 1 1 ∧ Bk W b 32 #[u]
  fr := 0
  st := fun h hg e => by
    obtain ⟨u, b, h1, h2, h3⟩ := h e
    exact ⟨u, b, h1, h2, h3.grown hg (by simp)⟩
  sr := fun {vs u v w w'} _ _ _ h e => by
    rw [List.length_append, List.length_singleton] at e
    obtain ⟨u, b, h1, _, _⟩ := h (by omega)
    have := (List.getElem?_eq_some_iff.1 h1).1
    omega
end
theorem results_rdeal {fn : Func} {W : World} {B8 : Nat} {a b c : Value} {n : Int} (h : fn.results = #[.cell 8 48, .tmp 9]) (tmps : Array Value) (h8 : tmps.getD 8 undef = .pointer (some ⟨B8, 0, none⟩)) (h9 : tmps.getD 9 undef = .int .i64 n) (hb : Bk W B8 48 #[a, b, c]) : (results fn tmps).run Tryz.prog W = .ok (.tuple #[.agg #[a, b, c], .int .i64 n]) W := by
  have r1 := run_loadVar_row (P := Tryz.prog) W B8 48 48 #[a, b, c] (0, 0) _ hb Tryz.underlying48 rfl (by kernel_rfl)
  have h8' : tmps[8]?.getD undef = .pointer (some ⟨B8, 0, none⟩) := by simpa using h8
  have h9' : tmps[9]?.getD undef = .int .i64 n := by simpa using h9
  simp [results, h, h8', h9', asAddr, r1]
set_option maxHeartbeats 4000000 in
theorem rmake_no (p : Par) (vl : Value) (l : List (Int × Int)) (n : Int) (X : Nat → Prop) (vt : Value) (w : World) (hp : p.ok) (h : Sl encP X w vl l) (hno : ¬ (mayP p = true ∧ (l.length : Int) = secretsI p ∧ 1 ≤ n ∧ n ≤ 7)) :
    Calls Tryz.prog 13 #[p.v, vl, .int .i64 n, vt] w fun e w' => e = .returned (.tuple #[.agg #[.slice none 0 0, .slice none 0 0, .slice none 0 0], .int .i64 1]) ∧ w.grownBy w' none := by
  obtain ⟨w0, hw0⟩ : ∃ y, y = (w.alloc (Obj.cells p.cells 24)).alloc (Obj.cells #[.slice none 0 0, .slice none 0 0, .slice none 0 0] 48) := ⟨_, rfl⟩
  have HG0 : Hid (w.grownBy w0 none) := Lib.hid (by rw [hw0]; exact grown_two)
  have HB0 : Hid (Bk w0 w.heap.size 24 p.cells) := Lib.hid (by rw [hw0]; exact (Bk.new w _ _).alloc _)
  have HR0 : Hid (Bk w0 (w.heap.size + 1) 48 #[.slice none 0 0, .slice none 0 0, .slice none 0 0]) := Lib.hid (by
    rw [hw0]
    have h := Bk.new (w.alloc (Obj.cells p.cells 24)) 48 #[.slice none 0 0, .slice none 0 0, .slice none 0 0]
    rw [World.size_alloc] at h
    exact h)
  have HMY := Lib.hid (fun W => rmay_any p W hp)
  rw [← may_same p] at HMY
  have HSEC := Lib.hid (rsecrets_any p)
  obtain ⟨A, c, rfl, _, _⟩ := h.form
  obtain ⟨sI, hs⟩ : ∃ y, y = secretsI p := ⟨_, rfl⟩
  rw [← hs] at hno HSEC
  obtain ⟨m, hm⟩ : ∃ m, m = l.length := ⟨_, rfl⟩
  rw [← hm] at hno ⊢
  clear h hp hs hm
  cases hm : mayP p with
  | false =>
    rw [hm] at HMY
    clear hno hm
    go_enter Tryz.func13, Tryz.ntmps13
    go_wp2_with fail
    rw [← hw0]
    have hp0 := HB0.out.prule
    clear hw0
    go_wp2_with fail
    refine (HMY.out _).mono ?_
    rintro e w1 ⟨rfl, hg⟩
    have HG1 : Hid (w0.grownBy w1 none) := Lib.hid hg
    clear hg hp0
    have HR1 : Hid (Bk w1 (w.heap.size + 1) 48 #[.slice none 0 0, .slice none 0 0, .slice none 0 0]) := Lib.hid (HR0.out.grown HG1.out (by simp))
    have r0 := HR1.out.cell 0
    have r1 := HR1.out.cell 1
    have r2 := HR1.out.cell 2
    have f8 := HR1.out.free
    simp at r0 r1 r2
    obtain ⟨wF, hwF⟩ : ∃ x, x = ((w1.setCell ⟨w.heap.size + 1, 0, none⟩ (.slice none 0 0)).setCell ⟨w.heap.size + 1, 1, none⟩ (.slice none 0 0)).setCell ⟨w.heap.size + 1, 2, none⟩ (.slice none 0 0) := ⟨_, rfl⟩
    have HF8 : Hid (Bk wF (w.heap.size + 1) 48 #[.slice none 0 0, .slice none 0 0, .slice none 0 0]) := Lib.hid (by rw [hwF]; exact ((HR1.out.set 0 _).set 1 _).set 2 _)
    have HGF : Hid (w.grownBy wF none) := Lib.hid (by rw [hwF]; exact grown_up (HG0.out.trans HG1.out) (((grownSet w1 (w.heap.size + 1) 0 _).trans (grownSet _ (w.heap.size + 1) 1 _)).trans (grownSet _ (w.heap.size + 1) 2 _)) (fun b e => by injection e with e; omega))
    go_wp2_with fail
    rw [← hwF]
    exact ⟨rfl, _, results_rdeal rfl _ rfl rfl HF8.out, rfl, HGF.out⟩
  | true =>
    rw [hm] at HMY
    by_cases hl : (m : Int) = sI
    · have hne : ((m : Int) != sI) = false := by simpa using hl
      by_cases h1 : n < 1
      · have hd1 : decide (n < 1) = true := by simpa using h1
        clear hno hm hl h1
        go_enter Tryz.func13, Tryz.ntmps13
        go_wp2_with fail
        rw [← hw0]
        have hp0 := HB0.out.prule
        clear hw0
        go_wp2_with fail
        refine (HMY.out _).mono ?_
        rintro e w1 ⟨rfl, hg⟩
        have HG1 : Hid (w0.grownBy w1 none) := Lib.hid hg
        have hp1 := (HB0.out.grown hg (by simp)).prule
        clear hg hp0
        go_wp2_with fail
        refine (HSEC.out _).mono ?_
        rintro e w2 ⟨rfl, hg⟩
        have HG2 : Hid (w0.grownBy w2 none) := Lib.hid (HG1.out.trans hg)
        clear hg hp1
        have HR1 : Hid (Bk w2 (w.heap.size + 1) 48 #[.slice none 0 0, .slice none 0 0, .slice none 0 0]) := Lib.hid (HR0.out.grown HG2.out (by simp))
        have r0 := HR1.out.cell 0
        have r1 := HR1.out.cell 1
        have r2 := HR1.out.cell 2
        have f8 := HR1.out.free
        simp at r0 r1 r2
        obtain ⟨wF, hwF⟩ : ∃ x, x = ((w2.setCell ⟨w.heap.size + 1, 0, none⟩ (.slice none 0 0)).setCell ⟨w.heap.size + 1, 1, none⟩ (.slice none 0 0)).setCell ⟨w.heap.size + 1, 2, none⟩ (.slice none 0 0) := ⟨_, rfl⟩
        have HF8 : Hid (Bk wF (w.heap.size + 1) 48 #[.slice none 0 0, .slice none 0 0, .slice none 0 0]) := Lib.hid (by rw [hwF]; exact ((HR1.out.set 0 _).set 1 _).set 2 _)
        have HGF : Hid (w.grownBy wF none) := Lib.hid (by rw [hwF]; exact grown_up (HG0.out.trans HG2.out) (((grownSet w2 (w.heap.size + 1) 0 _).trans (grownSet _ (w.heap.size + 1) 1 _)).trans (grownSet _ (w.heap.size + 1) 2 _)) (fun b e => by injection e with e; omega))
        go_wp2_with fail
        rw [← hwF]
        exact ⟨rfl, _, results_rdeal rfl _ rfl rfl HF8.out, rfl, HGF.out⟩
      · have h7 : n > 7 := by
          have h : ¬ (1 ≤ n ∧ n ≤ 7) := fun h => hno ⟨hm, hl, h⟩
          omega
        have hd1 : decide (n < 1) = false := by simpa using h1
        have hd7 : decide (n > 7) = true := by simpa using h7
        clear hno hm hl h1 h7
        go_enter Tryz.func13, Tryz.ntmps13
        go_wp2_with fail
        rw [← hw0]
        have hp0 := HB0.out.prule
        clear hw0
        go_wp2_with fail
        refine (HMY.out _).mono ?_
        rintro e w1 ⟨rfl, hg⟩
        have HG1 : Hid (w0.grownBy w1 none) := Lib.hid hg
        have hp1 := (HB0.out.grown hg (by simp)).prule
        clear hg hp0
        go_wp2_with fail
        refine (HSEC.out _).mono ?_
        rintro e w2 ⟨rfl, hg⟩
        have HG2 : Hid (w0.grownBy w2 none) := Lib.hid (HG1.out.trans hg)
        clear hg hp1
        have HR1 : Hid (Bk w2 (w.heap.size + 1) 48 #[.slice none 0 0, .slice none 0 0, .slice none 0 0]) := Lib.hid (HR0.out.grown HG2.out (by simp))
        have r0 := HR1.out.cell 0
        have r1 := HR1.out.cell 1
        have r2 := HR1.out.cell 2
        have f8 := HR1.out.free
        simp at r0 r1 r2
        obtain ⟨wF, hwF⟩ : ∃ x, x = ((w2.setCell ⟨w.heap.size + 1, 0, none⟩ (.slice none 0 0)).setCell ⟨w.heap.size + 1, 1, none⟩ (.slice none 0 0)).setCell ⟨w.heap.size + 1, 2, none⟩ (.slice none 0 0) := ⟨_, rfl⟩
        have HF8 : Hid (Bk wF (w.heap.size + 1) 48 #[.slice none 0 0, .slice none 0 0, .slice none 0 0]) := Lib.hid (by rw [hwF]; exact ((HR1.out.set 0 _).set 1 _).set 2 _)
        have HGF : Hid (w.grownBy wF none) := Lib.hid (by rw [hwF]; exact grown_up (HG0.out.trans HG2.out) (((grownSet w2 (w.heap.size + 1) 0 _).trans (grownSet _ (w.heap.size + 1) 1 _)).trans (grownSet _ (w.heap.size + 1) 2 _)) (fun b e => by injection e with e; omega))
        go_wp2_with fail
        rw [← hwF]
        exact ⟨rfl, _, results_rdeal rfl _ rfl rfl HF8.out, rfl, HGF.out⟩
    · have hne : ((m : Int) != sI) = true := by simpa using hl
      clear hno hm hl
      go_enter Tryz.func13, Tryz.ntmps13
      go_wp2_with fail
      rw [← hw0]
      have hp0 := HB0.out.prule
      clear hw0
      go_wp2_with fail
      refine (HMY.out _).mono ?_
      rintro e w1 ⟨rfl, hg⟩
      have HG1 : Hid (w0.grownBy w1 none) := Lib.hid hg
      have hp1 := (HB0.out.grown hg (by simp)).prule
      clear hg hp0
      go_wp2_with fail
      refine (HSEC.out _).mono ?_
      rintro e w2 ⟨rfl, hg⟩
      have HG2 : Hid (w0.grownBy w2 none) := Lib.hid (HG1.out.trans hg)
      clear hg hp1
      have HR1 : Hid (Bk w2 (w.heap.size + 1) 48 #[.slice none 0 0, .slice none 0 0, .slice none 0 0]) := Lib.hid (HR0.out.grown HG2.out (by simp))
      have r0 := HR1.out.cell 0
      have r1 := HR1.out.cell 1
      have r2 := HR1.out.cell 2
      have f8 := HR1.out.free
      simp at r0 r1 r2
      obtain ⟨wF, hwF⟩ : ∃ x, x = ((w2.setCell ⟨w.heap.size + 1, 0, none⟩ (.slice none 0 0)).setCell ⟨w.heap.size + 1, 1, none⟩ (.slice none 0 0)).setCell ⟨w.heap.size + 1, 2, none⟩ (.slice none 0 0) := ⟨_, rfl⟩
      have HF8 : Hid (Bk wF (w.heap.size + 1) 48 #[.slice none 0 0, .slice none 0 0, .slice none 0 0]) := Lib.hid (by rw [hwF]; exact ((HR1.out.set 0 _).set 1 _).set 2 _)
      have HGF : Hid (w.grownBy wF none) := Lib.hid (by rw [hwF]; exact grown_up (HG0.out.trans HG2.out) (((grownSet w2 (w.heap.size + 1) 0 _).trans (grownSet _ (w.heap.size + 1) 1 _)).trans (grownSet _ (w.heap.size + 1) 2 _)) (fun b e => by injection e with e; omega))
      go_wp2_with fail
      rw [← hwF]
      exact ⟨rfl, _, results_rdeal rfl _ rfl rfl HF8.out, rfl, HGF.out⟩
end Go.Proofs.YtphbcfpiklmmeaaGreatDoor
