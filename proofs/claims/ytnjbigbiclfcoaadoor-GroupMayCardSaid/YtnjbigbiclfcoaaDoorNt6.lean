/- A number that passes the twelve bases has no divisor of three digits, of those that were reckoned. -/
import Derived.Test.YtnjbigbiclfcoaaDoorNt5
namespace Go.Proofs.YtnjbigbiclfcoaaDoor.NT

def vb (a x : Nat) : Bool := Nat.beq (Nat.mod x 2) 1 && !(Nat.beq (Nat.mod x a) 0)
theorem vb_of {a x : Nat} (h1 : x % 2 = 1) (h2 : ¬ a ∣ x) : vb a x = true := by
  have h3 : Nat.beq (x % a) 0 = false := by
    cases hb : Nat.beq (x % a) 0 with
    | false => rfl
    | true => exact absurd (Nat.dvd_of_mod_eq_zero (Nat.eq_of_beq_eq_true hb)) h2
  show (Nat.beq (x % 2) 1 && !(Nat.beq (x % a) 0)) = true
  rw [h1, h3]
  rfl
theorem vb_mod {a x : Nat} (h : vb a x = true) : vb a (x % (4 * a)) = true := by
  have h' : (Nat.beq (x % 2) 1 && !(Nat.beq (x % a) 0)) = true := h
  show (Nat.beq (x % (4 * a) % 2) 1 && !(Nat.beq (x % (4 * a) % a) 0)) = true
  rw [Nat.mod_mod_of_dvd _ (show 2 ∣ 4 * a from ⟨2 * a, by omega⟩), Nat.mod_mod_of_dvd _ (show a ∣ 4 * a from ⟨4, by omega⟩)]
  exact h'
/-- All numbers below n for which the table is asked. -/
def tchk (a t0 t1 n : Nat) : Bool := Nat.rec (motive := fun _ => Bool) true (fun x ih => (bif vb a x then (bif Nat.beq (chi a x) 0 then okm a t0 x && !(okm a t1 x) else okm a t1 x) else true) && ih) n
theorem tchk_of {a t0 t1 : Nat} : ∀ n, tchk a t0 t1 n = true → ∀ x, x < n → vb a x = true → (chi a x = 0 → okm a t0 x = true ∧ okm a t1 x = false) ∧ (chi a x ≠ 0 → okm a t1 x = true)
  | 0, _, x, hx, _ => by omega
  | n + 1, h, x, hx, hv => by
    have h' : ((bif vb a n then (bif Nat.beq (chi a n) 0 then okm a t0 n && !(okm a t1 n) else okm a t1 n) else true) && tchk a t0 t1 n) = true := h
    rw [Bool.and_eq_true] at h'
    rcases Nat.lt_or_ge x n with hlt | hge
    · exact tchk_of n h'.2 x hlt hv
    · obtain rfl : x = n := by omega
      have h1 := h'.1
      rw [hv, cond_true] at h1
      cases hb : Nat.beq (chi a x) 0 with
      | true =>
        rw [hb, cond_true, Bool.and_eq_true] at h1
        have := Nat.eq_of_beq_eq_true hb
        exact ⟨fun _ => ⟨h1.1, by simpa using h1.2⟩, fun hn => absurd this hn⟩
      | false =>
        rw [hb, cond_false] at h1
        exact ⟨fun e => by rw [e] at hb; simp at hb, fun _ => h1⟩
def mrow (a t x n : Nat) : Bool := Nat.rec (motive := fun _ => Bool) true (fun y ih => (bif vb a y then (bif okm a t x then (bif okm a t y then !(okm a t (Nat.mul x y)) else okm a t (Nat.mul x y)) else (bif okm a t y then okm a t (Nat.mul x y) else !(okm a t (Nat.mul x y)))) else true) && ih) n
theorem mrow_of {a t x : Nat} : ∀ n, mrow a t x n = true → ∀ y, y < n → vb a y = true → okm a t (x * y) = (okm a t x != okm a t y)
  | 0, _, y, hy, _ => by omega
  | n + 1, h, y, hy, hv => by
    have h' : ((bif vb a n then (bif okm a t x then (bif okm a t n then !(okm a t (x * n)) else okm a t (x * n)) else (bif okm a t n then okm a t (x * n) else !(okm a t (x * n)))) else true) && mrow a t x n) = true := h
    rw [Bool.and_eq_true] at h'
    rcases Nat.lt_or_ge y n with hlt | hge
    · exact mrow_of n h'.2 y hlt hv
    · obtain rfl : y = n := by omega
      have h1 := h'.1
      rw [hv, cond_true] at h1
      cases hx : okm a t x <;> cases hy : okm a t y <;> cases hz : okm a t (x * y) <;> simp_all
def mtab (a t n : Nat) : Bool := Nat.rec (motive := fun _ => Bool) true (fun x ih => (bif vb a x then mrow a t x (Nat.mul 4 a) else true) && ih) n
theorem mtab_of {a t : Nat} : ∀ n, mtab a t n = true → ∀ x, x < n → vb a x = true → ∀ y, y < 4 * a → vb a y = true → okm a t (x * y) = (okm a t x != okm a t y)
  | 0, _, x, hx, _ => by omega
  | n + 1, h, x, hx, hv => by
    have h' : ((bif vb a n then mrow a t n (4 * a) else true) && mtab a t n) = true := h
    rw [Bool.and_eq_true] at h'
    rcases Nat.lt_or_ge x n with hlt | hge
    · exact mtab_of n h'.2 x hlt hv
    · obtain rfl : x = n := by omega
      have h1 := h'.1
      rw [hv, cond_true] at h1
      exact mrow_of _ h1
def tabok (t : Nat × Nat × Nat) : Bool := Nat.blt 0 t.1 && tchk t.1 t.2.1 t.2.2 (Nat.mul 4 t.1) && mtab t.1 t.2.2 (Nat.mul 4 t.1)
set_option maxRecDepth 100000 in
theorem tabs_ok : tabs.all tabok = true := by decide +kernel
theorem tabs_bases : tabs.map (·.1) = bases := by decide
theorem chi_mod (a x : Nat) : chi a (x % (4 * a)) = chi a x := by unfold chi; rw [Nat.mod_mod]
theorem okm_mod (a t x : Nat) : okm a t (x % (4 * a)) = okm a t x := by
  show Nat.beq ((t >>> (x % (4 * a) % (4 * a))) % 2) 1 = Nat.beq ((t >>> (x % (4 * a))) % 2) 1
  rw [Nat.mod_mod]
theorem okm_mul_mod (a t x y : Nat) : okm a t (x % (4 * a) * (y % (4 * a))) = okm a t (x * y) := by
  rw [← okm_mod, ← Nat.mul_mod, okm_mod]
theorem tab_spec {t : Nat × Nat × Nat} (ht : t ∈ tabs) {x : Nat} (hv : vb t.1 x = true) : (chi t.1 x = 0 → okm t.1 t.2.1 x = true ∧ okm t.1 t.2.2 x = false) ∧ (chi t.1 x ≠ 0 → okm t.1 t.2.2 x = true) := by
  have h := List.all_eq_true.1 tabs_ok t ht
  have h' : (Nat.blt 0 t.1 && tchk t.1 t.2.1 t.2.2 (4 * t.1) && mtab t.1 t.2.2 (4 * t.1)) = true := h
  simp only [Bool.and_eq_true] at h'
  have h0 := blt_of h'.1.1
  have := tchk_of _ h'.1.2 (x % (4 * t.1)) (Nat.mod_lt _ (by omega)) (vb_mod hv)
  simpa only [chi_mod, okm_mod] using this
theorem chi_two (a x : Nat) : chi a x = 0 ∨ chi a x = 1 := by unfold chi; omega
theorem chi_mul {t : Nat × Nat × Nat} (ht : t ∈ tabs) {x y : Nat} (hx : vb t.1 x = true) (hy : vb t.1 y = true) (hxy : vb t.1 (x * y) = true) : chi t.1 (x * y) = (chi t.1 x + chi t.1 y) % 2 := by
  have h := List.all_eq_true.1 tabs_ok t ht
  have h' : (Nat.blt 0 t.1 && tchk t.1 t.2.1 t.2.2 (4 * t.1) && mtab t.1 t.2.2 (4 * t.1)) = true := h
  simp only [Bool.and_eq_true] at h'
  have h0 := blt_of h'.1.1
  have hm := mtab_of _ h'.2 (x % (4 * t.1)) (Nat.mod_lt _ (by omega)) (vb_mod hx) (y % (4 * t.1)) (Nat.mod_lt _ (by omega)) (vb_mod hy)
  rw [okm_mul_mod, okm_mod, okm_mod] at hm
  have a1 := tab_spec ht hx
  have a2 := tab_spec ht hy
  have a3 := tab_spec ht hxy
  rcases chi_two t.1 x with e1 | e1 <;> rcases chi_two t.1 y with e2 | e2 <;> rcases chi_two t.1 (x * y) with e3 | e3 <;> simp_all
theorem base_tab {a : Nat} (ha : a ∈ bases) : ∃ t, t ∈ tabs ∧ t.1 = a := by
  rw [← tabs_bases] at ha
  obtain ⟨t, h1, h2⟩ := List.mem_map.1 ha
  exact ⟨t, h1, h2⟩
/-- The two ways in which a number's signs may stand. -/
def Sg (v : Nat) (es : List Nat) (s : Nat) : Prop := At2 (fun a e => chi a s = if e = v then 1 else 0) bases es ∨ ∀ a ∈ bases, chi a s = 0
theorem chi_one {a : Nat} (ha : a ∈ bases) : chi a 1 = 0 := by
  have h : ∀ a ∈ bases, chi a 1 = 0 := by decide
  exact h a ha
theorem Sg.mul {v : Nat} {es : List Nat} {x y : Nat} (hx : Sg v es x) (hy : Sg v es y) (vx : ∀ a ∈ bases, vb a x = true) (vy : ∀ a ∈ bases, vb a y = true) (vxy : ∀ a ∈ bases, vb a (x * y) = true) : Sg v es (x * y) := by
  have hm : ∀ a ∈ bases, chi a (x * y) = (chi a x + chi a y) % 2 := fun a ha => by
    obtain ⟨t, h1, rfl⟩ := base_tab ha
    exact chi_mul h1 (vx _ ha) (vy _ ha) (vxy _ ha)
  rcases hx with hx | hx <;> rcases hy with hy | hy
  · right
    intro a ha
    obtain ⟨e, _, h1, h2⟩ := (hx.and hy).left a ha
    rw [hm a ha, h1, h2]
    split <;> rfl
  · left
    refine hx.imp fun a e ha _ h1 => ?_
    rw [hm a ha, h1, hy a ha]
    split <;> rfl
  · left
    refine hy.imp fun a e ha _ h1 => ?_
    rw [hm a ha, h1, hx a ha]
    split <;> rfl
  · right
    intro a ha
    rw [hm a ha, hx a ha, hy a ha]
theorem Sg.all {v : Nat} {es : List Nat} : ∀ s, 0 < s → (∀ q, Pr q → q ∣ s → Sg v es q) → (∀ d, d ∣ s → ∀ a ∈ bases, vb a d = true) → Sg v es s := by
  intro s
  induction s using Nat.strongRecOn with
  | _ s ih =>
    intro hs hq hv
    rcases Nat.lt_or_ge s 2 with h | h
    · obtain rfl : s = 1 := by omega
      exact .inr fun a ha => chi_one ha
    · obtain ⟨q, h1, ⟨c, rfl⟩, _⟩ := least_pr s h
      have hq2 := h1.1
      have hc0 : 0 < c := Nat.pos_of_ne_zero fun e => by rw [e, Nat.mul_zero] at hs; omega
      have hcl : c < q * c := by
        calc c = 1 * c := by omega
          _ < q * c := Nat.mul_lt_mul_of_pos_right (by omega) hc0
      have ic := ih c hcl hc0 (fun q' h3 h4 => hq q' h3 (Nat.dvd_mul_left_of_dvd h4 _)) (fun d hd => hv d (Nat.dvd_mul_left_of_dvd hd _))
      exact (hq q h1 (Nat.dvd_mul_right _ _)).mul ic (hv q (Nat.dvd_mul_right _ _)) (hv c (Nat.dvd_mul_left _ _)) (hv _ (Nat.dvd_refl _))
theorem ms1_ok {v s : Nat} (hv : ∀ a ∈ bases, vb a s = true) : ∀ {ts : List (Nat × Nat × Nat)} {es : List Nat}, (∀ t ∈ ts, t ∈ tabs) → At2 (fun a e => chi a s = if e = v then 1 else 0) (ts.map (·.1)) es → ∀ m ∈ ms1 v ts es, okm m.1 m.2 s = true
  | [], es, _, _, m, hm => by cases es <;> simp [ms1] at hm
  | t :: ts, [], _, h, _, _ => h.elim
  | t :: ts, e :: es, ht, ⟨h1, h2⟩, m, hm => by
    rcases List.mem_cons.1 (show m ∈ (t.1, bif Nat.beq e v then t.2.2 else t.2.1) :: ms1 v ts es from hm) with rfl | hm
    · have h1 : chi t.1 s = if e = v then 1 else 0 := h1
      have htt := ht t (by simp)
      have hb : t.1 ∈ bases := by rw [← tabs_bases]; exact List.mem_map.2 ⟨t, htt, rfl⟩
      have hs := tab_spec htt (hv _ hb)
      cases hc : Nat.beq e v with
      | true =>
        have := Nat.eq_of_beq_eq_true hc
        rw [if_pos this] at h1
        exact hs.2 (by omega)
      | false =>
        have hne : e ≠ v := fun he => by rw [he] at hc; simp at hc
        rw [if_neg hne] at h1
        exact (hs.1 h1).1
    · exact ms1_ok hv (fun t' h => ht t' (by simp [h])) h2 m hm
theorem ms0_ok {s : Nat} (hv : ∀ a ∈ bases, vb a s = true) (h : ∀ a ∈ bases, chi a s = 0) : ∀ m ∈ ms0, okm m.1 m.2 s = true := by
  intro m hm
  obtain ⟨t, ht, rfl⟩ := List.mem_map.1 hm
  have hb : t.1 ∈ bases := by rw [← tabs_bases]; exact List.mem_map.2 ⟨t, ht, rfl⟩
  exact ((tab_spec ht (hv _ hb)).1 (h _ hb)).1
theorem Sg.masks {v s : Nat} {es : List Nat} (hv : ∀ a ∈ bases, vb a s = true) (h : Sg v es s) : (∀ m ∈ ms1 v tabs es, okm m.1 m.2 s = true) ∨ (∀ m ∈ ms0, okm m.1 m.2 s = true) := by
  rcases h with h | h
  · exact .inl (ms1_ok hv (fun _ h => h) (by rw [tabs_bases]; exact h))
  · exact .inr (ms0_ok hv h)

/-- What passes does not fail. -/
theorem noneg_of {n : Nat} (hn : 1 < n) (x0 : Nat) : ∀ f j, noneg n f (x0 ^ 2 ^ j % n) = true → ∀ i, j ≤ i → i < j + f → (x0 ^ 2 ^ i + 1) % n ≠ 0
  | 0, j, _, i, h1, h2 => by omega
  | f + 1, j, h, i, h1, h2 => by
    have h' : (!(Nat.beq (x0 ^ 2 ^ j % n + 1) n) && noneg n f (x0 ^ 2 ^ j % n * (x0 ^ 2 ^ j % n) % n)) = true := h
    rw [Bool.and_eq_true] at h'
    rcases Nat.lt_or_ge j i with hlt | hge
    · refine noneg_of hn x0 f (j + 1) ?_ i (by omega) (by omega)
      have e : x0 ^ 2 ^ (j + 1) % n = x0 ^ 2 ^ j % n * (x0 ^ 2 ^ j % n) % n := by
        rw [← Nat.mul_mod, ← Nat.pow_add]
        congr 2
        rw [Nat.pow_succ]
        omega
      rw [e]
      exact h'.2
    · obtain rfl : i = j := by omega
      intro hz
      have h3 := beq_no h'.1
      have hlt := Nat.mod_lt (x0 ^ 2 ^ i) (show 0 < n by omega)
      rw [Nat.add_mod, Nat.mod_eq_of_lt hn] at hz
      rcases Nat.lt_or_ge (x0 ^ 2 ^ i % n + 1) n with hl | hg
      · rw [Nat.mod_eq_of_lt hl] at hz; omega
      · omega
theorem SP.fermat {n a : Nat} (h : SP n a) : a ^ (n - 1) % n = 1 % n := by
  obtain ⟨t, d, hn, _, h1 | ⟨i, hi, h1⟩⟩ := h
  · rw [hn, Nat.mul_comm]
    exact one_pow_mod h1 _
  · have h2 := neg_even h1 (2 ^ (t - 1 - i))
    rw [← Nat.pow_mul] at h2
    rw [hn]
    have e : 2 ^ i * d * (2 * 2 ^ (t - 1 - i)) = 2 ^ t * d := by
      have : 2 ^ t = 2 ^ i * (2 * 2 ^ (t - 1 - i)) := by
        rw [← Nat.pow_succ', ← Nat.pow_add]
        congr 1
        omega
      rw [this]
      grind
    rwa [e] at h2
theorem fails_of {n : Nat} (hn : 1 < n) (hb : n ≤ top) (h : SP n 2) : fails n = false := by
  have hf := h.fermat
  cases hc : fails n with
  | false => rfl
  | true =>
    exfalso
    have h' : (!(Nat.beq (pw 2 n 8 (n - 1)) 1) || (!(Nat.beq (pw 2 n 8 (oddp 64 (n - 1))) 1) && noneg n 61 (pw 2 n 8 (oddp 64 (n - 1))))) = true := hc
    have hb' : n ≤ 2305843009213693952 := hb
    rcases cond_or h' with h1 | h1
    · rw [pw_eq 2 n 8 (n - 1) (by omega), hf, Nat.mod_eq_of_lt hn] at h1
      simp at h1
    · rw [Bool.and_eq_true] at h1
      obtain ⟨t, d, hnd, hd, h2⟩ := h
      have ht := v_lt hnd (by omega) (by omega)
      have ho : oddp 64 (n - 1) = d := by rw [hnd]; exact oddp_eq d hd 64 t ht
      have hdl : d ≤ n - 1 := by rw [hnd]; exact Nat.le_mul_of_pos_left d (Nat.pow_pos (by decide))
      have ht2 : t < 61 := by
        refine Classical.byContradiction fun hc => ?_
        have h3 : 2 ^ 61 ≤ 2 ^ t := Nat.pow_le_pow_right (by decide) (by omega)
        have h4 : 2 ^ t * 1 ≤ 2 ^ t * d := Nat.mul_le_mul_left _ (by omega)
        omega
      rw [ho, pw_eq 2 n 8 d (by omega)] at h1
      rcases h2 with h2 | ⟨i, hi, h2⟩
      · rw [h2, Nat.mod_eq_of_lt hn] at h1
        simp at h1
      · refine noneg_of hn (2 ^ d) 61 0 (by rw [Nat.pow_zero, Nat.pow_one]; exact h1.2) i (by omega) (by omega) ?_
        rw [← Nat.pow_mul, Nat.mul_comm d]
        exact h2
/-- The primes whose product low is are below 2000. -/
theorem low_eq : low = prodB 1 1998 := by decide +kernel
theorem low_le {q : Nat} (hq : Pr q) (h : q ∣ low) : q ≤ 1999 := by rw [low_eq] at h; exact prodB_le 1 hq _ h
theorem fin_of {p r s : Nat} (hn1 : 1 < p * r * s) (hb : p * r * s ≤ top) (h : SP (p * r * s) 2) (hs : 0 < s) (hrs : ∀ q, Pr q → q ∣ s → r ≤ q) (hle : r ≤ s) : fin p r s = false := by
  cases hc : fin p r s with
  | false => rfl
  | true =>
    exfalso
    have h' : (Nat.blt s r || (Nat.blt 2000 r && !(Nat.beq (Nat.gcd s low) 1)) || fails (p * r * s)) = true := hc
    rcases cond_or h' with h1 | h1
    · rcases cond_or h1 with h2 | h2
      · have := blt_of h2; omega
      · rw [Bool.and_eq_true] at h2
        have h3 := blt_of h2.1
        have h4 := beq_no h2.2
        have h5 : 0 < Nat.gcd s low := Nat.gcd_pos_of_pos_left _ hs
        obtain ⟨q, hq, hqd, _⟩ := least_pr (Nat.gcd s low) (by omega)
        have h6 := hrs q hq (Nat.dvd_trans hqd (Nat.gcd_dvd_left _ _))
        have h7 := low_le hq (Nat.dvd_trans hqd (Nat.gcd_dvd_right _ _))
        omega
    · rw [fails_of hn1 hb h] at h1
      cases h1
theorem lv2_of {p r s : Nat} {m1 m0 : List (Nat × Nat)} (hp : 2 < p) (hr : 2 < r) (hs : 0 < s) (h : lv2 p r m1 m0 = true) (hp1 : p - 1 ∣ p * r * s - 1) (hr1 : r - 1 ∣ p * r * s - 1) (hb : p * r * s ≤ top) (h2 : SP (p * r * s) 2) (hrs : ∀ q, Pr q → q ∣ s → r ≤ q) (hle : r ≤ s)
    (hm : (∀ m ∈ m1, okm m.1 m.2 s = true) ∨ (∀ m ∈ m0, okm m.1 m.2 s = true)) : False := by
  have hpr : 0 < p * r := Nat.mul_pos (by omega) (by omega)
  have hn : 1 < p * r * s := by
    calc 1 < p := by omega
      _ = p * 1 * 1 := by omega
      _ ≤ p * r * s := Nat.mul_le_mul (Nat.mul_le_mul_left _ (by omega)) hs
  have hL : Nat.lcm (p - 1) (r - 1) ∣ p * r * s - 1 := Nat.lcm_dvd hp1 hr1
  have hL2 : 2 ≤ Nat.lcm (p - 1) (r - 1) := Nat.le_trans (by omega) (Nat.le_of_dvd (Nat.lcm_pos (by omega) (by omega)) (Nat.dvd_lcm_right (p - 1) (r - 1)))
  have h' : lv2L p r (Nat.lcm (p - 1) (r - 1)) m1 m0 = true := h
  generalize Nat.lcm (p - 1) (r - 1) = L at hL hL2 h'
  have h'' : (!(Nat.beq (Nat.gcd (p * r) L) 1) || lv2go p r L (invg L 100 L (p * r % L) 0 1) m1 m0) = true := h'
  generalize invg L 100 L (p * r % L) 0 1 = s0 at h''
  rcases cond_or h'' with h3 | h3
  · have h4 := beq_no h3
    refine h4 ?_
    have h5 : Nat.gcd (p * r) L ∣ p * r * s := Nat.dvd_trans (Nat.gcd_dvd_left _ _) (Nat.dvd_mul_right _ _)
    have h6 : Nat.gcd (p * r) L ∣ p * r * s - 1 := Nat.dvd_trans (Nat.gcd_dvd_right _ _) hL
    have h7 := (Nat.dvd_sub_iff_right (by omega) h5).1 h6
    exact Nat.dvd_one.1 h7
  · have h4 : (Nat.beq (p * r * s0 % L) 1 && Nat.blt s0 L && (Nat.blt (top / (p * r)) s0 ||
      (ap s0 L ((top / (p * r) - s0) / L + 1) m1 (fun k => fin p r (s0 + k * L)) && ap s0 L ((top / (p * r) - s0) / L + 1) m0 (fun k => fin p r (s0 + k * L))))) = true := h3
    simp only [Bool.and_eq_true] at h4
    obtain ⟨⟨h5, h6⟩, h7⟩ := h4
    have e5 := Nat.eq_of_beq_eq_true h5
    have l6 := blt_of h6
    have en : p * r * s % L = 1 := by
      obtain ⟨c, hc⟩ := hL
      rw [show p * r * s = 1 + L * c by omega, Nat.add_mul_mod_self_left, Nat.mod_eq_of_lt (by omega)]
    have hcop : Nat.Coprime L (p * r) := by
      have g1 : Nat.gcd L (p * r) ∣ p * r * s := Nat.dvd_trans (Nat.gcd_dvd_right _ _) (Nat.dvd_mul_right _ _)
      have g2 : Nat.gcd L (p * r) ∣ p * r * s - 1 := Nat.dvd_trans (Nat.gcd_dvd_left _ _) hL
      exact Nat.dvd_one.1 ((Nat.dvd_sub_iff_right (by omega) g1).1 g2)
    have hge : s0 ≤ s := by
      refine Classical.byContradiction fun hc => ?_
      have d1 := dvd_of_sub (x := p * r * s) (y := p * r * s0) (r := L) (by rw [en, e5])
      rw [← Nat.mul_sub] at d1
      have d2 := hcop.dvd_of_dvd_mul_left d1
      have := Nat.le_of_dvd (by omega) d2
      omega
    have d1 := dvd_of_sub (x := p * r * s0) (y := p * r * s) (r := L) (by rw [en, e5])
    rw [← Nat.mul_sub] at d1
    obtain ⟨k, hk⟩ := hcop.dvd_of_dvd_mul_left d1
    have es : s = s0 + k * L := by rw [Nat.mul_comm k]; omega
    have hT : s ≤ top / (p * r) := (Nat.le_div_iff_mul_le hpr).2 (by rw [Nat.mul_comm]; exact hb)
    have hk2 : k < (top / (p * r) - s0) / L + 1 := by
      have : k ≤ (top / (p * r) - s0) / L := (Nat.le_div_iff_mul_le (by omega)).2 (by omega)
      omega
    have hfin := fin_of hn hb h2 hs hrs hle
    rcases cond_or h7 with h8 | h8
    · have := blt_of h8; omega
    · rw [Bool.and_eq_true] at h8
      rcases hm with hm | hm
      · have := ap_out h8.1 k hk2 (by rw [← es]; exact hm)
        rw [← es, hfin] at this
        cases this
      · have := ap_out h8.2 k hk2 (by rw [← es]; exact hm)
        rw [← es, hfin] at this
        cases this
theorem tall_take {r v u : Nat} (hr : 2 < r) (hb : r < 2 ^ 32) (hu : r - 1 = 2 ^ v * u) : ∀ {as es : List Nat} (n : Nat), At2 (Tp r v u) as es → tall r u as (es.take n) = true
  | [], [], n, _ => by simp [tall]
  | a :: as, e :: es, 0, _ => by simp [tall]
  | a :: as, e :: es, n + 1, ⟨h1, h2⟩ => by
    show (tb r u a e && tall r u as (es.take n)) = true
    rw [tb_of hr hb hu h1, tall_take hr hb hu n h2]
    rfl
  | [], _ :: _, _, h => h.elim
  | _ :: _, [], _, h => h.elim
theorem chk_of {p r s v u nb : Nat} {es : List Nat} {m1 m0 : List (Nat × Nat)} (hp : 2 < p) (hpr : p < r) (hr : Pr r) (hrb : r < 2 ^ 32) (hu : r - 1 = 2 ^ v * u) (ho : u % 2 = 1) (hT : At2 (Tp r v u) bases es) (h : chk p r nb es m1 m0 = true)
    (hs : 0 < s) (hp1 : p - 1 ∣ p * r * s - 1) (hsp : ∀ a ∈ bases, SP (p * r * s) a) (hnd : ∀ a ∈ bases, ¬ r ∣ a) (hb : p * r * s ≤ top) (hrs : ∀ q, Pr q → q ∣ s → r ≤ q) (hle : r ≤ s)
    (hm : (∀ m ∈ m1, okm m.1 m.2 s = true) ∨ (∀ m ∈ m0, okm m.1 m.2 s = true)) : False := by
  have h' : (Nat.ble r p || (Nat.blt 2000 r && !(Nat.beq (Nat.gcd r low) 1)) || !(tall r (oddp 64 (r - 1)) bases (es.take nb)) || (ordb r && lv2 p r m1 m0)) = true := h
  have hr2 : 2 < r := by omega
  rcases cond_or h' with h1 | h1
  · rcases cond_or h1 with h2 | h2
    · rcases cond_or h2 with h3 | h3
      · have := Nat.le_of_ble_eq_true h3; omega
      · rw [Bool.and_eq_true] at h3
        have h4 := blt_of h3.1
        refine beq_no h3.2 (hr.cop fun hd => ?_)
        have := low_le hr hd
        omega
    · have ho2 : oddp 64 (r - 1) = u := by rw [hu]; exact oddp_eq u ho 64 v (v_lt hu (by omega) (by omega))
      rw [ho2, tall_take hr2 hrb hu nb hT] at h2
      cases h2
  · rw [Bool.and_eq_true] at h1
    have hrd : r ∣ p * r * s := ⟨p * s, by grind⟩
    have hr1 : r - 1 ∣ p * r * s - 1 := ord_dvd hr2 hrb h1.1 (fun a ha => one_down (hsp a ha).fermat hrd) (fun a ha => hr.fermat hr2 (hnd a ha))
    exact lv2_of hp hr2 hs h1.2 hp1 hr1 hb (hsp 2 (by decide)) hrs hle hm
theorem cls_of {p K s L nb : Nat} {ms : List (Nat × Nat)} {es : List Nat} {m1 m0 : List (Nat × Nat)} : ∀ n, cls p K s L ms nb es m1 m0 n = true → ∀ k, k < K → k < n * piece → (∀ m ∈ ms, okm m.1 m.2 (s + k * L) = true) → chk p (s + k * L) nb es m1 m0 = true
  | 0, _, k, _, h2, _ => by omega
  | c + 1, h, k, h1, h2, hm => by
    have h' : (ap (s + c * piece * L) L (Nat.min piece (K - c * piece)) ms (fun k => chk p (s + c * piece * L + k * L) nb es m1 m0) && cls p K s L ms nb es m1 m0 c) = true := h
    rw [Bool.and_eq_true] at h'
    rcases Nat.lt_or_ge k (c * piece) with hlt | hge
    · exact cls_of c h'.2 k h1 hlt hm
    · have e : s + k * L = s + c * piece * L + (k - c * piece) * L := by
        rw [Nat.sub_mul]
        have := Nat.mul_le_mul_right L hge
        omega
      rw [e] at hm ⊢
      refine ap_out h'.1 (k - c * piece) ?_ hm
      rw [Nat.add_mul, Nat.one_mul] at h2
      exact Nat.lt_min.2 ⟨by omega, by omega⟩
theorem clsR_of {p R s L nb : Nat} {ms : List (Nat × Nat)} {es : List Nat} {m1 m0 : List (Nat × Nat)} (h : clsR p R s L ms nb es m1 m0 = true) (hL : 0 < L) {k : Nat} (hk : s + k * L ≤ R) (hm : ∀ m ∈ ms, okm m.1 m.2 (s + k * L) = true) : chk p (s + k * L) nb es m1 m0 = true := by
  have h' : cls p (R / L + 1) s L ms nb es m1 m0 (R / L / piece + 1) = true := h
  have h1 : k ≤ R / L := (Nat.le_div_iff_mul_le hL).2 (by omega)
  refine cls_of _ h' k (by omega) ?_ hm
  have := Nat.div_add_mod (R / L) piece
  have h2 := Nat.mod_lt (R / L) (show 0 < piece by decide)
  rw [Nat.add_mul, Nat.one_mul, Nat.mul_comm]
  omega
theorem gcds_dvd {e m : Nat} : ∀ {as : List Nat}, (∀ a ∈ as, m ∣ a ^ e - 1) → m ∣ gcds e as
  | [], _ => Nat.dvd_zero _
  | a :: as, h => Nat.dvd_gcd (h a (by simp)) (gcds_dvd fun b hb => h b (by simp [hb]))
theorem dvd_pow_sub {m a e : Nat} (h : a ^ e % m = 1 % m) : m ∣ a ^ e - 1 := dvd_of_sub h.symm
theorem vb_all {n : Nat} (ho : n % 2 = 1) (hnd : ∀ a ∈ bases, ¬ a ∣ n) {d : Nat} (hd : d ∣ n) : ∀ a ∈ bases, vb a d = true := fun a ha => vb_of (odd_of_dvd hd ho) fun h => hnd a ha (Nat.dvd_trans h hd)
/-- What is reckoned of p, v, R, es tells that p divides nothing that passes but itself. -/
theorem no_small {n p v R nb : Nat} {es : List Nat} (hchk : chkP p v R nb es = true) (hp : Pr p) (hp1 : 37 < p) (hp2 : p < 1000) (hv1 : 1 ≤ v) (hR : R < 2 ^ 32) (hpn : p ∣ n) (hne : n ≠ p) (hn : n ≤ top) (hn0 : 0 < n) (hsp : ∀ a ∈ bases, SP n a) (hnd : ∀ a ∈ bases, ¬ a ∣ n) (hleast : ∀ d, 2 ≤ d → d ∣ n → p ≤ d) : False := by
  have ho : n % 2 = 1 := by
    rcases Nat.mod_two_eq_zero_or_one n with h | h
    · exact absurd (Nat.dvd_of_mod_eq_zero h) (hnd 2 (by decide))
    · exact h
  have hbn : ∀ q, Pr q → q ∣ n → 37 < q := fun q hq hd => by have := hleast q hq.1 hd; omega
  have hbq : ∀ q, Pr q → q ∣ n → ∀ a ∈ bases, ¬ q ∣ a := fun q hq hd a ha h => by
    have h1 : ∀ a ∈ bases, 0 < a ∧ a ≤ 37 := by decide
    have h2 := h1 a ha
    have := Nat.le_of_dvd h2.1 h
    have := hbn q hq hd
    omega
  obtain ⟨es', hes⟩ := At2.choose (as := bases) fun a ha => (hsp a ha).tell
  have htp : ∀ r v u, Pr r → r ∣ n → r - 1 = 2 ^ v * u → u % 2 = 1 → At2 (Tp r v u) bases es' := fun r v u hr hd hu hu1 => hes.imp fun a e ha _ h => h r v u hr hd (by have := hbn r hr hd; omega) hu hu1 (hr.fermat (by have := hbn r hr hd; omega) (hbq r hr hd a ha))
  have hchk' : (pre p v es && Nat.blt top (p * ((R + 1) * (R + 1))) && clsR p R (1 + 2 ^ v) (2 ^ (v + 1)) (ms1 v tabs es) nb es (ms1 v tabs es) ms0 && clsR p R 1 (2 ^ (v + 1)) ms0 12 es (ms1 v tabs es) ms0) = true := hchk
  simp only [Bool.and_eq_true] at hchk'
  obtain ⟨⟨⟨hpre, hRt⟩, hc1⟩, hc2⟩ := hchk'
  have hpre' : (Nat.beq (2 ^ v * oddp 64 (p - 1)) (p - 1) && Nat.beq (oddp 64 (p - 1) % 2) 1 && onlys p (oddp 64 (p - 1)) v bases es && es.any (Nat.beq v) && ordb p && Nat.beq (pw 2 (p * p) 8 (p * (p - 1))) 1 && !(Nat.beq (pw 2 (p * p) 8 (p - 1)) 1) && Nat.beq (facN p % gcds (p - 1) bases) 0) = true := hpre
  simp only [Bool.and_eq_true] at hpre'
  obtain ⟨⟨⟨⟨⟨⟨⟨q1, q2⟩, q3⟩, q4⟩, q5⟩, q6⟩, q7⟩, q8⟩ := hpre'
  have e1 := Nat.eq_of_beq_eq_true q1
  have e2 := Nat.eq_of_beq_eq_true q2
  have e8 := Nat.eq_of_beq_eq_true q8
  generalize oddp 64 (p - 1) = u at e1 e2 q3
  have hes' : es' = es := onlys_of (v := v) (by omega) (by omega) e1.symm q3 (htp p v u hp hpn e1.symm e2)
  subst hes'
  have hle : ∀ e ∈ es', e ≤ v := fun e he => by
    obtain ⟨a, _, h⟩ := (htp p v u hp hpn e1.symm e2).right e he
    exact h.le
  obtain ⟨ev, hev1, hev2⟩ := List.any_eq_true.1 q4
  have hev : ev = v := (Nat.eq_of_beq_eq_true hev2).symm
  subst hev
  have hp1n : p - 1 ∣ n - 1 := ord_dvd (by omega) (by omega) q5 (fun a ha => one_down (hsp a ha).fermat hpn) (fun a ha => hp.fermat (by omega) (hbq p hp hpn a ha))
  -- what each prime is like
  have hcl : ∀ r, Pr r → r ∣ n → ∃ w u, r - 1 = 2 ^ w * u ∧ u % 2 = 1 ∧ ev ≤ w ∧ At2 (Tp r w u) bases es' ∧ ((w = ev ∧ At2 (fun a e => chi a r = if e = ev then 1 else 0) bases es') ∨ (ev < w ∧ ∀ a ∈ bases, chi a r = 0)) := by
    intro r hr hd
    have hr37 := hbn r hr hd
    obtain ⟨w, u, h1, h2⟩ := two_split (r - 1) (by omega)
    have hT := htp r w u hr hd h1 h2
    have hw : ev ≤ w := by
      obtain ⟨a, _, h⟩ := hT.right ev hev1
      exact h.le
    have hhalf : (r - 1) / 2 = r / 2 := by have := hr.odd (by omega); omega
    have key : ∀ a ∈ bases, ∀ e, Tp r w u a e → chi a r = if e = w then 1 else 0 := by
      intro a ha e h
      have hh := h.half h1 (by omega)
      rw [hhalf] at hh
      have h0 : ∀ a ∈ bases, 0 < a := by decide
      have hc := chi_spec hr (by omega) (hbq r hr hd a ha) (h0 a ha)
      by_cases hee : e = w
      · rw [if_pos hee]
        rcases chi_two a r with h3 | h3
        · exact (one_neg (hc.1 h3) (hh.1 hee) (by omega)).elim
        · exact h3
      · rw [if_neg hee]
        rcases chi_two a r with h3 | h3
        · exact h3
        · exact (one_neg (hh.2 hee) (hc.2 h3) (by omega)).elim
    refine ⟨w, u, h1, h2, hw, hT, ?_⟩
    rcases Nat.lt_or_ge ev w with hlt | hge
    · refine .inr ⟨hlt, fun a ha => ?_⟩
      obtain ⟨e, he, h⟩ := hT.left a ha
      have h3 := key a ha e h
      have := hle e he
      rwa [if_neg (by omega)] at h3
    · have hwe : w = ev := by omega
      exact .inl ⟨hwe, hT.imp fun a e ha _ h => by have := key a ha e h; rwa [hwe] at this⟩
  have hsg : ∀ q, Pr q → q ∣ n → Sg ev es' q := fun q hq hd => by
    obtain ⟨w, u, _, _, _, _, h | h⟩ := hcl q hq hd
    · exact .inl h.2
    · exact .inr h.2
  obtain ⟨m, hm⟩ := hpn
  have hm0 : 0 < m := Nat.pos_of_ne_zero fun e => by rw [e, Nat.mul_zero] at hm; omega
  have hm1 : m ≠ 1 := fun e => hne (by rw [hm, e, Nat.mul_one])
  obtain ⟨r, hr, ⟨s, hs⟩, hrl⟩ := least_pr m (by omega)
  have hrn : r ∣ n := by rw [hm, hs]; exact ⟨p * s, by grind⟩
  have hpr : p ≤ r := hleast r hr.1 hrn
  -- p does not divide twice
  have hpr' : p < r := by
    rcases Nat.lt_or_ge p r with h | h
    · exact h
    · exfalso
      obtain rfl : r = p := by omega
      have hpp : r * r ∣ n := by rw [hm, hs]; exact ⟨s, by grind⟩
      have f1 := one_down (hsp 2 (by decide)).fermat hpp
      have hrr : r * r < 1000 * 1000 := Nat.mul_lt_mul'' hp2 hp2
      have hrr2 : r * (r - 1) ≤ r * r := Nat.mul_le_mul_left _ (by omega)
      have f2 : 2 ^ (r * (r - 1)) % (r * r) = 1 % (r * r) := by
        have := Nat.eq_of_beq_eq_true q6
        rw [pw_eq 2 (r * r) 8 _ (by omega)] at this
        have h4 : 37 * 37 < r * r := Nat.mul_lt_mul'' hp1 hp1
        rw [this, Nat.mod_eq_of_lt (show 1 < r * r by omega)]
      have f3 := one_pow_gcd _ _ f1 f2
      have f4 : Nat.gcd (n - 1) (r * (r - 1)) ∣ r - 1 := by
        have hc : Nat.Coprime (Nat.gcd (n - 1) (r * (r - 1))) r := by
          rw [Nat.Coprime, Nat.gcd_comm]
          refine hr.cop fun hd => ?_
          have h5 := Nat.dvd_trans hd (Nat.gcd_dvd_left _ _)
          have h6 := (Nat.dvd_sub_iff_right (show 1 ≤ n by omega) hrn).1 h5
          have := Nat.le_of_dvd (by decide) h6
          omega
        exact hc.dvd_of_dvd_mul_left (Nat.gcd_dvd_right _ _)
      have f5 := one_pow_dvd f3 f4
      rw [← pw_eq 2 (r * r) 8 (r - 1) (by omega)] at f5
      have h4 : 37 * 37 < r * r := Nat.mul_lt_mul'' hp1 hp1
      rw [Nat.mod_eq_of_lt (show 1 < r * r by omega)] at f5
      exact beq_no q7 f5
  have hs0 : 0 < s := Nat.pos_of_ne_zero fun e => by rw [e, Nat.mul_zero] at hs; omega
  have hnprs : n = p * r * s := by rw [hm, hs]; grind
  by_cases hs1 : s = 1
  · -- two primes
    subst hs1
    rw [Nat.mul_one] at hs
    subst hs
    have hall : ∀ a ∈ bases, m ∣ a ^ (p - 1) - 1 := fun a ha => by
      refine dvd_pow_sub ?_
      have f1 := one_down (hsp a ha).fermat hrn
      have f2 := hr.fermat (by omega) (hbq m hr hrn a ha)
      have e : n - 1 = (m - 1) * p + (p - 1) := by
        rw [hm, Nat.sub_mul, Nat.one_mul, Nat.mul_comm m p]
        have : p * 1 ≤ p * m := Nat.mul_le_mul_left p (by omega)
        omega
      rw [e, Nat.pow_add] at f1
      have f3 := cmul (one_pow_mod f2 p) (rfl : a ^ (p - 1) % m = a ^ (p - 1) % m)
      rw [f1, Nat.one_mul] at f3
      exact f3.symm
    have h3 := Nat.dvd_trans (gcds_dvd hall) (Nat.dvd_of_mod_eq_zero e8)
    have := facN_pr hr _ h3
    omega
  · obtain ⟨q, hq, hqd, _⟩ := least_pr s (by omega)
    have hrs : ∀ q, Pr q → q ∣ s → r ≤ q := fun q hq hd => hrl q hq.1 (by rw [hs]; exact Nat.dvd_mul_left_of_dvd hd _)
    have hrles : r ≤ s := Nat.le_trans (hrs q hq hqd) (Nat.le_of_dvd hs0 hqd)
    have hrR : r ≤ R := by
      refine Classical.byContradiction fun hc => ?_
      have h1 := blt_of hRt
      have h2 : (R + 1) * (R + 1) ≤ r * s := Nat.mul_le_mul (by omega) (by omega)
      have h3 := Nat.mul_le_mul_left p h2
      rw [show p * (r * s) = n by rw [hnprs, Nat.mul_assoc]] at h3
      omega
    have hsn : s ∣ n := by rw [hnprs]; exact Nat.dvd_mul_left _ _
    have hvs : ∀ a ∈ bases, vb a s = true := vb_all ho hnd hsn
    have hsgs : Sg ev es' s := Sg.all s hs0 (fun q hq hd => hsg q hq (Nat.dvd_trans hd hsn)) (fun d hd => vb_all ho hnd (Nat.dvd_trans hd hsn))
    have hmasks := hsgs.masks hvs
    have hvr : ∀ a ∈ bases, vb a r = true := vb_all ho hnd hrn
    obtain ⟨w, u', hu, hu1, hw, hT, hcase⟩ := hcl r hr hrn
    have hrodd := hr.1
    rw [hnprs] at hp1n hsp hn
    rcases hcase with ⟨rfl, hch⟩ | ⟨hlt, hch⟩
    · have e : r = 1 + 2 ^ w + (u' / 2) * 2 ^ (w + 1) := by
        have h1 : 2 ^ w * u' = 2 ^ w + (u' / 2) * 2 ^ (w + 1) := by
          obtain ⟨k, hk⟩ : ∃ k, u' = 2 * k + 1 := ⟨u' / 2, by omega⟩
          rw [hk, show (2 * k + 1) / 2 = k by omega, Nat.pow_succ]
          grind
        omega
      have hck := clsR_of hc1 (Nat.pow_pos (by decide)) (k := u' / 2) (by rw [← e]; exact hrR) (by rw [← e]; exact ms1_ok hvr (fun _ h => h) (by rw [tabs_bases]; exact hch))
      rw [← e] at hck
      exact chk_of (by omega) hpr' hr (by omega) hu hu1 hT hck hs0 hp1n hsp (fun a ha => hbq r hr hrn a ha) hn hrs hrles hmasks
    · have e : r = 1 + (2 ^ (w - (ev + 1)) * u') * 2 ^ (ev + 1) := by
        have h1 : 2 ^ w * u' = (2 ^ (w - (ev + 1)) * u') * 2 ^ (ev + 1) := by
          have : 2 ^ w = 2 ^ (w - (ev + 1)) * 2 ^ (ev + 1) := by rw [← Nat.pow_add]; congr 1; omega
          rw [this]
          grind
        omega
      have hck := clsR_of hc2 (Nat.pow_pos (by decide)) (k := 2 ^ (w - (ev + 1)) * u') (by rw [← e]; exact hrR) (by rw [← e]; exact ms0_ok hvr hch)
      rw [← e] at hck
      exact chk_of (by omega) hpr' hr (by omega) hu hu1 hT hck hs0 hp1n hsp (fun a ha => hbq r hr hrn a ha) hn hrs hrles hmasks
end Go.Proofs.YtnjbigbiclfcoaaDoor.NT
