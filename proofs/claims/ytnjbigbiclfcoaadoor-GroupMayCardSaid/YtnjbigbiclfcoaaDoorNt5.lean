/- What the reckonings say. -/
import Derived.Test.YtnjbigbiclfcoaaDoorNt4
namespace Go.Proofs.YtnjbigbiclfcoaaDoor.NT

theorem blt_of {a b : Nat} (h : Nat.blt a b = true) : a < b := Nat.le_of_ble_eq_true h
theorem cond_or {b c : Bool} (h : (b || c) = true) : b = true ∨ c = true := by cases b <;> simp_all
theorem beq_no {a b : Nat} (h : (!(Nat.beq a b)) = true) : a ≠ b := fun e => by subst e; simp at h
theorem two_split : ∀ n, 0 < n → ∃ v u, n = 2 ^ v * u ∧ u % 2 = 1 := by
  intro n
  induction n using Nat.strongRecOn with
  | _ n ih =>
    intro hn
    rcases Nat.mod_two_eq_zero_or_one n with h | h
    · obtain ⟨v, u, h1, h2⟩ := ih (n / 2) (by omega) (by omega)
      exact ⟨v + 1, u, by rw [Nat.pow_succ, show 2 ^ v * 2 * u = 2 * (2 ^ v * u) by grind, ← h1]; omega, h2⟩
    · exact ⟨0, n, by simp, h⟩
theorem oddp_eq (u : Nat) (hu : u % 2 = 1) : ∀ f v, v < f → oddp f (2 ^ v * u) = u
  | 0, v, h => by omega
  | f + 1, v, h => by
    show (bif Nat.beq (2 ^ v * u % 2) 0 then oddp f (2 ^ v * u / 2) else 2 ^ v * u) = u
    cases v with
    | zero =>
      have : Nat.beq (2 ^ 0 * u % 2) 0 = false := by rw [Nat.pow_zero, Nat.one_mul, hu]; rfl
      rw [this]
      simp
    | succ v =>
      have e : 2 ^ (v + 1) * u = 2 * (2 ^ v * u) := by rw [Nat.pow_succ]; grind
      have : Nat.beq (2 ^ (v + 1) * u % 2) 0 = true := by rw [e, Nat.mul_mod_right]; rfl
      rw [this, e, Nat.mul_div_cancel_left _ (by decide)]
      exact oddp_eq u hu f v (by omega)
theorem v_lt {x v u : Nat} (h : x = 2 ^ v * u) (hx : 0 < x) (hb : x < 2 ^ 64) : v < 64 := by
  refine Classical.byContradiction fun hc => ?_
  have h1 : 2 ^ 64 ≤ 2 ^ v := Nat.pow_le_pow_right (by decide) (by omega)
  have hu : 0 < u := by
    rcases Nat.eq_zero_or_pos u with e | e
    · subst e; omega
    · exact e
  have : 2 ^ v * 1 ≤ 2 ^ v * u := Nat.mul_le_mul_left _ hu
  omega
/-- Two lists, place by place. -/
def At2 (R : Nat → Nat → Prop) : List Nat → List Nat → Prop
  | a :: as, e :: es => R a e ∧ At2 R as es
  | [], [] => True
  | _, _ => False
theorem At2.imp {R S : Nat → Nat → Prop} : ∀ {as es : List Nat}, At2 R as es → (∀ a e, a ∈ as → e ∈ es → R a e → S a e) → At2 S as es
  | [], [], _, _ => trivial
  | _ :: _, _ :: _, ⟨h1, h2⟩, h => ⟨h _ _ (by simp) (by simp) h1, At2.imp h2 fun a e ha he => h a e (by simp [ha]) (by simp [he])⟩
  | [], _ :: _, h, _ => h.elim
  | _ :: _, [], h, _ => h.elim
theorem At2.and {R S : Nat → Nat → Prop} : ∀ {as es : List Nat}, At2 R as es → At2 S as es → At2 (fun a e => R a e ∧ S a e) as es
  | [], [], _, _ => trivial
  | _ :: _, _ :: _, ⟨h1, h2⟩, ⟨k1, k2⟩ => ⟨⟨h1, k1⟩, At2.and h2 k2⟩
  | [], _ :: _, h, _ => h.elim
  | _ :: _, [], h, _ => h.elim
theorem At2.left {R : Nat → Nat → Prop} : ∀ {as es : List Nat}, At2 R as es → ∀ a ∈ as, ∃ e, e ∈ es ∧ R a e
  | [], [], _, a, ha => by simp at ha
  | b :: as, e :: es, ⟨h1, h2⟩, a, ha => by
    rcases List.mem_cons.1 ha with rfl | ha
    · exact ⟨e, by simp, h1⟩
    · obtain ⟨e', h3, h4⟩ := At2.left h2 a ha
      exact ⟨e', by simp [h3], h4⟩
  | [], _ :: _, h, _, _ => h.elim
  | _ :: _, [], h, _, _ => h.elim
theorem At2.right {R : Nat → Nat → Prop} : ∀ {as es : List Nat}, At2 R as es → ∀ e ∈ es, ∃ a, a ∈ as ∧ R a e
  | [], [], _, e, he => by simp at he
  | b :: as, e :: es, ⟨h1, h2⟩, e', he => by
    rcases List.mem_cons.1 he with rfl | he
    · exact ⟨b, by simp, h1⟩
    · obtain ⟨a, h3, h4⟩ := At2.right h2 e' he
      exact ⟨a, by simp [h3], h4⟩
  | [], _ :: _, h, _, _ => h.elim
  | _ :: _, [], h, _, _ => h.elim
theorem At2.choose {R : Nat → Nat → Prop} : ∀ {as : List Nat}, (∀ a ∈ as, ∃ e, R a e) → ∃ es, At2 R as es
  | [], _ => ⟨[], trivial⟩
  | a :: as, h => by
    obtain ⟨e, he⟩ := h a (by simp)
    obtain ⟨es, hes⟩ := At2.choose (as := as) fun b hb => h b (by simp [hb])
    exact ⟨e :: es, he, hes⟩
theorem Tp.le {r v u a e : Nat} (h : Tp r v u a e) : e ≤ v := by
  rcases h with ⟨rfl, _⟩ | ⟨_, h, _⟩
  · omega
  · exact h
theorem exp_le {v u e : Nat} (h : e ≤ v) : 2 ^ (e - 1) * u ≤ 2 ^ v * u := Nat.mul_le_mul_right u (Nat.pow_le_pow_right (by decide) (by omega))
theorem tb_of {r v u a e : Nat} (hr : 2 < r) (hb : r < 2 ^ 32) (hu : r - 1 = 2 ^ v * u) (h : Tp r v u a e) : tb r u a e = true := by
  rcases h with ⟨rfl, h⟩ | ⟨h1, h2, h⟩
  · show (bif Nat.beq 0 0 then Nat.beq (pw a r 4 u) 1 else _) = true
    have hle : u ≤ 2 ^ v * u := Nat.le_mul_of_pos_left u (Nat.pow_pos (by decide))
    rw [pw_eq a r 4 u (by omega), h, Nat.mod_eq_of_lt (by omega)]
    rfl
  · have he : Nat.beq e 0 = false := by
      cases hh : Nat.beq e 0 with
      | false => rfl
      | true => have := Nat.eq_of_beq_eq_true hh; omega
    show (bif Nat.beq e 0 then _ else Nat.beq (pw a r 4 (2 ^ (e - 1) * u) + 1) r) = true
    have hle := exp_le (u := u) h2
    rw [he, cond_false, pw_eq a r 4 (2 ^ (e - 1) * u) (by omega)]
    have hlt := Nat.mod_lt (a ^ (2 ^ (e - 1) * u)) (show 0 < r by omega)
    have h' := h
    rw [Nat.add_mod, Nat.mod_eq_of_lt (show 1 < r by omega)] at h'
    have : a ^ (2 ^ (e - 1) * u) % r + 1 = r := by
      rcases Nat.lt_or_ge (a ^ (2 ^ (e - 1) * u) % r + 1) r with hl | hg
      · rw [Nat.mod_eq_of_lt hl] at h'; omega
      · omega
    rw [this]
    exact Nat.beq_refl r
theorem tall_of {r v u : Nat} (hr : 2 < r) (hb : r < 2 ^ 32) (hu : r - 1 = 2 ^ v * u) : ∀ {as es : List Nat}, At2 (Tp r v u) as es → tall r u as es = true
  | [], [], _ => rfl
  | a :: as, e :: es, ⟨h1, h2⟩ => by
    show (tb r u a e && tall r u as es) = true
    rw [tb_of hr hb hu h1, tall_of hr hb hu h2]
    rfl
  | [], _ :: _, h => h.elim
  | _ :: _, [], h => h.elim
theorem only_of {r u a e : Nat} : ∀ v, Nat.rec (motive := fun _ => Bool) true (fun k ih => (bif tb r u a k then Nat.beq k e else true) && ih) v = true → ∀ k, k < v → tb r u a k = true → k = e
  | 0, _, k, hk, _ => by omega
  | v + 1, h, k, hk, ht => by
    have h' : ((bif tb r u a v then Nat.beq v e else true) && Nat.rec (motive := fun _ => Bool) true (fun k ih => (bif tb r u a k then Nat.beq k e else true) && ih) v) = true := h
    rw [Bool.and_eq_true] at h'
    rcases Nat.lt_or_ge k v with hlt | hge
    · exact only_of v h'.2 k hlt ht
    · obtain rfl : k = v := by omega
      rw [ht] at h'
      exact Nat.eq_of_beq_eq_true h'.1
theorem onlys_of {r v u : Nat} (hr : 2 < r) (hb : r < 2 ^ 32) (hu : r - 1 = 2 ^ v * u) : ∀ {as es es' : List Nat}, onlys r u v as es = true → At2 (Tp r v u) as es' → es' = es
  | [], [], [], _, _ => rfl
  | a :: as, e :: es, e' :: es', h, ⟨h1, h2⟩ => by
    have h' : (only r u a e v && onlys r u v as es) = true := h
    rw [Bool.and_eq_true] at h'
    have e1 := only_of (v + 1) h'.1 e' (by have := h1.le; omega) (tb_of hr hb hu h1)
    rw [e1, onlys_of hr hb hu h'.2 h2]
  | [], _ :: _, _, h, _ => by simp [onlys] at h
  | _ :: _, [], _, h, _ => by simp [onlys] at h
  | [], [], _ :: _, _, h => h.elim
  | _ :: _, _ :: _, [], _, h => h.elim
theorem good_of {r q : Nat} (hr : 2 < r) (hb : r < 2 ^ 32) : ∀ {as : List Nat}, good r q as = true → ∃ a ∈ as, a ^ ((r - 1) / q) % r ≠ 1
  | [], h => by simp [good] at h
  | a :: as, h => by
    have h' : (!(Nat.beq (pw a r 4 ((r - 1) / q)) 1) || good r q as) = true := h
    rcases cond_or h' with h1 | h1
    · refine ⟨a, by simp, ?_⟩
      have := Nat.div_le_self (r - 1) q
      rw [pw_eq a r 4 _ (by omega)] at h1
      exact beq_no h1
    · obtain ⟨b, h2, h3⟩ := good_of hr hb h1
      exact ⟨b, by simp [h2], h3⟩
theorem eachb_of {r D lo : Nat} : ∀ n, eachb r D lo n = true → ∀ k, lo < k → k ≤ lo + n → k ∣ D → good r k bases = true
  | 0, _, k, h1, h2, _ => by omega
  | n + 1, h, k, h1, h2, hd => by
    have h' : ((bif Nat.beq (D % (lo + (n + 1))) 0 then good r (lo + (n + 1)) bases else true) && eachb r D lo n) = true := h
    rw [Bool.and_eq_true] at h'
    rcases Nat.lt_or_ge k (lo + (n + 1)) with hlt | hge
    · exact eachb_of n h'.2 k h1 (by omega) hd
    · obtain rfl : k = lo + (n + 1) := by omega
      rw [Nat.mod_eq_zero_of_dvd hd] at h'
      exact h'.1
theorem rmall_of (P : Nat) : ∀ f z, ∃ w, z = w * rmall P f z ∧ ∀ q, Pr q → q ∣ w → q ∣ Nat.gcd z P
  | 0, z => ⟨1, by show z = 1 * z; omega, fun q hq hd => by have := Nat.le_of_dvd (by decide) hd; have := hq.1; omega⟩
  | f + 1, z => by
    show ∃ w, z = w * (bif Nat.beq (Nat.gcd z P) 1 then z else rmall P f (z / Nat.gcd z P)) ∧ _
    cases Nat.beq (Nat.gcd z P) 1 with
    | true => exact ⟨1, by simp, fun q hq hd => by have := Nat.le_of_dvd (by decide) hd; have := hq.1; omega⟩
    | false =>
      obtain ⟨w, h1, h2⟩ := rmall_of P f (z / Nat.gcd z P)
      refine ⟨Nat.gcd z P * w, ?_, fun q hq hd => ?_⟩
      · rw [cond_false, Nat.mul_assoc, ← h1, Nat.mul_div_cancel' (Nat.gcd_dvd_left _ _)]
      · rcases hq.mul hd with h3 | h3
        · exact h3
        · have h4 := h2 q hq h3
          exact Nat.dvd_gcd (Nat.dvd_trans (Nat.dvd_trans h4 (Nat.gcd_dvd_left _ _)) (Nat.div_dvd_of_dvd (Nat.gcd_dvd_left _ _))) (Nat.dvd_trans h4 (Nat.gcd_dvd_right _ _))
theorem facN_pr {q : Nat} (hq : Pr q) : ∀ n, q ∣ facN n → q ≤ n
  | 0, h => by
    have : q ∣ 1 := h
    have := Nat.le_of_dvd (by decide) this
    have := hq.1
    omega
  | n + 1, h => by
    have h' : q ∣ facN n * (n + 1) := h
    rcases hq.mul h' with h1 | h1
    · have := facN_pr hq n h1; omega
    · exact Nat.le_of_dvd (by omega) h1
/-- Is k a prime (below 125 squared)? -/
def isP (k : Nat) : Bool := Nat.beq (Nat.gcd k (facN (Nat.min (Nat.sub k 1) 124))) 1
theorem isP_of {k : Nat} (hk : Pr k) : isP k = true := by
  unfold isP
  have h : Nat.gcd k (facN (Nat.min (k - 1) 124)) = 1 := by
    refine hk.cop fun hd => ?_
    have h1 := facN_pr hk _ hd
    have h2 : Nat.min (k - 1) 124 ≤ k - 1 := Nat.min_le_left _ _
    have := hk.1
    omega
  show Nat.beq (Nat.gcd k (facN (Nat.min (k - 1) 124))) 1 = true
  rw [h]
  rfl
def prodB (lo n : Nat) : Nat := Nat.rec (motive := fun _ => Nat) 1 (fun k ih => bif isP (Nat.add lo (Nat.add k 1)) then Nat.mul ih (Nat.add lo (Nat.add k 1)) else ih) n
theorem prodB_has (lo : Nat) {q : Nat} (hq : Pr q) : ∀ n, lo < q → q ≤ lo + n → q ∣ prodB lo n
  | 0, h1, h2 => by omega
  | n + 1, h1, h2 => by
    show q ∣ (bif isP (lo + (n + 1)) then prodB lo n * (lo + (n + 1)) else prodB lo n)
    rcases Nat.lt_or_ge q (lo + (n + 1)) with hlt | hge
    · have ih := prodB_has lo hq n h1 (by omega)
      cases isP (lo + (n + 1)) with
      | true => exact Nat.dvd_mul_right_of_dvd ih _
      | false => exact ih
    · obtain rfl : q = lo + (n + 1) := by omega
      rw [isP_of hq]
      exact Nat.dvd_mul_left _ _
theorem prodB_le (lo : Nat) {q : Nat} (hq : Pr q) : ∀ n, q ∣ prodB lo n → q ≤ lo + n
  | 0, h => by
    have : q ∣ 1 := h
    have := Nat.le_of_dvd (by decide) this
    have := hq.1
    omega
  | n + 1, h => by
    have h' : q ∣ (bif isP (lo + (n + 1)) then prodB lo n * (lo + (n + 1)) else prodB lo n) := h
    cases hb : isP (lo + (n + 1)) with
    | false => rw [hb] at h'; have := prodB_le lo hq n h'; omega
    | true =>
      rw [hb] at h'
      rcases hq.mul h' with h1 | h1
      · have := prodB_le lo hq n h1; omega
      · exact Nat.le_of_dvd (by omega) h1
/-- The blocks are what they are to be. -/
def okbl : Nat → List (Nat × Nat × Nat) → Bool
  | _, [] => true
  | lo, b :: bs => Nat.beq b.1 lo && Nat.beq b.2.2 (prodB lo (Nat.sub b.2.1 lo)) && Nat.ble lo b.2.1 && Nat.blt b.2.1 (Nat.mul (Nat.add lo 1) (Nat.add lo 1)) && okbl b.2.1 bs
theorem prime_small {D lo : Nat} (hD : 0 < D) (hlo : ∀ q, Pr q → q ∣ D → lo < q) (hlt : D < (lo + 1) * (lo + 1)) {q : Nat} (hq : Pr q) (hd : q ∣ D) : q = D := by
  obtain ⟨c, rfl⟩ := hd
  have h1 := hlo q hq (Nat.dvd_mul_right _ _)
  rcases Nat.lt_or_ge c 2 with h | h
  · have : c = 0 ∨ c = 1 := by omega
    rcases this with rfl | rfl <;> omega
  · obtain ⟨q', hq', hd', _⟩ := least_pr c h
    have h2 := hlo q' hq' (Nat.dvd_trans hd' (Nat.dvd_mul_left _ _))
    have h3 := Nat.le_of_dvd (by omega) hd'
    have : (lo + 1) * (lo + 1) ≤ q * c := Nat.mul_le_mul (by omega) (by omega)
    omega
theorem ordgo_of {r : Nat} (fb : Nat → Nat → Nat → Bool) (hfb : ∀ D lo n, 0 < D → fb D lo n = true → ∀ q, Pr q → q ∣ D → lo < q → q ≤ lo + n → good r q bases = true) : ∀ (bl : List (Nat × Nat × Nat)) (lo z : Nat), ordgo fb r bl lo z = true → okbl lo bl = true → 0 < z → (∀ q, Pr q → q ∣ z → lo < q) → ∀ q, Pr q → q ∣ z → good r q bases = true
  | [], lo, z, h, _, hz, hlo, q, hq, hd => by
    have h' : (Nat.beq z 1 || (good r z bases && Nat.blt z ((lo + 1) * (lo + 1)))) = true := h
    rcases cond_or h' with h1 | h1
    · have := Nat.eq_of_beq_eq_true h1
      subst this
      have := Nat.le_of_dvd (by decide) hd
      have := hq.1
      omega
    · rw [Bool.and_eq_true] at h1
      have := prime_small hz hlo (blt_of h1.2) hq hd
      subst this
      exact h1.1
  | b :: bs, lo, z, h, hok, hz, hlo, q, hq, hd => by
    have h' : (Nat.beq z 1 || (bif Nat.beq (Nat.gcd z b.2.2) 1 then ordgo fb r bs b.2.1 z else
      (bif Nat.ble (Nat.gcd z b.2.2) b.2.1 then good r (Nat.gcd z b.2.2) bases else fb (Nat.gcd z b.2.2) lo (b.2.1 - lo)) && Nat.beq (Nat.gcd (rmall b.2.2 64 z) b.2.2) 1 && ordgo fb r bs b.2.1 (rmall b.2.2 64 z))) = true := h
    have hok' : (Nat.beq b.1 lo && Nat.beq b.2.2 (prodB lo (b.2.1 - lo)) && Nat.ble lo b.2.1 && Nat.blt b.2.1 ((lo + 1) * (lo + 1)) && okbl b.2.1 bs) = true := hok
    simp only [Bool.and_eq_true] at hok'
    obtain ⟨⟨⟨⟨_, o2⟩, o3⟩, o4⟩, o5⟩ := hok'
    have e2 := Nat.eq_of_beq_eq_true o2
    have l3 := Nat.le_of_ble_eq_true o3
    have l4 : b.2.1 < (lo + 1) * (lo + 1) := blt_of o4
    have hP : ∀ q, Pr q → lo < q → q ≤ b.2.1 → q ∣ b.2.2 := fun q hq h1 h2 => by rw [e2]; exact prodB_has lo hq _ h1 (by omega)
    have hP2 : ∀ q, Pr q → q ∣ b.2.2 → q ≤ b.2.1 := fun q hq h1 => by rw [e2] at h1; have := prodB_le lo hq _ h1; omega
    rcases cond_or h' with h1 | h1
    · have := Nat.eq_of_beq_eq_true h1
      subst this
      have := Nat.le_of_dvd (by decide) hd
      have := hq.1
      omega
    · cases hg : Nat.beq (Nat.gcd z b.2.2) 1 with
      | true =>
        rw [hg] at h1
        have hg1 := Nat.eq_of_beq_eq_true hg
        refine ordgo_of fb hfb bs b.2.1 z h1 o5 hz (fun q hq hd => ?_) q hq hd
        refine Classical.byContradiction fun hc => ?_
        have := Nat.dvd_gcd hd (hP q hq (hlo q hq hd) (by omega))
        rw [hg1] at this
        have := Nat.le_of_dvd (by decide) this
        have := hq.1
        omega
      | false =>
        rw [hg] at h1
        simp only [cond_false, Bool.and_eq_true] at h1
        obtain ⟨⟨h2, h3⟩, h4⟩ := h1
        have hg1 := Nat.eq_of_beq_eq_true h3
        obtain ⟨w, hw1, hw2⟩ := rmall_of b.2.2 64 z
        have hzp : 0 < rmall b.2.2 64 z := Nat.pos_of_ne_zero fun e => by rw [e, Nat.mul_zero] at hw1; omega
        have hD : 0 < Nat.gcd z b.2.2 := Nat.gcd_pos_of_pos_left _ hz
        have hDlo : ∀ q, Pr q → q ∣ Nat.gcd z b.2.2 → lo < q := fun q hq hd => hlo q hq (Nat.dvd_trans hd (Nat.gcd_dvd_left _ _))
        rw [hw1] at hd
        rcases hq.mul hd with hd1 | hd1
        · have hd2 := hw2 q hq hd1
          cases hb : Nat.ble (Nat.gcd z b.2.2) b.2.1 with
          | true =>
            rw [hb] at h2
            have := Nat.le_of_ble_eq_true hb
            rw [prime_small hD hDlo (by omega) hq hd2]
            exact h2
          | false =>
            rw [hb] at h2
            have l5 := hP2 q hq (Nat.dvd_trans hd2 (Nat.gcd_dvd_right _ _))
            exact hfb _ _ _ hD h2 q hq hd2 (hDlo q hq hd2) (by omega)
        · refine ordgo_of fb hfb bs b.2.1 _ h4 o5 hzp (fun q hq hd => ?_) q hq hd1
          refine Classical.byContradiction fun hc => ?_
          have hz2 : q ∣ z := by rw [hw1]; exact Nat.dvd_mul_left_of_dvd hd _
          have := Nat.dvd_gcd hd (hP q hq (hlo q hq hz2) (by omega))
          rw [hg1] at this
          have := Nat.le_of_dvd (by decide) this
          have := hq.1
          omega
set_option maxRecDepth 100000 in
theorem blks_ok : okbl 1 blks = true := by decide +kernel
set_option maxRecDepth 100000 in
theorem fine_ok : okbl 1 fine = true := by decide +kernel
/-- What is told of all primes that divide r - 1 tells that r - 1 divides. -/
theorem ord_dvd {r N : Nat} (hr : 2 < r) (hb : r < 2 ^ 32) (h : ordb r = true) (hN : ∀ a ∈ bases, a ^ N % r = 1 % r) (hf : ∀ a ∈ bases, a ^ (r - 1) % r = 1 % r) : r - 1 ∣ N := by
  have key := ordgo_of (r := r) (fun D _ _ => ordgo (eachb r) r fine 1 D) (fun D lo n hD h1 q hq hd _ _ => ordgo_of (eachb r) (fun D lo n _ h2 q _ hd h3 h4 => eachb_of n h2 q h3 h4 hd) fine 1 D h1 fine_ok hD (fun q hq _ => by have := hq.1; omega) q hq hd) blks 1 (r - 1) h blks_ok (by omega) (fun q hq _ => by have := hq.1; omega)
  refine Classical.byContradiction fun hc => ?_
  have hg : Nat.gcd N (r - 1) ∣ r - 1 := Nat.gcd_dvd_right _ _
  obtain ⟨c, hcc⟩ := hg
  have hc0 : c ≠ 0 := fun e => by rw [e, Nat.mul_zero] at hcc; omega
  have hc1 : c ≠ 1 := fun e => hc (by rw [e, Nat.mul_one] at hcc; rw [hcc]; exact Nat.gcd_dvd_left _ _)
  obtain ⟨q, hq, hqc, _⟩ := least_pr c (by omega)
  obtain ⟨d, rfl⟩ := hqc
  have hqd : q ∣ r - 1 := by rw [hcc]; exact ⟨Nat.gcd N (r - 1) * d, by grind⟩
  obtain ⟨a, ha, hne⟩ := good_of hr hb (key q hq hqd)
  refine hne ?_
  have h1 := one_pow_gcd N (r - 1) (hN a ha) (hf a ha)
  have h2 : (r - 1) / q = Nat.gcd N (r - 1) * d := by
    have e : r - 1 = q * (Nat.gcd N (r - 1) * d) := by
      calc r - 1 = Nat.gcd N (r - 1) * (q * d) := hcc
        _ = q * (Nat.gcd N (r - 1) * d) := by grind
    have hqp := hq.1
    calc (r - 1) / q = q * (Nat.gcd N (r - 1) * d) / q := by rw [← e]
      _ = Nat.gcd N (r - 1) * d := Nat.mul_div_cancel_left _ (by omega)
  rw [h2]
  have := one_pow_mod h1 d
  rwa [Nat.mod_eq_of_lt (show 1 < r by omega)] at this
end Go.Proofs.YtnjbigbiclfcoaaDoor.NT
