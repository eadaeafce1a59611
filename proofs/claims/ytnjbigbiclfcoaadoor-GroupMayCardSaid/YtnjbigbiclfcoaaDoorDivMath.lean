/- The plain arithmetic of bits.Div64: Knuth's division by two halves. No program in sight. -/
import Derived.Lib.BitFns
namespace Go.Proofs.YtnjbigbiclfcoaaDoor
namespace DivM

theorem bitLen_spec : ∀ (k x : Nat), x ≠ 0 → x < 2 ^ k → k ≤ 64 → 2 ^ (Lib.bitLen x) ≤ 2 * x ∧ x < 2 ^ (Lib.bitLen x)
  | 0, x, h0, h, _ => by simp at h; omega
  | k + 1, x, h0, h, hk => by
    have h64 : x < 2 ^ 64 := Nat.lt_of_lt_of_le h (Nat.pow_le_pow_right (by omega) hk)
    rw [Lib.bitLen_half x h0 h64]
    by_cases hx : x / 2 = 0
    · have : x = 1 := by omega
      subst this
      decide
    · have ih := bitLen_spec k (x / 2) hx (by rw [Nat.pow_succ] at h; omega) (by omega)
      rw [Nat.pow_add]
      omega

theorem bitLen_bounds (x : Nat) (h0 : x ≠ 0) (h : x < 18446744073709551616) : 1 ≤ Lib.bitLen x ∧ Lib.bitLen x ≤ 64 := by
  refine ⟨?_, Lib.bitLen_le x 64 (by omega) h⟩
  have := (bitLen_spec 64 x h0 h (by omega)).2
  by_cases e : Lib.bitLen x = 0
  · rw [e] at this; omega
  · omega

theorem norm (y : Nat) (h0 : y ≠ 0) (h : y < 18446744073709551616) : 9223372036854775808 ≤ y * 2 ^ (64 - Lib.bitLen y) ∧ y * 2 ^ (64 - Lib.bitLen y) < 18446744073709551616 := by
  obtain ⟨b1, b2⟩ := bitLen_bounds y h0 h
  obtain ⟨s1, s2⟩ := bitLen_spec 64 y h0 h (by omega)
  have e : 2 ^ (Lib.bitLen y) * 2 ^ (64 - Lib.bitLen y) = 18446744073709551616 := by
    rw [← Nat.pow_add, show Lib.bitLen y + (64 - Lib.bitLen y) = 64 by omega]
  have p : 0 < 2 ^ (64 - Lib.bitLen y) := Nat.two_pow_pos _
  constructor
  · have := Nat.mul_le_mul_right (2 ^ (64 - Lib.bitLen y)) s1
    rw [e, Nat.mul_assoc] at this
    omega
  · have := (Nat.mul_lt_mul_right p).2 s2
    rw [e] at this
    exact this

theorem pows (s : Nat) (hs : s ≤ 64) : 2 ^ s * 2 ^ (64 - s) = 18446744073709551616 := by
  rw [← Nat.pow_add, show s + (64 - s) = 64 by omega]

theorem low_shift (lo s : Nat) (hs : s ≤ 64) : lo * 2 ^ s / 18446744073709551616 = lo / 2 ^ (64 - s) := by
  rw [← pows s hs, Nat.mul_comm lo, Nat.mul_div_mul_left _ _ (Nat.two_pow_pos s)]

theorem low_lt (lo s : Nat) (hs : s ≤ 64) (h : lo < 18446744073709551616) : lo / 2 ^ (64 - s) < 2 ^ s := by
  rw [Nat.div_lt_iff_lt_mul (Nat.two_pow_pos _), pows s hs]
  exact h

theorem shifted (hi lo s : Nat) (hs : s ≤ 64) : (hi * 18446744073709551616 + lo) * 2 ^ s = (hi * 2 ^ s + lo / 2 ^ (64 - s)) * 18446744073709551616 + lo * 2 ^ s % 18446744073709551616 := by
  have e := low_shift lo s hs
  have d := Nat.div_add_mod (lo * 2 ^ s) 18446744073709551616
  rw [e] at d
  rw [Nat.add_mul, Nat.add_mul, Nat.mul_right_comm]
  omega

theorem high_lt (hi lo y s : Nat) (hs : s ≤ 64) (h : lo < 18446744073709551616) (hy : hi < y) : hi * 2 ^ s + lo / 2 ^ (64 - s) < y * 2 ^ s := by
  have a := low_lt lo s hs h
  have b := Nat.mul_le_mul_right (2 ^ s) (show hi + 1 ≤ y from hy)
  rw [Nat.add_mul] at b
  omega

theorem or_add (hi lo s : Nat) (hs : s ≤ 64) (h : lo < 18446744073709551616) : (hi * 2 ^ s) ||| (lo / 2 ^ (64 - s)) = hi * 2 ^ s + lo / 2 ^ (64 - s) := by
  rw [Nat.mul_comm hi, Nat.two_pow_add_eq_or_of_lt (low_lt lo s hs h)]

/-- The state of an estimate: q stands for a quotient of U by the divisor's upper half, r for what is left. -/
structure Est (U u1 y1 y0 q r : Nat) : Prop where
  sum : q * y1 + r = U
  low : r < 4294967296
  top : q ≤ 4294967297
  over : (U * 4294967296 + u1) / (y1 * 4294967296 + y0) ≤ q

theorem Est.start {U u1 y1 y0 : Nat} (hy1 : 2147483648 ≤ y1) (hy1' : y1 < 4294967296) (hy0 : y0 < 4294967296) (hu1 : u1 < 4294967296) (hU : U < y1 * 4294967296 + y0) : Est U u1 y1 y0 (U / y1) (U % y1) := by
  have m := Nat.div_add_mod U y1
  have l := Nat.mod_lt U (show 0 < y1 by omega)
  refine ⟨by rw [Nat.mul_comm]; exact m, by omega, ?_, ?_⟩
  · have : U / y1 < 4294967298 := by
      rw [Nat.div_lt_iff_lt_mul (by omega)]
      omega
    omega
  · have : (U * 4294967296 + u1) / (y1 * 4294967296 + y0) < U / y1 + 1 := by
      rw [Nat.div_lt_iff_lt_mul (by omega), Nat.mul_add, ← Nat.mul_assoc]
      have c := Nat.mul_comm y1 (U / y1)
      have e : (U / y1 + 1) * y1 = U / y1 * y1 + y1 := by rw [Nat.add_mul, Nat.one_mul]
      rw [e]
      have z := Nat.zero_le ((U / y1 + 1) * y0)
      omega
    omega

theorem mulY (q y1 y0 : Nat) : q * (y1 * 4294967296 + y0) = q * y1 * 4294967296 + q * y0 := by rw [Nat.mul_add, Nat.mul_assoc]

/-- The test says no: the estimate is the quotient. -/
theorem Est.done {U u1 y1 y0 q r : Nat} (h : Est U u1 y1 y0 q r) (hp : 0 < y1) (ht : q * y0 ≤ 4294967296 * r + u1) : q = (U * 4294967296 + u1) / (y1 * 4294967296 + y0) := by
  apply Nat.le_antisymm _ h.over
  rw [Nat.le_div_iff_mul_le (by omega), mulY]
  have := h.sum
  omega

theorem Est.gt {U u1 y1 y0 q r : Nat} (h : Est U u1 y1 y0 q r) (_hp : 0 < y1) (hu1 : u1 < 4294967296) (hU : U < y1 * 4294967296 + y0) (ht : 4294967296 ≤ q ∨ 4294967296 * r + u1 < q * y0) : (U * 4294967296 + u1) / (y1 * 4294967296 + y0) < q := by
  rcases ht with ht | ht
  · refine Nat.lt_of_lt_of_le ?_ ht
    rw [Nat.div_lt_iff_lt_mul (by omega)]
    omega
  · rw [Nat.div_lt_iff_lt_mul (by omega), mulY]
    have := h.sum
    omega

theorem Est.pos {U u1 y1 y0 q r : Nat} (h : Est U u1 y1 y0 q r) (hp : 0 < y1) (hu1 : u1 < 4294967296) (hU : U < y1 * 4294967296 + y0) (ht : 4294967296 ≤ q ∨ 4294967296 * r + u1 < q * y0) : 1 ≤ q := by
  have g := h.gt hp hu1 hU ht
  exact Nat.lt_of_le_of_lt (Nat.zero_le _) g

theorem sum_next {U y1 q r : Nat} (h : q * y1 + r = U) (hq : 1 ≤ q) : (q - 1) * y1 + (r + y1) = U := by
  have e : q * y1 = (q - 1) * y1 + y1 := by
    conv => lhs; rw [show q = (q - 1) + 1 by omega, Nat.add_mul, Nat.one_mul]
  omega

theorem Est.next {U u1 y1 y0 q r : Nat} (h : Est U u1 y1 y0 q r) (hp : 0 < y1) (hu1 : u1 < 4294967296) (hU : U < y1 * 4294967296 + y0) (ht : 4294967296 ≤ q ∨ 4294967296 * r + u1 < q * y0) (hr : r + y1 < 4294967296) : Est U u1 y1 y0 (q - 1) (r + y1) := by
  have g := h.gt hp hu1 hU ht
  have p := h.pos hp hu1 hU ht
  refine ⟨sum_next h.sum p, hr, by have := h.top; omega, ?_⟩
  generalize (U * 4294967296 + u1) / (y1 * 4294967296 + y0) = t at *
  omega

/-- The remainder has grown past a half: the estimate is the quotient. -/
theorem Est.broke {U u1 y1 y0 q r : Nat} (h : Est U u1 y1 y0 q r) (hp : 0 < y1) (hy0 : y0 < 4294967296) (hu1 : u1 < 4294967296) (hU : U < y1 * 4294967296 + y0) (ht : 4294967296 ≤ q ∨ 4294967296 * r + u1 < q * y0) (hr : 4294967296 ≤ r + y1) : q - 1 = (U * 4294967296 + u1) / (y1 * 4294967296 + y0) := by
  have g := h.gt hp hu1 hU ht
  have s := sum_next h.sum (h.pos hp hu1 hU ht)
  have t := h.top
  apply Nat.le_antisymm _ (Nat.le_sub_one_of_lt g)
  rw [Nat.le_div_iff_mul_le (by omega), mulY]
  have b : (q - 1) * y0 ≤ 4294967296 * 4294967296 := Nat.mul_le_mul (by omega) (by omega)
  omega

theorem split0 (_V Y T W B v q r : Nat) (hT : T = W * B + v) (hd : Y * q + r = W) (_hq : q = W / Y) (_hr : r = W % Y) (hY : 0 < Y) :
    T / Y = q * B + (r * B + v) / Y ∧ T % Y = (r * B + v) % Y := by
  have e : T = (r * B + v) + Y * (q * B) := by
    rw [hT, ← hd, Nat.add_mul, Nat.mul_assoc, Nat.add_comm (Y * (q * B)), Nat.add_assoc, Nat.add_assoc, Nat.add_comm v]
  rw [e]
  exact ⟨(Nat.add_mul_div_left _ _ hY).trans (Nat.add_comm _ _), Nat.add_mul_mod_self_left _ _ _⟩

theorem joinedI (U V W T : Int) (hT : T = U * 18446744073709551616 + V) (hW : W = U * 4294967296 + V / 4294967296) : T = W * 4294967296 + V % 4294967296 := by
  omega
theorem joined (U V W T : Nat) (hT : T = U * 18446744073709551616 + V) (hW : W = U * 4294967296 + V / 4294967296) : T = W * 4294967296 + V % 4294967296 := by
  have h := joinedI U V W T (by rw [hT, Int.natCast_add, Int.natCast_mul]; rfl) (by rw [hW, Int.natCast_add, Int.natCast_mul, Int.natCast_ediv]; rfl)
  apply Int.ofNat.inj
  show (T : Int) = ((W * 4294967296 + V % 4294967296 : Nat) : Int)
  rw [Int.natCast_add, Int.natCast_mul, Int.natCast_emod]
  exact h

theorem whole0 (U V Y T W : Nat) (hY : 0 < Y) (hT : T = U * 18446744073709551616 + V) (hW : W = U * 4294967296 + V / 4294967296) :
    T / Y = W / Y * 4294967296 + (W % Y * 4294967296 + V % 4294967296) / Y ∧ T % Y = (W % Y * 4294967296 + V % 4294967296) % Y :=
  split0 V Y T W 4294967296 (V % 4294967296) (W / Y) (W % Y) (joined U V W T hT hW) (Nat.div_add_mod W Y) rfl rfl hY

theorem whole (N y s U V T W : Nat) (hy : 0 < y) (hN : N * 2 ^ s = T) (hT : T = U * 18446744073709551616 + V) (hW : W = U * 4294967296 + V / 4294967296) :
    N / y = W / (y * 2 ^ s) * 4294967296 + (W % (y * 2 ^ s) * 4294967296 + V % 4294967296) / (y * 2 ^ s) ∧
    N % y * 2 ^ s = (W % (y * 2 ^ s) * 4294967296 + V % 4294967296) % (y * 2 ^ s) := by
  have hp : 0 < 2 ^ s := Nat.two_pow_pos s
  obtain ⟨a, b⟩ := whole0 U V (y * 2 ^ s) T W (Nat.mul_pos hy hp) hT hW
  have e1 : N / y = N * 2 ^ s / (y * 2 ^ s) := (Nat.mul_div_mul_right _ _ hp).symm
  have e2 : N % y * 2 ^ s = N * 2 ^ s % (y * 2 ^ s) := (Nat.mul_mod_mul_right _ _ _).symm
  rw [hN] at e1 e2
  exact ⟨e1.trans a, e2.trans b⟩

theorem rem_wrap (U u1 Y : Nat) (hY : 0 < Y) (hY' : Y < 18446744073709551616) :
    ((((U : Int) * 4294967296) % 18446744073709551616 + u1) % 18446744073709551616 - ((((U * 4294967296 + u1) / Y : Nat) : Int) * Y) % 18446744073709551616) % 18446744073709551616 = (((U * 4294967296 + u1) % Y : Nat) : Int) := by
  have d := Nat.div_add_mod (U * 4294967296 + u1) Y
  have l := Nat.mod_lt (U * 4294967296 + u1) hY
  rw [← Int.natCast_mul, Nat.mul_comm _ Y]
  generalize Y * ((U * 4294967296 + u1) / Y) = Z at *
  generalize (U * 4294967296 + u1) % Y = R at *
  omega
end DivM
end Go.Proofs.YtnjbigbiclfcoaaDoor
