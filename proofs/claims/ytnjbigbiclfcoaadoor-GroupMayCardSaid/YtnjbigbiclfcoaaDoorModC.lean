/- math/bits.Rem64, mod.Mul and Pow, walked. -/
import Derived.Test.YtnjbigbiclfcoaaDoorModC0
import Derived.Test.YtnjbigbiclfcoaaDoorModB
namespace Go.Proofs.YtnjbigbiclfcoaaDoor
open Go.RowKit

set_option maxHeartbeats 400000 in
theorem rem64_any (hi lo y : Int) (w : World) (h0 : 0 ≤ hi) (hl0 : 0 ≤ lo) (hl : lo < 18446744073709551616) (hy : y < 18446744073709551616) (h1 : hi < y) :
    Calls Tryd.prog 42 #[.int .u64 hi, .int .u64 lo, .int .u64 y] w fun e w' => e = .returned (.int .u64 (rem128 hi lo y)) ∧ ∃ n, w' = w.drewN n := by
  have e1 : hi % y = hi := Int.emod_eq_of_lt h0 h1
  go_enter Tryd.func42, Tryd.ntmps42
  go_wp2_with (go_at_call 47; refine (div64_int _ _ _ _ h0 hl0 hl hy h1).mono ?_; rintro e w' ⟨rfl, n, rfl⟩)
  go_ret
  exact ⟨rfl, _, rfl⟩

def mulI (a b m : Int) : Int := if mayB m then (a % m * (b % m)) % m else 0
def hi64 (x y : Int) : Int := x * y / 18446744073709551616
def lo64 (x y : Int) : Int := x * y % 18446744073709551616
theorem mul64_int (x y : Int) (w : World) (hx0 : 0 ≤ x) (hx : x < 18446744073709551616) (hy0 : 0 ≤ y) (hy : y < 18446744073709551616) :
    Calls Tryd.prog 41 #[.int .u64 x, .int .u64 y] w fun e w' => e = .returned (.tuple #[.int .u64 (hi64 x y), .int .u64 (lo64 x y)]) ∧ w' = w := by
  obtain ⟨a, rfl⟩ := Int.eq_ofNat_of_zero_le hx0
  obtain ⟨b, rfl⟩ := Int.eq_ofNat_of_zero_le hy0
  refine (mul64_nat a b (by omega) (by omega) w).mono ?_
  rintro e w' ⟨rfl, hn⟩
  refine ⟨?_, hn.symm⟩
  unfold hi64 lo64
  rw [Int.natCast_ediv, Int.natCast_emod, Int.natCast_mul]
  rfl
theorem lo64_bd (x y : Int) : 0 ≤ lo64 x y ∧ lo64 x y < 18446744073709551616 := emod_bd _ _ (by decide)
theorem hi64_bd (x y m : Int) (hx0 : 0 ≤ x) (hx : x < m) (hy0 : 0 ≤ y) (hy : y < m) (hm : m ≤ 18446744073709551616) : 0 ≤ hi64 x y ∧ hi64 x y < m := by
  unfold hi64
  have h0 := Int.mul_nonneg hx0 hy0
  have h1 : x * y < m * 18446744073709551616 := Int.lt_of_le_of_lt (Int.mul_le_mul_of_nonneg_left (show y ≤ 18446744073709551616 by omega) hx0) (by omega)
  exact ⟨by omega, by omega⟩
theorem hilo (x y : Int) : hi64 x y * 18446744073709551616 + lo64 x y = x * y := by unfold hi64 lo64; omega
theorem rem_hilo (x y m : Int) : rem128 (hi64 x y) (lo64 x y) m = x * y % m := by unfold rem128; rw [hilo]

set_option maxHeartbeats 400000 in
theorem mul_any (a b m : Int) (w : World) (ha : U64 a) (hb : U64 b) :
    Calls Tryd.prog 20 #[.int .u64 a, .int .u64 b, .int .u64 m] w fun e w' => e = .returned (.int .u64 (mulI a b m)) ∧ ∃ n, w' = w.drewN n := by
  unfold U64 at ha hb
  obtain ⟨ha0, ha1⟩ := ha
  obtain ⟨hb0, hb1⟩ := hb
  cases hm : mayB m with
  | false =>
    have H := Lib.hid hm
    have hr : mulI a b m = 0 := by simp [mulI, hm]
    rw [hr]
    clear hm hr
    go_enter Tryd.func20, Tryd.ntmps20
    go_wp2_with (go_at_call 40; refine (may_no _ _ H.out).mono ?_; rintro e w' ⟨rfl, rfl⟩)
    go_ret
    exact ⟨rfl, 0, rfl⟩
  | true =>
    have H := Lib.hid hm
    have hr : mulI a b m = a % m * (b % m) % m := by simp [mulI, hm]
    rw [hr]
    simp [mayB] at hm
    obtain ⟨hm0, hm1⟩ := hm
    obtain ⟨e1, e2⟩ := emod_bd a m hm0
    obtain ⟨e3, e4⟩ := emod_bd b m hm0
    have HR := Lib.hid (rem_hilo (a % m) (b % m) m)
    obtain ⟨l0, l1⟩ := lo64_bd (a % m) (b % m)
    obtain ⟨h0, h1⟩ := hi64_bd (a % m) (b % m) m e1 e2 e3 e4 (by omega)
    clear hr
    go_enter Tryd.func20, Tryd.ntmps20
    go_wp2_with (go_at_call 40; refine (may_yes _ _ H.out).mono ?_; rintro e w' ⟨rfl, rfl⟩)
    go_quiet ((go_at_call 41; exact Calls.quiet_of_same (mul64_int _ _ _ e1 (by omega) e3 (by omega))))
    go_wp2_with (go_at_call 42; refine (rem64_any _ _ _ _ h0 l0 l1 (by omega) h1).mono ?_; rintro e w' ⟨rfl, n, rfl⟩)
    go_ret
    refine ⟨?_, _, rfl⟩
    exact congrArg Ending.returned (congrArg (Value.int .u64) HR.out)

def powI (a e m : Int) : Int := if mayB m then a ^ e.toNat % m else 0

theorem mulI_yes (a b m : Int) (hm : mayB m = true) : mulI a b m = a * b % m := by
  simp [mulI, hm, Int.mul_emod]
theorem mulI_bd (a b m : Int) (hm : mayB m = true) : 0 ≤ mulI a b m ∧ mulI a b m < m := by
  rw [mulI_yes a b m hm]
  simp [mayB] at hm
  exact emod_bd _ _ hm.1
theorem mulI_U64 (a b m : Int) : U64 (mulI a b m) := by
  cases hm : mayB m with
  | false => simp [mulI, hm, U64]
  | true =>
    have := mulI_bd a b m hm
    simp [mayB] at hm
    unfold U64
    omega

/-- What the loop of Pow keeps: out times a to e is what is asked for. -/
def PowRel (a0 e0 m o x k : Int) : Prop := Cg m (o * x ^ k.toNat) (a0 ^ e0.toNat)
theorem PowRel.start (a e m : Int) : PowRel a e m (1 % m) a e := ((Cg.mod m 1).mul_right _).trans (Cg.of_eq (Int.one_mul _))
theorem mulI_cg (a b m : Int) (hm : mayB m = true) : Cg m (mulI a b m) (a * b) := by
  rw [mulI_yes a b m hm]
  exact Cg.mod _ _
theorem PowRel.even {a e m o x k : Int} (hm : mayB m = true) (h : PowRel a e m o x k) (hk : 0 ≤ k) (h2 : k % 2 = 0) : PowRel a e m o (mulI x x m) (k / 2) := by
  refine Cg.trans ?_ h
  rw [toNat_even k hk h2, ← pow_sq]
  exact ((mulI_cg x x m hm).pow _).mul_left _
theorem PowRel.odd {a e m o x k : Int} (hm : mayB m = true) (h : PowRel a e m o x k) (hk : 0 ≤ k) (h2 : k % 2 = 1) : PowRel a e m (mulI o x m) (mulI x x m) (k / 2) := by
  refine Cg.trans ?_ h
  rw [toNat_odd k hk h2, Int.pow_succ, ← pow_sq]
  refine ((mulI_cg o x m hm).mul ((mulI_cg x x m hm).pow _)).trans (Cg.of_eq ?_)
  rw [Int.mul_assoc, Int.mul_comm x]
theorem PowRel.done {a e m o x k : Int} (h : PowRel a e m o x k) (hk : k = 0) (h0 : 0 ≤ o) (h1 : o < m) : o = a ^ e.toNat % m := by
  subst hk
  unfold PowRel Cg at h
  rw [← h]
  simp [Int.emod_eq_of_lt h0 h1]

set_option maxHeartbeats 400000 in
theorem pow_any (a e m : Int) (w : World) (ha : U64 a) (he : U64 e) :
    Calls Tryd.prog 39 #[.int .u64 a, .int .u64 e, .int .u64 m] w fun e' w' => e' = .returned (.int .u64 (powI a e m)) ∧ ∃ n, w' = w.drewN n := by
  cases hm : mayB m with
  | false =>
    have H := Lib.hid hm
    have hr : powI a e m = 0 := by simp [powI, hm]
    rw [hr]
    clear hm hr
    go_enter Tryd.func39, Tryd.ntmps39
    go_wp2_with (go_at_call 40; refine (may_no _ _ H.out).mono ?_; rintro e w' ⟨rfl, rfl⟩)
    go_ret
    exact ⟨rfl, 0, rfl⟩
  | true =>
    have H := Lib.hid hm
    have hr : powI a e m = a ^ e.toNat % m := by simp [powI, hm]
    rw [hr]
    simp [mayB] at hm
    obtain ⟨hm0, hm1⟩ := hm
    obtain ⟨e1, e2⟩ := emod_bd 1 m hm0
    have HP := Lib.hid (PowRel.start a e m)
    clear hr
    have HA := Lib.hid ha
    obtain ⟨he0, he1⟩ := he
    clear ha
    go_enter Tryd.func39, Tryd.ntmps39
    go_wp2_with (go_at_call 40; refine (may_yes _ _ H.out).mono ?_; rintro e w' ⟨rfl, rfl⟩)
    go_loopw [0, 1, 7] (fun sa se so wr => ∃ o x k : Int, so = .int .u64 o ∧ sa = .int .u64 x ∧ se = .int .u64 k ∧ Hid (U64 x) ∧ 0 ≤ o ∧ o < m ∧ 0 ≤ k ∧ k < 18446744073709551616 ∧ Hid (PowRel a e m o x k) ∧ ∃ n, wr = w.drewN n) (fun _ se _ _ => (intOf se).toNat)
    case atStart => exact ⟨_, _, _, rfl, rfl, rfl, HA, e1, e2, he0, he1, HP, 0, rfl⟩
    case round =>
      obtain ⟨o, x, k, rfl, rfl, rfl, hx, ho0, ho1, hk0, hk1, hp, n, rfl⟩ := hrel
      have hb : bits BinOp.and IntKind.u64 k 1 = k % 2 := and_one_u64 k hk0 (by omega)
      by_cases h0 : 0 < k
      · by_cases h2 : k % 2 = 1
        · have h2' : (bits BinOp.and IntKind.u64 k 1 == 1) = true := by rw [hb, h2]; rfl
          have HP2 := Lib.hid (hp.out.odd H.out hk0 h2)
          have hbd := mulI_bd o x m H.out
          obtain ⟨b0, b1⟩ := hbd
          have HO : Hid (U64 o) := Lib.hid ⟨ho0, by omega⟩
          have HX := Lib.hid (mulI_U64 x x m)
          clear hb h2
          go_wp2_with fail
          refine (mul_any o x m _ HO.out hx.out).mono ?_
          rintro e w' ⟨rfl, n1, rfl⟩
          go_wp2_with fail
          refine (mul_any x x m _ hx.out hx.out).mono ?_
          rintro e w' ⟨rfl, n2, rfl⟩
          go_wp2
          go_roundw
          case rel => exact ⟨_, _, _, rfl, rfl, rfl, HX, b0, b1, by omega, by omega, HP2, _, rfl⟩
          case measure => simp [intOf]; omega
        · have h2' : (bits BinOp.and IntKind.u64 k 1 == 1) = false := by rw [hb]; simpa using h2
          have HP2 := Lib.hid (hp.out.even H.out hk0 (by omega))
          have HX := Lib.hid (mulI_U64 x x m)
          clear hb h2
          go_wp2_with fail
          refine (mul_any x x m _ hx.out hx.out).mono ?_
          rintro e w' ⟨rfl, n2, rfl⟩
          go_wp2
          go_roundw
          case rel => exact ⟨_, _, _, rfl, rfl, rfl, HX, ho0, ho1, by omega, by omega, HP2, _, rfl⟩
          case measure => simp [intOf]; omega
      · have HD := Lib.hid (hp.out.done (by omega) ho0 ho1)
        go_wp2
        go_ret
        exact ⟨congrArg Ending.returned (congrArg (Value.int .u64) HD.out), _, rfl⟩
end Go.Proofs.YtnjbigbiclfcoaaDoor
