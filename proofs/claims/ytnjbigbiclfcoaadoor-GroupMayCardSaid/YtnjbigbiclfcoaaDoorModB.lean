/- The contracts of mod.may, Add, Sub and of bits.Mul64, walked. -/
import Derived.Test.YtnjbigbiclfcoaaDoorBase
namespace Go.Proofs.YtnjbigbiclfcoaaDoor
open Go.RowKit

def mayB (m : Int) : Bool := decide (0 < m) && decide (m ≤ 2305843009213693952)
def addI (a b m : Int) : Int := if mayB m then (a % m + b % m) % m else 0
def subI (a b m : Int) : Int := if mayB m then (a % m + m - b % m) % m else 0

theorem may_yes (m : Int) (w : World) (h : mayB m = true) :
    Calls Tryd.prog 40 #[.int .u64 m] w fun e w' => e = .returned (.bool true) ∧ w = w' := by
  simp [mayB] at h
  obtain ⟨h1, h2⟩ := h
  go_enter Tryd.func40, Tryd.ntmps40
  go_wp2
  go_ret
  exact ⟨rfl, rfl⟩
theorem may_no (m : Int) (w : World) (h : mayB m = false) :
    Calls Tryd.prog 40 #[.int .u64 m] w fun e w' => e = .returned (.bool false) ∧ w = w' := by
  simp [mayB] at h
  by_cases h0 : 0 < m
  · have h1 := h h0
    have h2 : decide (m ≤ 2305843009213693952) = false := by simp; omega
    go_enter Tryd.func40, Tryd.ntmps40
    go_wp2
    go_ret
    exact ⟨by simp, rfl⟩
  · clear h
    go_enter Tryd.func40, Tryd.ntmps40
    go_wp2
    go_ret
    exact ⟨rfl, rfl⟩

set_option maxHeartbeats 400000 in
theorem add_any (a b m : Int) (w : World) (ha : U64 a) (hb : U64 b) :
    Calls Tryd.prog 19 #[.int .u64 a, .int .u64 b, .int .u64 m] w fun e w' => e = .returned (.int .u64 (addI a b m)) ∧ ∃ n, w' = w.drewN n := by
  unfold U64 at ha hb
  obtain ⟨ha0, ha1⟩ := ha
  obtain ⟨hb0, hb1⟩ := hb
  cases hm : mayB m with
  | false =>
    have H := Lib.hid hm
    have hr : addI a b m = 0 := by simp [addI, hm]
    rw [hr]
    clear hm hr
    go_enter Tryd.func19, Tryd.ntmps19
    go_wp2_with (go_at_call 40; refine (may_no _ _ H.out).mono ?_; rintro e w' ⟨rfl, rfl⟩)
    go_ret
    exact ⟨rfl, 0, rfl⟩
  | true =>
    have H := Lib.hid hm
    have hr : addI a b m = (a % m + b % m) % m := by simp [addI, hm]
    rw [hr]
    simp [mayB] at hm
    obtain ⟨hm0, hm1⟩ := hm
    have e1 := Int.emod_nonneg a (show m ≠ 0 by omega)
    have e2 := Int.emod_lt_of_pos a hm0
    have e3 := Int.emod_nonneg b (show m ≠ 0 by omega)
    have e4 := Int.emod_lt_of_pos b hm0
    clear hr
    go_enter Tryd.func19, Tryd.ntmps19
    go_wp2_with (go_at_call 40; refine (may_yes _ _ H.out).mono ?_; rintro e w' ⟨rfl, rfl⟩)
    go_quiet (fail)
    go_wp2
    go_ret
    exact ⟨rfl, _, rfl⟩

set_option maxHeartbeats 400000 in
theorem sub_any (a b m : Int) (w : World) (ha : U64 a) (hb : U64 b) :
    Calls Tryd.prog 22 #[.int .u64 a, .int .u64 b, .int .u64 m] w fun e w' => e = .returned (.int .u64 (subI a b m)) ∧ ∃ n, w' = w.drewN n := by
  unfold U64 at ha hb
  obtain ⟨ha0, ha1⟩ := ha
  obtain ⟨hb0, hb1⟩ := hb
  cases hm : mayB m with
  | false =>
    have H := Lib.hid hm
    have hr : subI a b m = 0 := by simp [subI, hm]
    rw [hr]
    clear hm hr
    go_enter Tryd.func22, Tryd.ntmps22
    go_wp2_with (go_at_call 40; refine (may_no _ _ H.out).mono ?_; rintro e w' ⟨rfl, rfl⟩)
    go_ret
    exact ⟨rfl, 0, rfl⟩
  | true =>
    have H := Lib.hid hm
    have hr : subI a b m = (a % m + m - b % m) % m := by simp [subI, hm]
    rw [hr]
    simp [mayB] at hm
    obtain ⟨hm0, hm1⟩ := hm
    have e1 := Int.emod_nonneg a (show m ≠ 0 by omega)
    have e2 := Int.emod_lt_of_pos a hm0
    have e3 := Int.emod_nonneg b (show m ≠ 0 by omega)
    have e4 := Int.emod_lt_of_pos b hm0
    clear hr
    go_enter Tryd.func22, Tryd.ntmps22
    go_wp2_with (go_at_call 40; refine (may_yes _ _ H.out).mono ?_; rintro e w' ⟨rfl, rfl⟩)
    go_quiet (fail)
    go_wp2
    go_ret
    exact ⟨rfl, _, rfl⟩

set_option maxHeartbeats 1000000 in
theorem mul64_nat (x y : Nat) (hx : x < 18446744073709551616) (hy : y < 18446744073709551616) (w : World) :
    Calls Tryd.prog 41 #[.int .u64 x, .int .u64 y] w fun e w' => e = .returned (.tuple #[.int .u64 ((x * y / 18446744073709551616 : Nat) : Int), .int .u64 ((x * y % 18446744073709551616 : Nat) : Int)]) ∧ w = w' := by
  obtain ⟨bd, bt, bw, hhi⟩ := Lib.mul64_hi x y hx hy
  have ba := Lib.half_mul_le (a := x / 4294967296) (b := y / 4294967296) (by omega) (by omega)
  have bb := Lib.half_mul_le (a := x / 4294967296) (b := y % 4294967296) (by omega) (by omega)
  have bc := Lib.half_mul_le (a := x % 4294967296) (b := y / 4294967296) (by omega) (by omega)
  have ba' : x / 4294967296 * (y / 4294967296) < 18446744073709551616 := by omega
  have bb' : x / 4294967296 * (y % 4294967296) < 18446744073709551616 := by omega
  have bc' : x % 4294967296 * (y / 4294967296) < 18446744073709551616 := by omega
  have bh1 : x / 4294967296 * (y / 4294967296) + (x / 4294967296 * (y % 4294967296) + x % 4294967296 * (y % 4294967296) / 4294967296) / 4294967296 < 18446744073709551616 := by omega
  have bh : x / 4294967296 * (y / 4294967296) + (x / 4294967296 * (y % 4294967296) + x % 4294967296 * (y % 4294967296) / 4294967296) / 4294967296 + ((x / 4294967296 * (y % 4294967296) + x % 4294967296 * (y % 4294967296) / 4294967296) % 4294967296 + x % 4294967296 * (y / 4294967296)) / 4294967296 < 18446744073709551616 := by omega
  go_enter Tryd.func41, Tryd.ntmps41
  go_wp2
  simp only [Mul64.maskN x hx, Mul64.maskN y hy, Mul64.divN, Mul64.mulN, Mul64.addN, Mul64.wrapN _ bd, Mul64.wrapN _ bb', Mul64.wrapN _ bt, Mul64.maskN _ bt, Mul64.wrapN _ bc', Mul64.wrapN _ bw, Mul64.wrapN _ ba', Mul64.wrapN _ bh1, Mul64.wrapN _ bh, Mul64.wrapM (x * y)]
  rw [hhi]
  go_ret2
  exact ⟨rfl, rfl⟩

end Go.Proofs.YtnjbigbiclfcoaaDoor
