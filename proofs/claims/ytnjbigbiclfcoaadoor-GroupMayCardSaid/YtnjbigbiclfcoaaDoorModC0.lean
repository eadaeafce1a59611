/- math/bits.Div64 over Int. -/
import Derived.Test.YtnjbigbiclfcoaaDoorDivB
import Derived.Test.YtnjbigbiclfcoaaDoorNum
import Derived.WalkSmall
namespace Go.Proofs.YtnjbigbiclfcoaaDoor
open Go.RowKit

/-- Div64 at any hi below y. -/
theorem div64_any (hi lo y : Nat) (w : World) (hl : lo < 18446744073709551616) (hy : y < 18446744073709551616) (h1 : hi < y) :
    Calls Tryd.prog 47 #[.int .u64 hi, .int .u64 lo, .int .u64 y] w fun e w' => e = .returned (.tuple #[.int .u64 (((hi * 18446744073709551616 + lo) / y : Nat) : Int), .int .u64 (((hi * 18446744073709551616 + lo) % y : Nat) : Int)]) ∧ ∃ n, w' = w.drewN n := by
  by_cases h0 : hi = 0
  · subst h0
    refine (div64_low lo y w ⟨by omega, by omega⟩ ⟨by omega, by omega⟩ (by omega)).mono ?_
    rintro e w' ⟨rfl, hn⟩
    refine ⟨?_, hn⟩
    rw [Nat.zero_mul, Nat.zero_add, Int.natCast_ediv, Int.natCast_emod]
  · exact div64_high hi lo y w hl hy (by omega) h1

/-- The same, over Int. -/
def quo128 (hi lo y : Int) : Int := (hi * 18446744073709551616 + lo) / y
def rem128 (hi lo y : Int) : Int := (hi * 18446744073709551616 + lo) % y
theorem div64_int (hi lo y : Int) (w : World) (h0 : 0 ≤ hi) (hl0 : 0 ≤ lo) (hl : lo < 18446744073709551616) (hy : y < 18446744073709551616) (h1 : hi < y) :
    Calls Tryd.prog 47 #[.int .u64 hi, .int .u64 lo, .int .u64 y] w fun e w' => e = .returned (.tuple #[.int .u64 (quo128 hi lo y), .int .u64 (rem128 hi lo y)]) ∧ ∃ n, w' = w.drewN n := by
  obtain ⟨a, rfl⟩ := Int.eq_ofNat_of_zero_le h0
  obtain ⟨b, rfl⟩ := Int.eq_ofNat_of_zero_le hl0
  obtain ⟨c, rfl⟩ := Int.eq_ofNat_of_zero_le (show 0 ≤ y by omega)
  refine (div64_any a b c w (by omega) (by omega) (by omega)).mono ?_
  rintro e w' ⟨rfl, hn⟩
  refine ⟨?_, hn⟩
  unfold quo128 rem128
  rw [Int.natCast_ediv, Int.natCast_emod, Int.natCast_add, Int.natCast_mul]
  rfl

theorem emod_bd (a m : Int) (hm : 0 < m) : 0 ≤ a % m ∧ a % m < m := ⟨Int.emod_nonneg a (by omega), Int.emod_lt_of_pos a hm⟩

end Go.Proofs.YtnjbigbiclfcoaaDoor
