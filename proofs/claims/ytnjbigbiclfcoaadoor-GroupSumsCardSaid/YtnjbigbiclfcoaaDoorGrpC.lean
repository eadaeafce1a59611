/- Sums, differences, products modulo a number, and inverses, as calls that leave what was there as it was. -/
import Derived.Test.YtnjbigbiclfcoaaDoorGrpB
import Derived.Test.YtnjbigbiclfcoaaDoorModD
namespace Go.Proofs.YtnjbigbiclfcoaaDoor
open Go.RowKit

theorem add_gr (a b m : Int) (w : World) (ha : U64 a) (hb : U64 b) :
    Calls Tryd.prog 19 #[.int .u64 a, .int .u64 b, .int .u64 m] w fun e w' => e = .returned (.int .u64 (addI a b m)) ∧ w.grownBy w' none :=
  (add_any a b m w ha hb).mono fun _ _ ⟨he, n, hn⟩ => ⟨he, by rw [hn]; exact grownBy_drewN (World.grownBy.refl w none) n⟩
theorem sub_gr (a b m : Int) (w : World) (ha : U64 a) (hb : U64 b) :
    Calls Tryd.prog 22 #[.int .u64 a, .int .u64 b, .int .u64 m] w fun e w' => e = .returned (.int .u64 (subI a b m)) ∧ w.grownBy w' none :=
  (sub_any a b m w ha hb).mono fun _ _ ⟨he, n, hn⟩ => ⟨he, by rw [hn]; exact grownBy_drewN (World.grownBy.refl w none) n⟩
theorem mul_gr (a b m : Int) (w : World) (ha : U64 a) (hb : U64 b) :
    Calls Tryd.prog 20 #[.int .u64 a, .int .u64 b, .int .u64 m] w fun e w' => e = .returned (.int .u64 (mulI a b m)) ∧ w.grownBy w' none :=
  (mul_any a b m w ha hb).mono fun _ _ ⟨he, n, hn⟩ => ⟨he, by rw [hn]; exact grownBy_drewN (World.grownBy.refl w none) n⟩
theorem emod_U64 (a m : Int) (ha : U64 a) (hm : 0 < m) : U64 (a % m) := by
  obtain ⟨a0, a1⟩ := ha
  have h1 := Int.emod_nonneg a (show m ≠ 0 by omega)
  have h3 := Int.mul_nonneg (Int.le_of_lt hm) (Int.ediv_nonneg a0 (Int.le_of_lt hm))
  have h4 := Int.mul_ediv_add_emod a m
  exact ⟨h1, by omega⟩
end Go.Proofs.YtnjbigbiclfcoaaDoor
