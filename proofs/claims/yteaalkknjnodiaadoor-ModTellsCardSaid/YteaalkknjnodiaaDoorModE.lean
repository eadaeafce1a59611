/- consistorylaw01.within, walked, and small laws of sums and products modulo m. -/
import Derived.Test.YteaalkknjnodiaaDoorAwake
import Derived.Deep.DeepCutAuto
namespace Go.Proofs.YteaalkknjnodiaaDoor
open Go.RowKit
def withinI (n : Int) : Int := 1 + n % 2305843009213693952
theorem within_any (n : Int) (w : World) (hn : U64 n) :
    Calls Tryd.prog 24 #[.int .u64 n] w fun e w' => e = .returned (.int .u64 (withinI n)) ∧ w' = w := by
  obtain ⟨h0, h1⟩ := hn
  go_enter Tryd.func24, Tryd.ntmps24
  go_wp2
  go_ret
  exact ⟨rfl, rfl⟩
theorem within_may (n : Int) : mayB (withinI n) = true := by
  unfold withinI mayB
  simp
  omega
theorem may_bd {m : Int} (h : mayB m = true) : 1 ≤ m ∧ m ≤ 2305843009213693952 := by
  simp [mayB] at h
  omega

theorem addI_comm {m : Int} (hm : mayB m = true) (a b : Int) : addI b a m = addI a b m := by rw [addI_yes _ _ _ hm, addI_yes _ _ _ hm, Int.add_comm]
theorem mulI_comm {m : Int} (hm : mayB m = true) (a b : Int) : mulI b a m = mulI a b m := by rw [mulI_yes _ _ _ hm, mulI_yes _ _ _ hm, Int.mul_comm]
theorem addI_cg {m : Int} (hm : mayB m = true) (a b : Int) : Cg m (addI a b m) (a + b) := by rw [addI_yes _ _ _ hm]; exact Cg.mod _ _
theorem subI_cg {m : Int} (hm : mayB m = true) (a b : Int) : Cg m (subI a b m) (a - b) := by rw [subI_yes _ _ _ hm]; exact Cg.mod _ _
theorem addI_eq {m : Int} (hm : mayB m = true) {a b c : Int} (h : Cg m (a + b) c) : addI a b m = c % m := by rw [addI_yes _ _ _ hm]; exact h
theorem subI_eq {m : Int} (hm : mayB m = true) {a b c : Int} (h : Cg m (a - b) c) : subI a b m = c % m := by rw [subI_yes _ _ _ hm]; exact h
theorem mulI_eq {m : Int} (hm : mayB m = true) {a b c : Int} (h : Cg m (a * b) c) : mulI a b m = c % m := by rw [mulI_yes _ _ _ hm]; exact h

end Go.Proofs.YteaalkknjnodiaaDoor
