/- consistorylaw01.awake, walked. -/
import Derived.Test.YtaglocahfonbbaaDoorModP
import Derived.Deep.DeepCutAuto
namespace Go.Proofs.YtaglocahfonbbaaDoor
open Go.RowKit
theorem inv_7_11 : invRes 7 11 = .tuple #[.int .u64 8, .int .i64 0] :=
  (invRes_yes ⟨⟨8, by decide, by decide, by unfold Cg; decide⟩, (invI_eq (by decide) (by decide) (by unfold Cg; decide)).symm⟩).symm
theorem inv_6_9 : invRes 6 9 = .tuple #[.int .u64 0, .int .i64 5] :=
  (invRes_no (by rintro ⟨x, _, _, h⟩; obtain ⟨k, hk⟩ := h.dvd; omega)).symm
theorem prime_97 : primeB 97 = true := by decide +kernel
theorem prime_561 : primeB 561 = false := by decide +kernel
theorem u64s (a : Int) (h : 0 ≤ a := by decide) (k : a < 18446744073709551616 := by decide) : U64 a := ⟨h, k⟩

set_option maxHeartbeats 400000 in
theorem awake_any (w : World) (hT : TabsAt w) :
    Calls Tryd.prog 7 #[] w fun e w' => e = .returned (.bool true) ∧ ∃ k, w' = w.drewN k := by
  have HI := Lib.hid (fun w => inv_may 7 11 w (u64s 7) (by decide))
  have HJ := Lib.hid (fun w => inv_may 6 9 w (u64s 6) (by decide))
  rw [inv_7_11] at HI
  rw [inv_6_9] at HJ
  have HA := Lib.hid (fun w => add_any 5 9 11 w (u64s 5) (u64s 9))
  have HS := Lib.hid (fun w => sub_any 2 5 11 w (u64s 2) (u64s 5))
  have HM := Lib.hid (fun w => mul_any 7 8 11 w (u64s 7) (u64s 8))
  have HP := Lib.hid (fun w => pow_any 2 10 11 w (u64s 2) (u64s 10))
  rw [show addI 5 9 11 = 3 by decide] at HA
  rw [show subI 2 5 11 = 8 by decide] at HS
  rw [show mulI 7 8 11 = 1 by decide] at HM
  rw [show powI 2 10 11 = 1 by decide] at HP
  have HX := Lib.hid (fun k => prime_any 97 (w.drewN k) hT)
  have HY := Lib.hid (fun k => prime_any 561 (w.drewN k) hT)
  rw [prime_97] at HX
  rw [prime_561] at HY
  clear hT
  go_enter Tryd.func7, Tryd.ntmps7
  go_wp2_with fail
  refine (HI.out _).mono ?_
  rintro e w' ⟨rfl, n1, rfl⟩
  go_wp2_with fail
  refine (HJ.out _).mono ?_
  rintro e w' ⟨rfl, n2, rfl⟩
  go_wp2_with fail
  refine (HA.out _).mono ?_
  rintro e w' ⟨rfl, n3, rfl⟩
  go_wp2_with fail
  refine (HS.out _).mono ?_
  rintro e w' ⟨rfl, n4, rfl⟩
  go_wp2_with fail
  refine (HM.out _).mono ?_
  rintro e w' ⟨rfl, n5, rfl⟩
  go_wp2_with fail
  refine (HP.out _).mono ?_
  rintro e w' ⟨rfl, n6, rfl⟩
  go_wp2_with fail
  refine (HX.out _).mono ?_
  rintro e w' ⟨rfl, n7, rfl⟩
  go_wp2_with fail
  refine (HY.out _).mono ?_
  rintro e w' ⟨rfl, n8, rfl⟩
  go_wp2
  go_ret
  exact ⟨rfl, _, rfl⟩
end Go.Proofs.YtaglocahfonbbaaDoor
