/- consistorylaw01.ModTells, walked: it answers true for every a, b, e, m. -/
import Derived.Test.YteaalkknjnodiaaDoorRefB
import Derived.Test.YteaalkknjnodiaaDoorInverse
namespace Go.Proofs.YteaalkknjnodiaaDoor
open Go.RowKit

set_option maxHeartbeats 1000000 in
theorem tells_arg (a b e m : Int) (w : World) (ha : U64 a) (hb : U64 b) (he : U64 e) (hm : U64 m) (hT : TabsAt w) (h0 : mayB m = false) :
    Calls Tryd.prog 4 #[.int .u64 a, .int .u64 b, .int .u64 e, .int .u64 m] w fun e w' => e = .returned (.bool true) ∧ ∃ k, w' = w.drewN k := by
  have HA := Lib.hid hT
  have H1 := Lib.hid (fun w => add_any a b m w ha hb)
  have H2 := Lib.hid (fun w => refadd_any a b m w ha hb hm)
  have H3 := Lib.hid (fun w => sub_any a b m w ha hb)
  have H4 := Lib.hid (fun w => refsub_any a b m w ha hb hm)
  have H5 := Lib.hid (fun w => mul_any a b m w ha hb)
  have H6 := Lib.hid (fun w => refmul_any a b m w ha hb hm)
  have H7 := Lib.hid (fun w => pow_any a e m w ha he)
  have H8 := Lib.hid (fun w => refpow_any a e m w ha he hm)
  have HI := Lib.hid (fun w => inv_arg a m w h0)
  have HJ := Lib.hid (fun w => refinv_arg a m w hm h0)
  clear ha hb he hm hT h0
  generalize addI a b m = s at *
  generalize subI a b m = d at *
  generalize mulI a b m = p at *
  generalize powI a e m = q at *
  go_enter Tryd.func4, Tryd.ntmps4
  go_wp2_with (first
    | ((with_reducible refine (HI.out _).mono ?_); rintro e w' ⟨rfl, n, rfl⟩)
    | ((with_reducible refine (HJ.out _).mono ?_); rintro e w' ⟨rfl, n, rfl⟩)
    | ((with_reducible refine (H1.out _).mono ?_); rintro e w' ⟨rfl, n, rfl⟩)
    | ((with_reducible refine (H2.out _).mono ?_); rintro e w' ⟨rfl, n, rfl⟩)
    | ((with_reducible refine (H3.out _).mono ?_); rintro e w' ⟨rfl, n, rfl⟩)
    | ((with_reducible refine (H4.out _).mono ?_); rintro e w' ⟨rfl, n, rfl⟩)
    | ((with_reducible refine (H5.out _).mono ?_); rintro e w' ⟨rfl, n, rfl⟩)
    | ((with_reducible refine (H6.out _).mono ?_); rintro e w' ⟨rfl, n, rfl⟩)
    | ((with_reducible refine (H7.out _).mono ?_); rintro e w' ⟨rfl, n, rfl⟩)
    | ((with_reducible refine (H8.out _).mono ?_); rintro e w' ⟨rfl, n, rfl⟩)
    | (go_at_call 11; refine (awake_any _ (HA.out.drewN _)).mono ?_; rintro e w' ⟨rfl, n, rfl⟩))
  go_ret
  exact ⟨rfl, _, rfl⟩

set_option maxHeartbeats 1000000 in
theorem tells_ok (a b e m : Int) (w : World) (ha : U64 a) (hb : U64 b) (he : U64 e) (hm : U64 m) (hT : TabsAt w) (h0 : mayB m = true ∧ HasInv a m) :
    Calls Tryd.prog 4 #[.int .u64 a, .int .u64 b, .int .u64 e, .int .u64 m] w fun e w' => e = .returned (.bool true) ∧ ∃ k, w' = w.drewN k := by
  have HA := Lib.hid hT
  have H1 := Lib.hid (fun w => add_any a b m w ha hb)
  have H2 := Lib.hid (fun w => refadd_any a b m w ha hb hm)
  have H3 := Lib.hid (fun w => sub_any a b m w ha hb)
  have H4 := Lib.hid (fun w => refsub_any a b m w ha hb hm)
  have H5 := Lib.hid (fun w => mul_any a b m w ha hb)
  have H6 := Lib.hid (fun w => refmul_any a b m w ha hb hm)
  have H7 := Lib.hid (fun w => pow_any a e m w ha he)
  have H8 := Lib.hid (fun w => refpow_any a e m w ha he hm)
  have HI := Lib.hid (fun w => inv_ok a m w ha h0.1 h0.2)
  have HJ := Lib.hid (fun w => refinv_may a m w ha h0.1)
  rw [← invRes_yes ⟨h0.2, rfl⟩] at HJ
  clear ha hb he hm hT h0
  generalize addI a b m = s at *
  generalize subI a b m = d at *
  generalize mulI a b m = p at *
  generalize powI a e m = q at *
  generalize invI a m = x at *
  go_enter Tryd.func4, Tryd.ntmps4
  go_wp2_with (first
    | ((with_reducible refine (HI.out _).mono ?_); rintro e w' ⟨rfl, n, rfl⟩)
    | ((with_reducible refine (HJ.out _).mono ?_); rintro e w' ⟨rfl, n, rfl⟩)
    | ((with_reducible refine (H1.out _).mono ?_); rintro e w' ⟨rfl, n, rfl⟩)
    | ((with_reducible refine (H2.out _).mono ?_); rintro e w' ⟨rfl, n, rfl⟩)
    | ((with_reducible refine (H3.out _).mono ?_); rintro e w' ⟨rfl, n, rfl⟩)
    | ((with_reducible refine (H4.out _).mono ?_); rintro e w' ⟨rfl, n, rfl⟩)
    | ((with_reducible refine (H5.out _).mono ?_); rintro e w' ⟨rfl, n, rfl⟩)
    | ((with_reducible refine (H6.out _).mono ?_); rintro e w' ⟨rfl, n, rfl⟩)
    | ((with_reducible refine (H7.out _).mono ?_); rintro e w' ⟨rfl, n, rfl⟩)
    | ((with_reducible refine (H8.out _).mono ?_); rintro e w' ⟨rfl, n, rfl⟩)
    | (go_at_call 11; refine (awake_any _ (HA.out.drewN _)).mono ?_; rintro e w' ⟨rfl, n, rfl⟩))
  go_ret
  exact ⟨rfl, _, rfl⟩

set_option maxHeartbeats 1000000 in
theorem tells_none (a b e m : Int) (w : World) (ha : U64 a) (hb : U64 b) (he : U64 e) (hm : U64 m) (hT : TabsAt w) (h0 : mayB m = true ∧ ¬ HasInv a m) :
    Calls Tryd.prog 4 #[.int .u64 a, .int .u64 b, .int .u64 e, .int .u64 m] w fun e w' => e = .returned (.bool true) ∧ ∃ k, w' = w.drewN k := by
  have HA := Lib.hid hT
  have H1 := Lib.hid (fun w => add_any a b m w ha hb)
  have H2 := Lib.hid (fun w => refadd_any a b m w ha hb hm)
  have H3 := Lib.hid (fun w => sub_any a b m w ha hb)
  have H4 := Lib.hid (fun w => refsub_any a b m w ha hb hm)
  have H5 := Lib.hid (fun w => mul_any a b m w ha hb)
  have H6 := Lib.hid (fun w => refmul_any a b m w ha hb hm)
  have H7 := Lib.hid (fun w => pow_any a e m w ha he)
  have H8 := Lib.hid (fun w => refpow_any a e m w ha he hm)
  have HI := Lib.hid (fun w => inv_none a m w ha h0.1 h0.2)
  have HJ := Lib.hid (fun w => refinv_may a m w ha h0.1)
  rw [← invRes_no h0.2] at HJ
  clear ha hb he hm hT h0
  generalize addI a b m = s at *
  generalize subI a b m = d at *
  generalize mulI a b m = p at *
  generalize powI a e m = q at *
  go_enter Tryd.func4, Tryd.ntmps4
  go_wp2_with (first
    | ((with_reducible refine (HI.out _).mono ?_); rintro e w' ⟨rfl, n, rfl⟩)
    | ((with_reducible refine (HJ.out _).mono ?_); rintro e w' ⟨rfl, n, rfl⟩)
    | ((with_reducible refine (H1.out _).mono ?_); rintro e w' ⟨rfl, n, rfl⟩)
    | ((with_reducible refine (H2.out _).mono ?_); rintro e w' ⟨rfl, n, rfl⟩)
    | ((with_reducible refine (H3.out _).mono ?_); rintro e w' ⟨rfl, n, rfl⟩)
    | ((with_reducible refine (H4.out _).mono ?_); rintro e w' ⟨rfl, n, rfl⟩)
    | ((with_reducible refine (H5.out _).mono ?_); rintro e w' ⟨rfl, n, rfl⟩)
    | ((with_reducible refine (H6.out _).mono ?_); rintro e w' ⟨rfl, n, rfl⟩)
    | ((with_reducible refine (H7.out _).mono ?_); rintro e w' ⟨rfl, n, rfl⟩)
    | ((with_reducible refine (H8.out _).mono ?_); rintro e w' ⟨rfl, n, rfl⟩)
    | (go_at_call 11; refine (awake_any _ (HA.out.drewN _)).mono ?_; rintro e w' ⟨rfl, n, rfl⟩))
  go_ret
  exact ⟨rfl, _, rfl⟩

theorem tells_any (a b e m : Int) (w : World) (ha : U64 a) (hb : U64 b) (he : U64 e) (hm : U64 m) (hT : TabsAt w) :
    Calls Tryd.prog 4 #[.int .u64 a, .int .u64 b, .int .u64 e, .int .u64 m] w fun e w' => e = .returned (.bool true) ∧ ∃ k, w' = w.drewN k := by
  cases h : mayB m with
  | false => exact tells_arg a b e m w ha hb he hm hT h
  | true =>
    by_cases hi : HasInv a m
    · exact tells_ok a b e m w ha hb he hm hT ⟨h, hi⟩
    · exact tells_none a b e m w ha hb he hm hT ⟨h, hi⟩
end Go.Proofs.YteaalkknjnodiaaDoor
