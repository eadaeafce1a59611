/- consistorylaw01.ModRing, walked: it answers true for every a, b, c, n. -/
import Derived.Test.YteaalkknjnodiaaDoorModE
namespace Go.Proofs.YteaalkknjnodiaaDoor
open Go.RowKit
set_option maxHeartbeats 1000000 in
set_option maxRecDepth 100000 in
theorem ring_any (a b c n : Int) (w : World) (ha : U64 a) (hb : U64 b) (hc : U64 c) (hn : U64 n) (hT : TabsAt w) :
    Calls Tryd.prog 6 #[.int .u64 a, .int .u64 b, .int .u64 c, .int .u64 n] w fun e w' => e = .returned (.bool true) ∧ ∃ k, w' = w.drewN k := by
  have hm := within_may n
  have HW := Lib.hid (fun w => within_any n w hn)
  have HA := Lib.hid hT
  generalize withinI n = m at hm HW
  obtain ⟨m1, m2⟩ := may_bd hm
  have hm0 : 0 < m := by omega
  have hs := addI_U64 a b m
  have hp := mulI_U64 a b m
  have hd := subI_U64 a b m
  have hbc := addI_U64 b c m
  have hbcm := mulI_U64 b c m
  have hac := mulI_U64 a c m
  have hba := subI_U64 b a m
  have sa := addI_bd a b m hm
  have pa := mulI_bd a b m hm
  have da := subI_bd a b m hm
  have cs := addI_cg hm a b
  have cp := mulI_cg a b m hm
  have cd := subI_cg hm a b
  have cbc := addI_cg hm b c
  have cbcm := mulI_cg b c m hm
  have cac := mulI_cg a c m hm
  have cba := subI_cg hm b a
  have H1 := Lib.hid (fun w => add_any a b m w ha hb)
  have H2 := Lib.hid (fun w => mul_any a b m w ha hb)
  have H3 := Lib.hid (fun w => sub_any a b m w ha hb)
  have H4 := Lib.hid (fun w => add_any b a m w hb ha)
  rw [addI_comm hm a b] at H4
  have H5 := Lib.hid (fun w => mul_any b a m w hb ha)
  rw [mulI_comm hm a b] at H5
  have H6 := Lib.hid (fun w => add_any (addI a b m) c m w hs hc)
  rw [addI_eq hm (cs.add (Cg.refl m c))] at H6
  have H7 := Lib.hid (fun w => add_any b c m w hb hc)
  have H8 := Lib.hid (fun w => add_any a (addI b c m) m w ha hbc)
  rw [addI_eq hm (((Cg.refl m a).add cbc).trans (Cg.of_eq (Int.add_assoc a b c).symm))] at H8
  have H9 := Lib.hid (fun w => mul_any (mulI a b m) c m w hp hc)
  rw [mulI_eq hm (cp.mul_right c)] at H9
  have H10 := Lib.hid (fun w => mul_any b c m w hb hc)
  have H11 := Lib.hid (fun w => mul_any a (mulI b c m) m w ha hbcm)
  rw [mulI_eq hm ((cbcm.mul_left a).trans (Cg.of_eq (Int.mul_assoc a b c).symm))] at H11
  have H12 := Lib.hid (fun w => mul_any (addI a b m) c m w hs hc)
  rw [mulI_eq hm ((cs.mul_right c).trans (Cg.of_eq (Int.add_mul a b c)))] at H12
  have H13 := Lib.hid (fun w => mul_any a c m w ha hc)
  have H15 := Lib.hid (fun w => add_any (mulI a c m) (mulI b c m) m w hac hbcm)
  rw [addI_eq hm (cac.add cbcm)] at H15
  have H16 := Lib.hid (fun w => sub_any (addI a b m) b m w hs hb)
  rw [subI_eq hm ((cs.sub (Cg.refl m b)).trans (Cg.of_eq (show a + b - b = a by omega)))] at H16
  have H17 := Lib.hid (fun w => add_any (subI a b m) b m w hd hb)
  rw [addI_eq hm ((cd.add (Cg.refl m b)).trans (Cg.of_eq (show a - b + b = a by omega)))] at H17
  have H18 := Lib.hid (fun w => mul_any a 1 m w ha (u64s 1))
  rw [mulI_eq hm (Cg.of_eq (Int.mul_one a))] at H18
  have H19 := Lib.hid (fun w => add_any a 0 m w ha (u64s 0))
  rw [addI_eq hm (Cg.of_eq (Int.add_zero a))] at H19
  have H20 := Lib.hid (fun w => sub_any b a m w hb ha)
  have H21 := Lib.hid (fun w => add_any (subI a b m) (subI b a m) m w hd hba)
  rw [addI_eq hm ((cd.add cba).trans (Cg.of_eq (show a - b + (b - a) = 0 by omega))), Int.zero_emod] at H21
  have d1 : decide (m ≤ addI a b m) = false := by simp; omega
  have d2 : decide (m ≤ mulI a b m) = false := by simp; omega
  have d3 : decide (m ≤ subI a b m) = false := by simp; omega
  obtain ⟨r0, r1⟩ := emod_bd a m hm0
  obtain ⟨ha0, ha1⟩ := ha
  clear cs cp cd cbc cbcm cac cba hs hp hd hbc hbcm hac hba hb hc hn hT sa pa da
  generalize addI a b m = s at *
  generalize mulI a b m = p at *
  generalize subI a b m = d at *
  generalize addI b c m = bc at *
  generalize mulI b c m = bcm at *
  generalize mulI a c m = acm at *
  generalize subI b a m = dba at *
  go_enter Tryd.func6, Tryd.ntmps6
  go_wp2_with (first
    | ((with_reducible refine (HW.out _).mono ?_); rintro e w' ⟨rfl, rfl⟩)
    | (go_at_call 11; refine (awake_any _ HA.out).mono ?_; rintro e w' ⟨rfl, n, rfl⟩)
    | ((with_reducible refine (H1.out _).mono ?_); rintro e w' ⟨rfl, n, rfl⟩)
    | ((with_reducible refine (H2.out _).mono ?_); rintro e w' ⟨rfl, n, rfl⟩)
    | ((with_reducible refine (H3.out _).mono ?_); rintro e w' ⟨rfl, n, rfl⟩)
    | ((with_reducible refine (H4.out _).mono ?_); rintro e w' ⟨rfl, n, rfl⟩)
    | ((with_reducible refine (H5.out _).mono ?_); rintro e w' ⟨rfl, n, rfl⟩)
    | ((with_reducible refine (H6.out _).mono ?_); rintro e w' ⟨rfl, n, rfl⟩)
    | ((with_reducible refine (H7.out _).mono ?_); rintro e w' ⟨rfl, n, rfl⟩)
    | ((with_reducible refine (H8.out _).mono ?_); rintro e w' ⟨rfl, n, rfl⟩)
    | ((with_reducible refine (H9.out _).mono ?_); rintro e w' ⟨rfl, n, rfl⟩)
    | ((with_reducible refine (H10.out _).mono ?_); rintro e w' ⟨rfl, n, rfl⟩)
    | ((with_reducible refine (H11.out _).mono ?_); rintro e w' ⟨rfl, n, rfl⟩)
    | ((with_reducible refine (H12.out _).mono ?_); rintro e w' ⟨rfl, n, rfl⟩)
    | ((with_reducible refine (H13.out _).mono ?_); rintro e w' ⟨rfl, n, rfl⟩)
    | ((with_reducible refine (H15.out _).mono ?_); rintro e w' ⟨rfl, n, rfl⟩))
  go_quiet (first
    | (with_reducible exact quiet_add (H16.out _))
    | (with_reducible exact quiet_add (H17.out _))
    | (with_reducible exact quiet_add (H18.out _))
    | (with_reducible exact quiet_add (H19.out _))
    | (with_reducible exact quiet_add (H20.out _))
    | (with_reducible exact quiet_add (H21.out _)))
  go_wp2
  go_ret
  exact ⟨rfl, _, World.drewN_drewN _ _ _⟩
end Go.Proofs.YteaalkknjnodiaaDoor
