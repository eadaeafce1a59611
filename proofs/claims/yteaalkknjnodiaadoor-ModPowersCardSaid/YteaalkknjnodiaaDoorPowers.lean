/- consistorylaw01.ModPowers, walked: it answers true for every a, b, d, e, n. -/
import Derived.Test.YteaalkknjnodiaaDoorModE
namespace Go.Proofs.YteaalkknjnodiaaDoor
open Go.RowKit
theorem powI_cg (a e m : Int) (hm : mayB m = true) : Cg m (powI a e m) (a ^ e.toNat) := by
  simp only [powI, hm, if_true]
  exact Cg.mod _ _
theorem powI_eq {a e m c : Int} (hm : mayB m = true) (h : Cg m (a ^ e.toNat) c) : powI a e m = c % m := by
  simp only [powI, hm, if_true]
  exact h
theorem pow_add' (a d e : Int) (hd : 0 ≤ d) (he : 0 ≤ e) : a ^ (d + e).toNat = a ^ d.toNat * a ^ e.toNat := by
  rw [Int.toNat_add hd he, Int.pow_add]
theorem pow_mul' (a d e : Int) (hd : 0 ≤ d) (he : 0 ≤ e) : a ^ (d * e).toNat = (a ^ d.toNat) ^ e.toNat := by
  rw [← Int.pow_mul]
  congr 1
  exact Int.toNat_mul hd he

set_option maxHeartbeats 1000000 in
set_option maxRecDepth 100000 in
theorem powers_any (a b d e n : Int) (w : World) (ha : U64 a) (hb : U64 b) (hd : U64 d) (he : U64 e) (hn : U64 n) (hT : TabsAt w) :
    Calls Tryd.prog 7 #[.int .u64 a, .int .u64 b, .int .u64 d, .int .u64 e, .int .u64 n] w fun e w' => e = .returned (.bool true) ∧ ∃ k, w' = w.drewN k := by
  have hm := within_may n
  have HW := Lib.hid (fun w => within_any n w hn)
  have HA := Lib.hid hT
  generalize withinI n = m at hm HW
  obtain ⟨m1, m2⟩ := may_bd hm
  have hm0 : 0 < m := by omega
  obtain ⟨D, hD⟩ : ∃ D, D = d / 2 := ⟨_, rfl⟩
  obtain ⟨E, hE⟩ : ∃ E, E = e / 2 := ⟨_, rfl⟩
  obtain ⟨d0, d1⟩ := hd
  obtain ⟨e0, e1⟩ := he
  have D0 : 0 ≤ D := by omega
  have D1 : D < 9223372036854775808 := by omega
  have E0 : 0 ≤ E := by omega
  have E1 : E < 9223372036854775808 := by omega
  obtain ⟨x, hx⟩ : ∃ x, x = D % 4294967296 := ⟨_, rfl⟩
  obtain ⟨y, hy⟩ : ∃ y, y = E % 4294967296 := ⟨_, rfl⟩
  have x0 : 0 ≤ x := by omega
  have x1 : x ≤ 4294967295 := by omega
  have y0 : 0 ≤ y := by omega
  have y1 : y ≤ 4294967295 := by omega
  have xy0 : 0 ≤ x * y := Int.mul_nonneg x0 y0
  have xy1 : x * y ≤ 18446744065119617025 := Int.le_trans (Int.mul_le_mul x1 y1 y0 (by decide)) (by decide)
  have HD := Lib.hid hD
  have HE := Lib.hid hE
  have Hx := Lib.hid hx
  have Hy := Lib.hid hy
  have uD : U64 D := ⟨D0, by omega⟩
  have uE : U64 E := ⟨E0, by omega⟩
  have ux : U64 x := ⟨x0, by omega⟩
  have uy : U64 y := ⟨y0, by omega⟩
  have uab := mulI_U64 a b m
  have upD := powI_U64 a D m
  have upE := powI_U64 a E m
  have upb := powI_U64 b E m
  have upx := powI_U64 a x m
  have cD := powI_cg a D m hm
  have cE := powI_cg a E m hm
  have cb := powI_cg b E m hm
  have cx := powI_cg a x m hm
  have cab := mulI_cg a b m hm
  have H1 := Lib.hid (fun w => pow_any a (D + E) m w ha ⟨by omega, by omega⟩)
  rw [powI_eq hm (Cg.of_eq (pow_add' a D E D0 E0))] at H1
  have H2 := Lib.hid (fun w => pow_any a D m w ha uD)
  have H3 := Lib.hid (fun w => pow_any a E m w ha uE)
  have H4 := Lib.hid (fun w => mul_any (powI a D m) (powI a E m) m w upD upE)
  rw [mulI_eq hm (cD.mul cE)] at H4
  have H5 := Lib.hid (fun w => mul_any a b m w ha hb)
  have H6 := Lib.hid (fun w => pow_any (mulI a b m) E m w uab uE)
  rw [powI_eq hm ((cab.pow _).trans (Cg.of_eq Int.mul_pow))] at H6
  have H7 := Lib.hid (fun w => pow_any b E m w hb uE)
  have H8 := Lib.hid (fun w => mul_any (powI a E m) (powI b E m) m w upE upb)
  rw [mulI_eq hm (cE.mul cb)] at H8
  have H9 := Lib.hid (fun w => pow_any a x m w ha ux)
  have H10 := Lib.hid (fun w => pow_any (powI a x m) y m w upx uy)
  rw [powI_eq hm (cx.pow _)] at H10
  have H11 := Lib.hid (fun w => pow_any a (x * y) m w ha ⟨xy0, by omega⟩)
  rw [powI_eq hm (Cg.of_eq (pow_mul' a x y x0 y0))] at H11
  have H12 := Lib.hid (fun w => pow_any a 0 m w ha (u64s 0))
  rw [powI_eq hm (Cg.of_eq (Int.pow_zero a))] at H12
  have H13 := Lib.hid (fun w => pow_any a 1 m w ha (u64s 1))
  rw [powI_eq hm (Cg.of_eq (show a ^ (1 : Int).toNat = a from Int.pow_one a))] at H13
  have H14 := Lib.hid (fun w => pow_any a 2 m w ha (u64s 2))
  rw [powI_eq hm (Cg.of_eq (show a ^ (2 : Int).toNat = a * a from by rw [show (2 : Int).toNat = 1 + 1 from rfl, Int.pow_succ, Int.pow_one]))] at H14
  have H15 := Lib.hid (fun w => mul_any a a m w ha ha)
  rw [mulI_yes a a m hm] at H15
  clear cD cE cb cx cab uab upD upE upb upx uD uE ux uy hb hn hT hD hE hx hy
  obtain ⟨ha0, ha1⟩ := ha
  generalize powI a D m = pD at *
  generalize powI a E m = pE at *
  generalize powI b E m = pb at *
  generalize powI a x m = px at *
  generalize mulI a b m = mab at *
  go_enter Tryd.func7, Tryd.ntmps7
  go_upto_region 5 with (first
    | ((with_reducible refine (HW.out _).mono ?_); rintro e w' ⟨rfl, rfl⟩)
    | (go_at_call 11; refine (awake_any _ HA.out).mono ?_; rintro e w' ⟨rfl, n, rfl⟩))
  rw [← HD.out, ← HE.out]
  go_upto_region 7 with (first
    | ((with_reducible refine (H1.out _).mono ?_); rintro e w' ⟨rfl, n, rfl⟩)
    | ((with_reducible refine (H2.out _).mono ?_); rintro e w' ⟨rfl, n, rfl⟩)
    | ((with_reducible refine (H3.out _).mono ?_); rintro e w' ⟨rfl, n, rfl⟩)
    | ((with_reducible refine (H4.out _).mono ?_); rintro e w' ⟨rfl, n, rfl⟩)
    | ((with_reducible refine (H5.out _).mono ?_); rintro e w' ⟨rfl, n, rfl⟩)
    | ((with_reducible refine (H6.out _).mono ?_); rintro e w' ⟨rfl, n, rfl⟩)
    | ((with_reducible refine (H7.out _).mono ?_); rintro e w' ⟨rfl, n, rfl⟩)
    | ((with_reducible refine (H8.out _).mono ?_); rintro e w' ⟨rfl, n, rfl⟩))
  go_upto_region 8 with fail
  rw [← Hx.out, ← Hy.out]
  go_quiet (first
    | (with_reducible exact quiet_add (H9.out _))
    | (with_reducible exact quiet_add (H10.out _))
    | (with_reducible exact quiet_add (H11.out _))
    | (with_reducible exact quiet_add (H12.out _))
    | (with_reducible exact quiet_add (H13.out _))
    | (with_reducible exact quiet_add (H14.out _))
    | (with_reducible exact quiet_add (H15.out _)))
  go_wp2
  go_ret
  exact ⟨rfl, _, World.drewN_drewN _ _ _⟩
end Go.Proofs.YteaalkknjnodiaaDoor
