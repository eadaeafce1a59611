/- math/bits.Div64, walked. -/
import Derived.Test.YtnjbigbiclfcoaaDoorDivA
import Derived.Test.YtnjbigbiclfcoaaDoorDivMath
import Derived.Deep.CutBlock
import Derived.Deep.DeepCutAuto
namespace Go.Proofs.YtnjbigbiclfcoaaDoor
open Go.RowKit

theorem lz64_nat (y s : Nat) (w : World) (h0 : y ≠ 0) (h1 : y < 18446744073709551616) (hs : s = 64 - Lib.bitLen y) :
    Calls Tryd.prog 51 #[.int .u64 y] w fun e w' => e = .returned (.int .i64 s) ∧ w = w' := by
  obtain ⟨b1, b2⟩ := DivM.bitLen_bounds y h0 h1
  refine (lz64_any y w (by omega) (by omega) (by simpa using b2)).mono ?_
  rintro e w' ⟨rfl, rfl⟩
  refine ⟨?_, rfl⟩
  congr 2
  simp
  omega

theorem wrapMul (a s M : Nat) (h : a * 2 ^ s % 18446744073709551616 = M) : IntKind.u64.wrap ((a : Int) * 2 ^ s) = (M : Int) := by
  rw [IntKind.wrap_u64, ← h]
  rw [Int.natCast_emod, Int.natCast_mul, Int.natCast_pow]
  rfl
theorem divPow (a k M : Nat) (h : a / 2 ^ k = M) : (a : Int) / 2 ^ k = (M : Int) := by
  rw [← h, Int.natCast_ediv, Int.natCast_pow]
  rfl
theorem orN (a b M : Nat) (ha : a < 18446744073709551616) (hb : b < 18446744073709551616) (h : a ||| b = M) : bits .or .u64 (a : Int) (b : Int) = (M : Int) := by
  rw [bits_or_u64_nat a b ha hb, h]
theorem divNN (a b : Nat) : (a : Int) / (b : Int) = ((a / b : Nat) : Int) := by rw [Int.natCast_ediv]
theorem tdivNN (a b : Nat) : (a : Int).tdiv (b : Int) = ((a / b : Nat) : Int) := by rw [Int.tdiv_eq_ediv_of_nonneg (by omega), Int.natCast_ediv]

theorem wrapSub (U q y1 R : Nat) (h : q * y1 + R = U) (hR : R < 18446744073709551616) : IntKind.u64.wrap ((U : Int) - ((q * y1 : Nat) : Int)) = (R : Int) := by
  rw [IntKind.wrap_u64, ← h]
  omega
theorem remWrap (U u1 Y q R : Nat) (hY : 0 < Y) (hY' : Y < 18446744073709551616) (hq : q = (U * 4294967296 + u1) / Y) (hR : R = (U * 4294967296 + u1) % Y) :
    IntKind.u64.wrap (IntKind.u64.wrap (IntKind.u64.wrap ((U : Int) * 4294967296) + u1) - IntKind.u64.wrap ((q * Y : Nat) : Int)) = (R : Int) := by
  simp only [IntKind.wrap_u64]
  rw [hq, hR, Int.natCast_mul]
  exact DivM.rem_wrap U u1 Y hY hY'

theorem ret_two {k l : IntKind} {a b c d : Int} (h1 : a = c) (h2 : b = d) : Ending.returned (.tuple #[.int k a, .int l b]) = .returned (.tuple #[.int k c, .int l d]) := by rw [h1, h2]
theorem quoLt (hi lo y : Nat) (hl : lo < 18446744073709551616) (h1 : hi < y) : (hi * 18446744073709551616 + lo) / y < 18446744073709551616 := by
  rw [Nat.div_lt_iff_lt_mul (by omega)]
  have := Nat.mul_le_mul_left 18446744073709551616 (show hi + 1 ≤ y from h1)
  omega
theorem quoWrapI (a b c : Int) (hc : c = a * 4294967296 + b) (h0 : 0 ≤ c) (hl : c < 18446744073709551616) : ((a * 4294967296) % 18446744073709551616 + b) % 18446744073709551616 = c := by omega
theorem quoWrap (q a b : Nat) (h : q = a * 4294967296 + b) (hl : q < 18446744073709551616) : IntKind.u64.wrap (IntKind.u64.wrap ((a : Int) * 4294967296) + (b : Int)) = (q : Int) := by
  simp only [IntKind.wrap_u64]
  exact quoWrapI a b q (by rw [h, Int.natCast_add, Int.natCast_mul]; rfl) (by omega) (by omega)
theorem remShift (m s R : Nat) (h : m * 2 ^ s = R) : (R : Int) / 2 ^ s = (m : Int) := by
  apply divPow
  rw [← h]
  exact Nat.mul_div_cancel _ (Nat.two_pow_pos s)

set_option maxHeartbeats 1000000 in
theorem div64_high (hi lo y : Nat) (w : World) (hl : lo < 18446744073709551616) (hy : y < 18446744073709551616) (h0 : 0 < hi) (h1 : hi < y) :
    Calls Tryd.prog 47 #[.int .u64 hi, .int .u64 lo, .int .u64 y] w fun e w' => e = .returned (.tuple #[.int .u64 (((hi * 18446744073709551616 + lo) / y : Nat) : Int), .int .u64 (((hi * 18446744073709551616 + lo) % y : Nat) : Int)]) ∧ ∃ n, w' = w.drewN n := by
  obtain ⟨s, hs⟩ : ∃ s, s = 64 - Lib.bitLen y := ⟨_, rfl⟩
  have hz := fun w => lz64_nat y s w (by omega) hy hs
  have nm := DivM.norm y (by omega) hy
  rw [← hs] at nm
  have hs64 : s ≤ 64 := by omega
  have hs63 : (s : Int) ≤ 63 := by have := (DivM.bitLen_bounds y (by omega) hy).1; omega
  have c1 : ((y : Int) == 0) = false := by simp; omega
  have c2 : decide ((y : Int) ≤ hi) = false := by simp; omega
  have c3 : ((hi : Int) == 0) = false := by simp; omega
  clear hs
  have HZ := Lib.hid hz
  clear hz
  -- the numbers, by name
  obtain ⟨Y, hY⟩ : ∃ Y, Y = y * 2 ^ s := ⟨_, rfl⟩
  obtain ⟨U, hU⟩ : ∃ U, U = hi * 2 ^ s + lo / 2 ^ (64 - s) := ⟨_, rfl⟩
  obtain ⟨V, hV⟩ : ∃ V, V = lo * 2 ^ s % 18446744073709551616 := ⟨_, rfl⟩
  rw [← hY] at nm
  obtain ⟨nm1, nm2⟩ := nm
  have hUY : U < Y := by rw [hU, hY]; exact DivM.high_lt hi lo y s hs64 hl h1
  have hVl : V < 18446744073709551616 := by rw [hV]; exact Nat.mod_lt _ (by omega)
  have hX := DivM.shifted hi lo s hs64
  rw [← hU, ← hV] at hX
  have hhs : hi * 2 ^ s < 18446744073709551616 := by have := Nat.le_add_right (hi * 2 ^ s) (lo / 2 ^ (64 - s)); omega
  have hls : lo / 2 ^ (64 - s) < 18446744073709551616 := by have := Nat.le_add_left (lo / 2 ^ (64 - s)) (hi * 2 ^ s); omega
  have f1 := wrapMul y s Y (by rw [← hY]; exact Nat.mod_eq_of_lt nm2)
  have f2 := wrapMul hi s (hi * 2 ^ s) (Nat.mod_eq_of_lt hhs)
  have f3 := divPow lo (64 - s) (lo / 2 ^ (64 - s)) rfl
  have f4 := orN (hi * 2 ^ s) (lo / 2 ^ (64 - s)) U hhs hls (by rw [hU]; exact DivM.or_add hi lo s hs64 hl)
  have f5 := wrapMul lo s V hV.symm
  have f6 := Mul64.maskN Y nm2
  have f7 := Mul64.maskN V hVl
  obtain ⟨y1, hy1⟩ : ∃ y1, y1 = Y / 4294967296 := ⟨_, rfl⟩
  obtain ⟨y0, hy0⟩ : ∃ y0, y0 = Y % 4294967296 := ⟨_, rfl⟩
  obtain ⟨u1, hu1⟩ : ∃ u1, u1 = V / 4294967296 := ⟨_, rfl⟩
  obtain ⟨u0, hu0⟩ : ∃ u0, u0 = V % 4294967296 := ⟨_, rfl⟩
  have hYy : Y = y1 * 4294967296 + y0 := by omega
  have by1 : 2147483648 ≤ y1 := by omega
  have by1' : y1 < 4294967296 := by omega
  have by0 : y0 < 4294967296 := by omega
  have bu1 : u1 < 4294967296 := by omega
  have bu0 : u0 < 4294967296 := by omega
  have f8 : (Y : Int) / 4294967296 = (y1 : Int) := by omega
  have f9 : (V : Int) / 4294967296 = (u1 : Int) := by omega
  rw [← hy0] at f6
  rw [← hu0] at f7
  have hUy : U < y1 * 4294967296 + y0 := by rw [← hYy]; exact hUY
  have st := DivM.Est.start by1 by1' by0 bu1 hUy
  have bq : U / y1 < 18446744073709551616 := by have := st.top; omega
  have f10 := tdivNN U y1
  have f11 := Mul64.wrapN (U / y1) bq
  have f12 := Mul64.mulN (U / y1) y1
  have bm : U / y1 * y1 < 18446744073709551616 := by have := st.sum; omega
  have f13 := Mul64.wrapN (U / y1 * y1) bm
  have f14 := wrapSub U (U / y1) y1 (U % y1) st.sum (by have := st.low; omega)
  obtain ⟨q1, hq1⟩ : ∃ q1, q1 = (U * 4294967296 + u1) / Y := ⟨_, rfl⟩
  obtain ⟨W, hW⟩ : ∃ W, W = (U * 4294967296 + u1) % Y := ⟨_, rfl⟩
  have HW := Lib.hid hW
  have hWY : W < Y := by rw [hW]; exact Nat.mod_lt _ (by omega)
  have hWy : W < y1 * 4294967296 + y0 := by rw [← hYy]; exact hWY
  have g1 := Mul64.mulN q1 Y
  have g2 := remWrap U u1 Y q1 W (by omega) nm2 hq1 hW
  have HFW := Lib.hid (And.intro g1 g2)
  have st0 := DivM.Est.start by1 by1' by0 bu0 hWy
  have bq0 : W / y1 < 18446744073709551616 := by have := st0.top; omega
  have bm0 : W / y1 * y1 < 18446744073709551616 := by have := st0.sum; omega
  have HG := Lib.hid (And.intro (divNN W y1) (And.intro (Mul64.wrapN (W / y1) bq0) (And.intro (Mul64.mulN (W / y1) y1) (And.intro (Mul64.wrapN (W / y1 * y1) bm0) (wrapSub W (W / y1) y1 (W % y1) st0.sum (by have := st0.low; omega))))))
  have HT := Lib.hid st0
  clear st0
  obtain ⟨q0, hq0⟩ : ∃ q0, q0 = (W * 4294967296 + u0) / Y := ⟨_, rfl⟩
  obtain ⟨R, hR⟩ : ∃ R, R = (W * 4294967296 + u0) % Y := ⟨_, rfl⟩
  have Hq0 := Lib.hid hq0
  have HN := Lib.hid (DivM.whole (hi * 18446744073709551616 + lo) y s U V _ _ (by omega) rfl hX rfl)
  rw [← hY, ← hu1, ← hu0, ← hq1, ← hW, ← hq0, ← hR] at HN
  have g3 := remWrap W u0 Y q0 R (by omega) nm2 hq0 hR
  have HE := Lib.hid (And.intro (Mul64.mulN q0 Y) g3)
  clear g3 hq0 hR
  clear g1 g2
  have Hq1 := Lib.hid hq1
  have HX := Lib.hid hX
  have HYy := Lib.hid hYy
  have HY := Lib.hid hY
  have HV : Hid (u1 = V / 4294967296 ∧ u0 = V % 4294967296) := Lib.hid ⟨hu1, hu0⟩
  have HF : Hid _ := Lib.hid (And.intro f1 (And.intro f2 (And.intro f3 (And.intro f4 (And.intro f5 (And.intro f6 (And.intro f7 (And.intro f8 (And.intro f9 (And.intro f10 (And.intro f11 (And.intro f12 (And.intro f13 f14)))))))))))))
  have HS := Lib.hid st
  have F1 := Lib.hid f1
  clear f1 f2 f3 f4 f5 f6 f7 f8 f9 f10 f11 f12 f13 f14 hY hU hV hX hy1 hy0 hu1 hu0 hYy hq1 hW st
  go_enter Tryd.func47, Tryd.ntmps47
  go_wp2_with fail
  refine (HZ.out _).mono ?_
  rintro e w' ⟨rfl, rfl⟩
  go_upto_region 9 with fail
  simp only [F1.out]
  clear F1
  go_upto_block 0 with fail
  have HF' := HF.out
  obtain ⟨f1, f2, f3, f4, f5, f6, f7, f8, f9, f10, f11, f12, f13, f14⟩ := HF'
  simp only [f2, f3, f4, f5, f6, f7, f8, f9, f10, f11, f12, f13, f14]
  clear f1 f2 f3 f4 f5 f6 f7 f8 f9 f10 f11 f12 f13 f14
  go_cut [15] (fun s15 wx => s15 = .int .u64 q1 ∧ wx = w)
  case first =>
    go_wp2_with fail
    go_loop [15, 16] (fun q r => ∃ a b : Nat, q = .int .u64 a ∧ r = .int .u64 b ∧ DivM.Est U u1 y1 y0 a b) (fun q _ => (intOf q).toNat)
    case atStart => exact ⟨_, _, rfl, rfl, HS.out⟩
    case round =>
      obtain ⟨a, b, rfl, rfl, he⟩ := hrel
      have hlow := he.low
      have htop := he.top
      have hp : 0 < y1 := by omega
      by_cases hA : 4294967296 ≤ a
      · have hg : 4294967296 ≤ a ∨ 4294967296 * b + u1 < a * y0 := .inl hA
        have hA' : decide ((4294967296 : Int) ≤ (a : Int)) = true := by simp; omega
        by_cases hB : 4294967296 ≤ b + y1
        · have hr := he.broke hp by0 bu1 hUy hg hB
          have HR : Hid (a - 1 = q1) := Lib.hid (by rw [Hq1.out, HYy.out]; exact hr)
          have hB' : decide ((4294967296 : Int) ≤ (b : Int) + (y1 : Int)) = true := by simp; omega
          clear hr
          go_wp2
          go_meet
          exact ⟨congrArg (Value.int .u64) (by have := HR.out; omega), rfl⟩
        · have HN := Lib.hid (he.next hp bu1 hUy hg (by omega))
          have hB' : decide ((4294967296 : Int) ≤ (b : Int) + (y1 : Int)) = false := by simp; omega
          go_wp2
          go_round
          case rel => exact ⟨a - 1, b + y1, congrArg (Value.int .u64) (by omega), congrArg (Value.int .u64) (by omega), HN.out⟩
          case measure => simp [intOf]; omega
      · have hA' : decide ((4294967296 : Int) ≤ (a : Int)) = false := by simp; omega
        have hm : a * y0 < 18446744073709551616 := Nat.lt_of_le_of_lt (Nat.mul_le_mul (show a ≤ 4294967295 by omega) (show y0 ≤ 4294967295 by omega)) (by decide)
        obtain ⟨z, hz⟩ : ∃ z, z = a * y0 := ⟨_, rfl⟩
        have hzI : (a : Int) * (y0 : Int) = (z : Int) := by rw [hz, Int.natCast_mul]
        rw [← hz] at hm
        by_cases hC : 4294967296 * b + u1 < z
        · have hg : 4294967296 ≤ a ∨ 4294967296 * b + u1 < a * y0 := .inr (by rw [← hz]; exact hC)
          have hC' : decide (4294967296 * (b : Int) + (u1 : Int) < (z : Int)) = true := by simp; omega
          by_cases hB : 4294967296 ≤ b + y1
          · have hr := he.broke hp by0 bu1 hUy hg hB
            have hpos := he.pos hp bu1 hUy hg
            have HR : Hid (a - 1 = q1) := Lib.hid (by rw [Hq1.out, HYy.out]; exact hr)
            have hB' : decide ((4294967296 : Int) ≤ (b : Int) + (y1 : Int)) = true := by simp; omega
            clear hr hz
            go_wp2
            go_meet
            exact ⟨congrArg (Value.int .u64) (by have := HR.out; omega), rfl⟩
          · have HN := Lib.hid (he.next hp bu1 hUy hg (by omega))
            have hpos := he.pos hp bu1 hUy hg
            have hB' : decide ((4294967296 : Int) ≤ (b : Int) + (y1 : Int)) = false := by simp; omega
            clear hz
            go_wp2
            go_round
            case rel => exact ⟨a - 1, b + y1, congrArg (Value.int .u64) (by omega), congrArg (Value.int .u64) (by omega), HN.out⟩
            case measure => simp [intOf]; omega
        · have hr := he.done hp (by rw [← hz]; omega)
          have HR : Hid (a = q1) := Lib.hid (by rw [Hq1.out, HYy.out]; exact hr)
          have hC' : decide (4294967296 * (b : Int) + (u1 : Int) < (z : Int)) = false := by simp; omega
          clear hr hz
          go_wp2
          go_meet
          exact ⟨congrArg (Value.int .u64) (by have := HR.out; omega), rfl⟩
  case rest =>
    obtain ⟨rfl, rfl⟩ := hcut
    go_upto_region 22 with fail
    have FW := HFW.out
    obtain ⟨g1, g2⟩ := FW
    simp only [g1, g2]
    clear g1 g2
    go_upto_block 2 with fail
    have GF := HG.out
    obtain ⟨f10, f11, f12, f13, f14⟩ := GF
    simp only [f10, f11, f12, f13, f14]
    clear f10 f11 f12 f13 f14
    go_cut [18] (fun s18 wx => s18 = .int .u64 q0 ∧ wx = wc)
    case first =>
      go_wp2_with fail
      go_loop [18, 16] (fun q r => ∃ a b : Nat, q = .int .u64 a ∧ r = .int .u64 b ∧ DivM.Est W u0 y1 y0 a b) (fun q _ => (intOf q).toNat)
      case atStart => exact ⟨_, _, rfl, rfl, HT.out⟩
      case round =>
        obtain ⟨a, b, rfl, rfl, he⟩ := hrel
        have hlow := he.low
        have htop := he.top
        have hp : 0 < y1 := by omega
        by_cases hA : 4294967296 ≤ a
        · have hg : 4294967296 ≤ a ∨ 4294967296 * b + u0 < a * y0 := .inl hA
          have hA' : decide ((4294967296 : Int) ≤ (a : Int)) = true := by simp; omega
          by_cases hB : 4294967296 ≤ b + y1
          · have hr := he.broke hp by0 bu0 hWy hg hB
            have HR : Hid (a - 1 = q0) := Lib.hid (by rw [Hq0.out, HYy.out]; exact hr)
            have hB' : decide ((4294967296 : Int) ≤ (b : Int) + (y1 : Int)) = true := by simp; omega
            clear hr
            go_wp2
            go_meet
            exact ⟨congrArg (Value.int .u64) (by have := HR.out; omega), rfl⟩
          · have HN := Lib.hid (he.next hp bu0 hWy hg (by omega))
            have hB' : decide ((4294967296 : Int) ≤ (b : Int) + (y1 : Int)) = false := by simp; omega
            go_wp2
            go_round
            case rel => exact ⟨a - 1, b + y1, congrArg (Value.int .u64) (by omega), congrArg (Value.int .u64) (by omega), HN.out⟩
            case measure => simp [intOf]; omega
        · have hA' : decide ((4294967296 : Int) ≤ (a : Int)) = false := by simp; omega
          have hm : a * y0 < 18446744073709551616 := Nat.lt_of_le_of_lt (Nat.mul_le_mul (show a ≤ 4294967295 by omega) (show y0 ≤ 4294967295 by omega)) (by decide)
          obtain ⟨z, hz⟩ : ∃ z, z = a * y0 := ⟨_, rfl⟩
          have hzI : (a : Int) * (y0 : Int) = (z : Int) := by rw [hz, Int.natCast_mul]
          rw [← hz] at hm
          by_cases hC : 4294967296 * b + u0 < z
          · have hg : 4294967296 ≤ a ∨ 4294967296 * b + u0 < a * y0 := .inr (by rw [← hz]; exact hC)
            have hC' : decide (4294967296 * (b : Int) + (u0 : Int) < (z : Int)) = true := by simp; omega
            by_cases hB : 4294967296 ≤ b + y1
            · have hr := he.broke hp by0 bu0 hWy hg hB
              have hpos := he.pos hp bu0 hWy hg
              have HR : Hid (a - 1 = q0) := Lib.hid (by rw [Hq0.out, HYy.out]; exact hr)
              have hB' : decide ((4294967296 : Int) ≤ (b : Int) + (y1 : Int)) = true := by simp; omega
              clear hr hz
              go_wp2
              go_meet
              exact ⟨congrArg (Value.int .u64) (by have := HR.out; omega), rfl⟩
            · have HN := Lib.hid (he.next hp bu0 hWy hg (by omega))
              have hpos := he.pos hp bu0 hWy hg
              have hB' : decide ((4294967296 : Int) ≤ (b : Int) + (y1 : Int)) = false := by simp; omega
              clear hz
              go_wp2
              go_round
              case rel => exact ⟨a - 1, b + y1, congrArg (Value.int .u64) (by omega), congrArg (Value.int .u64) (by omega), HN.out⟩
              case measure => simp [intOf]; omega
          · have hr := he.done hp (by rw [← hz]; omega)
            have HR : Hid (a = q0) := Lib.hid (by rw [Hq0.out, HYy.out]; exact hr)
            have hC' : decide (4294967296 * (b : Int) + (u0 : Int) < (z : Int)) = false := by simp; omega
            clear hr hz
            go_wp2
            go_meet
            exact ⟨congrArg (Value.int .u64) (by have := HR.out; omega), rfl⟩
    case rest =>
      obtain ⟨rfl, rfl⟩ := hcut
      go_wp2
      go_ret2
      obtain ⟨g1, g2⟩ := HE.out
      obtain ⟨n1, n2⟩ := HN.out
      refine ⟨?_, 0, rfl⟩
      exact ret_two (quoWrap _ _ _ n1 (quoLt hi lo y hl h1)) (by rw [g1, g2]; exact remShift _ _ _ n2)
end Go.Proofs.YtnjbigbiclfcoaaDoor
