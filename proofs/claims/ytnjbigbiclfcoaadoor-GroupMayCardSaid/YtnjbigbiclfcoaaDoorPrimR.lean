/- The document's test for primes (consistoryref01: against, Prime), walked. -/
import Derived.Test.YtnjbigbiclfcoaaDoorModP
import Derived.Test.YtnjbigbiclfcoaaDoorRefA
import Derived.Test.YtnjbigbiclfcoaaDoorMem
namespace Go.Proofs.YtnjbigbiclfcoaaDoor
open Go.RowKit

/-- n - 1 by squares of 2. -/
theorem ctz_split (n : Int) (h2 : 2 ≤ n) (hn : n ≤ 2305843009213693952) : ∃ u : Int, n - 1 = 2 ^ Lib.ctz 64 (n - 1).toNat * u ∧ u % 2 = 1 ∧ 0 < u ∧ Lib.ctz 64 (n - 1).toNat < 64 ∧ (n % 2 = 1 → 1 ≤ Lib.ctz 64 (n - 1).toNat) := by
  have h0 : (n - 1).toNat ≠ 0 := by omega
  have e : Lib.ctz 64 (n - 1).toNat = Lib.ctzFrom 64 (n - 1).toNat := by unfold Lib.ctz; rw [if_neg h0]
  obtain ⟨m, hm, hk⟩ := Lib.ctzFrom_spec 64 (n - 1).toNat (by omega) (by omega)
  rw [e]
  generalize Lib.ctzFrom 64 (n - 1).toNat = t at hm hk
  refine ⟨2 * m + 1, ?_, by omega, by omega, hk, fun ho => ?_⟩
  · have : ((n - 1).toNat : Int) = n - 1 := by omega
    rw [← this, hm]
    simp [Int.natCast_mul, Int.natCast_pow]
  · rcases Nat.eq_zero_or_pos t with h | h
    · subst h; simp at hm; omega
    · exact h
theorem pow_half (g : Nat) (u : Int) : (2 : Int) ^ (g + 1) * u % 2 = 0 ∧ (2 : Int) ^ (g + 1) * u / 2 = 2 ^ g * u := by
  have : (2 : Int) ^ (g + 1) * u = 2 * (2 ^ g * u) := by rw [Int.pow_succ, Int.mul_comm (2 ^ g) 2, Int.mul_assoc]
  rw [this]
  omega
theorem pow_le_all {g t : Nat} (h : g ≤ t) {u : Int} (hu : 0 < u) : 0 < (2 : Int) ^ g * u ∧ (2 : Int) ^ g * u ≤ 2 ^ t * u := by
  have h1 : (0 : Int) < 2 ^ g := Int.pow_pos (by decide)
  refine ⟨Int.mul_pos h1 hu, Int.mul_le_mul_of_nonneg_right ?_ (by omega)⟩
  have : (2 : Nat) ^ g ≤ 2 ^ t := Nat.pow_le_pow_right (by decide) h
  exact_mod_cast this

set_option maxHeartbeats 1000000 in
theorem against_any (a n : Int) (w : World) (ha : U64 a) (h3 : 3 ≤ n) (hn : n ≤ 2305843009213693952) (ho : n % 2 = 1) :
    Calls Tryd.prog 46 #[.int .u64 a, .int .u64 n] w fun e w' => e = .returned (.bool (!(passB n a (Lib.ctz 64 (n - 1).toNat)))) ∧ ∃ k, w' = w.drewN k := by
  obtain ⟨u, hu, hu1, hu0, ht64, ht1⟩ := ctz_split n (by omega) hn
  have ht1 := ht1 ho
  generalize Lib.ctz 64 (n - 1).toNat = t at *
  have hdiv : (n - 1) / 2 ^ t = u := by rw [hu]; exact Int.mul_ediv_cancel_left _ (Int.ne_of_gt (Int.pow_pos (by decide)))
  have HUU : Hid (n - 1 = 2 ^ t * u ∧ 0 < u ∧ u % 2 = 1) := Lib.hid ⟨hu, hu0, hu1⟩
  have hul : u ≤ n - 1 := by rw [hu]; have := (pow_le_all (Nat.zero_le t) hu0).2; simpa using this
  have HP := Lib.hid (fun w => refpow_any a u n w ha ⟨by omega, by omega⟩ ⟨by omega, by omega⟩)
  obtain ⟨res, hres⟩ : ∃ r, r = (!(passB n a t)) := ⟨_, rfl⟩
  rw [← hres]
  have HRES : Hid (res = !(powI a u n == 1 || witB n t (powI a u n))) := Lib.hid (by rw [hres]; unfold passB; rw [hdiv])
  clear hdiv hres hu hu1 hu0 hul ha ho
  go_enter Tryd.func46, Tryd.ntmps46
  go_wp2_with fail
  go_loopg [5, 6] t (fun g s5 s6 wx => ∃ (x : Int) (i : Nat), i + g = t ∧ s5 = .int .u64 x ∧ s6 = .int .i64 i ∧ Hid (x = 2 ^ g * u ∧ U64 x) ∧ ∃ q, wx = w.drewN q)
  case atStart => exact ⟨_, 0, by omega, rfl, rfl, Lib.hid ⟨HUU.out.1, ⟨by omega, by omega⟩⟩, 0, rfl⟩
  case round =>
    obtain ⟨x, i, hi, rfl, rfl, HX, q, rfl⟩ := hrel
    have hxb := HX.out.2
    obtain ⟨x0, x1⟩ := hxb
    cases gk with
    | succ g =>
      have hp := pow_half g u
      have hx2 : (x % 2 == 0) = true := by rw [HX.out.1, hp.1]; rfl
      have HXN : Hid (x / 2 = 2 ^ g * u ∧ U64 (x / 2)) := Lib.hid ⟨by rw [HX.out.1, hp.2], by omega, by omega⟩
      clear hp HX
      go_wp2_with fail
      go_roundg g
      case measure => omega
      case rel => exact ⟨x / 2, i + 1, by omega, rfl, by go_num, HXN, _, rfl⟩
    | zero =>
      obtain rfl : i = t := by omega
      have hxu : x = u := by rw [HX.out.1]; simp
      subst hxu
      have hx2 : (x % 2 == 0) = false := by have := HUU.out.2.2; simp; omega
      have HX0 := Lib.hid (powI_U64 a x n)
      generalize powI a x n = z0 at HP HRES HX0
      clear HX HUU
      obtain ⟨z0l, z0u⟩ := HX0.out
      by_cases hx1 : z0 = 1
      · have hx1' : (z0 == 1) = true := by simpa using hx1
        have HE : Hid (false = res) := Lib.hid (by rw [HRES.out, hx1']; rfl)
        clear hx1
        go_wp2_with fail
        refine (HP.out _).mono ?_
        rintro e w' ⟨rfl, n1, rfl⟩
        go_wp2_with fail
        (try rw [Exit.noGoto_ret])
        go_ret
        exact ⟨congrArg Ending.returned (congrArg Value.bool HE.out), _, rfl⟩
      · have hx1' : (z0 == 1) = false := by simpa using hx1
        have HR2 : Hid (res = !(witB n i z0)) := Lib.hid (by rw [HRES.out, hx1', Bool.false_or])
        clear hx1 HRES
        obtain ⟨m, rfl⟩ : ∃ m, i = m + 1 := ⟨i - 1, by omega⟩
        by_cases hxn : z0 = n - 1
        · have hxn' : (z0 == n - 1) = true := by simpa using hxn
          have HE : Hid (false = res) := Lib.hid (by rw [HR2.out, witB, hxn']; rfl)
          clear hxn
          go_wp2_with fail
          refine (HP.out _).mono ?_
          rintro e w' ⟨rfl, n1, rfl⟩
          go_wp2_with fail
          (try rw [Exit.noGoto_ret])
          go_ret
          exact ⟨congrArg Ending.returned (congrArg Value.bool HE.out), _, rfl⟩
        · have hxn' : (z0 == n - 1) = false := by simpa using hxn
          have HR3 : Hid (res = !(witB n m (mulI z0 z0 n))) := Lib.hid (by rw [HR2.out, witB, hxn', Bool.false_or])
          clear hxn HR2
          go_wp2_with fail
          refine (HP.out _).mono ?_
          rintro e w' ⟨rfl, n1, rfl⟩
          go_wp2_with fail
          clear hx1' hxn'
          go_loopg [7, 8] m (fun h s7 s8 wx => ∃ (z : Int) (j : Nat), j + h = m + 1 ∧ s7 = .int .u64 z ∧ s8 = .int .i64 j ∧ Hid (U64 z ∧ witB n h (mulI z z n) = witB n m (mulI z0 z0 n)) ∧ ∃ q, wx = w.drewN q)
          case atStart => exact ⟨z0, 1, by omega, rfl, rfl, Lib.hid ⟨HX0.out, rfl⟩, _, rfl⟩
          case round =>
            obtain ⟨z, j, hj, rfl, rfl, HZ, q2, rfl⟩ := hrel
            obtain ⟨z1, z2⟩ := HZ.out.1
            have HM := Lib.hid (fun w => refmul_any z z n w ⟨z1, z2⟩ ⟨z1, z2⟩ ⟨by omega, by omega⟩)
            have HMU := Lib.hid (mulI_U64 z z n)
            have HW := Lib.hid HZ.out.2
            clear HZ
            generalize mulI z z n = y at HM HMU HW
            obtain ⟨y1, y2⟩ := HMU.out
            cases gk with
            | zero =>
              obtain rfl : j = m + 1 := by omega
              have HE : Hid (true = res) := Lib.hid (by rw [HR3.out, ← HW.out]; rfl)
              go_wp2_with fail
              (try rw [Exit.noGoto_ret])
              go_ret
              exact ⟨congrArg Ending.returned (congrArg Value.bool HE.out), _, rfl⟩
            | succ h =>
              have hjt : (j : Int) < ((m + 1 : Nat) : Int) := by omega
              by_cases hyn : y = n - 1
              · have hyn' : (y == n - 1) = true := by simpa using hyn
                have HE : Hid (false = res) := Lib.hid (by rw [HR3.out, ← HW.out, witB, hyn']; rfl)
                clear hyn
                go_wp2_with fail
                refine (HM.out _).mono ?_
                rintro e w' ⟨rfl, n2, rfl⟩
                go_wp2_with fail
                (try rw [Exit.noGoto_ret])
                go_ret
                exact ⟨congrArg Ending.returned (congrArg Value.bool HE.out), _, rfl⟩
              · have hyn' : (y == n - 1) = false := by simpa using hyn
                have HWN : Hid (witB n h (mulI y y n) = witB n m (mulI z0 z0 n)) := Lib.hid (by rw [← HW.out, witB, hyn', Bool.false_or])
                clear hyn
                go_wp2_with fail
                refine (HM.out _).mono ?_
                rintro e w' ⟨rfl, n2, rfl⟩
                go_wp2_with fail
                go_roundg h
                case measure => omega
                case rel => exact ⟨y, j + 1, by omega, rfl, by go_num, Lib.hid ⟨HMU.out, HWN.out⟩, _, rfl⟩
theorem Bk.rd' {w : World} {g : Nat} {t : TypeId} {xs : List Value} (h : Bk w g t xs.toArray) : Rd w (some ⟨g, 0, none⟩) xs := fun _ => ⟨g, 0, rfl, h.lt, fun j u hu => by rw [Nat.zero_add, h.cell]; simpa using hu⟩
/-- Small divisors, from d on, g of them. -/
def tdivB (n : Int) : Nat → Int → Bool
  | 0, _ => false
  | g + 1, d => if d * d ≤ n then (if n % d = 0 then true else tdivB n g (d + 1)) else false
def refPrimeB (n : Int) : Bool := if n < 2 ∨ 2305843009213693952 < n then false else if tdivB n 998 2 then false else if n < 1000000 then true else triedL.all fun a => passB n a (Lib.ctz 64 (n - 1).toNat)
theorem sq_le {d : Int} (h0 : 0 ≤ d) (h1 : d ≤ 1000) : 0 ≤ d * d ∧ d * d ≤ 1000000 := by
  refine ⟨Int.mul_nonneg h0 h0, ?_⟩
  calc d * d ≤ 1000 * d := Int.mul_le_mul_of_nonneg_right h1 h0
    _ ≤ 1000 * 1000 := Int.mul_le_mul_of_nonneg_left h1 (by decide)
    _ = 1000000 := by decide
theorem triedL_U64 (j : Nat) (h : j < triedL.length) : U64 triedL[j] := by
  have key : ∀ a ∈ triedL, 0 ≤ a ∧ a < 18446744073709551616 := by decide
  exact key _ (List.getElem_mem h)
theorem refprime_out (n : Int) (w : World) (h : n < 2 ∨ 2305843009213693952 < n) :
    Calls Tryd.prog 38 #[.int .u64 n] w fun e w' => e = .returned (.bool false) ∧ w.grownBy w' none := by
  by_cases h2 : n < 2
  · clear h
    have h2' : decide (n < 2) = true := by simpa using h2
    go_enter Tryd.func38, Tryd.ntmps38
    go_wp2
    go_ret
    exact ⟨rfl, World.grownBy.refl _ _⟩
  · have h2' : decide (n < 2) = false := by simpa using h2
    have h3 : 2305843009213693952 < n := h.resolve_left h2
    have h3' : decide (2305843009213693952 < n) = true := by simpa using h3
    clear h
    go_enter Tryd.func38, Tryd.ntmps38
    go_wp2
    go_ret
    exact ⟨rfl, World.grownBy.refl _ _⟩
theorem drewN_grown (w : World) (n : Nat) : w.grownBy (w.drewN n) none := ⟨rfl, rfl, rfl, Nat.le_refl _, fun _ _ _ => rfl⟩
set_option maxHeartbeats 1000000 in
theorem refprime_in (n : Int) (w : World) (h2 : 2 ≤ n) (h3 : n ≤ 2305843009213693952) :
    Calls Tryd.prog 38 #[.int .u64 n] w fun e w' => e = .returned (.bool (if tdivB n 998 2 then false else if n < 1000000 then true else triedL.all fun a => passB n a (Lib.ctz 64 (n - 1).toNat))) ∧ w.grownBy w' none := by
  have h2' : decide (n < 2) = false := by simp; omega
  have h3' : decide (2305843009213693952 < n) = false := by simp; omega
  obtain ⟨res, hres⟩ : ∃ r, r = (if tdivB n 998 2 then false else if n < 1000000 then true else triedL.all fun a => passB n a (Lib.ctz 64 (n - 1).toNat)) := ⟨_, rfl⟩
  rw [← hres]
  have HRES := Lib.hid hres
  have HA := Lib.hid (fun (ho : n % 2 = 1) (h : 3 ≤ n) (a : Int) (w : World) (ha : U64 a) => against_any a n w ha h h3 ho)
  generalize Lib.ctz 64 (n - 1).toNat = t at *
  clear hres
  go_enter Tryd.func38, Tryd.ntmps38
  go_wp2_with fail
  go_loopg [3] 998 (fun g s3 wx => ∃ d : Int, d + g = 1000 ∧ 2 ≤ d ∧ s3 = .int .u64 d ∧ Hid (tdivB n g d = tdivB n 998 2 ∧ (2 < d → n % 2 ≠ 0)) ∧ ∃ q, wx = w.drewN q)
  case atStart => exact ⟨2, by omega, by omega, rfl, Lib.hid ⟨rfl, fun h => by omega⟩, 0, rfl⟩
  case round =>
    obtain ⟨d, hd, hd2, rfl, HD, q, rfl⟩ := hrel
    obtain ⟨q1, q2⟩ := sq_le (d := d) (by omega) (by omega)
    by_cases hgo : (d < 1000 ∧ d * d ≤ n)
    · obtain ⟨g, rfl⟩ : ∃ g, gk = g + 1 := ⟨gk - 1, by omega⟩
      have hd1 : decide (d < 1000) = true := by simpa using hgo.1
      have hd3 : decide (d * d ≤ n) = true := by simpa using hgo.2
      have hnz : ¬ d = 0 := by omega
      by_cases hdv : n % d = 0
      · have hdv' : (n % d == 0) = true := by simpa using hdv
        have HE : Hid (false = res) := Lib.hid (by
          have e : tdivB n 998 2 = true := by rw [← HD.out.1, tdivB, if_pos hgo.2, if_pos hdv]
          rw [HRES.out, if_pos e])
        clear hgo hdv
        go_wp2_with fail
        (try rw [Exit.noGoto_ret])
        go_ret
        exact ⟨congrArg Ending.returned (congrArg Value.bool HE.out), drewN_grown _ _⟩
      · have hdv' : (n % d == 0) = false := by simpa using hdv
        have HN : Hid (tdivB n g (d + 1) = tdivB n 998 2 ∧ (2 < d + 1 → n % 2 ≠ 0)) := Lib.hid ⟨by rw [← HD.out.1, tdivB, if_pos hgo.2, if_neg hdv], fun _ => by
          by_cases h : d = 2
          · subst h; exact hdv
          · exact HD.out.2 (by omega)⟩
        clear hgo hdv
        go_wp2_with fail
        go_roundg g
        case measure => omega
        case rel => exact ⟨d + 1, by omega, by omega, rfl, HN, _, rfl⟩
    · have HT : Hid (tdivB n 998 2 = false) := Lib.hid (by
        rw [← HD.out.1]
        cases gk with
        | zero => rfl
        | succ g =>
          rw [tdivB, if_neg]
          intro h
          exact hgo ⟨by omega, h⟩)
      have HO := Lib.hid HD.out.2
      clear HD
      have hpick : decide (d < 1000) = false ∨ (decide (d < 1000) = true ∧ decide (d * d ≤ n) = false) := by
        by_cases h : d < 1000
        · exact .inr ⟨by simpa using h, by simp; exact Int.not_le.1 fun h' => hgo ⟨h, h'⟩⟩
        · exact .inl (by simpa using h)
      by_cases hsm : n < 1000000
      · have hsm' : decide (n < 1000000) = true := by simpa using hsm
        have HE : Hid (true = res) := Lib.hid (by rw [HRES.out, if_neg (by rw [HT.out]; simp), if_pos hsm])
        clear hsm hgo
        rcases hpick with hd1 | ⟨hd1, hd3⟩
        all_goals (go_wp2_with fail; (try rw [Exit.noGoto_ret]); go_ret; exact ⟨congrArg Ending.returned (congrArg Value.bool HE.out), drewN_grown _ _⟩)
      · have hsm' : decide (n < 1000000) = false := by simpa using hsm
        have hd1 : decide (d < 1000) = false := by
          rcases hpick with h | ⟨h1, h3⟩
          · exact h
          · simp at h1 h3; omega
        have HOD : Hid (n % 2 = 1) := Lib.hid (by have := HO.out (by simp at hd1; omega); omega)
        have HR2 : Hid (res = triedL.all fun a => passB n a t) := Lib.hid (by rw [HRES.out, if_neg (by rw [HT.out]; simp), if_neg hsm])
        have HA2 := Lib.hid (HA.out HOD.out (by omega))
        clear hsm hgo hpick HA HRES HT HO HOD
        go_wp2_with fail
        go_loopg [31] 12 (fun g s31 wx => ∃ j : Nat, j + g = 12 ∧ s31 = .int .i64 j ∧ Hid ((triedL.drop j).all (fun a => passB n a t) = triedL.all (fun a => passB n a t)) ∧ Hid (w.grownBy wx none ∧ Rd wx (some ⟨w.heap.size, 0, none⟩) (nums triedL)))
        case atStart => exact ⟨0, by omega, rfl, Lib.hid rfl, Lib.hid ⟨(drewN_grown _ _).trans (World.grownBy_alloc _ _ none), (Bk.rd' (Bk.new (w.drewN q) _ _ : Bk _ _ _ (nums triedL).toArray))⟩⟩
        case round =>
          obtain ⟨j, hj, rfl, HJ, HX⟩ := hrel
          cases gk with
          | zero =>
            obtain rfl : j = 12 := by omega
            have HE : Hid (true = res) := Lib.hid (by rw [HR2.out, ← HJ.out]; rfl)
            go_wp2_with fail
            (try rw [Exit.noGoto_ret])
            go_ret
            exact ⟨congrArg Ending.returned (congrArg Value.bool HE.out), HX.out.1⟩
          | succ k =>
            have hjN : j < 12 := by omega
            have hjn : (j : Int) < 12 := by omega
            obtain ⟨g, o, e, _, hc⟩ := HX.out.2.at (k := j) (by show j < 12; exact hjN)
            injection e with e; injection e with e1 e2 e3; subst e1; subst e2
            have hcx : wr.cell? ⟨w.heap.size, j, none⟩ = some (.int .u64 (triedL[j]'hjN)) := by rw [Nat.zero_add] at hc; rw [hc]; simp [nums]; rfl
            have HU := Lib.hid (triedL_U64 j hjN)
            have HJ2 : Hid ((passB n (triedL[j]'hjN) t && (triedL.drop (j + 1)).all (fun a => passB n a t)) = triedL.all (fun a => passB n a t)) := Lib.hid (by rw [← HJ.out, List.drop_eq_getElem_cons (show j < triedL.length from hjN), List.all_cons]; rfl)
            clear hc HJ
            generalize (triedL[j]'hjN) = a at hcx HU HJ2
            have HC := Lib.hid (fun w => HA2.out a w HU.out)
            cases hb : passB n a t with
            | true =>
              rw [hb] at HC HJ2
              have HJ3 : Hid ((triedL.drop (j + 1)).all (fun a => passB n a t) = triedL.all (fun a => passB n a t)) := Lib.hid (by rw [← HJ2.out]; rfl)
              go_wp2_with fail
              refine (HC.out _).mono ?_
              rintro e w' ⟨rfl, n2, rfl⟩
              go_wp2_with fail
              go_roundg k
              case measure => omega
              case rel => exact ⟨j + 1, by omega, by go_num, HJ3, Lib.hid ⟨HX.out.1.trans (drewN_grown _ _), HX.out.2.grown (drewN_grown _ _) (by simp)⟩⟩
            | false =>
              rw [hb] at HC HJ2
              have HE : Hid (false = res) := Lib.hid (by rw [HR2.out, ← HJ2.out]; rfl)
              go_wp2_with fail
              refine (HC.out _).mono ?_
              rintro e w' ⟨rfl, n2, rfl⟩
              go_wp2_with fail
              (try rw [Exit.noGoto_ret])
              go_ret
              exact ⟨congrArg Ending.returned (congrArg Value.bool HE.out), HX.out.1.trans (drewN_grown _ _)⟩
theorem refprime_any (n : Int) (w : World) : Calls Tryd.prog 38 #[.int .u64 n] w fun e w' => e = .returned (.bool (refPrimeB n)) ∧ w.grownBy w' none := by
  unfold refPrimeB
  split
  · rename_i h
    exact refprime_out n w h
  · rename_i h
    exact refprime_in n w (by omega) (by omega)
end Go.Proofs.YtnjbigbiclfcoaaDoor
