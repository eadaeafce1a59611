/- The reference's both and Inv (consistoryref01), walked: Inv answers what mod.Inv does. -/
import Derived.Test.YteaalkknjnodiaaDoorRefA
namespace Go.Proofs.YteaalkknjnodiaaDoor
open Go.RowKit

/-- Euclid's steps, with what each number is made of. -/
def bothF : Nat → Int → Int → Int × Int × Int
  | 0, a, _ => (a, 1, 0)
  | f + 1, a, b => if b = 0 then (a, 1, 0) else
    let r := bothF f b (a % b)
    (r.1, r.2.2, r.2.1 - a / b * r.2.2)
theorem bothF_zero (f : Nat) (a : Int) : bothF f a 0 = (a, 1, 0) := by cases f <;> simp [bothF]
theorem bothF_succ (f : Nat) (a b : Int) (h : b ≠ 0) : bothF (f + 1) a b = ((bothF f b (a % b)).1, (bothF f b (a % b)).2.2, (bothF f b (a % b)).2.1 - a / b * (bothF f b (a % b)).2.2) := by simp [bothF, h]

structure BothOk (a b : Int) (r : Int × Int × Int) : Prop where
  lin : a * r.2.1 + b * r.2.2 = r.1
  dvdA : r.1 ∣ a
  dvdB : r.1 ∣ b
  pos : 0 < r.1
  le : r.1 ≤ a ∨ r.1 ≤ b
  boundX : 0 < b → -b < r.2.1 ∧ r.2.1 < b
  boundY : 0 < b → (-a < r.2.2 ∧ r.2.2 < a) ∨ r.2.2 = 1
  boundZ : 0 < b → b < a → -a < r.2.2 ∧ r.2.2 < a
  whole : b = 0 → r = (a, 1, 0)

theorem mul_abs_le (k x y : Int) (hk : 0 ≤ k) (h1 : -y ≤ x) (h2 : x ≤ y) : -(k * y) ≤ k * x ∧ k * x ≤ k * y := by
  have a := Int.mul_le_mul_of_nonneg_left h2 hk
  have b := Int.mul_le_mul_of_nonneg_left h1 hk
  rw [Int.mul_neg] at b
  exact ⟨b, a⟩

theorem both_step (a b q r x y : Int) (hq : 0 ≤ q) (hb : 0 < b) (hr : 0 < r) (ha : a = q * b + r) (hx : -r < x ∧ x < r) (hy : -b < y ∧ y < b) : -a < x - q * y ∧ x - q * y < a := by
  have m := mul_abs_le q y (b - 1) hq (by omega) (by omega)
  have e : q * (b - 1) = q * b - q := by rw [Int.mul_sub, Int.mul_one]
  rw [e] at m
  omega
theorem bothF_ok : ∀ (f : Nat) (a b : Int), 0 ≤ a → 0 ≤ b → 0 < a + b → b.toNat ≤ f → BothOk a b (bothF f a b)
  | f, a, b, ha, hb, hab, hf => by
    by_cases hz : b = 0
    · subst hz
      rw [bothF_zero]
      exact ⟨by simp, Int.dvd_refl a, Int.dvd_zero a, by simpa using hab, .inl (Int.le_refl _), fun h => absurd h (by decide), fun h => absurd h (by decide), fun h => absurd h (by decide), fun _ => rfl⟩
    · have hbp : 0 < b := by omega
      obtain ⟨g, rfl⟩ : ∃ g, f = g + 1 := ⟨f - 1, by omega⟩
      obtain ⟨r0, r1⟩ := emod_bd a b hbp
      have ih := bothF_ok g b (a % b) hb r0 (by omega) (by omega)
      rw [bothF_succ g a b hz]
      have hd := Int.mul_ediv_add_emod a b
      have hq : 0 ≤ a / b := Int.ediv_nonneg ha hb
      obtain ⟨hl, hA, hB, hp, hle, hX, hY, hZ, hW⟩ := ih
      have hdA : (bothF g b (a % b)).1 ∣ a := dvd_of_mod hB hA
      by_cases hr : a % b = 0
      · have hw := hW hr
        rw [hw] at hdA ⊢
        simp only [Int.mul_zero, Int.sub_zero]
        exact ⟨by simp, hdA, Int.dvd_refl b, hbp, .inr (Int.le_refl _), fun _ => ⟨by simpa using hbp, hbp⟩, fun _ => .inr rfl, fun _ h => ⟨by simp; omega, by simp; omega⟩, fun h => absurd h hz⟩
      · have hrp : 0 < a % b := by omega
        have hx := hX hrp
        have hy := hZ hrp r1
        generalize bothF g b (a % b) = R at *
        obtain ⟨G, X, Y⟩ := R
        simp only at hl hA hB hp hle hx hy hdA ⊢
        have hs := both_step a b (a / b) (a % b) X Y hq hbp hrp (by rw [Int.mul_comm]; exact hd.symm) hx hy
        refine ⟨?_, hdA, hA, hp, ?_, fun _ => hy, fun _ => .inl hs, fun _ _ => hs, fun h => absurd h hz⟩
        · show a * Y + b * (X - a / b * Y) = G
          rw [← hl, Int.mul_sub, ← Int.mul_assoc]
          have e : a * Y = b * (a / b) * Y + a % b * Y := by rw [← Int.add_mul, hd]
          omega
        · rcases hle with h | h
          · exact .inr h
          · right; exact Int.le_trans h (Int.le_of_lt r1)

theorem ret_three {k l m : IntKind} {a b c d e f : Int} (h1 : a = d) (h2 : b = e) (h3 : c = f) : Ending.returned (.tuple #[.int k a, .int l b, .int m c]) = .returned (.tuple #[.int k d, .int l e, .int m f]) := by rw [h1, h2, h3]

set_option maxHeartbeats 400000 in
theorem both_any : ∀ (f : Nat) (a b : Int) (w : World), 0 ≤ a → a ≤ 2305843009213693952 → 0 ≤ b → b ≤ 2305843009213693952 → 0 < a + b → b.toNat ≤ f →
    Calls Tryd.prog 30 #[.int .i64 a, .int .i64 b] w fun e w' => e = .returned (.tuple #[.int .i64 (bothF f a b).1, .int .i64 (bothF f a b).2.1, .int .i64 (bothF f a b).2.2]) ∧ ∃ n, w' = w.drewN n := by
  intro f
  induction f with
  | zero =>
    intro a b w ha ha2 hb hb2 hab hf
    obtain rfl : b = 0 := by omega
    rw [bothF_zero]
    go_enter Tryd.func30, Tryd.ntmps30
    go_wp2_with fail
    go_ret3
    exact ⟨rfl, 0, rfl⟩
  | succ f ih =>
    intro a b w ha ha2 hb hb2 hab hf
    by_cases hz : b = 0
    · subst hz
      rw [bothF_zero]
      clear ih
      go_enter Tryd.func30, Tryd.ntmps30
      go_wp2_with fail
      go_ret3
      exact ⟨rfl, 0, rfl⟩
    · have hbp : 0 < b := by omega
      have hz' : (b == 0) = false := by simpa using hz
      obtain ⟨r0, r1⟩ := emod_bd a b hbp
      have HI := Lib.hid (fun w => ih b (a % b) w hb hb2 r0 (by omega) (by omega) (by omega))
      have ok := bothF_ok f b (a % b) hb r0 (by omega) (by omega)
      have hd := Int.mul_ediv_add_emod a b
      have hq : 0 ≤ a / b := Int.ediv_nonneg ha hb
      have hbY : -b < (bothF f b (a % b)).2.2 ∧ (bothF f b (a % b)).2.2 < b := by
        by_cases hr : a % b = 0
        · rw [ok.whole hr]; exact ⟨by simpa using hbp, hbp⟩
        · exact ok.boundZ (by omega) r1
      have hbX : -b ≤ (bothF f b (a % b)).2.1 ∧ (bothF f b (a % b)).2.1 ≤ b := by
        by_cases hr : a % b = 0
        · rw [ok.whole hr]; exact ⟨by show -b ≤ 1; omega, by show (1 : Int) ≤ b; omega⟩
        · have := ok.boundX (by omega); omega
      rw [bothF_succ f a b hz]
      generalize bothF f b (a % b) = R at *
      obtain ⟨G, X, Y⟩ := R
      simp only at HI hbX hbY ⊢
      have hm := mul_abs_le (a / b) Y b hq (by omega) (by omega)
      rw [Int.mul_comm] at hd
      obtain ⟨P, hP⟩ : ∃ P, P = a / b * Y := ⟨_, rfl⟩
      rw [← hP] at hm ⊢
      have HP := Lib.hid hP.symm
      have p0 : -2305843009213693952 ≤ P := by omega
      have p1 : P ≤ 2305843009213693952 := by omega
      obtain ⟨x0, x1⟩ := hbX
      obtain ⟨y0, y1⟩ := hbY
      clear ih ok hd hm hP hz
      go_enter Tryd.func30, Tryd.ntmps30
      go_wp2_with fail
      refine (HI.out _).mono ?_
      rintro e w' ⟨rfl, n, rfl⟩
      have hP := HP.out
      go_wp2_with fail
      go_quiet (fail)
      go_wp2
      go_ret3
      exact ⟨rfl, _, World.drewN_drewN _ _ _⟩

/-- What the reference's Inv makes of x: the inverse below m. -/
theorem fix_neg (a m x : Int) (hx0 : x < 0) (hx1 : -m < x) (h : Cg m (a * x) 1) : HasInv a m ∧ m - (-x) % m = invI a m := by
  rw [Int.emod_eq_of_lt (by omega) (by omega)]
  have e : Cg m (a * (m - -x)) 1 := by
    refine Cg.trans ?_ h
    rw [show m - -x = x + m by omega, Int.mul_add]
    exact Cg.of_dvd (by rw [show a * x + a * m - a * x = a * m by omega]; exact Int.dvd_mul_left a m)
  exact ⟨⟨_, by omega, by omega, e⟩, (invI_eq (by omega) (by omega) e).symm⟩
theorem fix_pos (a m x : Int) (hx0 : 0 ≤ x) (hx1 : x < m) (h : Cg m (a * x) 1) : HasInv a m ∧ x % m = invI a m := by
  rw [Int.emod_eq_of_lt hx0 hx1]
  exact ⟨⟨x, hx0, hx1, h⟩, (invI_eq hx0 hx1 h).symm⟩

set_option maxHeartbeats 400000 in
theorem refinv_may (a m : Int) (w : World) (ha : U64 a) (hm : mayB m = true) :
    Calls Tryd.prog 18 #[.int .u64 a, .int .u64 m] w fun e' w' => e' = .returned (invRes a m) ∧ ∃ n, w' = w.drewN n := by
  simp [mayB] at hm
  obtain ⟨hm0, hm1⟩ := hm
  obtain ⟨a0, a1⟩ := ha
  obtain ⟨e0, e1⟩ := emod_bd a m hm0
  have h1 : (m == 0) = false := by simp; omega
  have h2 : decide (2305843009213693952 < m) = false := by simpa using hm1
  have ok := bothF_ok m.toNat (a % m) m e0 (by omega) (by omega) (Nat.le_refl _)
  have HB := Lib.hid (fun w => both_any m.toNat (a % m) m w e0 (by omega) (by omega) hm1 (by omega) (Nat.le_refl _))
  have hlin := ok.lin
  have hX := ok.boundX hm0
  have hA := ok.dvdA
  have hBd := ok.dvdB
  have hpos := ok.pos
  have hgle : (bothF m.toNat (a % m) m).1 ≤ m := by have := ok.le; omega
  clear ok
  generalize bothF m.toNat (a % m) m = R at *
  obtain ⟨G, X, Y⟩ := R
  simp only at HB hlin hX hA hBd hpos hgle
  obtain ⟨x0, x1⟩ := hX
  by_cases hG : G = 1
  · subst hG
    have hc : Cg m (a * X) 1 := by
      refine Cg.trans ((Cg.mod m a).symm.mul_right X) ?_
      rw [← hlin]
      exact Cg.of_dvd (by rw [show a % m * X - (a % m * X + m * Y) = m * (-Y) by rw [Int.mul_neg]; omega]; exact Int.dvd_mul_right _ _)
    clear hlin hA hBd hpos hgle
    by_cases hx : X < 0
    · obtain ⟨Z, rfl⟩ : ∃ Z, X = -Z := ⟨-X, by omega⟩
      have hr := fix_neg a m (-Z) hx x0 hc
      rw [Int.neg_neg] at hr
      have HR := Lib.hid (invRes_yes hr)
      have hz : 0 < Z := by omega
      have hz1 : Z < m := by omega
      have hx' : decide (-Z < 0) = true := by simpa using hz
      obtain ⟨f0, f1⟩ := emod_bd Z m hm0
      clear hc hr
      go_enter Tryd.func18, Tryd.ntmps18
      go_wp2_with fail
      refine (HB.out _).mono ?_
      rintro e w' ⟨rfl, n, rfl⟩
      go_wp2
      go_ret2
      exact ⟨congrArg Ending.returned HR.out, _, rfl⟩
    · have HR := Lib.hid (invRes_yes (fix_pos a m X (by omega) x1 hc))
      have hx' : decide (X < 0) = false := by simpa using hx
      have hx2 : 0 ≤ X := by omega
      obtain ⟨f0, f1⟩ := emod_bd X m hm0
      clear hc
      go_enter Tryd.func18, Tryd.ntmps18
      go_wp2_with fail
      refine (HB.out _).mono ?_
      rintro e w' ⟨rfl, n, rfl⟩
      go_wp2
      go_ret2
      exact ⟨congrArg Ending.returned HR.out, _, rfl⟩
  · have hno : ¬ HasInv a m := by
      rintro ⟨z, _, _, hz⟩
      have k : m ∣ a * z - 1 := hz.dvd
      have k1 : G ∣ a * z := Int.dvd_trans (dvd_of_mod hA hBd) (Int.dvd_mul_right a z)
      have k2 : G ∣ 1 := by
        have := Int.dvd_sub k1 (Int.dvd_trans hBd k)
        rwa [show a * z - (a * z - 1) = 1 by omega] at this
      have := Int.le_of_dvd (by decide) k2
      omega
    have HR := Lib.hid (invRes_no hno)
    have hG' : (G != 1) = true := by simpa using hG
    clear hlin hA hBd hG hno
    go_enter Tryd.func18, Tryd.ntmps18
    go_wp2_with fail
    refine (HB.out _).mono ?_
    rintro e w' ⟨rfl, n, rfl⟩
    go_wp2
    go_ret2
    exact ⟨congrArg Ending.returned HR.out, _, rfl⟩

theorem refinv_arg (a m : Int) (w : World) (h : U64 m) (hm : mayB m = false) :
    Calls Tryd.prog 18 #[.int .u64 a, .int .u64 m] w fun e' w' => e' = .returned (.tuple #[.int .u64 0, .int .i64 1]) ∧ ∃ n, w' = w.drewN n := by
  rcases may_cases hm h.1 with rfl | h
  · clear hm
    go_enter Tryd.func18, Tryd.ntmps18
    go_wp2
    go_ret2
    exact ⟨rfl, 0, rfl⟩
  · clear hm
    have h1 : (m == 0) = false := by simp; omega
    have h2 : decide (2305843009213693952 < m) = true := by simpa using h
    go_enter Tryd.func18, Tryd.ntmps18
    go_wp2
    go_ret2
    exact ⟨rfl, 0, rfl⟩
end Go.Proofs.YteaalkknjnodiaaDoor
