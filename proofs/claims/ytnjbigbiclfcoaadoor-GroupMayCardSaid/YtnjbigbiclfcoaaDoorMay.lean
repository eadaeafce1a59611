/- group.May, walked: its asks one by one. -/
import Derived.Test.YtnjbigbiclfcoaaDoorGrpB
import Derived.Test.YtnjbigbiclfcoaaDoorModP
import Derived.Test.YtnjbigbiclfcoaaDoorOpen
namespace Go.Proofs.YtnjbigbiclfcoaaDoor
open Go.RowKit

def withinB (x lo hi : Int) : Bool := decide (lo ≤ x) && decide (x ≤ hi)
theorem withinB_iff (x lo hi : Int) : withinB x lo hi = true ↔ lo ≤ x ∧ x ≤ hi := by simp [withinB]
set_option maxHeartbeats 400000 in
theorem within_eq (x lo hi : Int) (b : Bool) (h : withinB x lo hi = b) (w : World) :
    Calls Tryd.prog 25 #[.int .i64 x, .int .i64 lo, .int .i64 hi] w fun e w' => e = .returned (.bool b) ∧ w' = w := by
  subst h
  by_cases h1 : lo ≤ x
  · by_cases h2 : x ≤ hi
    · have HE : Hid (withinB x lo hi = true) := Lib.hid (by simp [withinB, h1, h2])
      go_enter Tryd.func25, Tryd.ntmps25
      go_wp2
      go_ret
      exact ⟨ret_bool HE.out.symm, rfl⟩
    · have HE : Hid (withinB x lo hi = false) := Lib.hid (by simp [withinB, h2])
      have h2' : decide (x ≤ hi) = false := by simpa using h2
      clear h2
      go_enter Tryd.func25, Tryd.ntmps25
      go_wp2
      go_ret
      exact ⟨ret_bool HE.out.symm, rfl⟩
  · have HE : Hid (withinB x lo hi = false) := Lib.hid (by simp [withinB, h1])
    have h1' : decide (lo ≤ x) = false := by simpa using h1
    clear h1
    go_enter Tryd.func25, Tryd.ntmps25
    go_wp2
    go_ret
    exact ⟨ret_bool HE.out.symm, rfl⟩

def m1 (p : Par) : Bool := decide (2 ≤ p.P) && decide (p.P ≤ 2305843009213693952) && decide (2 ≤ p.Q) && ((p.P - 1) % p.Q == 0)
def m2 (p : Par) : Bool := withinB p.T 1 2
def m3 (p : Par) : Bool := withinB p.N (3 * p.T + 1) 7 && decide (p.N < p.Q)
def m4 (p : Par) : Bool := withinB p.Nodes p.N 8
def m5 (p : Par) : Bool := withinB p.K 1 2 && withinB p.D 1 4
def m6 (p : Par) : Bool := withinB p.R 1 p.D
def m7 (p : Par) : Bool := withinB p.M 1 1048576 && withinB p.X 1 1048576
def m8 (p : Par) : Bool := decide (2 * (p.D * p.M * p.X + p.M) < p.Q)
def m9 (p : Par) : Bool := primeB p.Q && primeB p.P
def m10 (p : Par) : Bool := decide (p.G ≠ 1) && isB p p.G && decide (p.H ≠ 1) && isB p p.H
def mayP (p : Par) : Bool := m1 p && m2 p && m3 p && m4 p && m5 p && m6 p && m7 p && m8 p && m9 p && m10 p

set_option maxHeartbeats 400000 in
theorem may_1 (p : Par) (g : Nat) (w : World) (hp : p.ok) (hb : Bk w g 24 p.cells) :
    Calls Tryd.prog 23 #[.pointer (some ⟨g, 0, none⟩)] w fun e w' => e = .returned (.bool (m1 p)) ∧ w.grownBy w' none := by
  have hc := hb.prule
  obtain ⟨p0, p1⟩ := hp.P
  obtain ⟨q0, q1⟩ := hp.Q
  clear hb hp
  by_cases h1 : 2 ≤ p.P
  · by_cases h2 : p.P ≤ 2305843009213693952
    · by_cases h3 : 2 ≤ p.Q
      · have HE : Hid (m1 p = ((p.P - 1) % p.Q == 0)) := Lib.hid (by simp [m1, h1, h2, h3])
        go_enter Tryd.func23, Tryd.ntmps23
        go_wp2
        go_ret
        exact ⟨ret_bool HE.out.symm, World.grownBy.refl w none⟩
      · have HE : Hid (m1 p = false) := Lib.hid (by simp [m1, h3])
        have h3' : decide (2 ≤ p.Q) = false := by simpa using h3
        clear h3
        go_enter Tryd.func23, Tryd.ntmps23
        go_wp2
        go_ret
        exact ⟨ret_bool HE.out.symm, World.grownBy.refl w none⟩
    · have HE : Hid (m1 p = false) := Lib.hid (by simp [m1, h2])
      have h2' : decide (p.P ≤ 2305843009213693952) = false := by simpa using h2
      clear h2
      go_enter Tryd.func23, Tryd.ntmps23
      go_wp2
      go_ret
      exact ⟨ret_bool HE.out.symm, World.grownBy.refl w none⟩
  · have HE : Hid (m1 p = false) := Lib.hid (by simp [m1, h1])
    have h1' : decide (2 ≤ p.P) = false := by simpa using h1
    clear h1
    go_enter Tryd.func23, Tryd.ntmps23
    go_wp2
    go_ret
    exact ⟨ret_bool HE.out.symm, World.grownBy.refl w none⟩
set_option maxHeartbeats 400000 in
theorem may_2 (p : Par) (g : Nat) (w : World) (hb : Bk w g 24 p.cells) :
    Calls Tryd.prog 24 #[.pointer (some ⟨g, 0, none⟩)] w fun e w' => e = .returned (.bool (m2 p)) ∧ w.grownBy w' none := by
  have hc := hb.prule
  have HW := Lib.hid (fun w => within_eq p.T 1 2 _ rfl w)
  clear hb
  go_enter Tryd.func24, Tryd.ntmps24
  go_wp2_with fail
  refine (HW.out _).mono ?_
  rintro e w' ⟨rfl, rfl⟩
  go_wp2
  go_ret
  exact ⟨rfl, World.grownBy.refl _ none⟩
set_option maxHeartbeats 400000 in
theorem may_3 (p : Par) (g : Nat) (w : World) (hp : p.ok) (hb : Bk w g 24 p.cells) (h2 : m2 p = true) :
    Calls Tryd.prog 26 #[.pointer (some ⟨g, 0, none⟩)] w fun e w' => e = .returned (.bool (m3 p)) ∧ w.grownBy w' none := by
  have hc := hb.prule
  obtain ⟨t0, t1⟩ := (withinB_iff _ _ _).1 h2
  obtain ⟨q0, q1⟩ := hp.Q
  clear hb hp h2
  cases hN : withinB p.N (3 * p.T + 1) 7 with
  | true =>
    obtain ⟨n0, n1⟩ := (withinB_iff _ _ _).1 hN
    have HW := Lib.hid (fun w => within_eq p.N (3 * p.T + 1) 7 _ hN w)
    have HE : Hid (m3 p = decide (p.N < p.Q)) := Lib.hid (by simp [m3, hN])
    clear hN
    go_enter Tryd.func26, Tryd.ntmps26
    go_wp2_with fail
    refine (HW.out _).mono ?_
    rintro e w' ⟨rfl, rfl⟩
    go_wp2
    go_ret
    exact ⟨ret_bool HE.out.symm, World.grownBy.refl _ none⟩
  | false =>
    have HW := Lib.hid (fun w => within_eq p.N (3 * p.T + 1) 7 _ hN w)
    have HE : Hid (m3 p = false) := Lib.hid (by simp [m3, hN])
    clear hN
    go_enter Tryd.func26, Tryd.ntmps26
    go_wp2_with fail
    refine (HW.out _).mono ?_
    rintro e w' ⟨rfl, rfl⟩
    go_wp2
    go_ret
    exact ⟨ret_bool HE.out.symm, World.grownBy.refl _ none⟩
set_option maxHeartbeats 400000 in
theorem may_4 (p : Par) (g : Nat) (w : World) (hb : Bk w g 24 p.cells) :
    Calls Tryd.prog 27 #[.pointer (some ⟨g, 0, none⟩)] w fun e w' => e = .returned (.bool (m4 p)) ∧ w.grownBy w' none := by
  have hc := hb.prule
  have HW := Lib.hid (fun w => within_eq p.Nodes p.N 8 _ rfl w)
  clear hb
  go_enter Tryd.func27, Tryd.ntmps27
  go_wp2_with fail
  refine (HW.out _).mono ?_
  rintro e w' ⟨rfl, rfl⟩
  go_wp2
  go_ret
  exact ⟨rfl, World.grownBy.refl _ none⟩
set_option maxHeartbeats 400000 in
theorem may_5 (p : Par) (g : Nat) (w : World) (hb : Bk w g 24 p.cells) :
    Calls Tryd.prog 28 #[.pointer (some ⟨g, 0, none⟩)] w fun e w' => e = .returned (.bool (m5 p)) ∧ w.grownBy w' none := by
  have hc := hb.prule
  clear hb
  cases hN : withinB p.K 1 2 with
  | true =>
    have HW := Lib.hid (fun w => within_eq p.K 1 2 _ hN w)
    have HV := Lib.hid (fun w => within_eq p.D 1 4 _ rfl w)
    have HE : Hid (m5 p = withinB p.D 1 4) := Lib.hid (by simp [m5, hN])
    clear hN
    go_enter Tryd.func28, Tryd.ntmps28
    go_wp2_with fail
    refine (HW.out _).mono ?_
    rintro e w' ⟨rfl, rfl⟩
    go_wp2_with fail
    refine (HV.out _).mono ?_
    rintro e w' ⟨rfl, rfl⟩
    go_wp2
    go_ret
    exact ⟨ret_bool HE.out.symm, World.grownBy.refl _ none⟩
  | false =>
    have HW := Lib.hid (fun w => within_eq p.K 1 2 _ hN w)
    have HE : Hid (m5 p = false) := Lib.hid (by simp [m5, hN])
    clear hN
    go_enter Tryd.func28, Tryd.ntmps28
    go_wp2_with fail
    refine (HW.out _).mono ?_
    rintro e w' ⟨rfl, rfl⟩
    go_wp2
    go_ret
    exact ⟨ret_bool HE.out.symm, World.grownBy.refl _ none⟩
set_option maxHeartbeats 400000 in
theorem may_6 (p : Par) (g : Nat) (w : World) (hb : Bk w g 24 p.cells) :
    Calls Tryd.prog 29 #[.pointer (some ⟨g, 0, none⟩)] w fun e w' => e = .returned (.bool (m6 p)) ∧ w.grownBy w' none := by
  have hc := hb.prule
  have HW := Lib.hid (fun w => within_eq p.R 1 p.D _ rfl w)
  clear hb
  go_enter Tryd.func29, Tryd.ntmps29
  go_wp2_with fail
  refine (HW.out _).mono ?_
  rintro e w' ⟨rfl, rfl⟩
  go_wp2
  go_ret
  exact ⟨rfl, World.grownBy.refl _ none⟩
set_option maxHeartbeats 400000 in
theorem may_7 (p : Par) (g : Nat) (w : World) (hb : Bk w g 24 p.cells) :
    Calls Tryd.prog 30 #[.pointer (some ⟨g, 0, none⟩)] w fun e w' => e = .returned (.bool (m7 p)) ∧ w.grownBy w' none := by
  have hc := hb.prule
  clear hb
  cases hN : withinB p.M 1 1048576 with
  | true =>
    have HW := Lib.hid (fun w => within_eq p.M 1 1048576 _ hN w)
    have HV := Lib.hid (fun w => within_eq p.X 1 1048576 _ rfl w)
    have HE : Hid (m7 p = withinB p.X 1 1048576) := Lib.hid (by simp [m7, hN])
    clear hN
    go_enter Tryd.func30, Tryd.ntmps30
    go_wp2_with fail
    refine (HW.out _).mono ?_
    rintro e w' ⟨rfl, rfl⟩
    go_wp2_with fail
    refine (HV.out _).mono ?_
    rintro e w' ⟨rfl, rfl⟩
    go_wp2
    go_ret
    exact ⟨ret_bool HE.out.symm, World.grownBy.refl _ none⟩
  | false =>
    have HW := Lib.hid (fun w => within_eq p.M 1 1048576 _ hN w)
    have HE : Hid (m7 p = false) := Lib.hid (by simp [m7, hN])
    clear hN
    go_enter Tryd.func30, Tryd.ntmps30
    go_wp2_with fail
    refine (HW.out _).mono ?_
    rintro e w' ⟨rfl, rfl⟩
    go_wp2
    go_ret
    exact ⟨ret_bool HE.out.symm, World.grownBy.refl _ none⟩
theorem mul_bd (a b x y : Int) (ha0 : 0 ≤ a) (ha : a ≤ x) (hb0 : 0 ≤ b) (hb : b ≤ y) : 0 ≤ a * b ∧ a * b ≤ x * y :=
  ⟨Int.mul_nonneg ha0 hb0, Int.mul_le_mul ha hb hb0 (by omega)⟩
set_option maxHeartbeats 400000 in
theorem may_8 (p : Par) (g : Nat) (w : World) (hp : p.ok) (hb : Bk w g 24 p.cells) (h5 : m5 p = true) (h7 : m7 p = true) :
    Calls Tryd.prog 31 #[.pointer (some ⟨g, 0, none⟩)] w fun e w' => e = .returned (.bool (m8 p)) ∧ w.grownBy w' none := by
  have hc := hb.prule
  simp only [m5, m7, Bool.and_eq_true, withinB_iff] at h5 h7
  obtain ⟨_, d0, d1⟩ := h5
  obtain ⟨⟨a0, a1⟩, x0, x1⟩ := h7
  obtain ⟨q0, q1⟩ := hp.Q
  obtain ⟨e0, e1⟩ := mul_bd p.D p.M 4 1048576 (by omega) d1 (by omega) a1
  obtain ⟨f0, f1⟩ := mul_bd (p.D * p.M) p.X (4 * 1048576) 1048576 e0 e1 (by omega) x1
  have HE : Hid (m8 p = decide (2 * (p.D * p.M * p.X + p.M) < p.Q)) := Lib.hid rfl
  clear hb hp
  go_enter Tryd.func31, Tryd.ntmps31
  go_wp2
  go_ret
  exact ⟨ret_bool HE.out.symm, World.grownBy.refl _ none⟩
end Go.Proofs.YtnjbigbiclfcoaaDoor
