/- consistorylaw01.ModInverse, walked: it answers true for every a, b, n. -/
import Derived.Test.YteaalkknjnodiaaDoorModE
namespace Go.Proofs.YteaalkknjnodiaaDoor
open Go.RowKit
theorem HasInv.of {a m x : Int} (hm : 0 < m) (h : Cg m (a * x) 1) : HasInv a m :=
  ⟨x % m, (emod_bd x m hm).1, (emod_bd x m hm).2, ((Cg.mod m x).mul_left a).trans h⟩
theorem HasInv.cg {a b m : Int} (h : HasInv a m) (k : Cg m b a) : HasInv b m := by
  obtain ⟨x, h0, h1, hx⟩ := h
  exact ⟨x, h0, h1, (k.mul_right x).trans hx⟩
theorem HasInv.mul {a b m : Int} (hm : 0 < m) (h : HasInv a m) (k : HasInv b m) : HasInv (a * b) m := by
  obtain ⟨x, _, _, hx⟩ := h
  obtain ⟨y, _, _, hy⟩ := k
  refine HasInv.of hm (x := x * y) ((Cg.of_eq ?_).trans (hx.mul hy))
  rw [Int.mul_assoc, Int.mul_assoc, ← Int.mul_assoc b, Int.mul_comm b x, Int.mul_assoc]
theorem HasInv.left {a b m : Int} (hm : 0 < m) (h : HasInv (a * b) m) : HasInv a m := by
  obtain ⟨x, _, _, hx⟩ := h
  exact HasInv.of hm (x := b * x) ((Cg.of_eq (Int.mul_assoc a b x).symm).trans hx)
theorem HasInv.right {a b m : Int} (hm : 0 < m) (h : HasInv (a * b) m) : HasInv b m := by
  rw [Int.mul_comm] at h
  exact h.left hm
theorem InvRel.start' (a m : Int) : InvRel a m (a % m) m 1 0 := by
  have h := InvRel.start a m
  refine ⟨(Cg.of_eq (Int.mul_one a)).trans (Cg.mod m a).symm, h.fst, fun d k => h.dvd d ⟨k.2, k.1⟩⟩
theorem InvRel.one {a m x y : Int} (hm : 0 < m) (h : InvRel a m 1 0 x y) : HasInv a m := HasInv.of hm h.fst

def SomeCo (a m : Int) (w : World) (e : Ending) (w' : World) : Prop := ∃ g x y : Int, e = .returned (.int .u64 g) ∧ 0 < g ∧ InvRel a m g 0 x y ∧ ∃ n, w' = w.drewN n
set_option maxHeartbeats 400000 in
theorem common_rel (a m : Int) (w : World) (ha : U64 a) (hm : 0 < m) (hm2 : m ≤ 2305843009213693952) :
    Calls Tryd.prog 25 #[.int .u64 (a % m), .int .u64 m] w (SomeCo a m w) := by
  obtain ⟨a0, a1⟩ := ha
  obtain ⟨e0, e1⟩ := emod_bd a m hm
  have HS := Lib.hid (InvRel.start' a m)
  generalize a % m = r0 at *
  go_enter Tryd.func25, Tryd.ntmps25
  go_wp2_with fail
  go_loopw [0, 1] (fun sr ss wr => ∃ r s x y : Int, sr = .int .u64 r ∧ ss = .int .u64 s ∧ 0 ≤ r ∧ 0 ≤ s ∧ r ≤ m ∧ s ≤ m ∧ 0 < r + s ∧ Hid (InvRel a m r s x y) ∧ ∃ n, wr = w.drewN n) (fun _ ss _ => (intOf ss).toNat)
  case atStart => exact ⟨_, _, _, _, rfl, rfl, e0, by omega, by omega, by omega, by omega, HS, 0, rfl⟩
  case round =>
    obtain ⟨r, s, x, y, rfl, rfl, r0', s0, r1, s1, rs, hp, n, rfl⟩ := hrel
    by_cases h0 : 0 < s
    · obtain ⟨b0, b1⟩ := emod_bd r s h0
      have HN := Lib.hid (hp.out.next (z := x - r / s * y) (Cg.refl _ _))
      go_wp2
      go_quiet (fail)
      go_wp2
      go_roundw
      case rel => exact ⟨_, _, _, _, rfl, rfl, by omega, by omega, by omega, by omega, by omega, HN, _, World.drewN_drewN _ _ _⟩
      case measure => simp [intOf]; omega
    · obtain rfl : s = 0 := by omega
      go_wp2
      go_ret
      exact ⟨r, x, y, rfl, by omega, hp.out, _, rfl⟩

theorem common_yes (a m : Int) (w : World) (ha : U64 a) (hm : 0 < m) (hm2 : m ≤ 2305843009213693952) (h : HasInv a m) :
    Calls Tryd.prog 25 #[.int .u64 (a % m), .int .u64 m] w fun e w' => e = .returned (.int .u64 1) ∧ ∃ n, w' = w.drewN n := by
  refine (common_rel a m w ha hm hm2).mono ?_
  rintro e w' ⟨g, x, y, rfl, hg, hr, hn⟩
  by_cases h1 : g = 1
  · subst h1; exact ⟨rfl, hn⟩
  · exact absurd h (hr.no hg h1)
theorem common_no (a m : Int) (w : World) (ha : U64 a) (hm : 0 < m) (hm2 : m ≤ 2305843009213693952) (h : ¬ HasInv a m) :
    Calls Tryd.prog 25 #[.int .u64 (a % m), .int .u64 m] w fun e w' => ∃ g : Int, e = .returned (.int .u64 g) ∧ (g == 1) = false ∧ ∃ n, w' = w.drewN n := by
  refine (common_rel a m w ha hm hm2).mono ?_
  rintro e w' ⟨g, x, y, rfl, hg, hr, hn⟩
  refine ⟨g, rfl, ?_, hn⟩
  simp only [beq_eq_false_iff_ne]
  rintro rfl
  exact h (hr.one hm)

/-- The contract of Inv, where there is an inverse, and where there is none. -/
theorem inv_ok (a m : Int) (w : World) (ha : U64 a) (hm : mayB m = true) (h : HasInv a m) :
    Calls Tryd.prog 12 #[.int .u64 a, .int .u64 m] w fun e' w' => e' = .returned (.tuple #[.int .u64 (invI a m), .int .i64 0]) ∧ ∃ n, w' = w.drewN n := by
  have c := inv_may a m w ha hm
  rwa [← invRes_yes ⟨h, rfl⟩] at c
theorem inv_none (a m : Int) (w : World) (ha : U64 a) (hm : mayB m = true) (h : ¬ HasInv a m) :
    Calls Tryd.prog 12 #[.int .u64 a, .int .u64 m] w fun e' w' => e' = .returned (.tuple #[.int .u64 0, .int .i64 5]) ∧ ∃ n, w' = w.drewN n := by
  have c := inv_may a m w ha hm
  rwa [← invRes_no h] at c
theorem inv_back {a m : Int} (hm : 0 < m) (h : HasInv a m) : HasInv (invI a m) m ∧ invI (invI a m) m = a % m := by
  obtain ⟨x0, x1, hx⟩ := invI_spec h
  have e : Cg m (invI a m * (a % m)) 1 := ((Cg.mod m a).mul_left _).trans ((Cg.of_eq (Int.mul_comm _ _)).trans hx)
  obtain ⟨b0, b1⟩ := emod_bd a m hm
  exact ⟨⟨a % m, b0, b1, e⟩, invI_eq b0 b1 e⟩
theorem inv_prod {a b m : Int} (hm : mayB m = true) (h : HasInv a m) (k : HasInv b m) : HasInv (mulI a b m) m ∧ invI (mulI a b m) m = mulI (invI a m) (invI b m) m := by
  obtain ⟨_, _, hx⟩ := invI_spec h
  obtain ⟨_, _, hy⟩ := invI_spec k
  obtain ⟨z0, z1⟩ := mulI_bd (invI a m) (invI b m) m hm
  have e : Cg m (mulI a b m * mulI (invI a m) (invI b m) m) 1 := by
    refine ((mulI_cg _ _ m hm).mul (mulI_cg _ _ m hm)).trans (Cg.trans (Cg.of_eq ?_) (hx.mul hy))
    rw [Int.mul_assoc, Int.mul_assoc, ← Int.mul_assoc b, Int.mul_comm b (invI a m), Int.mul_assoc]
  exact ⟨⟨_, z0, z1, e⟩, invI_eq z0 z1 e⟩
theorem no_prod {a b m : Int} (hm : mayB m = true) (h : ¬ (HasInv a m ∧ HasInv b m)) : ¬ HasInv (mulI a b m) m := fun k => by
  have k' := k.cg (mulI_cg a b m hm).symm
  have h0 : 0 < m := by have := may_bd hm; omega
  exact h ⟨k'.left h0, k'.right h0⟩

set_option maxHeartbeats 1000000 in
set_option maxRecDepth 100000 in
theorem inverse_any (a b n : Int) (w : World) (ha : U64 a) (hb : U64 b) (hn : U64 n) (hT : TabsAt w) :
    Calls Tryd.prog 8 #[.int .u64 a, .int .u64 b, .int .u64 n] w fun e w' => e = .returned (.bool true) ∧ ∃ k, w' = w.drewN k := by
  have hm := within_may n
  have HW := Lib.hid (fun w => within_any n w hn)
  have HA := Lib.hid hT
  generalize withinI n = m at hm HW
  obtain ⟨m1, m2⟩ := may_bd hm
  have hm0 : 0 < m := by omega
  have uab := mulI_U64 a b m
  have HM := Lib.hid (fun w => mul_any a b m w ha hb)
  by_cases ia : HasInv a m
  · obtain ⟨x0, x1, hx⟩ := invI_spec ia
    obtain ⟨ib, eb⟩ := inv_back hm0 ia
    have HI := Lib.hid (fun w => inv_ok a m w ha hm ia)
    have HC := Lib.hid (fun w => common_yes a m w ha hm0 m2 ia)
    have ux : U64 (invI a m) := ⟨x0, by omega⟩
    have HB := Lib.hid (fun w => inv_ok (invI a m) m w ux hm ib)
    rw [eb] at HB
    have HX := Lib.hid (fun w => mul_any a (invI a m) m w ha ux)
    rw [mulI_eq hm hx] at HX
    by_cases jb : HasInv b m
    · obtain ⟨y0, y1, hy⟩ := invI_spec jb
      have uy : U64 (invI b m) := ⟨y0, by omega⟩
      obtain ⟨ip, ep⟩ := inv_prod hm ia jb
      have HJ := Lib.hid (fun w => inv_ok b m w hb hm jb)
      have HP := Lib.hid (fun w => inv_ok (mulI a b m) m w uab hm ip)
      have HY := Lib.hid (fun w => mul_any (invI a m) (invI b m) m w ux uy)
      rw [← ep] at HY
      obtain ⟨ha0, ha1⟩ := ha
      clear hx hy eb ep ia ib jb ip uab ux uy hT hb hn
      generalize mulI a b m = p at *
      generalize invI p m = z at *
      generalize invI b m = y at *
      generalize invI a m = x at *
      go_enter Tryd.func8, Tryd.ntmps8
      go_wp2_with (first
        | ((with_reducible refine (HW.out _).mono ?_); rintro e w' ⟨rfl, rfl⟩)
        | (go_at_call 11; refine (awake_any _ HA.out).mono ?_; rintro e w' ⟨rfl, n, rfl⟩)
        | ((with_reducible refine (HI.out _).mono ?_); rintro e w' ⟨rfl, n, rfl⟩)
        | ((with_reducible refine (HJ.out _).mono ?_); rintro e w' ⟨rfl, n, rfl⟩)
        | ((with_reducible refine (HM.out _).mono ?_); rintro e w' ⟨rfl, n, rfl⟩)
        | ((with_reducible refine (HP.out _).mono ?_); rintro e w' ⟨rfl, n, rfl⟩)
        | ((with_reducible refine (HC.out _).mono ?_); rintro e w' ⟨rfl, n, rfl⟩)
        | ((with_reducible refine (HB.out _).mono ?_); rintro e w' ⟨rfl, n, rfl⟩))
      go_quiet (first
        | (with_reducible exact quiet_add (HX.out _))
        | (with_reducible exact quiet_add (HY.out _)))
      go_wp2
      go_ret
      exact ⟨rfl, _, World.drewN_drewN _ _ _⟩
    · have HJ := Lib.hid (fun w => inv_none b m w hb hm jb)
      have HP := Lib.hid (fun w => inv_none (mulI a b m) m w uab hm (no_prod hm (fun h => jb h.2)))
      obtain ⟨ha0, ha1⟩ := ha
      clear hx eb ia ib jb uab ux hT hb hn
      generalize mulI a b m = p at *
      generalize invI a m = x at *
      go_enter Tryd.func8, Tryd.ntmps8
      go_wp2_with (first
        | ((with_reducible refine (HW.out _).mono ?_); rintro e w' ⟨rfl, rfl⟩)
        | (go_at_call 11; refine (awake_any _ HA.out).mono ?_; rintro e w' ⟨rfl, n, rfl⟩)
        | ((with_reducible refine (HI.out _).mono ?_); rintro e w' ⟨rfl, n, rfl⟩)
        | ((with_reducible refine (HJ.out _).mono ?_); rintro e w' ⟨rfl, n, rfl⟩)
        | ((with_reducible refine (HM.out _).mono ?_); rintro e w' ⟨rfl, n, rfl⟩)
        | ((with_reducible refine (HP.out _).mono ?_); rintro e w' ⟨rfl, n, rfl⟩)
        | ((with_reducible refine (HC.out _).mono ?_); rintro e w' ⟨rfl, n, rfl⟩)
        | ((with_reducible refine (HB.out _).mono ?_); rintro e w' ⟨rfl, n, rfl⟩))
      go_quiet (with_reducible exact quiet_add (HX.out _))
      go_wp2
      go_ret
      exact ⟨rfl, _, World.drewN_drewN _ _ _⟩
  · have HI := Lib.hid (fun w => inv_none a m w ha hm ia)
    have HP := Lib.hid (fun w => inv_none (mulI a b m) m w uab hm (no_prod hm (fun h => ia h.1)))
    have HC := Lib.hid (fun w => common_no a m w ha hm0 m2 ia)
    by_cases jb : HasInv b m
    · have HJ := Lib.hid (fun w => inv_ok b m w hb hm jb)
      obtain ⟨ha0, ha1⟩ := ha
      clear ia jb uab hT hb hn
      generalize mulI a b m = p at *
      generalize invI b m = y at *
      go_enter Tryd.func8, Tryd.ntmps8
      go_wp2_with (first
        | ((with_reducible refine (HW.out _).mono ?_); rintro e w' ⟨rfl, rfl⟩)
        | (go_at_call 11; refine (awake_any _ HA.out).mono ?_; rintro e w' ⟨rfl, n, rfl⟩)
        | ((with_reducible refine (HI.out _).mono ?_); rintro e w' ⟨rfl, n, rfl⟩)
        | ((with_reducible refine (HJ.out _).mono ?_); rintro e w' ⟨rfl, n, rfl⟩)
        | ((with_reducible refine (HM.out _).mono ?_); rintro e w' ⟨rfl, n, rfl⟩)
        | ((with_reducible refine (HP.out _).mono ?_); rintro e w' ⟨rfl, n, rfl⟩)
        | ((with_reducible refine (HC.out _).mono ?_); rintro e w' ⟨g, rfl, hg, n, rfl⟩))
      go_ret
      exact ⟨rfl, _, rfl⟩
    · have HJ := Lib.hid (fun w => inv_none b m w hb hm jb)
      obtain ⟨ha0, ha1⟩ := ha
      clear ia jb uab hT hb hn
      generalize mulI a b m = p at *
      go_enter Tryd.func8, Tryd.ntmps8
      go_wp2_with (first
        | ((with_reducible refine (HW.out _).mono ?_); rintro e w' ⟨rfl, rfl⟩)
        | (go_at_call 11; refine (awake_any _ HA.out).mono ?_; rintro e w' ⟨rfl, n, rfl⟩)
        | ((with_reducible refine (HI.out _).mono ?_); rintro e w' ⟨rfl, n, rfl⟩)
        | ((with_reducible refine (HJ.out _).mono ?_); rintro e w' ⟨rfl, n, rfl⟩)
        | ((with_reducible refine (HM.out _).mono ?_); rintro e w' ⟨rfl, n, rfl⟩)
        | ((with_reducible refine (HP.out _).mono ?_); rintro e w' ⟨rfl, n, rfl⟩)
        | ((with_reducible refine (HC.out _).mono ?_); rintro e w' ⟨g, rfl, hg, n, rfl⟩))
      go_ret
      exact ⟨rfl, _, rfl⟩
end Go.Proofs.YteaalkknjnodiaaDoor
