/- consistorylaw01.ModNames, walked: the examples. -/
import Derived.Test.YteaalkknjnodiaaDoorPowF
import Derived.Test.YteaalkknjnodiaaDoorAwake
import Derived.Test.YteaalkknjnodiaaDoorMem
import Derived.Deep.LoopGhost
namespace Go.Proofs.YteaalkknjnodiaaDoor
open Go.RowKit

theorem TabsAt.grown {w w' : World} (h : TabsAt w) (hg : w.grownBy w' none) : TabsAt w' := by
  have hk : ∀ (a : Addr) (v : Value), w.cell? a = some v → w'.cell? a = some v := fun a v hv => by
    rw [World.cell?_of_block (w := w) (hg.block a.block (World.block_lt_of_cell? w _ hv) (by simp))]
    exact hv
  exact ⟨fun j hj => hk _ _ (h.1 j hj), fun j hj => hk _ _ (h.2 j hj)⟩

def noL : List Int := [0, 2305843009213693953, 18446744073709551615]
def yesL : List Int := [2, 3, 5, 37, 41, 97, 65537, 1000003, 2147483647, 2305843009213693951]
def compL : List Int := [0, 1, 4, 9, 561, 1369, 2047, 3215031751, 3474749660383, 341550071728321, 140739635773439, 2305843009213693952, 2305843009213693967, 18446744073709551557]
theorem noL_all : ∀ j (h : j < 3), mayB noL[j] = false := by decide +kernel
theorem yesL_all : ∀ j (h : j < 10), primeB yesL[j] = true := by
  have h : yesL.all primeF = true := by decide +kernel
  intro j hj
  rw [primeF_eq]
  exact List.all_eq_true.1 h _ (List.getElem_mem hj)
theorem compL_all : ∀ j (h : j < 14), primeB compL[j] = false := by
  have h : compL.all (fun n => !primeF n) = true := by decide +kernel
  intro j hj
  rw [primeF_eq]
  have := List.all_eq_true.1 h _ (List.getElem_mem hj)
  simpa using this
theorem inv_5_1 : invRes 5 1 = .tuple #[.int .u64 0, .int .i64 0] :=
  (invRes_yes ⟨⟨0, by decide, by decide, by unfold Cg; decide⟩, (invI_eq (by decide) (by decide) (by unfold Cg; decide)).symm⟩).symm
theorem inv_top : invRes 2305843009213693951 2305843009213693952 = .tuple #[.int .u64 2305843009213693951, .int .i64 0] :=
  (invRes_yes ⟨⟨2305843009213693951, by decide, by decide, by unfold Cg; decide⟩, (invI_eq (by decide) (by decide) (by unfold Cg; decide)).symm⟩).symm
theorem inv_0_11 : invRes 0 11 = .tuple #[.int .u64 0, .int .i64 5] :=
  (invRes_no (by rintro ⟨x, _, _, h⟩; obtain ⟨k, hk⟩ := h.dvd; omega)).symm
theorem pow_top : powI 2305843009213693951 18446744073709551615 2305843009213693952 = 2305843009213693951 := by
  rw [powI_fast _ _ _ (by decide) (u64s _)]
  decide +kernel
def nums (l : List Int) : List Value := l.map (Value.int .u64 ·)
theorem Bk.rd {w : World} {g : Nat} {t : TypeId} {xs : List Value} (h : Bk w g t xs.toArray) : Rd w (some ⟨g, 0, none⟩) xs := fun _ =>
  ⟨g, 0, rfl, h.lt, fun j u hu => by rw [Nat.zero_add, h.cell j]; simpa using hu⟩
/-- What stands while the examples are run: nothing old has changed, and the tables are there. -/
def Calm (w wx : World) : Prop := w.grownBy wx none ∧ TabsAt wx ∧ Grown w wx
theorem Grown.drewN {w wx : World} (h : Grown w wx) : ∀ n, Grown w (wx.drewN n)
  | 0 => h
  | n + 1 => (Grown.drewN h n).drew
theorem Calm.start {w : World} (h : TabsAt w) : Calm w w := ⟨World.grownBy.refl w none, h, Grown.refl w⟩
theorem Calm.drewN {w wx : World} (h : Calm w wx) (n : Nat) : Calm w (wx.drewN n) := ⟨grownBy_drewN h.1 n, h.2.1.drewN n, Grown.drewN h.2.2 n⟩
theorem Calm.alloc {w wx : World} (h : Calm w wx) (c : Array Value) (t : TypeId) : Calm w (wx.alloc (.cells c t)) := ⟨h.1.trans (World.grownBy_alloc wx _ none), h.2.1.grown (World.grownBy_alloc wx _ none), h.2.2.alloc c t⟩

set_option maxHeartbeats 1000000 in
theorem mnames_law (w : World) (hT : TabsAt w) :
    Calls Tryd.prog 3 #[] w fun e w' => e = .returned (.bool true) ∧ Grown w w' := by
  have HA := Lib.hid (awake_any w hT)
  have HT := Lib.hid hT
  clear hT
  go_enter Tryd.func3, Tryd.ntmps3
  go_wp2_with fail
  refine HA.out.mono ?_
  rintro e w' ⟨rfl, n, rfl⟩
  go_wp2_with fail
  go_loopg [21] 3 (fun g s21 wx => ∃ j : Nat, j + g = 3 ∧ s21 = .int .i64 j ∧ Hid (Calm w wx ∧ Rd wx (some ⟨w.heap.size, 0, none⟩) (nums noL)))
  case atStart => exact ⟨0, by omega, rfl, Lib.hid ⟨(((Calm.start HT.out).drewN n).alloc _ _), (Bk.new (w.drewN n) _ _ : Bk _ _ _ (nums noL).toArray).rd⟩⟩
  case round =>
    obtain ⟨j, hj, rfl, HX⟩ := hrel
    cases gk with
    | zero =>
      obtain rfl : j = 3 := by omega
      (obtain ⟨wa, hwz⟩ : ∃ x, x = wr := ⟨wr, rfl⟩); subst hwz
      have HI := Lib.hid (fun w => inv_may 5 1 w (u64s 5) (by decide))
      rw [inv_5_1] at HI
      have H1 := Lib.hid (fun w => add_any 7 8 1 w (u64s 7) (u64s 8))
      have H2 := Lib.hid (fun w => pow_any 9 0 1 w (u64s 9) (u64s 0))
      rw [show addI 7 8 1 = 0 by decide] at H1
      rw [show powI 9 0 1 = 0 by decide] at H2
      have HI2 := Lib.hid (fun w => inv_may 2305843009213693951 2305843009213693952 w (u64s _) (by decide))
      rw [inv_top] at HI2
      have HI3 := Lib.hid (fun w => inv_may 0 11 w (u64s _) (by decide))
      rw [inv_0_11] at HI3
      have H3 := Lib.hid (fun w => add_any 2305843009213693951 2305843009213693951 2305843009213693952 w (u64s _) (u64s _))
      have H4 := Lib.hid (fun w => sub_any 0 1 2305843009213693952 w (u64s _) (u64s _))
      have H5 := Lib.hid (fun w => mul_any 2305843009213693951 2305843009213693951 2305843009213693952 w (u64s _) (u64s _))
      have H6 := Lib.hid (fun w => pow_any 2305843009213693951 18446744073709551615 2305843009213693952 w (u64s _) (u64s _))
      have H7 := Lib.hid (fun w => mul_any 18446744073709551615 18446744073709551615 2305843009213693951 w (u64s _) (u64s _))
      rw [show addI 2305843009213693951 2305843009213693951 2305843009213693952 = 2305843009213693950 by decide] at H3
      rw [show subI 0 1 2305843009213693952 = 2305843009213693951 by decide] at H4
      rw [show mulI 2305843009213693951 2305843009213693951 2305843009213693952 = 1 by decide] at H5
      rw [pow_top] at H6
      rw [show mulI 18446744073709551615 18446744073709551615 2305843009213693951 = 49 by decide] at H7
      have HC0 := Lib.hid HX.out.1
      clear HX
      go_wp2_with (first
        | ((with_reducible refine (HI.out _).mono ?_); rintro e w' ⟨rfl, n, rfl⟩)
        | ((with_reducible refine (H1.out _).mono ?_); rintro e w' ⟨rfl, n, rfl⟩)
        | ((with_reducible refine (H2.out _).mono ?_); rintro e w' ⟨rfl, n, rfl⟩)
        | ((with_reducible refine (HI2.out _).mono ?_); rintro e w' ⟨rfl, n, rfl⟩)
        | ((with_reducible refine (HI3.out _).mono ?_); rintro e w' ⟨rfl, n, rfl⟩)
        | ((with_reducible refine (H3.out _).mono ?_); rintro e w' ⟨rfl, n, rfl⟩)
        | ((with_reducible refine (H4.out _).mono ?_); rintro e w' ⟨rfl, n, rfl⟩)
        | ((with_reducible refine (H5.out _).mono ?_); rintro e w' ⟨rfl, n, rfl⟩)
        | ((with_reducible refine (H6.out _).mono ?_); rintro e w' ⟨rfl, n, rfl⟩)
        | ((with_reducible refine (H7.out _).mono ?_); rintro e w' ⟨rfl, n, rfl⟩))
      go_loopg [116] 10 (fun g s116 wx => ∃ j : Nat, j + g = 10 ∧ s116 = .int .i64 j ∧ Hid (Calm w wx ∧ Rd wx (some ⟨wa.heap.size, 0, none⟩) (nums yesL)))
      case atStart => exact ⟨0, by omega, rfl, Lib.hid ⟨((HC0.out.drewN _).alloc _ _), (Bk.new (wa.drewN _) _ _ : Bk _ _ _ (nums yesL).toArray).rd⟩⟩
      case round =>
        obtain ⟨j, hj, rfl, HX⟩ := hrel
        cases gk with
        | zero =>
          obtain rfl : j = 10 := by omega
          (obtain ⟨wb, hwz⟩ : ∃ x, x = wr := ⟨wr, rfl⟩); subst hwz
          have HC1 := Lib.hid HX.out.1
          have HP1 := Lib.hid (fun w => pow_any 0 0 11 w (u64s _) (u64s _))
          have HP2 := Lib.hid (fun w => add_any 1 1 0 w (u64s _) (u64s _))
          rw [show powI 0 0 11 = 1 by decide] at HP1
          rw [show addI 1 1 0 = 0 by decide] at HP2
          clear HX
          go_wp2_with fail
          go_loopg [126] 14 (fun g s126 wx => ∃ j : Nat, j + g = 14 ∧ s126 = .int .i64 j ∧ Hid (Calm w wx ∧ Rd wx (some ⟨wb.heap.size, 0, none⟩) (nums compL)))
          case atStart => exact ⟨0, by omega, rfl, Lib.hid ⟨HC1.out.alloc _ _, (Bk.new wb _ _ : Bk _ _ _ (nums compL).toArray).rd⟩⟩
          case round =>
            obtain ⟨j, hj, rfl, HX⟩ := hrel
            cases gk with
            | zero =>
              obtain rfl : j = 14 := by omega
              go_wp2_with (first
                | ((with_reducible refine (HP1.out _).mono ?_); rintro e w' ⟨rfl, n, rfl⟩)
                | ((with_reducible refine (HP2.out _).mono ?_); rintro e w' ⟨rfl, n, rfl⟩))
              go_ret
              exact ⟨rfl, (HX.out.1.drewN _).2.2⟩
            | succ k =>
              have hjN : j < 14 := by omega
              have hjn : (j : Int) < 14 := by omega
              obtain ⟨g, o, e, _, hc⟩ := HX.out.2.at (k := j) (by show j < 14; exact hjN)
              injection e with e; injection e with e1 e2 e3; subst e1; subst e2
              have hm := compL_all j hjN
              have hcx : wr.cell? ⟨wb.heap.size, j, none⟩ = some (.int .u64 compL[j]) := by rw [Nat.zero_add] at hc; rw [hc]; simp [nums]; rfl
              clear hc
              generalize compL[j] = m at *
              have HP := prime_any m wr HX.out.1.2.1
              rw [hm] at HP
              have HPP := Lib.hid HP
              clear hm hjN HP
              go_wp2_with fail
              refine HPP.out.mono ?_
              rintro e w' ⟨rfl, n, rfl⟩
              go_wp2
              go_roundg k
              case measure => omega
              case rel => exact ⟨j + 1, by omega, by go_num, Lib.hid ⟨(HX.out.1.drewN _), HX.out.2⟩⟩
        | succ k =>
          have hjN : j < 10 := by omega
          have hjn : (j : Int) < 10 := by omega
          obtain ⟨g, o, e, _, hc⟩ := HX.out.2.at (k := j) (by show j < 10; exact hjN)
          injection e with e; injection e with e1 e2 e3; subst e1; subst e2
          have hm := yesL_all j hjN
          have hcx : wr.cell? ⟨wa.heap.size, j, none⟩ = some (.int .u64 yesL[j]) := by rw [Nat.zero_add] at hc; rw [hc]; simp [nums]; rfl
          clear hc
          generalize yesL[j] = m at *
          have HP := prime_any m wr HX.out.1.2.1
          rw [hm] at HP
          have HPP := Lib.hid HP
          clear hm hjN HP
          go_wp2_with fail
          refine HPP.out.mono ?_
          rintro e w' ⟨rfl, n, rfl⟩
          go_wp2
          go_roundg k
          case measure => omega
          case rel => exact ⟨j + 1, by omega, by go_num, Lib.hid ⟨(HX.out.1.drewN _), HX.out.2⟩⟩
    | succ k =>
      have hjN : j < 3 := by omega
      have hjn : (j : Int) < 3 := by omega
      obtain ⟨g, o, e, _, hc⟩ := HX.out.2.at (k := j) (by show j < 3; exact hjN)
      injection e with e; injection e with e1 e2 e3; subst e1; subst e2
      have hm := noL_all j hjN
      have hcx : wr.cell? ⟨w.heap.size, j, none⟩ = some (.int .u64 noL[j]) := by rw [Nat.zero_add] at hc; rw [hc]; simp [nums]; rfl
      clear hc
      generalize noL[j] = m at *
      have HI := Lib.hid (fun w => inv_arg 1 m w hm)
      have H1 := Lib.hid (fun w => add_any 1 1 m w (u64s 1) (u64s 1))
      have H2 := Lib.hid (fun w => sub_any 3 1 m w (u64s 3) (u64s 1))
      have H3 := Lib.hid (fun w => mul_any 3 3 m w (u64s 3) (u64s 3))
      have H4 := Lib.hid (fun w => pow_any 3 3 m w (u64s 3) (u64s 3))
      have H5 := Lib.hid (fun w => pow_any 3 0 m w (u64s 3) (u64s 0))
      rw [show addI 1 1 m = 0 by unfold addI; rw [hm]; rfl] at H1
      rw [show subI 3 1 m = 0 by unfold subI; rw [hm]; rfl] at H2
      rw [show mulI 3 3 m = 0 by unfold mulI; rw [hm]; rfl] at H3
      rw [show powI 3 3 m = 0 by unfold powI; rw [hm]; rfl] at H4
      rw [show powI 3 0 m = 0 by unfold powI; rw [hm]; rfl] at H5
      clear hm hjN
      go_wp2_with (first
        | ((with_reducible refine (HI.out _).mono ?_); rintro e w' ⟨rfl, n, rfl⟩)
        | ((with_reducible refine (H1.out _).mono ?_); rintro e w' ⟨rfl, n, rfl⟩)
        | ((with_reducible refine (H2.out _).mono ?_); rintro e w' ⟨rfl, n, rfl⟩)
        | ((with_reducible refine (H3.out _).mono ?_); rintro e w' ⟨rfl, n, rfl⟩)
        | ((with_reducible refine (H4.out _).mono ?_); rintro e w' ⟨rfl, n, rfl⟩)
        | ((with_reducible refine (H5.out _).mono ?_); rintro e w' ⟨rfl, n, rfl⟩))
      go_roundg k
      case measure => omega
      case rel => exact ⟨j + 1, by omega, by go_num, Lib.hid ⟨(HX.out.1.drewN _), HX.out.2⟩⟩
end Go.Proofs.YteaalkknjnodiaaDoor
