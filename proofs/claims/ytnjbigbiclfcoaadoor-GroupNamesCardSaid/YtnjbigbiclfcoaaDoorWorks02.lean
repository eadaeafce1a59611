/- consistorylaw02.small, works, walked. -/
import Derived.Test.YtnjbigbiclfcoaaDoorMayB
import Derived.Deep.DeepCutAuto
namespace Go.Proofs.YtnjbigbiclfcoaaDoor
open Go.RowKit

abbrev pE : Par := ⟨23, 11, 4, 9, 4, 4, 1, 1, 1, 1, 1, 1⟩
theorem pE_ok : pE.ok := by constructor <;> (first | (unfold U64; decide) | (unfold I64; decide))
theorem pE_may : mayP pE = true := by decide +kernel
theorem pE_is2 : isB pE 2 = true := by decide +kernel
theorem pE_is5 : isB pE 5 = false := by decide +kernel
theorem pE_is0 : isB pE 0 = false := by decide +kernel
theorem pE_is24 : isB pE 24 = false := by decide +kernel
theorem pE_times : timesI 23 [4, 9] = 13 := by decide +kernel
theorem pE_pow : powI 4 3 23 = 18 := by decide +kernel
theorem pE_commit : commitI pE (1, 1) = 13 := by decide +kernel
theorem pE_at : atI pE [4, 9] 2 = 2 := by decide +kernel
set_option maxHeartbeats 400000 in
theorem small02_any (w : World) : Calls Tryd.prog 13 #[] w fun e w' => e = .returned pE.v ∧ w.grownBy w' none := by
  go_enter Tryd.func13, Tryd.ntmps13
  go_wp2
  exact bodyPost_ret (v := pE.v) (by simp [results, Tryd.results13, go_sem]) rfl ⟨rfl, World.grownBy_alloc w _ none⟩
theorem at_two (p : Par) (a b i : Int) (w : World) (ha : U64 a) (hb : U64 b) (hi : U64 i) :
    Calls Tryd.prog 18 #[p.v, .slice (some ⟨w.heap.size, 0, none⟩) 2 2, .int .u64 i] (w.alloc (Obj.cells #[.int .u64 a, .int .u64 b] 22)) fun e w' => e = .returned (.int .u64 (atI p [a, b] i)) ∧ w.grownBy w' none :=
  (at_all p _ [a, b] i (fun _ => True) _ (Sl.ofBk (t := 22) (Bk.new w 22 (nums [a, b]).toArray) (by intro y hy; simp at hy; rcases hy with rfl | rfl <;> assumption) (by simp)) hi).mono fun _ _ ⟨he, hg⟩ => ⟨he, (World.grownBy_alloc w _ none).trans hg⟩
set_option maxHeartbeats 800000 in
theorem works02_any (w : World) (hT : TabsAt w) : Calls Tryd.prog 12 #[] w fun e w' => e = .returned (.bool true) ∧ w.grownBy w' none := by
  have HT := Lib.hid hT
  have H2 := Lib.hid (fun w => is_eq pE 2 true pE_is2 w pE_ok (by decide))
  have H5 := Lib.hid (fun w => is_eq pE 5 false pE_is5 w pE_ok (by decide))
  have H0 := Lib.hid (fun w => is_eq pE 0 false pE_is0 w pE_ok (by decide))
  have H24 := Lib.hid (fun w => is_eq pE 24 false pE_is24 w pE_ok (by decide))
  have HTi := Lib.hid (fun w => times_two pE 4 9 w (by decide) (by decide))
  have HPo := Lib.hid (fun w => power_any pE 4 3 w (by decide) (by decide))
  have HCo := Lib.hid (fun w => commit_any pE (1, 1) w pE_ok (by decide) (by decide))
  have HAt := Lib.hid (fun w => at_two pE 4 9 2 w (by decide) (by decide) (by decide))
  rw [pE_times] at HTi
  rw [pE_pow] at HPo
  rw [pE_commit] at HCo
  rw [pE_at] at HAt
  clear hT
  go_enter Tryd.func12, Tryd.ntmps12
  go_wp2_with fail
  refine (small02_any w).mono ?_
  rintro e w1 ⟨rfl, hg⟩
  have HG := Lib.hid hg
  clear hg
  go_wp2_with fail
  have HB1 : Hid (Bk (w1.alloc (Obj.cells pE.cells 24)) w1.heap.size 24 pE.cells) := Lib.hid (Bk.new w1 _ _)
  have HA1 : Hid (w.grownBy (w1.alloc (Obj.cells pE.cells 24)) none) := Lib.hid (HG.out.trans (World.grownBy_alloc w1 _ none))
  have HM := Lib.hid (may_any pE (w1.alloc (Obj.cells pE.cells 24)) pE_ok (HT.out.kept HA1.out))
  rw [pE_may] at HM
  refine HM.out.mono ?_
  rintro e w2 ⟨rfl, hg⟩
  have HA2 := Lib.hid (HA1.out.trans hg)
  have HB2 := Lib.hid (HB1.out.grown hg (by simp))
  have hp2 := HB2.out.prule
  clear hg
  go_wp2_with fail
  refine (H2.out _).mono ?_
  rintro e w3 ⟨rfl, hg⟩
  have HA3 := Lib.hid (HA2.out.trans hg)
  have HB3 := Lib.hid (HB2.out.grown hg (by simp))
  have hp3 := HB3.out.prule
  clear hg hp2
  go_wp2_with fail
  refine (H5.out _).mono ?_
  rintro e w4 ⟨rfl, hg⟩
  have HA4 := Lib.hid (HA3.out.trans hg)
  have HB4 := Lib.hid (HB3.out.grown hg (by simp))
  have hp4 := HB4.out.prule
  clear hg hp3
  go_wp2_with fail
  refine (H0.out _).mono ?_
  rintro e w5 ⟨rfl, hg⟩
  have HA5 := Lib.hid (HA4.out.trans hg)
  have HB5 := Lib.hid (HB4.out.grown hg (by simp))
  have hp5 := HB5.out.prule
  clear hg hp4
  go_wp2_with fail
  refine (H24.out _).mono ?_
  rintro e w6 ⟨rfl, hg⟩
  have HA6 := Lib.hid (HA5.out.trans hg)
  have HB6 := Lib.hid (HB5.out.grown hg (by simp))
  have hp6 := HB6.out.prule
  clear hg hp5
  go_wp2_with fail
  refine (HTi.out w6).mono ?_
  rintro e w7 ⟨rfl, hg⟩
  have HA7 := Lib.hid (HA6.out.trans hg)
  have HB7 := Lib.hid (HB6.out.grown hg (by simp))
  have hp7 := HB7.out.prule
  clear hg hp6
  go_wp2_with fail
  refine (HPo.out _).mono ?_
  rintro e w8 ⟨rfl, hg⟩
  have HA8 := Lib.hid (HA7.out.trans hg)
  have HB8 := Lib.hid (HB7.out.grown hg (by simp))
  have hp8 := HB8.out.prule
  clear hg hp7
  go_wp2_with fail
  refine (HCo.out _).mono ?_
  rintro e w9 ⟨rfl, hg⟩
  have HA9 := Lib.hid (HA8.out.trans hg)
  have HB9 := Lib.hid (HB8.out.grown hg (by simp))
  have hp9 := HB9.out.prule
  clear hg hp8
  go_wp2_with fail
  refine (HAt.out w9).mono ?_
  rintro e w10 ⟨rfl, hg⟩
  have HA10 := Lib.hid (HA9.out.trans hg)
  have HB10 := Lib.hid (HB9.out.grown hg (by simp))
  have hp10 := HB10.out.prule
  clear hg hp9
  go_wp2
  go_ret
  exact ⟨rfl, HA10.out⟩
end Go.Proofs.YtnjbigbiclfcoaaDoor
