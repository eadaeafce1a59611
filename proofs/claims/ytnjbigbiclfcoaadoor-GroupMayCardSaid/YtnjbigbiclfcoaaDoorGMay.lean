/- consistorylaw02.GroupMay, walked. -/
import Derived.Test.YtnjbigbiclfcoaaDoorRMay
import Derived.Test.YtnjbigbiclfcoaaDoorMono
namespace Go.Proofs.YtnjbigbiclfcoaaDoor
open Go.RowKit

set_option maxHeartbeats 1000000 in
theorem gmay_any (p : Par) (w : World) (hp : p.ok) (hT : TabsAt w) : Calls Tryd.prog 3 #[p.v] w fun e w' => e = .returned (.bool true) ∧ w.grownBy w' none := by
  have HBd : Hid (Bk (w.alloc (.cells p.cells 24)).drew w.heap.size 24 p.cells) := Lib.hid ((Bk.new w _ _).drewN 1)
  have HGd : Hid (w.grownBy (w.alloc (.cells p.cells 24)).drew none) := Lib.hid (grownBy_drewN (World.grownBy_alloc w _ none) 1)
  have HM := Lib.hid (fun (w' : World) (hg : (w.alloc (.cells p.cells 24)).drew.grownBy w' none) => may_any p w' hp (hT.kept (HGd.out.trans hg)))
  have HR := Lib.hid (fun (w' : World) => rmay_any p w' hp)
  rw [← may_same] at HR
  generalize mayP p = b at HM HR
  clear hp hT
  go_enter Tryd.func3, Tryd.ntmps3
  go_upto_region 1 with (fail)
  refine wp_region_mono 6 (by kernel_rfl) (by kernel_rfl) ?_
  -- op 0 (slot 3): load
  refine MonoR.step (Pv.eq (p.v)) [] (by kernel_rfl) (fun w' hw' => ?_) ?_
  · refine ask_do rfl fun K hK => ?_
    have hp := (HBd.out.grown hw' (by simp)).prule
    go_simp
    exact hK _ _ rfl rfl (World.grownBy.refl _ none)
  -- op 1 (slot 4): call
  refine MonoR.step (Pv.eq (.bool b)) [(0, 3)] (by kernel_rfl) (fun w' hw' => ?_) ?_
  · rintro _ rfl
    refine ask_do rfl fun K hK => ?_
    go_simp
    refine (HM.out _ hw').mono ?_
    rintro e w3 ⟨rfl, hg⟩
    exact hK _ _ rfl rfl hg
  -- op 2 (slot 5): load
  refine MonoR.step (Pv.eq (p.v)) [] (by kernel_rfl) (fun w' hw' => ?_) ?_
  · refine ask_do rfl fun K hK => ?_
    have hp := (HBd.out.grown hw' (by simp)).prule
    go_simp
    exact hK _ _ rfl rfl (World.grownBy.refl _ none)
  -- op 3 (slot 6): call
  refine MonoR.step (Pv.eq (.bool b)) [(2, 5)] (by kernel_rfl) (fun w' hw' => ?_) ?_
  · rintro _ rfl
    refine ask_do rfl fun K hK => ?_
    go_simp
    refine (HR.out _).mono ?_
    rintro e w3 ⟨rfl, hg⟩
    exact hK _ _ rfl rfl hg
  -- op 4 (slot 7): binOp
  refine MonoR.step (Pv.eq (.bool true)) [(1, 4), (3, 6)] (by kernel_rfl) (fun w' hw' => ?_) ?_
  · rintro _ rfl
    rintro _ rfl
    refine ask_do rfl fun K hK => ?_
    have hbb : (b == b) = true := by cases b <;> rfl
    go_simp
    exact hK _ _ rfl rfl (World.grownBy.refl _ none)
  -- op 5 (slot 2): assign
  refine MonoR.step (Pv.eq (.bool true)) [(4, 7)] (by kernel_rfl) (fun w' hw' => ?_) ?_
  · rintro _ rfl
    refine ask_do rfl fun K hK => ?_
    go_simp
    exact hK _ _ rfl rfl (World.grownBy.refl _ none)
  
  intro w3 hw3
  intro _ _ _ _ _ _ _ _ _ _ x5 h5
  refine wpList_nil ?_
  obtain rfl : Value.bool true = x5 := h5.symm
  go_wp2_with fail
  go_ret
  exact ⟨rfl, HGd.out.trans hw3⟩
end Go.Proofs.YtnjbigbiclfcoaaDoor
