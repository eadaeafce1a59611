/- consistorylaw01.ModPrime, walked: whether any number is a prime is the document's. -/
import Derived.Test.YtaglocahfonbbaaDoorPrimL
import Derived.Test.YtaglocahfonbbaaDoorAwake
namespace Go.Proofs.YtaglocahfonbbaaDoor
open Go.RowKit

theorem TabsAt.stays {w w' : World} (h : TabsAt w) (hg : w.grownBy w' none) : TabsAt w' :=
  ⟨fun j hj => (World.cell?_of_block (w := w) (hg.block _ (block_lt_of_cell (h.1 j hj)) (by simp))).trans (h.1 j hj), fun j hj => (World.cell?_of_block (w := w) (hg.block _ (block_lt_of_cell (h.2 j hj)) (by simp))).trans (h.2 j hj)⟩
set_option maxHeartbeats 1000000 in
theorem primelaw_any (n : Int) (w : World) (_hn : U64 n) (hT : TabsAt w) :
    Calls Tryd.prog 3 #[.int .u64 n] w fun e w' => e = .returned (.bool true) ∧ w.grownBy w' none := by
  have HP := Lib.hid (prime_any n w hT)
  have HR := Lib.hid (fun (w' : World) => refprime_any n w')
  have HA := Lib.hid (fun (w' : World) (hg : w.grownBy w' none) => awake_any w' (hT.stays hg))
  rw [← prime_same] at HR
  generalize primeB n = b at HP HR
  have hbb : (b == b) = true := by cases b <;> rfl
  clear hT
  go_enter Tryd.func3, Tryd.ntmps3
  go_wp2_with fail
  refine HP.out.mono ?_
  rintro e w1 ⟨rfl, n1, hw1⟩
  have HG1 : Hid (w.grownBy w1 none) := Lib.hid (by rw [hw1]; exact drewN_grown w n1)
  clear hw1
  go_wp2_with fail
  refine (HR.out _).mono ?_
  rintro e w2 ⟨rfl, hg⟩
  have HG2 : Hid (w.grownBy w2 none) := Lib.hid (HG1.out.trans hg)
  clear hg
  go_wp2_with fail
  refine (HA.out _ HG2.out).mono ?_
  rintro e w3 ⟨rfl, n3, hw3⟩
  have HG3 : Hid (w.grownBy w3 none) := Lib.hid (by rw [hw3]; exact HG2.out.trans (drewN_grown w2 n3))
  clear hw3
  go_wp2_with fail
  go_ret
  exact ⟨rfl, HG3.out⟩
end Go.Proofs.YtaglocahfonbbaaDoor
