/- The document's comparisons, of what is the same, walked. -/
import Derived.Test.YtmbbahlenanpfaaGrp
import Derived.Deep.QuietTactic
import Derived.BigQuiet
import Derived.Deep.LoopGhost
namespace Go.Proofs.Ytmbbahlenanpfaa
open Go.RowKit

def Quietly (w : World) (v : Value) (e : Ending) (w' : World) : Prop := e = .returned v ∧ ∃ n, w' = w.drewN n

set_option maxHeartbeats 400000 in
theorem nums_eq (v1 v2 : Value) (xs : List Int) (X Y : Nat → Prop) (w : World) (h1 : Sl encU X w v1 xs) (h2 : Sl encU Y w v2 xs) :
    Calls Try.prog 16 #[v1, v2] w (Quietly w (.bool true)) := by
  have H1 := Lib.hid h1
  have H2 := Lib.hid h2
  obtain ⟨A1, c1, rfl, hc1, hc2⟩ := h1.form
  obtain ⟨A2, c2, rfl, _, _⟩ := h2.form
  clear h1 h2
  have HST : Hid (∃ n, w = w.drewN n) := Lib.hid ⟨0, rfl⟩
  go_enter Try.func16, Try.ntmps16
  go_wp2_with fail
  go_loopg [5] xs.length (fun g s5 wx => ∃ j : Nat, j + g = xs.length ∧ s5 = .int .i64 j ∧ Hid (∃ n, wx = w.drewN n))
  case atStart => exact ⟨0, by omega, rfl, HST⟩
  case round =>
    obtain ⟨j, hj, rfl, HX⟩ := hrel
    obtain ⟨n0, rfl⟩ := HX.out
    cases gk with
    | zero =>
      obtain rfl : j = xs.length := by omega
      clear HX HST
      go_wp2
      go_ret
      exact ⟨rfl, _, rfl⟩
    | succ m =>
      have hjn : (j : Int) < (xs.length : Int) := by omega
      have hj0 : (0 : Int) ≤ (j : Int) := by omega
      have hjN : j < xs.length := by omega
      obtain ⟨g1, o1, c1', e1, _, _, a1, u1⟩ := H1.out.atU hjN
      injection e1 with e11 e12 e13
      subst e11 e13
      obtain ⟨g2, o2, c2', e2, _, _, a2, _⟩ := H2.out.atU hjN
      injection e2 with e21 e22 e23
      subst e21 e23
      clear HX HST e12 e22
      generalize xs[j] = y at *
      go_wp2_with fail
      go_quiet (fail)
      go_wp2_with fail
      go_roundg m
      case measure => omega
      case rel => exact ⟨j + 1, by omega, by go_num, Lib.hid ⟨_, rfl⟩⟩

set_option maxHeartbeats 400000 in
theorem lists_eq (v1 v2 : Value) (xs : List (List Int)) (X Y : Nat → Prop) (w : World) (h1 : Sl (encS encU) X w v1 xs) (h2 : Sl (encS encU) Y w v2 xs) :
    Calls Try.prog 8 #[v1, v2] w (Quietly w (.bool true)) := by
  have H1 := Lib.hid h1
  have H2 := Lib.hid h2
  obtain ⟨A1, c1, rfl, hc1, hc2⟩ := h1.form
  obtain ⟨A2, c2, rfl, _, _⟩ := h2.form
  clear h1 h2
  have HST : Hid (∃ n, w = w.drewN n) := Lib.hid ⟨0, rfl⟩
  go_enter Try.func8, Try.ntmps8
  go_wp2_with fail
  go_loopg [5] xs.length (fun g s5 wx => ∃ j : Nat, j + g = xs.length ∧ s5 = .int .i64 j ∧ Hid (∃ n, wx = w.drewN n))
  case atStart => exact ⟨0, by omega, rfl, HST⟩
  case round =>
    obtain ⟨j, hj, rfl, HX⟩ := hrel
    obtain ⟨n0, rfl⟩ := HX.out
    cases gk with
    | zero =>
      obtain rfl : j = xs.length := by omega
      clear HX HST
      go_wp2
      go_ret
      exact ⟨rfl, _, rfl⟩
    | succ m =>
      have hjn : (j : Int) < (xs.length : Int) := by omega
      have hj0 : (0 : Int) ≤ (j : Int) := by omega
      have hjN : j < xs.length := by omega
      obtain ⟨g1, o1, c1', t1, e1, _, _, a1, k1⟩ := H1.out.atS hjN
      injection e1 with e11 e12 e13
      subst e11 e13
      obtain ⟨g2, o2, c2', t2, e2, _, _, a2, k2⟩ := H2.out.atS hjN
      injection e2 with e21 e22 e23
      subst e21 e23
      have HN := Lib.hid (fun k => nums_eq t1 t2 xs[j] X Y (w.drewN k) (k1.kept (grownBy_drewN (World.grownBy.refl w none) k)) (k2.kept (grownBy_drewN (World.grownBy.refl w none) k)))
      obtain ⟨B1, d1, rfl, _, _⟩ := k1.form
      obtain ⟨B2, d2, rfl, _, _⟩ := k2.form
      clear HX HST e12 e22 k1 k2
      generalize xs[j].length = n1 at *
      go_wp2_with fail
      go_quiet ((go_at_call 16; exact quiet_add (HN.out _)))
      go_wp2_with fail
      go_roundg m
      case measure => omega
      case rel => exact ⟨j + 1, by omega, by go_num, Lib.hid ⟨_, rfl⟩⟩

end Go.Proofs.Ytmbbahlenanpfaa
