/- The law's small params, and works. -/
import Derived.Test.YtmbbahlenanpfaaPedI
import Derived.Test.YtmbbahlenanpfaaPedB
import Derived.Test.YtmbbahlenanpfaaCmp
namespace Go.Proofs.Ytmbbahlenanpfaa
open Go Go.RowKit

abbrev ps : Par := ⟨23, 11, 4, 9, 4, 4, 1, 1, 1, 1, 1, 1⟩
theorem ps_ok : ps.ok := ⟨⟨by decide, by decide⟩, ⟨by decide, by decide⟩, ⟨by decide, by decide⟩, ⟨by decide, by decide⟩, ⟨by decide, by decide⟩, ⟨by decide, by decide⟩, ⟨by decide, by decide⟩, ⟨by decide, by decide⟩, ⟨by decide, by decide⟩, ⟨by decide, by decide⟩, ⟨by decide, by decide⟩, ⟨by decide, by decide⟩⟩
set_option maxHeartbeats 400000 in
theorem small_any (w : World) : Calls Try.prog 5 #[] w fun e w' => e = .returned ps.v ∧ w.grownBy w' none := by
  have HB := Lib.hid (Bk.new w 25 #[.int .u64 0, .int .u64 0, .int .u64 0, .int .u64 0, .int .i64 0, .int .i64 0, .int .i64 0, .int .i64 0, .int .i64 0, .int .i64 0, .int .i64 0, .int .i64 0])
  go_enter Try.func5, Try.ntmps5
  go_wp2
  exact bodyPost_ret (v := ps.v) (by simp [results, Try.results5, go_sem]) rfl ⟨rfl, World.grownBy_alloc w _ none⟩
theorem coms_ex : comsI ps [[1, 2], [3]] [[1], [0, 1]] = [[13, 16], [18, 9]] := by decide +kernel
theorem formed_ex : formedB ps [[13, 16], [18, 9]] = true := by decide +kernel
theorem formed_ex1 : formedB ps [[13, 16]] = false := by decide +kernel
theorem share_ex : shareI ps [[13, 16], [18, 9]] 2 = [16, 9] := by decide +kernel
theorem fits_ex : fitsI ps [[13, 16], [18, 9]] 2 [(5, 1), (3, 2)] = true := by decide +kernel
theorem fits_ex1 : fitsI ps [[13, 16], [18, 9]] 2 [(5, 1)] = false := by decide +kernel
end Go.Proofs.Ytmbbahlenanpfaa
