/- What is reckoned of primes, 5 of 8. -/
import Derived.Test.YtnjbigbiclfcoaaDoorNt4
namespace Go.Proofs.YtnjbigbiclfcoaaDoor.NT

set_option maxRecDepth 100000 in
theorem ck_71 : chkP 71 1 180212824 4 [0, 0, 0, 1, 1, 1, 1, 0, 1, 0, 1, 0] = true := by decide +kernel
set_option maxRecDepth 100000 in
theorem ck_139 : chkP 139 1 128797510 4 [1, 1, 0, 0, 0, 0, 1, 1, 1, 0, 0, 0] = true := by decide +kernel
set_option maxRecDepth 100000 in
theorem ck_149 : chkP 149 2 124400387 12 [2, 2, 0, 1, 2, 2, 0, 0, 2, 0, 0, 0] = true := by decide +kernel
set_option maxRecDepth 100000 in
theorem ck_157 : chkP 157 2 121189513 12 [2, 1, 2, 2, 0, 1, 0, 0, 2, 2, 1, 0] = true := by decide +kernel
set_option maxRecDepth 100000 in
theorem ck_197 : chkP 197 2 108188663 12 [2, 2, 2, 1, 2, 2, 2, 1, 0, 0, 2, 0] = true := by decide +kernel
set_option maxRecDepth 100000 in
theorem ck_211 : chkP 211 1 104537868 4 [1, 1, 0, 1, 0, 0, 1, 0, 1, 1, 1, 0] = true := by decide +kernel
set_option maxRecDepth 100000 in
theorem ck_233 : chkP 233 3 99480258 12 [0, 3, 3, 2, 3, 2, 3, 0, 0, 1, 2, 0] = true := by decide +kernel
set_option maxRecDepth 100000 in
theorem ck_269 : chkP 269 2 92584594 12 [2, 2, 0, 2, 1, 1, 2, 2, 0, 2, 2, 0] = true := by decide +kernel
set_option maxRecDepth 100000 in
theorem ck_283 : chkP 283 1 90265470 4 [1, 1, 1, 0, 0, 0, 1, 1, 0, 0, 1, 1] = true := by decide +kernel
set_option maxRecDepth 100000 in
theorem ck_293 : chkP 293 2 88711731 12 [2, 2, 2, 2, 2, 2, 0, 2, 2, 2, 1, 1] = true := by decide +kernel
set_option maxRecDepth 100000 in
theorem ck_331 : chkP 331 1 83464322 4 [1, 1, 0, 1, 1, 1, 0, 0, 1, 1, 0, 1] = true := by decide +kernel
set_option maxRecDepth 100000 in
theorem ck_433 : chkP 433 4 72974464 12 [3, 0, 4, 4, 3, 3, 0, 4, 4, 4, 4, 3] = true := by decide +kernel
set_option maxRecDepth 100000 in
theorem ck_443 : chkP 443 1 72146124 4 [1, 0, 1, 1, 1, 0, 0, 1, 1, 1, 1, 0] = true := by decide +kernel
set_option maxRecDepth 100000 in
theorem ck_479 : chkP 479 1 69382047 4 [0, 0, 0, 0, 0, 1, 1, 1, 0, 1, 1, 1] = true := by decide +kernel
set_option maxRecDepth 100000 in
theorem ck_557 : chkP 557 2 64340920 12 [2, 2, 2, 1, 2, 2, 1, 0, 2, 1, 2, 2] = true := by decide +kernel
set_option maxRecDepth 100000 in
theorem ck_661 : chkP 661 2 59062814 12 [2, 1, 1, 2, 0, 2, 1, 2, 2, 1, 1, 2] = true := by decide +kernel
set_option maxRecDepth 100000 in
theorem ck_751 : chkP 751 1 55410861 4 [0, 1, 0, 1, 1, 0, 1, 0, 0, 1, 1, 0] = true := by decide +kernel
set_option maxRecDepth 100000 in
theorem ck_757 : chkP 757 2 55190830 12 [2, 0, 2, 0, 0, 0, 0, 1, 2, 2, 2, 2] = true := by decide +kernel
set_option maxRecDepth 100000 in
theorem ck_877 : chkP 877 2 51276110 12 [2, 1, 2, 0, 2, 2, 2, 2, 0, 1, 0, 0] = true := by decide +kernel
set_option maxRecDepth 100000 in
theorem ck_977 : chkP 977 4 48581127 12 [3, 4, 4, 3, 3, 4, 3, 4, 4, 3, 1, 4] = true := by decide +kernel
def pl5 : List (Nat × Nat × Nat × Nat × List Nat) := [(71, 1, 180212824, 4, [0, 0, 0, 1, 1, 1, 1, 0, 1, 0, 1, 0]), (139, 1, 128797510, 4, [1, 1, 0, 0, 0, 0, 1, 1, 1, 0, 0, 0]), (149, 2, 124400387, 12, [2, 2, 0, 1, 2, 2, 0, 0, 2, 0, 0, 0]), (157, 2, 121189513, 12, [2, 1, 2, 2, 0, 1, 0, 0, 2, 2, 1, 0]), (197, 2, 108188663, 12, [2, 2, 2, 1, 2, 2, 2, 1, 0, 0, 2, 0]), (211, 1, 104537868, 4, [1, 1, 0, 1, 0, 0, 1, 0, 1, 1, 1, 0]), (233, 3, 99480258, 12, [0, 3, 3, 2, 3, 2, 3, 0, 0, 1, 2, 0]), (269, 2, 92584594, 12, [2, 2, 0, 2, 1, 1, 2, 2, 0, 2, 2, 0]), (283, 1, 90265470, 4, [1, 1, 1, 0, 0, 0, 1, 1, 0, 0, 1, 1]), (293, 2, 88711731, 12, [2, 2, 2, 2, 2, 2, 0, 2, 2, 2, 1, 1]), (331, 1, 83464322, 4, [1, 1, 0, 1, 1, 1, 0, 0, 1, 1, 0, 1]), (433, 4, 72974464, 12, [3, 0, 4, 4, 3, 3, 0, 4, 4, 4, 4, 3]), (443, 1, 72146124, 4, [1, 0, 1, 1, 1, 0, 0, 1, 1, 1, 1, 0]), (479, 1, 69382047, 4, [0, 0, 0, 0, 0, 1, 1, 1, 0, 1, 1, 1]), (557, 2, 64340920, 12, [2, 2, 2, 1, 2, 2, 1, 0, 2, 1, 2, 2]), (661, 2, 59062814, 12, [2, 1, 1, 2, 0, 2, 1, 2, 2, 1, 1, 2]), (751, 1, 55410861, 4, [0, 1, 0, 1, 1, 0, 1, 0, 0, 1, 1, 0]), (757, 2, 55190830, 12, [2, 0, 2, 0, 0, 0, 0, 1, 2, 2, 2, 2]), (877, 2, 51276110, 12, [2, 1, 2, 0, 2, 2, 2, 2, 0, 1, 0, 0]), (977, 4, 48581127, 12, [3, 4, 4, 3, 3, 4, 3, 4, 4, 3, 1, 4])]
theorem pl5_ok : ∀ x ∈ pl5, chkP x.1 x.2.1 x.2.2.1 x.2.2.2.1 x.2.2.2.2 = true := by
  intro x hx
  simp only [pl5, List.mem_cons, List.not_mem_nil, or_false] at hx
  rcases hx with rfl | rfl | rfl | rfl | rfl | rfl | rfl | rfl | rfl | rfl | rfl | rfl | rfl | rfl | rfl | rfl | rfl | rfl | rfl | rfl
  · exact ck_71
  · exact ck_139
  · exact ck_149
  · exact ck_157
  · exact ck_197
  · exact ck_211
  · exact ck_233
  · exact ck_269
  · exact ck_283
  · exact ck_293
  · exact ck_331
  · exact ck_433
  · exact ck_443
  · exact ck_479
  · exact ck_557
  · exact ck_661
  · exact ck_751
  · exact ck_757
  · exact ck_877
  · exact ck_977
end Go.Proofs.YtnjbigbiclfcoaaDoor.NT
