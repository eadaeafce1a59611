/- What is reckoned of primes, 2 of 8. -/
import Derived.Test.YtnjbigbiclfcoaaDoorNt4
namespace Go.Proofs.YtnjbigbiclfcoaaDoor.NT

set_option maxRecDepth 100000 in
theorem ck_41 : chkP 41 3 237149896 12 [2, 3, 2, 3, 3, 3, 3, 3, 1, 3, 1, 0] = true := by decide +kernel
set_option maxRecDepth 100000 in
theorem ck_47 : chkP 47 1 221496026 4 [0, 0, 1, 0, 1, 1, 0, 1, 1, 1, 1, 0] = true := by decide +kernel
set_option maxRecDepth 100000 in
theorem ck_113 : chkP 113 4 142848487 12 [2, 4, 4, 1, 3, 3, 4, 4, 4, 4, 3, 4] = true := by decide +kernel
set_option maxRecDepth 100000 in
theorem ck_193 : chkP 193 6 109304039 12 [5, 4, 6, 3, 6, 6, 6, 6, 5, 6, 5, 6] = true := by decide +kernel
set_option maxRecDepth 100000 in
theorem ck_227 : chkP 227 1 100786401 4 [1, 0, 1, 0, 0, 1, 1, 0, 0, 0, 1, 1] = true := by decide +kernel
set_option maxRecDepth 100000 in
theorem ck_277 : chkP 277 2 91237837 12 [2, 0, 2, 1, 2, 1, 2, 0, 0, 1, 2, 2] = true := by decide +kernel
set_option maxRecDepth 100000 in
theorem ck_307 : chkP 307 1 86665386 4 [1, 1, 1, 0, 0, 1, 0, 0, 1, 1, 1, 0] = true := by decide +kernel
set_option maxRecDepth 100000 in
theorem ck_373 : chkP 373 2 78624962 12 [2, 1, 2, 1, 2, 1, 1, 2, 2, 0, 1, 1] = true := by decide +kernel
set_option maxRecDepth 100000 in
theorem ck_383 : chkP 383 1 77591738 4 [0, 0, 1, 0, 1, 1, 0, 0, 0, 0, 0, 1] = true := by decide +kernel
set_option maxRecDepth 100000 in
theorem ck_461 : chkP 461 2 70723607 12 [2, 2, 0, 2, 2, 2, 1, 0, 0, 2, 2, 2] = true := by decide +kernel
set_option maxRecDepth 100000 in
theorem ck_523 : chkP 523 1 66399379 4 [1, 1, 1, 0, 0, 0, 0, 0, 0, 0, 0, 1] = true := by decide +kernel
set_option maxRecDepth 100000 in
theorem ck_601 : chkP 601 3 61940917 12 [0, 0, 2, 3, 3, 2, 3, 3, 2, 3, 3, 1] = true := by decide +kernel
set_option maxRecDepth 100000 in
theorem ck_607 : chkP 607 1 61634023 4 [0, 1, 1, 0, 0, 0, 1, 0, 1, 1, 1, 1] = true := by decide +kernel
set_option maxRecDepth 100000 in
theorem ck_613 : chkP 613 2 61331647 12 [2, 1, 2, 0, 2, 2, 0, 0, 2, 1, 2, 0] = true := by decide +kernel
set_option maxRecDepth 100000 in
theorem ck_691 : chkP 691 1 57766471 4 [1, 1, 0, 0, 1, 1, 1, 1, 1, 0, 1, 0] = true := by decide +kernel
set_option maxRecDepth 100000 in
theorem ck_797 : chkP 797 2 53788038 12 [2, 2, 2, 2, 0, 0, 1, 2, 2, 2, 2, 2] = true := by decide +kernel
set_option maxRecDepth 100000 in
theorem ck_821 : chkP 821 2 52996024 12 [2, 2, 1, 1, 2, 2, 2, 0, 1, 0, 2, 1] = true := by decide +kernel
set_option maxRecDepth 100000 in
theorem ck_863 : chkP 863 1 51690349 4 [0, 0, 1, 1, 1, 1, 0, 0, 1, 0, 0, 0] = true := by decide +kernel
set_option maxRecDepth 100000 in
theorem ck_947 : chkP 947 1 49344627 4 [1, 0, 1, 1, 1, 1, 1, 1, 1, 1, 0, 1] = true := by decide +kernel
def pl2 : List (Nat × Nat × Nat × Nat × List Nat) := [(41, 3, 237149896, 12, [2, 3, 2, 3, 3, 3, 3, 3, 1, 3, 1, 0]), (47, 1, 221496026, 4, [0, 0, 1, 0, 1, 1, 0, 1, 1, 1, 1, 0]), (113, 4, 142848487, 12, [2, 4, 4, 1, 3, 3, 4, 4, 4, 4, 3, 4]), (193, 6, 109304039, 12, [5, 4, 6, 3, 6, 6, 6, 6, 5, 6, 5, 6]), (227, 1, 100786401, 4, [1, 0, 1, 0, 0, 1, 1, 0, 0, 0, 1, 1]), (277, 2, 91237837, 12, [2, 0, 2, 1, 2, 1, 2, 0, 0, 1, 2, 2]), (307, 1, 86665386, 4, [1, 1, 1, 0, 0, 1, 0, 0, 1, 1, 1, 0]), (373, 2, 78624962, 12, [2, 1, 2, 1, 2, 1, 1, 2, 2, 0, 1, 1]), (383, 1, 77591738, 4, [0, 0, 1, 0, 1, 1, 0, 0, 0, 0, 0, 1]), (461, 2, 70723607, 12, [2, 2, 0, 2, 2, 2, 1, 0, 0, 2, 2, 2]), (523, 1, 66399379, 4, [1, 1, 1, 0, 0, 0, 0, 0, 0, 0, 0, 1]), (601, 3, 61940917, 12, [0, 0, 2, 3, 3, 2, 3, 3, 2, 3, 3, 1]), (607, 1, 61634023, 4, [0, 1, 1, 0, 0, 0, 1, 0, 1, 1, 1, 1]), (613, 2, 61331647, 12, [2, 1, 2, 0, 2, 2, 0, 0, 2, 1, 2, 0]), (691, 1, 57766471, 4, [1, 1, 0, 0, 1, 1, 1, 1, 1, 0, 1, 0]), (797, 2, 53788038, 12, [2, 2, 2, 2, 0, 0, 1, 2, 2, 2, 2, 2]), (821, 2, 52996024, 12, [2, 2, 1, 1, 2, 2, 2, 0, 1, 0, 2, 1]), (863, 1, 51690349, 4, [0, 0, 1, 1, 1, 1, 0, 0, 1, 0, 0, 0]), (947, 1, 49344627, 4, [1, 0, 1, 1, 1, 1, 1, 1, 1, 1, 0, 1])]
theorem pl2_ok : ∀ x ∈ pl2, chkP x.1 x.2.1 x.2.2.1 x.2.2.2.1 x.2.2.2.2 = true := by
  intro x hx
  simp only [pl2, List.mem_cons, List.not_mem_nil, or_false] at hx
  rcases hx with rfl | rfl | rfl | rfl | rfl | rfl | rfl | rfl | rfl | rfl | rfl | rfl | rfl | rfl | rfl | rfl | rfl | rfl | rfl
  · exact ck_41
  · exact ck_47
  · exact ck_113
  · exact ck_193
  · exact ck_227
  · exact ck_277
  · exact ck_307
  · exact ck_373
  · exact ck_383
  · exact ck_461
  · exact ck_523
  · exact ck_601
  · exact ck_607
  · exact ck_613
  · exact ck_691
  · exact ck_797
  · exact ck_821
  · exact ck_863
  · exact ck_947
end Go.Proofs.YtnjbigbiclfcoaaDoor.NT
