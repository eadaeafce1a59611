/- What is reckoned of primes, 3 of 8. -/
import Derived.Test.YtnjbigbiclfcoaaDoorNt4
namespace Go.Proofs.YtnjbigbiclfcoaaDoor.NT

set_option maxRecDepth 100000 in
theorem ck_59 : chkP 59 1 197691893 4 [1, 0, 0, 0, 1, 1, 0, 0, 1, 0, 1, 1] = true := by decide +kernel
set_option maxRecDepth 100000 in
theorem ck_73 : chkP 73 3 177727011 12 [0, 2, 3, 3, 3, 3, 3, 2, 2, 3, 3, 0] = true := by decide +kernel
set_option maxRecDepth 100000 in
theorem ck_101 : chkP 101 2 151096422 12 [2, 2, 0, 2, 2, 1, 1, 0, 1, 2, 0, 0] = true := by decide +kernel
set_option maxRecDepth 100000 in
theorem ck_163 : chkP 163 1 118938118 4 [1, 1, 1, 1, 1, 1, 1, 1, 1, 1, 1, 1] = true := by decide +kernel
set_option maxRecDepth 100000 in
theorem ck_223 : chkP 223 1 101686297 4 [0, 1, 1, 0, 1, 1, 0, 0, 1, 0, 0, 0] = true := by decide +kernel
set_option maxRecDepth 100000 in
theorem ck_337 : chkP 337 4 82717979 12 [0, 3, 4, 3, 4, 0, 4, 4, 4, 4, 4, 2] = true := by decide +kernel
set_option maxRecDepth 100000 in
theorem ck_379 : chkP 379 1 78000118 4 [1, 1, 0, 1, 1, 1, 1, 0, 0, 1, 1, 0] = true := by decide +kernel
set_option maxRecDepth 100000 in
theorem ck_409 : chkP 409 3 75085004 12 [2, 2, 0, 3, 3, 3, 0, 3, 2, 3, 3, 3] = true := by decide +kernel
set_option maxRecDepth 100000 in
theorem ck_503 : chkP 503 1 67706579 4 [0, 0, 1, 0, 0, 0, 1, 1, 0, 1, 1, 1] = true := by decide +kernel
set_option maxRecDepth 100000 in
theorem ck_569 : chkP 569 3 63658842 12 [2, 3, 0, 2, 3, 2, 2, 3, 3, 3, 3, 3] = true := by decide +kernel
set_option maxRecDepth 100000 in
theorem ck_587 : chkP 587 1 62675212 4 [1, 0, 1, 0, 1, 1, 0, 1, 1, 0, 0, 1] = true := by decide +kernel
set_option maxRecDepth 100000 in
theorem ck_631 : chkP 631 1 60450540 4 [0, 1, 0, 1, 1, 1, 0, 1, 0, 0, 0, 1] = true := by decide +kernel
set_option maxRecDepth 100000 in
theorem ck_653 : chkP 653 2 59423506 12 [2, 2, 2, 0, 1, 1, 2, 0, 1, 2, 0, 2] = true := by decide +kernel
set_option maxRecDepth 100000 in
theorem ck_709 : chkP 709 2 57028473 12 [2, 0, 1, 0, 1, 2, 2, 0, 2, 0, 2, 2] = true := by decide +kernel
set_option maxRecDepth 100000 in
theorem ck_739 : chkP 739 1 55858934 4 [1, 1, 0, 1, 0, 1, 0, 1, 1, 1, 0, 0] = true := by decide +kernel
set_option maxRecDepth 100000 in
theorem ck_823 : chkP 823 1 52931591 4 [0, 1, 1, 1, 1, 0, 1, 1, 1, 1, 0, 0] = true := by decide +kernel
set_option maxRecDepth 100000 in
theorem ck_911 : chkP 911 1 50310157 4 [0, 0, 0, 1, 1, 0, 1, 0, 0, 1, 0, 1] = true := by decide +kernel
set_option maxRecDepth 100000 in
theorem ck_937 : chkP 937 3 49607240 12 [0, 1, 3, 3, 3, 1, 2, 2, 3, 1, 2, 2] = true := by decide +kernel
set_option maxRecDepth 100000 in
theorem ck_953 : chkP 953 3 49189048 12 [2, 3, 3, 1, 3, 2, 2, 3, 3, 1, 3, 2] = true := by decide +kernel
set_option maxRecDepth 100000 in
theorem ck_983 : chkP 983 1 48432636 4 [0, 0, 1, 0, 1, 1, 1, 0, 0, 1, 0, 0] = true := by decide +kernel
def pl3 : List (Nat × Nat × Nat × Nat × List Nat) := [(59, 1, 197691893, 4, [1, 0, 0, 0, 1, 1, 0, 0, 1, 0, 1, 1]), (73, 3, 177727011, 12, [0, 2, 3, 3, 3, 3, 3, 2, 2, 3, 3, 0]), (101, 2, 151096422, 12, [2, 2, 0, 2, 2, 1, 1, 0, 1, 2, 0, 0]), (163, 1, 118938118, 4, [1, 1, 1, 1, 1, 1, 1, 1, 1, 1, 1, 1]), (223, 1, 101686297, 4, [0, 1, 1, 0, 1, 1, 0, 0, 1, 0, 0, 0]), (337, 4, 82717979, 12, [0, 3, 4, 3, 4, 0, 4, 4, 4, 4, 4, 2]), (379, 1, 78000118, 4, [1, 1, 0, 1, 1, 1, 1, 0, 0, 1, 1, 0]), (409, 3, 75085004, 12, [2, 2, 0, 3, 3, 3, 0, 3, 2, 3, 3, 3]), (503, 1, 67706579, 4, [0, 0, 1, 0, 0, 0, 1, 1, 0, 1, 1, 1]), (569, 3, 63658842, 12, [2, 3, 0, 2, 3, 2, 2, 3, 3, 3, 3, 3]), (587, 1, 62675212, 4, [1, 0, 1, 0, 1, 1, 0, 1, 1, 0, 0, 1]), (631, 1, 60450540, 4, [0, 1, 0, 1, 1, 1, 0, 1, 0, 0, 0, 1]), (653, 2, 59423506, 12, [2, 2, 2, 0, 1, 1, 2, 0, 1, 2, 0, 2]), (709, 2, 57028473, 12, [2, 0, 1, 0, 1, 2, 2, 0, 2, 0, 2, 2]), (739, 1, 55858934, 4, [1, 1, 0, 1, 0, 1, 0, 1, 1, 1, 0, 0]), (823, 1, 52931591, 4, [0, 1, 1, 1, 1, 0, 1, 1, 1, 1, 0, 0]), (911, 1, 50310157, 4, [0, 0, 0, 1, 1, 0, 1, 0, 0, 1, 0, 1]), (937, 3, 49607240, 12, [0, 1, 3, 3, 3, 1, 2, 2, 3, 1, 2, 2]), (953, 3, 49189048, 12, [2, 3, 3, 1, 3, 2, 2, 3, 3, 1, 3, 2]), (983, 1, 48432636, 4, [0, 0, 1, 0, 1, 1, 1, 0, 0, 1, 0, 0])]
theorem pl3_ok : ∀ x ∈ pl3, chkP x.1 x.2.1 x.2.2.1 x.2.2.2.1 x.2.2.2.2 = true := by
  intro x hx
  simp only [pl3, List.mem_cons, List.not_mem_nil, or_false] at hx
  rcases hx with rfl | rfl | rfl | rfl | rfl | rfl | rfl | rfl | rfl | rfl | rfl | rfl | rfl | rfl | rfl | rfl | rfl | rfl | rfl | rfl
  · exact ck_59
  · exact ck_73
  · exact ck_101
  · exact ck_163
  · exact ck_223
  · exact ck_337
  · exact ck_379
  · exact ck_409
  · exact ck_503
  · exact ck_569
  · exact ck_587
  · exact ck_631
  · exact ck_653
  · exact ck_709
  · exact ck_739
  · exact ck_823
  · exact ck_911
  · exact ck_937
  · exact ck_953
  · exact ck_983
end Go.Proofs.YtnjbigbiclfcoaaDoor.NT
