/- What is reckoned of primes, 4 of 8. -/
import Derived.Test.YtnjbigbiclfcoaaDoorNt4
namespace Go.Proofs.YtnjbigbiclfcoaaDoor.NT

set_option maxRecDepth 100000 in
theorem ck_53 : chkP 53 2 208582050 12 [2, 2, 2, 1, 1, 0, 1, 2, 2, 1, 2, 1] = true := by decide +kernel
set_option maxRecDepth 100000 in
theorem ck_67 : chkP 67 1 185514331 4 [1, 1, 1, 1, 1, 1, 0, 0, 0, 0, 1, 0] = true := by decide +kernel
set_option maxRecDepth 100000 in
theorem ck_89 : chkP 89 3 160960704 12 [0, 3, 2, 3, 1, 3, 2, 3, 3, 3, 3, 3] = true := by decide +kernel
set_option maxRecDepth 100000 in
theorem ck_151 : chkP 151 1 123573797 4 [0, 1, 0, 1, 0, 1, 0, 0, 1, 0, 0, 0] = true := by decide +kernel
set_option maxRecDepth 100000 in
theorem ck_229 : chkP 229 2 100345320 12 [2, 0, 1, 2, 1, 2, 0, 0, 2, 2, 2, 0] = true := by decide +kernel
set_option maxRecDepth 100000 in
theorem ck_271 : chkP 271 1 92242321 4 [0, 1, 0, 0, 0, 1, 0, 1, 1, 1, 0, 0] = true := by decide +kernel
set_option maxRecDepth 100000 in
theorem ck_317 : chkP 317 2 85287471 12 [2, 2, 2, 1, 0, 2, 2, 2, 0, 2, 0, 1] = true := by decide +kernel
set_option maxRecDepth 100000 in
theorem ck_419 : chkP 419 1 74183591 4 [1, 0, 0, 0, 1, 0, 1, 1, 0, 0, 1, 0] = true := by decide +kernel
set_option maxRecDepth 100000 in
theorem ck_449 : chkP 449 6 71662457 12 [5, 6, 1, 4, 3, 6, 6, 6, 4, 6, 6, 6] = true := by decide +kernel
set_option maxRecDepth 100000 in
theorem ck_499 : chkP 499 1 67977407 4 [1, 1, 0, 1, 1, 1, 1, 1, 1, 0, 0, 1] = true := by decide +kernel
set_option maxRecDepth 100000 in
theorem ck_509 : chkP 509 2 67306340 12 [2, 2, 1, 2, 1, 2, 0, 2, 0, 1, 2, 1] = true := by decide +kernel
set_option maxRecDepth 100000 in
theorem ck_563 : chkP 563 1 63997155 4 [1, 0, 1, 0, 0, 0, 0, 0, 0, 1, 1, 1] = true := by decide +kernel
set_option maxRecDepth 100000 in
theorem ck_659 : chkP 659 1 59152371 4 [1, 0, 0, 1, 0, 0, 0, 0, 0, 1, 1, 0] = true := by decide +kernel
set_option maxRecDepth 100000 in
theorem ck_677 : chkP 677 2 58360705 12 [2, 2, 2, 2, 2, 0, 2, 2, 2, 2, 2, 1] = true := by decide +kernel
set_option maxRecDepth 100000 in
theorem ck_727 : chkP 727 1 56318056 4 [0, 1, 1, 0, 1, 0, 0, 1, 0, 1, 1, 1] = true := by decide +kernel
set_option maxRecDepth 100000 in
theorem ck_809 : chkP 809 3 53387625 12 [2, 3, 2, 0, 3, 2, 3, 1, 2, 3, 3, 3] = true := by decide +kernel
set_option maxRecDepth 100000 in
theorem ck_827 : chkP 827 1 52803427 4 [1, 0, 1, 1, 0, 1, 1, 0, 0, 1, 0, 1] = true := by decide +kernel
set_option maxRecDepth 100000 in
theorem ck_829 : chkP 829 2 52739693 12 [2, 0, 0, 2, 0, 1, 0, 2, 0, 2, 2, 2] = true := by decide +kernel
set_option maxRecDepth 100000 in
theorem ck_991 : chkP 991 1 48236750 4 [0, 1, 0, 1, 1, 0, 1, 0, 1, 0, 0, 1] = true := by decide +kernel
def pl4 : List (Nat × Nat × Nat × Nat × List Nat) := [(53, 2, 208582050, 12, [2, 2, 2, 1, 1, 0, 1, 2, 2, 1, 2, 1]), (67, 1, 185514331, 4, [1, 1, 1, 1, 1, 1, 0, 0, 0, 0, 1, 0]), (89, 3, 160960704, 12, [0, 3, 2, 3, 1, 3, 2, 3, 3, 3, 3, 3]), (151, 1, 123573797, 4, [0, 1, 0, 1, 0, 1, 0, 0, 1, 0, 0, 0]), (229, 2, 100345320, 12, [2, 0, 1, 2, 1, 2, 0, 0, 2, 2, 2, 0]), (271, 1, 92242321, 4, [0, 1, 0, 0, 0, 1, 0, 1, 1, 1, 0, 0]), (317, 2, 85287471, 12, [2, 2, 2, 1, 0, 2, 2, 2, 0, 2, 0, 1]), (419, 1, 74183591, 4, [1, 0, 0, 0, 1, 0, 1, 1, 0, 0, 1, 0]), (449, 6, 71662457, 12, [5, 6, 1, 4, 3, 6, 6, 6, 4, 6, 6, 6]), (499, 1, 67977407, 4, [1, 1, 0, 1, 1, 1, 1, 1, 1, 0, 0, 1]), (509, 2, 67306340, 12, [2, 2, 1, 2, 1, 2, 0, 2, 0, 1, 2, 1]), (563, 1, 63997155, 4, [1, 0, 1, 0, 0, 0, 0, 0, 0, 1, 1, 1]), (659, 1, 59152371, 4, [1, 0, 0, 1, 0, 0, 0, 0, 0, 1, 1, 0]), (677, 2, 58360705, 12, [2, 2, 2, 2, 2, 0, 2, 2, 2, 2, 2, 1]), (727, 1, 56318056, 4, [0, 1, 1, 0, 1, 0, 0, 1, 0, 1, 1, 1]), (809, 3, 53387625, 12, [2, 3, 2, 0, 3, 2, 3, 1, 2, 3, 3, 3]), (827, 1, 52803427, 4, [1, 0, 1, 1, 0, 1, 1, 0, 0, 1, 0, 1]), (829, 2, 52739693, 12, [2, 0, 0, 2, 0, 1, 0, 2, 0, 2, 2, 2]), (991, 1, 48236750, 4, [0, 1, 0, 1, 1, 0, 1, 0, 1, 0, 0, 1])]
theorem pl4_ok : ∀ x ∈ pl4, chkP x.1 x.2.1 x.2.2.1 x.2.2.2.1 x.2.2.2.2 = true := by
  intro x hx
  simp only [pl4, List.mem_cons, List.not_mem_nil, or_false] at hx
  rcases hx with rfl | rfl | rfl | rfl | rfl | rfl | rfl | rfl | rfl | rfl | rfl | rfl | rfl | rfl | rfl | rfl | rfl | rfl | rfl
  · exact ck_53
  · exact ck_67
  · exact ck_89
  · exact ck_151
  · exact ck_229
  · exact ck_271
  · exact ck_317
  · exact ck_419
  · exact ck_449
  · exact ck_499
  · exact ck_509
  · exact ck_563
  · exact ck_659
  · exact ck_677
  · exact ck_727
  · exact ck_809
  · exact ck_827
  · exact ck_829
  · exact ck_991
end Go.Proofs.YtnjbigbiclfcoaaDoor.NT
