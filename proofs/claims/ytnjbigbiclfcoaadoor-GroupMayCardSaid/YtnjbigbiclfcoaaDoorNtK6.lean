/- What is reckoned of primes, 6 of 8. -/
import Derived.Test.YtnjbigbiclfcoaaDoorNt4
namespace Go.Proofs.YtnjbigbiclfcoaaDoor.NT

set_option maxRecDepth 100000 in
theorem ck_79 : chkP 79 1 170844625 4 [0, 1, 0, 1, 0, 0, 1, 0, 0, 1, 0, 1] = true := by decide +kernel
set_option maxRecDepth 100000 in
theorem ck_131 : chkP 131 1 132671982 4 [1, 0, 0, 0, 0, 0, 1, 1, 1, 1, 1, 1] = true := by decide +kernel
set_option maxRecDepth 100000 in
theorem ck_137 : chkP 137 3 129734231 12 [2, 3, 3, 2, 2, 3, 2, 2, 3, 3, 3, 2] = true := by decide +kernel
set_option maxRecDepth 100000 in
theorem ck_199 : chkP 199 1 107643628 4 [0, 1, 0, 0, 1, 0, 1, 1, 0, 0, 0, 1] = true := by decide +kernel
set_option maxRecDepth 100000 in
theorem ck_251 : chkP 251 1 95846885 4 [1, 0, 0, 0, 1, 0, 0, 1, 0, 1, 0, 1] = true := by decide +kernel
set_option maxRecDepth 100000 in
theorem ck_349 : chkP 349 2 81283454 12 [2, 1, 1, 2, 2, 2, 1, 0, 0, 1, 0, 1] = true := by decide +kernel
set_option maxRecDepth 100000 in
theorem ck_359 : chkP 359 1 80143377 4 [0, 0, 0, 1, 0, 1, 0, 1, 0, 1, 1, 0] = true := by decide +kernel
set_option maxRecDepth 100000 in
theorem ck_401 : chkP 401 4 75830283 12 [3, 4, 0, 3, 3, 4, 4, 4, 4, 1, 4, 4] = true := by decide +kernel
set_option maxRecDepth 100000 in
theorem ck_439 : chkP 439 1 72474062 4 [0, 1, 0, 0, 0, 0, 1, 0, 1, 0, 1, 1] = true := by decide +kernel
set_option maxRecDepth 100000 in
theorem ck_491 : chkP 491 1 68528956 4 [1, 0, 0, 1, 0, 0, 0, 1, 1, 1, 0, 0] = true := by decide +kernel
set_option maxRecDepth 100000 in
theorem ck_521 : chkP 521 3 66526703 12 [2, 3, 1, 3, 2, 2, 3, 3, 3, 0, 1, 1] = true := by decide +kernel
set_option maxRecDepth 100000 in
theorem ck_683 : chkP 683 1 58103797 4 [1, 0, 1, 1, 1, 1, 1, 0, 1, 0, 1, 1] = true := by decide +kernel
set_option maxRecDepth 100000 in
theorem ck_701 : chkP 701 2 57352962 12 [2, 2, 1, 0, 2, 0, 1, 0, 2, 0, 1, 2] = true := by decide +kernel
set_option maxRecDepth 100000 in
theorem ck_719 : chkP 719 1 56630503 4 [0, 0, 0, 0, 1, 0, 1, 1, 1, 0, 0, 0] = true := by decide +kernel
set_option maxRecDepth 100000 in
theorem ck_761 : chkP 761 3 55045591 12 [2, 3, 1, 3, 3, 3, 2, 2, 2, 2, 3, 2] = true := by decide +kernel
set_option maxRecDepth 100000 in
theorem ck_839 : chkP 839 1 52424450 4 [0, 0, 0, 0, 1, 1, 1, 0, 0, 1, 1, 0] = true := by decide +kernel
set_option maxRecDepth 100000 in
theorem ck_881 : chkP 881 4 51159573 12 [0, 4, 3, 4, 3, 3, 4, 3, 4, 4, 4, 3] = true := by decide +kernel
set_option maxRecDepth 100000 in
theorem ck_907 : chkP 907 1 50420973 4 [1, 1, 1, 1, 1, 0, 1, 0, 0, 1, 1, 1] = true := by decide +kernel
set_option maxRecDepth 100000 in
theorem ck_971 : chkP 971 1 48730992 4 [1, 0, 0, 0, 1, 0, 0, 0, 0, 1, 1, 0] = true := by decide +kernel
set_option maxRecDepth 100000 in
theorem ck_997 : chkP 997 2 48091385 12 [2, 1, 2, 2, 2, 0, 2, 0, 0, 2, 1, 2] = true := by decide +kernel
def pl6 : List (Nat × Nat × Nat × Nat × List Nat) := [(79, 1, 170844625, 4, [0, 1, 0, 1, 0, 0, 1, 0, 0, 1, 0, 1]), (131, 1, 132671982, 4, [1, 0, 0, 0, 0, 0, 1, 1, 1, 1, 1, 1]), (137, 3, 129734231, 12, [2, 3, 3, 2, 2, 3, 2, 2, 3, 3, 3, 2]), (199, 1, 107643628, 4, [0, 1, 0, 0, 1, 0, 1, 1, 0, 0, 0, 1]), (251, 1, 95846885, 4, [1, 0, 0, 0, 1, 0, 0, 1, 0, 1, 0, 1]), (349, 2, 81283454, 12, [2, 1, 1, 2, 2, 2, 1, 0, 0, 1, 0, 1]), (359, 1, 80143377, 4, [0, 0, 0, 1, 0, 1, 0, 1, 0, 1, 1, 0]), (401, 4, 75830283, 12, [3, 4, 0, 3, 3, 4, 4, 4, 4, 1, 4, 4]), (439, 1, 72474062, 4, [0, 1, 0, 0, 0, 0, 1, 0, 1, 0, 1, 1]), (491, 1, 68528956, 4, [1, 0, 0, 1, 0, 0, 0, 1, 1, 1, 0, 0]), (521, 3, 66526703, 12, [2, 3, 1, 3, 2, 2, 3, 3, 3, 0, 1, 1]), (683, 1, 58103797, 4, [1, 0, 1, 1, 1, 1, 1, 0, 1, 0, 1, 1]), (701, 2, 57352962, 12, [2, 2, 1, 0, 2, 0, 1, 0, 2, 0, 1, 2]), (719, 1, 56630503, 4, [0, 0, 0, 0, 1, 0, 1, 1, 1, 0, 0, 0]), (761, 3, 55045591, 12, [2, 3, 1, 3, 3, 3, 2, 2, 2, 2, 3, 2]), (839, 1, 52424450, 4, [0, 0, 0, 0, 1, 1, 1, 0, 0, 1, 1, 0]), (881, 4, 51159573, 12, [0, 4, 3, 4, 3, 3, 4, 3, 4, 4, 4, 3]), (907, 1, 50420973, 4, [1, 1, 1, 1, 1, 0, 1, 0, 0, 1, 1, 1]), (971, 1, 48730992, 4, [1, 0, 0, 0, 1, 0, 0, 0, 0, 1, 1, 0]), (997, 2, 48091385, 12, [2, 1, 2, 2, 2, 0, 2, 0, 0, 2, 1, 2])]
theorem pl6_ok : ∀ x ∈ pl6, chkP x.1 x.2.1 x.2.2.1 x.2.2.2.1 x.2.2.2.2 = true := by
  intro x hx
  simp only [pl6, List.mem_cons, List.not_mem_nil, or_false] at hx
  rcases hx with rfl | rfl | rfl | rfl | rfl | rfl | rfl | rfl | rfl | rfl | rfl | rfl | rfl | rfl | rfl | rfl | rfl | rfl | rfl | rfl
  · exact ck_79
  · exact ck_131
  · exact ck_137
  · exact ck_199
  · exact ck_251
  · exact ck_349
  · exact ck_359
  · exact ck_401
  · exact ck_439
  · exact ck_491
  · exact ck_521
  · exact ck_683
  · exact ck_701
  · exact ck_719
  · exact ck_761
  · exact ck_839
  · exact ck_881
  · exact ck_907
  · exact ck_971
  · exact ck_997
end Go.Proofs.YtnjbigbiclfcoaaDoor.NT
