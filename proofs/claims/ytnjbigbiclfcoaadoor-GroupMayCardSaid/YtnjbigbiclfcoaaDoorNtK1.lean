/- What is reckoned of primes, 1 of 8. -/
import Derived.Test.YtnjbigbiclfcoaaDoorNt4
namespace Go.Proofs.YtnjbigbiclfcoaaDoor.NT

set_option maxRecDepth 100000 in
theorem ck_43 : chkP 43 1 231569117 4 [1, 1, 1, 1, 0, 0, 0, 1, 0, 1, 0, 1] = true := by decide +kernel
set_option maxRecDepth 100000 in
theorem ck_97 : chkP 97 5 154180340 12 [4, 4, 5, 5, 4, 5, 5, 5, 5, 5, 4, 5] = true := by decide +kernel
set_option maxRecDepth 100000 in
theorem ck_167 : chkP 167 1 117505077 4 [0, 0, 1, 0, 0, 1, 1, 0, 1, 0, 0, 1] = true := by decide +kernel
set_option maxRecDepth 100000 in
theorem ck_173 : chkP 173 2 115449436 12 [2, 2, 2, 2, 2, 1, 2, 2, 0, 0, 1, 1] = true := by decide +kernel
set_option maxRecDepth 100000 in
theorem ck_239 : chkP 239 1 98223615 4 [0, 0, 0, 1, 0, 1, 0, 1, 1, 0, 0, 1] = true := by decide +kernel
set_option maxRecDepth 100000 in
theorem ck_241 : chkP 241 4 97815199 12 [3, 3, 3, 4, 4, 4, 4, 4, 4, 3, 4, 4] = true := by decide +kernel
set_option maxRecDepth 100000 in
theorem ck_281 : chkP 281 3 90586130 12 [1, 3, 2, 2, 3, 3, 2, 3, 3, 1, 2, 3] = true := by decide +kernel
set_option maxRecDepth 100000 in
theorem ck_311 : chkP 311 1 86106249 4 [0, 0, 0, 0, 1, 0, 1, 1, 1, 1, 1, 1] = true := by decide +kernel
set_option maxRecDepth 100000 in
theorem ck_389 : chkP 389 2 76991018 12 [2, 2, 0, 0, 0, 0, 0, 1, 2, 2, 2, 2] = true := by decide +kernel
set_option maxRecDepth 100000 in
theorem ck_457 : chkP 457 3 71032445 12 [2, 2, 3, 1, 3, 3, 1, 1, 3, 1, 3, 3] = true := by decide +kernel
set_option maxRecDepth 100000 in
theorem ck_463 : chkP 463 1 70570691 4 [0, 1, 1, 1, 1, 1, 0, 1, 1, 0, 0, 1] = true := by decide +kernel
set_option maxRecDepth 100000 in
theorem ck_547 : chkP 547 1 64926382 4 [1, 1, 1, 1, 0, 0, 1, 0, 1, 0, 1, 1] = true := by decide +kernel
set_option maxRecDepth 100000 in
theorem ck_593 : chkP 593 4 62357331 12 [2, 4, 4, 4, 4, 4, 3, 2, 1, 2, 2, 1] = true := by decide +kernel
set_option maxRecDepth 100000 in
theorem ck_617 : chkP 617 3 61132518 12 [1, 3, 3, 2, 2, 3, 3, 2, 3, 3, 0, 2] = true := by decide +kernel
set_option maxRecDepth 100000 in
theorem ck_619 : chkP 619 1 61033678 4 [1, 1, 0, 0, 1, 1, 1, 1, 0, 1, 0, 0] = true := by decide +kernel
set_option maxRecDepth 100000 in
theorem ck_773 : chkP 773 2 54616657 12 [2, 2, 2, 2, 1, 2, 0, 2, 2, 2, 2, 0] = true := by decide +kernel
set_option maxRecDepth 100000 in
theorem ck_787 : chkP 787 1 54128688 4 [1, 1, 1, 0, 0, 1, 1, 0, 0, 0, 0, 0] = true := by decide +kernel
set_option maxRecDepth 100000 in
theorem ck_857 : chkP 857 3 51870980 12 [2, 3, 3, 3, 3, 2, 3, 3, 1, 2, 2, 3] = true := by decide +kernel
set_option maxRecDepth 100000 in
theorem ck_883 : chkP 883 1 51101602 4 [1, 1, 1, 1, 1, 0, 0, 1, 1, 0, 0, 1] = true := by decide +kernel
def pl1 : List (Nat × Nat × Nat × Nat × List Nat) := [(43, 1, 231569117, 4, [1, 1, 1, 1, 0, 0, 0, 1, 0, 1, 0, 1]), (97, 5, 154180340, 12, [4, 4, 5, 5, 4, 5, 5, 5, 5, 5, 4, 5]), (167, 1, 117505077, 4, [0, 0, 1, 0, 0, 1, 1, 0, 1, 0, 0, 1]), (173, 2, 115449436, 12, [2, 2, 2, 2, 2, 1, 2, 2, 0, 0, 1, 1]), (239, 1, 98223615, 4, [0, 0, 0, 1, 0, 1, 0, 1, 1, 0, 0, 1]), (241, 4, 97815199, 12, [3, 3, 3, 4, 4, 4, 4, 4, 4, 3, 4, 4]), (281, 3, 90586130, 12, [1, 3, 2, 2, 3, 3, 2, 3, 3, 1, 2, 3]), (311, 1, 86106249, 4, [0, 0, 0, 0, 1, 0, 1, 1, 1, 1, 1, 1]), (389, 2, 76991018, 12, [2, 2, 0, 0, 0, 0, 0, 1, 2, 2, 2, 2]), (457, 3, 71032445, 12, [2, 2, 3, 1, 3, 3, 1, 1, 3, 1, 3, 3]), (463, 1, 70570691, 4, [0, 1, 1, 1, 1, 1, 0, 1, 1, 0, 0, 1]), (547, 1, 64926382, 4, [1, 1, 1, 1, 0, 0, 1, 0, 1, 0, 1, 1]), (593, 4, 62357331, 12, [2, 4, 4, 4, 4, 4, 3, 2, 1, 2, 2, 1]), (617, 3, 61132518, 12, [1, 3, 3, 2, 2, 3, 3, 2, 3, 3, 0, 2]), (619, 1, 61033678, 4, [1, 1, 0, 0, 1, 1, 1, 1, 0, 1, 0, 0]), (773, 2, 54616657, 12, [2, 2, 2, 2, 1, 2, 0, 2, 2, 2, 2, 0]), (787, 1, 54128688, 4, [1, 1, 1, 0, 0, 1, 1, 0, 0, 0, 0, 0]), (857, 3, 51870980, 12, [2, 3, 3, 3, 3, 2, 3, 3, 1, 2, 2, 3]), (883, 1, 51101602, 4, [1, 1, 1, 1, 1, 0, 0, 1, 1, 0, 0, 1])]
theorem pl1_ok : ∀ x ∈ pl1, chkP x.1 x.2.1 x.2.2.1 x.2.2.2.1 x.2.2.2.2 = true := by
  intro x hx
  simp only [pl1, List.mem_cons, List.not_mem_nil, or_false] at hx
  rcases hx with rfl | rfl | rfl | rfl | rfl | rfl | rfl | rfl | rfl | rfl | rfl | rfl | rfl | rfl | rfl | rfl | rfl | rfl | rfl
  · exact ck_43
  · exact ck_97
  · exact ck_167
  · exact ck_173
  · exact ck_239
  · exact ck_241
  · exact ck_281
  · exact ck_311
  · exact ck_389
  · exact ck_457
  · exact ck_463
  · exact ck_547
  · exact ck_593
  · exact ck_617
  · exact ck_619
  · exact ck_773
  · exact ck_787
  · exact ck_857
  · exact ck_883
end Go.Proofs.YtnjbigbiclfcoaaDoor.NT
