/- What is reckoned of primes, 7 of 8. -/
import Derived.Test.YtnjbigbiclfcoaaDoorNt4
namespace Go.Proofs.YtnjbigbiclfcoaaDoor.NT

set_option maxRecDepth 100000 in
theorem ck_83 : chkP 83 1 166677056 4 [1, 0, 1, 0, 0, 1, 0, 1, 0, 0, 0, 0] = true := by decide +kernel
set_option maxRecDepth 100000 in
theorem ck_109 : chkP 109 2 145445945 12 [2, 0, 0, 0, 2, 2, 2, 2, 2, 1, 1, 2] = true := by decide +kernel
set_option maxRecDepth 100000 in
theorem ck_127 : chkP 127 1 134745108 4 [0, 1, 1, 1, 0, 0, 0, 0, 1, 1, 0, 0] = true := by decide +kernel
set_option maxRecDepth 100000 in
theorem ck_181 : chkP 181 2 112869234 12 [2, 0, 0, 2, 1, 0, 2, 2, 2, 0, 2, 1] = true := by decide +kernel
set_option maxRecDepth 100000 in
theorem ck_191 : chkP 191 1 109874821 4 [0, 0, 0, 1, 1, 0, 0, 1, 0, 1, 1, 1] = true := by decide +kernel
set_option maxRecDepth 100000 in
theorem ck_263 : chkP 263 1 93634736 4 [0, 0, 1, 1, 0, 0, 0, 1, 0, 1, 0, 0] = true := by decide +kernel
set_option maxRecDepth 100000 in
theorem ck_347 : chkP 347 1 81517364 4 [1, 0, 1, 1, 0, 0, 1, 1, 1, 0, 0, 1] = true := by decide +kernel
set_option maxRecDepth 100000 in
theorem ck_353 : chkP 353 5 80821613 12 [3, 5, 5, 5, 3, 5, 3, 4, 4, 3, 5, 5] = true := by decide +kernel
set_option maxRecDepth 100000 in
theorem ck_397 : chkP 397 2 76211342 12 [2, 1, 2, 2, 0, 2, 2, 0, 1, 0, 0, 0] = true := by decide +kernel
set_option maxRecDepth 100000 in
theorem ck_467 : chkP 467 1 70267811 4 [1, 0, 1, 0, 1, 0, 0, 1, 0, 1, 1, 1] = true := by decide +kernel
set_option maxRecDepth 100000 in
theorem ck_541 : chkP 541 2 65285424 12 [2, 0, 0, 1, 2, 2, 2, 1, 0, 2, 1, 2] = true := by decide +kernel
set_option maxRecDepth 100000 in
theorem ck_599 : chkP 599 1 62044238 4 [0, 0, 0, 1, 1, 0, 0, 0, 1, 1, 1, 0] = true := by decide +kernel
set_option maxRecDepth 100000 in
theorem ck_643 : chkP 643 1 59883804 4 [1, 1, 1, 0, 1, 1, 1, 1, 0, 0, 0, 1] = true := by decide +kernel
set_option maxRecDepth 100000 in
theorem ck_673 : chkP 673 5 58533883 12 [4, 3, 5, 4, 5, 2, 5, 5, 1, 4, 5, 2] = true := by decide +kernel
set_option maxRecDepth 100000 in
theorem ck_769 : chkP 769 8 54758519 12 [7, 4, 7, 8, 8, 8, 7, 2, 8, 8, 7, 8] = true := by decide +kernel
set_option maxRecDepth 100000 in
theorem ck_853 : chkP 853 2 51992458 12 [2, 1, 2, 2, 2, 2, 2, 1, 1, 2, 0, 2] = true := by decide +kernel
set_option maxRecDepth 100000 in
theorem ck_859 : chkP 859 1 51810559 4 [1, 1, 0, 0, 1, 0, 0, 1, 1, 1, 0, 1] = true := by decide +kernel
set_option maxRecDepth 100000 in
theorem ck_887 : chkP 887 1 50986248 4 [0, 0, 1, 0, 0, 0, 1, 0, 1, 1, 1, 0] = true := by decide +kernel
set_option maxRecDepth 100000 in
theorem ck_967 : chkP 967 1 48831676 4 [0, 1, 1, 1, 0, 1, 0, 1, 1, 1, 0, 1] = true := by decide +kernel
def pl7 : List (Nat × Nat × Nat × Nat × List Nat) := [(83, 1, 166677056, 4, [1, 0, 1, 0, 0, 1, 0, 1, 0, 0, 0, 0]), (109, 2, 145445945, 12, [2, 0, 0, 0, 2, 2, 2, 2, 2, 1, 1, 2]), (127, 1, 134745108, 4, [0, 1, 1, 1, 0, 0, 0, 0, 1, 1, 0, 0]), (181, 2, 112869234, 12, [2, 0, 0, 2, 1, 0, 2, 2, 2, 0, 2, 1]), (191, 1, 109874821, 4, [0, 0, 0, 1, 1, 0, 0, 1, 0, 1, 1, 1]), (263, 1, 93634736, 4, [0, 0, 1, 1, 0, 0, 0, 1, 0, 1, 0, 0]), (347, 1, 81517364, 4, [1, 0, 1, 1, 0, 0, 1, 1, 1, 0, 0, 1]), (353, 5, 80821613, 12, [3, 5, 5, 5, 3, 5, 3, 4, 4, 3, 5, 5]), (397, 2, 76211342, 12, [2, 1, 2, 2, 0, 2, 2, 0, 1, 0, 0, 0]), (467, 1, 70267811, 4, [1, 0, 1, 0, 1, 0, 0, 1, 0, 1, 1, 1]), (541, 2, 65285424, 12, [2, 0, 0, 1, 2, 2, 2, 1, 0, 2, 1, 2]), (599, 1, 62044238, 4, [0, 0, 0, 1, 1, 0, 0, 0, 1, 1, 1, 0]), (643, 1, 59883804, 4, [1, 1, 1, 0, 1, 1, 1, 1, 0, 0, 0, 1]), (673, 5, 58533883, 12, [4, 3, 5, 4, 5, 2, 5, 5, 1, 4, 5, 2]), (769, 8, 54758519, 12, [7, 4, 7, 8, 8, 8, 7, 2, 8, 8, 7, 8]), (853, 2, 51992458, 12, [2, 1, 2, 2, 2, 2, 2, 1, 1, 2, 0, 2]), (859, 1, 51810559, 4, [1, 1, 0, 0, 1, 0, 0, 1, 1, 1, 0, 1]), (887, 1, 50986248, 4, [0, 0, 1, 0, 0, 0, 1, 0, 1, 1, 1, 0]), (967, 1, 48831676, 4, [0, 1, 1, 1, 0, 1, 0, 1, 1, 1, 0, 1])]
theorem pl7_ok : ∀ x ∈ pl7, chkP x.1 x.2.1 x.2.2.1 x.2.2.2.1 x.2.2.2.2 = true := by
  intro x hx
  simp only [pl7, List.mem_cons, List.not_mem_nil, or_false] at hx
  rcases hx with rfl | rfl | rfl | rfl | rfl | rfl | rfl | rfl | rfl | rfl | rfl | rfl | rfl | rfl | rfl | rfl | rfl | rfl | rfl
  · exact ck_83
  · exact ck_109
  · exact ck_127
  · exact ck_181
  · exact ck_191
  · exact ck_263
  · exact ck_347
  · exact ck_353
  · exact ck_397
  · exact ck_467
  · exact ck_541
  · exact ck_599
  · exact ck_643
  · exact ck_673
  · exact ck_769
  · exact ck_853
  · exact ck_859
  · exact ck_887
  · exact ck_967
end Go.Proofs.YtnjbigbiclfcoaaDoor.NT
