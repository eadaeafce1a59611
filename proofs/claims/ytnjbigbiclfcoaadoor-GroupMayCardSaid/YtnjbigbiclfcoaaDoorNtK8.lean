/- What is reckoned of primes, 8 of 8. -/
import Derived.Test.YtnjbigbiclfcoaaDoorNt4
namespace Go.Proofs.YtnjbigbiclfcoaaDoor.NT

set_option maxRecDepth 100000 in
theorem ck_61 : chkP 61 2 194424034 12 [2, 1, 1, 2, 2, 0, 2, 1, 2, 2, 2, 2] = true := by decide +kernel
set_option maxRecDepth 100000 in
theorem ck_103 : chkP 103 1 149622275 4 [0, 1, 1, 0, 1, 0, 0, 0, 0, 0, 1, 1] = true := by decide +kernel
set_option maxRecDepth 100000 in
theorem ck_107 : chkP 107 1 146798960 4 [1, 0, 1, 1, 0, 0, 1, 0, 0, 0, 1, 0] = true := by decide +kernel
set_option maxRecDepth 100000 in
theorem ck_179 : chkP 179 1 113498037 4 [1, 0, 0, 1, 1, 0, 0, 0, 1, 0, 0, 1] = true := by decide +kernel
set_option maxRecDepth 100000 in
theorem ck_257 : chkP 257 8 94721443 12 [4, 8, 8, 8, 6, 7, 5, 8, 6, 7, 7, 8] = true := by decide +kernel
set_option maxRecDepth 100000 in
theorem ck_313 : chkP 313 3 85830708 12 [2, 0, 3, 3, 1, 2, 3, 1, 3, 2, 3, 3] = true := by decide +kernel
set_option maxRecDepth 100000 in
theorem ck_367 : chkP 367 1 79265067 4 [0, 1, 1, 0, 1, 0, 1, 1, 0, 1, 0, 0] = true := by decide +kernel
set_option maxRecDepth 100000 in
theorem ck_421 : chkP 421 2 74007173 12 [2, 0, 1, 1, 0, 2, 1, 2, 2, 2, 0, 2] = true := by decide +kernel
set_option maxRecDepth 100000 in
theorem ck_431 : chkP 431 1 73143583 4 [0, 0, 0, 1, 0, 1, 1, 0, 0, 0, 1, 1] = true := by decide +kernel
set_option maxRecDepth 100000 in
theorem ck_487 : chkP 487 1 68809814 4 [0, 1, 1, 1, 1, 1, 1, 0, 1, 0, 0, 1] = true := by decide +kernel
set_option maxRecDepth 100000 in
theorem ck_571 : chkP 571 1 63547257 4 [1, 1, 0, 1, 0, 0, 1, 1, 0, 0, 0, 0] = true := by decide +kernel
set_option maxRecDepth 100000 in
theorem ck_577 : chkP 577 6 63215992 12 [4, 4, 6, 6, 5, 6, 5, 4, 5, 6, 1, 6] = true := by decide +kernel
set_option maxRecDepth 100000 in
theorem ck_641 : chkP 641 7 59977153 12 [6, 7, 6, 6, 5, 2, 7, 7, 7, 7, 7, 5] = true := by decide +kernel
set_option maxRecDepth 100000 in
theorem ck_647 : chkP 647 1 59698404 4 [0, 0, 1, 0, 1, 0, 0, 1, 1, 0, 0, 1] = true := by decide +kernel
set_option maxRecDepth 100000 in
theorem ck_733 : chkP 733 2 56087086 12 [2, 0, 2, 2, 2, 2, 1, 1, 2, 2, 0, 0] = true := by decide +kernel
set_option maxRecDepth 100000 in
theorem ck_743 : chkP 743 1 55708371 4 [0, 0, 1, 1, 0, 1, 1, 0, 0, 1, 0, 0] = true := by decide +kernel
set_option maxRecDepth 100000 in
theorem ck_811 : chkP 811 1 53321755 4 [1, 1, 0, 0, 0, 1, 1, 0, 1, 0, 1, 0] = true := by decide +kernel
set_option maxRecDepth 100000 in
theorem ck_919 : chkP 919 1 50090701 4 [0, 1, 0, 1, 0, 0, 0, 1, 0, 0, 1, 1] = true := by decide +kernel
set_option maxRecDepth 100000 in
theorem ck_929 : chkP 929 5 49820377 12 [4, 5, 3, 5, 4, 5, 5, 2, 2, 4, 5, 3] = true := by decide +kernel
set_option maxRecDepth 100000 in
theorem ck_941 : chkP 941 2 49501693 12 [2, 2, 0, 2, 2, 2, 2, 2, 2, 1, 2, 1] = true := by decide +kernel
def pl8 : List (Nat × Nat × Nat × Nat × List Nat) := [(61, 2, 194424034, 12, [2, 1, 1, 2, 2, 0, 2, 1, 2, 2, 2, 2]), (103, 1, 149622275, 4, [0, 1, 1, 0, 1, 0, 0, 0, 0, 0, 1, 1]), (107, 1, 146798960, 4, [1, 0, 1, 1, 0, 0, 1, 0, 0, 0, 1, 0]), (179, 1, 113498037, 4, [1, 0, 0, 1, 1, 0, 0, 0, 1, 0, 0, 1]), (257, 8, 94721443, 12, [4, 8, 8, 8, 6, 7, 5, 8, 6, 7, 7, 8]), (313, 3, 85830708, 12, [2, 0, 3, 3, 1, 2, 3, 1, 3, 2, 3, 3]), (367, 1, 79265067, 4, [0, 1, 1, 0, 1, 0, 1, 1, 0, 1, 0, 0]), (421, 2, 74007173, 12, [2, 0, 1, 1, 0, 2, 1, 2, 2, 2, 0, 2]), (431, 1, 73143583, 4, [0, 0, 0, 1, 0, 1, 1, 0, 0, 0, 1, 1]), (487, 1, 68809814, 4, [0, 1, 1, 1, 1, 1, 1, 0, 1, 0, 0, 1]), (571, 1, 63547257, 4, [1, 1, 0, 1, 0, 0, 1, 1, 0, 0, 0, 0]), (577, 6, 63215992, 12, [4, 4, 6, 6, 5, 6, 5, 4, 5, 6, 1, 6]), (641, 7, 59977153, 12, [6, 7, 6, 6, 5, 2, 7, 7, 7, 7, 7, 5]), (647, 1, 59698404, 4, [0, 0, 1, 0, 1, 0, 0, 1, 1, 0, 0, 1]), (733, 2, 56087086, 12, [2, 0, 2, 2, 2, 2, 1, 1, 2, 2, 0, 0]), (743, 1, 55708371, 4, [0, 0, 1, 1, 0, 1, 1, 0, 0, 1, 0, 0]), (811, 1, 53321755, 4, [1, 1, 0, 0, 0, 1, 1, 0, 1, 0, 1, 0]), (919, 1, 50090701, 4, [0, 1, 0, 1, 0, 0, 0, 1, 0, 0, 1, 1]), (929, 5, 49820377, 12, [4, 5, 3, 5, 4, 5, 5, 2, 2, 4, 5, 3]), (941, 2, 49501693, 12, [2, 2, 0, 2, 2, 2, 2, 2, 2, 1, 2, 1])]
theorem pl8_ok : ∀ x ∈ pl8, chkP x.1 x.2.1 x.2.2.1 x.2.2.2.1 x.2.2.2.2 = true := by
  intro x hx
  simp only [pl8, List.mem_cons, List.not_mem_nil, or_false] at hx
  rcases hx with rfl | rfl | rfl | rfl | rfl | rfl | rfl | rfl | rfl | rfl | rfl | rfl | rfl | rfl | rfl | rfl | rfl | rfl | rfl | rfl
  · exact ck_61
  · exact ck_103
  · exact ck_107
  · exact ck_179
  · exact ck_257
  · exact ck_313
  · exact ck_367
  · exact ck_421
  · exact ck_431
  · exact ck_487
  · exact ck_571
  · exact ck_577
  · exact ck_641
  · exact ck_647
  · exact ck_733
  · exact ck_743
  · exact ck_811
  · exact ck_919
  · exact ck_929
  · exact ck_941
end Go.Proofs.YtnjbigbiclfcoaaDoor.NT
