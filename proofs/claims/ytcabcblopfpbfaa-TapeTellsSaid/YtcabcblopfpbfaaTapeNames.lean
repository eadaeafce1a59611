/- consistorylaw12.TapeNames, walked: the examples, the limits, and what is asked of nil. -/
import Derived.Test.YtcabcblopfpbfaaTapeAhead
namespace Go.Proofs.Ytcabcblopfpbfaa
open Go.RowKit

theorem next_nil (q : Int) (w : World) : Calls Try.prog 12 #[.pointer none, .int .u64 q] w fun e w' => e = .returned (.int .u64 0) ∧ w' = w := by
  go_enter Try.func12, Try.ntmps12
  go_wp2
  go_ret
  exact ⟨rfl, rfl⟩
theorem draws_nil (n q : Int) (w : World) : Calls Try.prog 15 #[.pointer none, .int .i64 n, .int .u64 q] w fun e w' => e = .returned (.slice none 0 0) ∧ w' = w := by
  go_enter Try.func15, Try.ntmps15
  go_wp2
  go_ret
  exact ⟨rfl, rfl⟩
theorem at_nil (w : World) : Calls Try.prog 13 #[.pointer none] w fun e w' => e = .returned (.int .i64 0) ∧ w' = w := by
  go_enter Try.func13, Try.ntmps13
  go_wp2
  go_ret
  exact ⟨rfl, rfl⟩
theorem copy_nil (w : World) : Calls Try.prog 17 #[.pointer none] w fun e w' => e = .returned (.pointer none) ∧ w' = w := by
  go_enter Try.func17, Try.ntmps17
  go_wp2
  go_ret
  exact ⟨rfl, rfl⟩
theorem draws_out (b : Nat) (n q : Int) (w : World) (h : n < 0 ∨ 1024 < n) : Calls Try.prog 15 #[.pointer (some ⟨b, 0, none⟩), .int .i64 n, .int .u64 q] w fun e w' => e = .returned (.slice none 0 0) ∧ w' = w := by
  by_cases h0 : n < 0
  · have h0' : decide (n < 0) = true := by simpa using h0
    clear h
    go_enter Try.func15, Try.ntmps15
    go_wp2
    go_ret
    exact ⟨rfl, rfl⟩
  · have h0' : decide (n < 0) = false := by simpa using h0
    have h1 : 1024 < n := h.resolve_left h0
    have h1' : decide (1024 < n) = true := by simpa using h1
    clear h
    go_enter Try.func15, Try.ntmps15
    go_wp2
    go_ret
    exact ⟨rfl, rfl⟩

def Tn : TS := ⟨[], 0, 0⟩
theorem Tn_val : Tn.val 9223372036854775809 = 7960286522194355700 := by kernel_rfl
theorem Tn_d : (Tn.next 9223372036854775809).d = 1 := by kernel_rfl
theorem Tn_val2 : (Tn.next 9223372036854775809).val 0 = 487617019471545679 := by kernel_rfl
theorem Tn_val3 : Tn.val 0 = 16294208416658607535 := by kernel_rfl
def Tm : TS := ⟨[18446744073709551615], 0, 0⟩
theorem Tm_val : Tm.val 9223372036854775809 = 9223372036854775806 := by kernel_rfl
theorem Tn_ok : Tn.ok := TS.ok_start (by simp) (u64k 0)
theorem Tm_ok : Tm.ok := TS.ok_start (by intro x hx; simp at hx; subst hx; exact u64k _) (u64k 0)

set_option maxHeartbeats 1000000 in
theorem names_law (w : World) :
    Calls Try.prog 7 #[] w fun e w' => e = .returned (.bool true) ∧ w.grownBy w' none := by
  have HW := Lib.hid (works_any w)
  go_enter Try.func7, Try.ntmps7
  go_wp2_with fail
  refine HW.out.mono ?_
  rintro e w1 ⟨rfl, hg⟩
  have HG := Lib.hid hg
  clear hg
  go_wp2_with fail
  refine (next_nil 5 w1).mono ?_
  rintro e w2 ⟨rfl, rfl⟩
  go_wp2_with fail
  refine (draws_nil 3 5 _).mono ?_
  rintro e w2 ⟨rfl, rfl⟩
  go_wp2_with fail
  refine (at_nil _).mono ?_
  rintro e w2 ⟨rfl, rfl⟩
  go_wp2_with fail
  refine (copy_nil _).mono ?_
  rintro e w2 ⟨rfl, rfl⟩
  go_wp2_with fail
  refine (new_made 0 w2).mono ?_
  rintro e w3 ⟨b, ga, rfl, ht, hb, hga, hgl, hg⟩
  have HT := Lib.hid ht
  have HB : Hid (w.heap.size ≤ b ∧ ga < w3.heap.size) := Lib.hid ⟨Nat.le_trans HG.out.size hb, hgl⟩
  have HG3 := Lib.hid (grown_up HG.out hg (by simp))
  clear ht hb hga hgl hg
  go_wp2_with fail
  refine (draws_out b (-1) 5 w3 (.inl (by decide))).mono ?_
  rintro e w4 ⟨rfl, rfl⟩
  go_wp2_with fail
  refine (draws_out b 1025 5 _ (.inr (by decide))).mono ?_
  rintro e w5 ⟨rfl, rfl⟩
  go_wp2_with fail
  refine (at_tape b ga _ _ HT.out).mono ?_
  rintro e w6 ⟨rfl, rfl⟩
  go_wp2_with fail
  refine (draws_any b ga 5 1024 Tn _ HT.out Tn_ok (u64k 5) (by decide) (by decide) HB.out.2).mono ?_
  rintro e w7 ⟨g, rfl, hk, hgb, ht, hg⟩
  have hd := (TS.ok_run (q := 5) (n := 1024) Tn_ok (by decide)).2
  have HA := at_tape b ga _ w7 ht
  rw [hd] at HA
  have HAA := Lib.hid HA
  have HG7 := Lib.hid (grown_tape HG3.out hg HB.out.1)
  clear hk hgb ht hg hd HA
  go_wp2_with fail
  refine HAA.out.mono ?_
  rintro e w8 ⟨rfl, hw⟩
  rw [hw]
  clear hw
  go_wp2_with fail
  refine (new_made 0 w7).mono ?_
  rintro e w9 ⟨b2, ga2, rfl, ht, hb, hga, hgl, hg⟩
  have HB2 : Hid (w.heap.size ≤ b2) := Lib.hid (Nat.le_trans HG7.out.size hb)
  have HG9 := Lib.hid (grown_up HG7.out hg (by simp))
  have HN := next_any b2 ga2 9223372036854775809 Tn w9 ht Tn_ok (u64k _)
  unfold Drawn at HN
  rw [Tn_val] at HN
  have HNN := Lib.hid HN
  clear ht hb hga hgl hg HN
  go_wp2_with fail
  refine HNN.out.mono ?_
  rintro e w10 ⟨rfl, ht, hg⟩
  have HG10 := Lib.hid (grown_tape HG9.out hg HB2.out)
  have HA := at_tape b2 ga2 _ w10 ht
  rw [Tn_d] at HA
  have HAB := Lib.hid HA
  have HN := next_any b2 ga2 0 _ w10 ht (TS.ok_next Tn_ok (by decide)) (u64k _)
  unfold Drawn at HN
  rw [Tn_val2] at HN
  have HNM := Lib.hid HN
  clear ht hg HA HN
  go_wp2_with fail
  refine HAB.out.mono ?_
  rintro e w11 ⟨rfl, hw⟩
  rw [hw]
  clear hw
  go_wp2_with fail
  refine HNM.out.mono ?_
  rintro e w12 ⟨rfl, ht, hg⟩
  have HG12 := Lib.hid (grown_tape HG10.out hg HB2.out)
  clear ht hg
  go_wp2_with fail
  refine (of_made _ [] 0 w12 ⟨none, 0, rfl, Rd.nil _ _, Nat.le_refl _, by decide⟩ (by decide)).mono ?_
  rintro e w13 ⟨b3, ga3, rfl, ht, hb, hga, hgl, hg⟩
  have HB3 : Hid (w.heap.size ≤ b3) := Lib.hid (Nat.le_trans HG12.out.size hb)
  have HG13 := Lib.hid (grown_up HG12.out hg (by simp))
  have HN := next_any b3 ga3 0 Tn w13 ht Tn_ok (u64k _)
  unfold Drawn at HN
  rw [Tn_val3] at HN
  have HNO := Lib.hid HN
  clear ht hb hga hgl hg HN
  go_wp2_with fail
  refine HNO.out.mono ?_
  rintro e w14 ⟨rfl, ht, hg⟩
  have HG14 := Lib.hid (grown_tape HG13.out hg HB3.out)
  clear ht hg
  go_wp2_with fail
  have HS : SlIs (w14.alloc (.cells #[.int .u64 18446744073709551615] 23)) (.slice (some ⟨w14.heap.size, 0, none⟩) 1 1) [18446744073709551615] := ⟨some ⟨w14.heap.size, 0, none⟩, 1, rfl, (Bk.new w14 _ _ : Bk _ _ _ (nums [18446744073709551615]).toArray).rd, by decide, by decide⟩
  refine (of_made _ [18446744073709551615] 0 _ HS (by decide)).mono ?_
  clear HS
  rintro e w15 ⟨b4, ga4, rfl, ht, hb, hga, hgl, hg⟩
  have HG15 := Lib.hid (grown_up (grown_up HG14.out (World.grownBy_alloc w14 _ none) (by simp)) hg (by simp))
  have HB4 : Hid (w.heap.size ≤ b4) := Lib.hid (Nat.le_trans (Nat.le_trans HG14.out.size (by simp)) hb)
  have HN := next_any b4 ga4 9223372036854775809 Tm w15 ht Tm_ok (u64k _)
  unfold Drawn at HN
  rw [Tm_val] at HN
  have HNP := Lib.hid HN
  clear ht hb hga hgl hg HN
  go_wp2_with fail
  refine HNP.out.mono ?_
  rintro e w16 ⟨rfl, ht, hg⟩
  have HG16 := Lib.hid (grown_tape HG15.out hg HB4.out)
  clear ht hg
  go_wp2
  go_ret
  exact ⟨rfl, HG16.out⟩
end Go.Proofs.Ytcabcblopfpbfaa
