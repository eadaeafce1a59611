/- The reference's Nums, and the law's works(), walked. -/
import Derived.Test.YtcabcblopfpbfaaTapeE
namespace Go.Proofs.Ytcabcblopfpbfaa
open Go.RowKit

theorem take_next (la lb : List Int) (j : Nat) (ha : j < la.length) (hb : j < lb.length) (h : la.take j = lb.take j) (hx : la[j] = lb[j]) : la.take (j + 1) = lb.take (j + 1) := by
  rw [List.take_succ_eq_append_getElem ha, List.take_succ_eq_append_getElem hb, h, hx]

set_option maxHeartbeats 400000 in
theorem nums_any (A B : Option Addr) (ca cb : Nat) (la lb : List Int) (w : World) (ha : Rd w A (nums la)) (hb : Rd w B (nums lb)) (hla : la.length ≤ 9223372036854775807) (hlb : lb.length ≤ 9223372036854775807) :
    Calls Try.prog 16 #[.slice A la.length ca, .slice B lb.length cb] w fun e w' => e = .returned (.bool (decide (la = lb))) ∧ ∃ n, w' = w.drewN n := by
  by_cases hl : la.length = lb.length
  · have hl' : ((la.length : Int) != (lb.length : Int)) = false := by simp; omega
    have HL := Lib.hid hl
    have HA := Lib.hid ha
    have HB := Lib.hid hb
    rw [← hl] at hl' ⊢
    clear hl ha hb hlb
    go_enter Try.func16, Try.ntmps16
    go_wp2_with fail
    go_loopw [5] (fun si wr => ∃ j : Nat, j ≤ la.length ∧ si = .int .i64 j ∧ Hid (la.take j = lb.take j) ∧ ∃ n, wr = w.drewN n) (fun si _ => la.length - (intOf si).toNat)
    case atStart => exact ⟨0, Nat.zero_le _, rfl, Lib.hid rfl, 0, rfl⟩
    case round =>
      obtain ⟨j, hj, rfl, HT, n, rfl⟩ := hrel
      by_cases hlt : j < la.length
      · obtain ⟨g, o, rfl, _, hc⟩ := HA.out.at (k := j) (by simpa [nums] using hlt)
        obtain ⟨g', o', rfl, _, hc'⟩ := HB.out.at (k := j) (by simpa [nums, ← HL.out] using hlt)
        have hlt' : j < lb.length := by rw [← HL.out]; exact hlt
        have c1 : w.cell? ⟨g, o + j, none⟩ = some (.int .u64 la[j]) := by rw [hc]; simp [nums]
        have c2 : w.cell? ⟨g', o' + j, none⟩ = some (.int .u64 lb[j]) := by rw [hc']; simp [nums]
        have hjI : (j : Int) < (la.length : Int) := by omega
        clear hc hc'
        by_cases hx : la[j] = lb[j]
        · have HN := Lib.hid (take_next la lb j hlt hlt' HT.out hx)
          have hx' : (la[j] != lb[j]) = false := by simpa using hx
          generalize la[j] = x at *
          generalize lb[j] = y at *
          clear hx
          go_wp2
          go_quiet (fail)
          go_wp2
          go_roundw
          case rel => exact ⟨j + 1, by omega, by go_num, HN, _, rfl⟩
          case measure => simp [intOf]; omega
        · have hx' : (la[j] != lb[j]) = true := by simpa using hx
          have HE : Hid (false = decide (la = lb)) := Lib.hid (by
            symm
            simp only [decide_eq_false_iff_not]
            rintro rfl
            exact hx rfl)
          generalize la[j] = x at *
          generalize lb[j] = y at *
          clear hx
          go_wp2
          go_quiet (fail)
          go_wp2
          go_ret
          exact ⟨congrArg Ending.returned (congrArg Value.bool HE.out), _, World.drewN_drewN _ _ _⟩
      · have hjl : j = la.length := by omega
        have HE : Hid (true = decide (la = lb)) := Lib.hid (by
          have h := HT.out
          rw [hjl, List.take_length, HL.out, List.take_length] at h
          simp [h])
        clear hjl
        go_wp2
        go_ret
        exact ⟨congrArg Ending.returned (congrArg Value.bool HE.out), _, rfl⟩
  · have hl' : ((la.length : Int) != (lb.length : Int)) = true := by simp; omega
    have HE : Hid (false = decide (la = lb)) := Lib.hid (by
      symm
      simp only [decide_eq_false_iff_not]
      rintro rfl
      exact hl rfl)
    clear hl ha hb
    go_enter Try.func16, Try.ntmps16
    go_wp2
    go_ret
    exact ⟨congrArg Ending.returned (congrArg Value.bool HE.out), 0, rfl⟩

theorem draws_0 : TS.vals 0 3 ⟨[], 0, 0⟩ = [16294208416658607535, 7960286522194355700, 487617019471545679] := by kernel_rfl
theorem own_0 : (TS.run 11 1 (TS.run 10 1 ⟨[7, 30], 0, 0⟩)).val 0 = 16294208416658607535 := by kernel_rfl
def T2 : TS := ⟨[7, 30], 0, 0⟩
theorem T2_val : T2.val 10 = 7 := by kernel_rfl
theorem T2_val1 : (T2.next 10).val 11 = 8 := by kernel_rfl
theorem T2_val2 : ((T2.next 10).next 11).val 0 = 16294208416658607535 := by kernel_rfl
theorem T2_val3 : (((T2.next 10).next 11).next 0).val 1 = 0 := by kernel_rfl
theorem T2_d : (((T2.next 10).next 11).next 0).d = 3 := by kernel_rfl
theorem u64k (a : Int) (h : 0 ≤ a ∧ a < 18446744073709551616 := by decide) : U64 a := h
theorem T2_ok : T2.ok := ⟨by intro x hx; simp [T2] at hx; rcases hx with rfl | rfl <;> exact u64k _, u64k _, by decide, by decide⟩

/-- At, of a tape. -/
theorem at_tape (b ga : Nat) (T : TS) (w : World) (h : TapeIs w b ga T) : Calls Try.prog 13 #[.pointer (some ⟨b, 0, none⟩)] w fun e w' => e = .returned (.int .i64 T.d) ∧ w' = w := by
  obtain ⟨A, c, hk, _⟩ := h
  exact at_any b T.s T.d _ w hk
theorem Bk.rd {w : World} {g : Nat} {t : TypeId} {xs : List Value} (h : Bk w g t xs.toArray) : Rd w (some ⟨g, 0, none⟩) xs := fun _ =>
  ⟨g, 0, rfl, h.lt, fun j u hu => by rw [Nat.zero_add, h.cell j]; simpa using hu⟩

set_option maxHeartbeats 1000000 in
theorem works_any (w : World) :
    Calls Try.prog 10 #[] w fun e w' => e = .returned (.bool true) ∧ w.grownBy w' none := by
  have HN := Lib.hid (new_made 0 w)
  go_enter Try.func10, Try.ntmps10
  go_wp2_with fail
  refine HN.out.mono ?_
  rintro e w1 ⟨b, ga, rfl, ht, hb, hga, hgl, hg⟩
  have HD := Lib.hid (draws_any b ga 0 3 ⟨[], 0, 0⟩ w1 ht ⟨by simp, u64k 0, by decide, by decide⟩ (u64k 0) (by decide) (by decide) hgl)
  have HG1 := Lib.hid hg
  have HB := Lib.hid hb
  clear ht hb hga hgl hg
  go_wp2_with fail
  refine HD.out.mono ?_
  rintro e w2 ⟨g, rfl, hk, hgb, ht, hg⟩
  rw [draws_0] at hk
  have HG2 : Hid (w.grownBy w2 none) := Lib.hid (grown_up HG1.out hg (by intro k hk; injection hk with hk; rw [← hk]; exact HB.out))
  have HK := Lib.hid hk
  clear hk hgb ht hg
  go_wp2_with fail
  have HU := nums_any (some ⟨g, 0, none⟩) (some ⟨w2.heap.size, 0, none⟩) 3 3 [16294208416658607535, 7960286522194355700, 487617019471545679] [16294208416658607535, 7960286522194355700, 487617019471545679] (w2.alloc (.cells #[.int .u64 16294208416658607535, .int .u64 7960286522194355700, .int .u64 487617019471545679] 23)) (HK.out.alloc _).rd (Bk.new w2 _ _ : Bk _ _ _ (nums [16294208416658607535, 7960286522194355700, 487617019471545679]).toArray).rd (by decide) (by decide)
  rw [decide_eq_true (rfl : ([16294208416658607535, 7960286522194355700, 487617019471545679] : List Int) = _)] at HU
  refine HU.mono ?_
  clear HU
  rintro e w3 ⟨rfl, n, rfl⟩
  have HG3 : Hid (w.grownBy ((w2.alloc (.cells #[.int .u64 16294208416658607535, .int .u64 7960286522194355700, .int .u64 487617019471545679] 23)).drewN n) none) := Lib.hid (grownBy_drewN (grown_up HG2.out (World.grownBy_alloc w2 _ none) (by simp)) n)
  generalize (w2.alloc (.cells #[.int .u64 16294208416658607535, .int .u64 7960286522194355700, .int .u64 487617019471545679] 23)).drewN n = w4 at *
  go_wp2_with fail
  have HS : SlIs (w4.alloc (.cells #[.int .u64 7, .int .u64 30] 23)) (.slice (some ⟨w4.heap.size, 0, none⟩) 2 2) [7, 30] := ⟨some ⟨w4.heap.size, 0, none⟩, 2, rfl, (Bk.new w4 _ _ : Bk _ _ _ (nums [7, 30]).toArray).rd, by decide, by decide⟩
  refine (of_made _ [7, 30] 0 _ HS (by decide)).mono ?_
  clear HS
  rintro e w5 ⟨b2, ga2, rfl, ht, hb, hga, hgl, hg⟩
  have HB2 : Hid (w.heap.size ≤ b2) := Lib.hid (Nat.le_trans (Nat.le_trans HG3.out.size (by simp)) hb)
  have HG5 : Hid (w.grownBy w5 none) := Lib.hid (grown_up (grown_up HG3.out (World.grownBy_alloc w4 _ none) (by simp)) hg (by simp))
  have HT0 : Hid (TapeIs w5 b2 ga2 T2) := Lib.hid ht
  clear ht hb hga hgl hg
  have o1 := TS.ok_next (q := 10) T2_ok (by decide)
  have o2 := TS.ok_next (q := 11) o1 (by decide)
  have o3 := TS.ok_next (q := 0) o2 (by decide)
  have O1 := Lib.hid o1
  have O2 := Lib.hid o2
  have O3 := Lib.hid o3
  clear o1 o2 o3
  go_wp2_with fail
  refine (next_any b2 ga2 10 T2 w5 HT0.out T2_ok (u64k 10)).mono ?_
  rintro e w6 ⟨rfl, ht, hg⟩
  rw [T2_val]
  have HT1 := Lib.hid ht
  have HG6 := Lib.hid (HG5.out.but (some b2) |>.trans hg)
  clear ht hg
  go_wp2_with fail
  refine (next_any b2 ga2 11 (T2.next 10) w6 HT1.out O1.out (u64k 11)).mono ?_
  rintro e w7 ⟨rfl, ht, hg⟩
  rw [T2_val1]
  have HT2 := Lib.hid ht
  have HG7 := Lib.hid (HG6.out.trans hg)
  clear ht hg
  go_wp2_with fail
  refine (next_any b2 ga2 0 ((T2.next 10).next 11) w7 HT2.out O2.out (u64k 0)).mono ?_
  rintro e w8 ⟨rfl, ht, hg⟩
  rw [T2_val2]
  have HT3 := Lib.hid ht
  have HG8 := Lib.hid (HG7.out.trans hg)
  clear ht hg
  go_wp2_with fail
  refine (at_tape b2 ga2 _ w8 HT3.out).mono ?_
  rintro e w9 ⟨rfl, hw⟩
  rw [T2_d, hw]
  clear hw
  go_wp2_with fail
  refine (next_any b2 ga2 1 (((T2.next 10).next 11).next 0) w8 HT3.out O3.out (u64k 1)).mono ?_
  rintro e w10 ⟨rfl, ht, hg⟩
  rw [T2_val3]
  have HG9 := Lib.hid (HG8.out.trans hg)
  clear ht hg
  go_wp2
  go_ret
  have h := HG9.out
  exact ⟨rfl, h.os, h.tape, h.output, h.size, fun k hk _ => h.block k hk (by intro e; injection e with e; have := HB2.out; omega)⟩
end Go.Proofs.Ytcabcblopfpbfaa
