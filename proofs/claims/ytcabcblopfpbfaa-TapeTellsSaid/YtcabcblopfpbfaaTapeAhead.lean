/- consistorylaw12.TapeAhead, walked: it answers true for every numbers told ahead, every seed, every bound. -/
import Derived.Test.YtcabcblopfpbfaaTapeBelow
namespace Go.Proofs.Ytcabcblopfpbfaa
open Go.RowKit

theorem TS.own_next (q s d : Int) : (TS.next q ⟨[], s, d⟩) = ⟨[], drawS q s, d + 1⟩ := rfl
theorem TS.own_val (q s d : Int) : TS.val q ⟨[], s, d⟩ = drawX q s := rfl
/-- What a tape tells of its own does not hang on how many draws were made. -/
theorem TS.vals_d (q : Int) : ∀ (n : Nat) (s d d' : Int), TS.vals q n ⟨[], s, d⟩ = TS.vals q n ⟨[], s, d'⟩
  | 0, _, _, _ => rfl
  | n + 1, s, d, d' => by
    simp only [TS.vals, TS.own_next, TS.own_val]
    rw [TS.vals_d q n (drawS q s) (d + 1) (d' + 1)]
theorem drop_next (l : List Int) (j : Nat) (h : j < l.length) (s d : Int) (q : Int) : TS.next q ⟨l.drop j, s, d⟩ = ⟨l.drop (j + 1), s, d + 1⟩ := by
  rw [List.drop_eq_getElem_cons h]
  rfl
theorem drop_val (l : List Int) (j : Nat) (h : j < l.length) (s d : Int) (q : Int) : TS.val q ⟨l.drop j, s, d⟩ = belowI l[j] q := by
  rw [List.drop_eq_getElem_cons h]
  rfl
theorem drop_end (l : List Int) (s d : Int) : (⟨l.drop l.length, s, d⟩ : TS) = ⟨[], s, d⟩ := by rw [List.drop_length]

set_option maxHeartbeats 1000000 in
theorem ahead_law (v0 : Value) (l0 : List Int) (s q : Int) (w : World) (h0 : SlArg w v0 l0) (hs : U64 s) (hq : U64 q) :
    Calls Try.prog 5 #[v0, .int .u64 s, .int .u64 q] w fun e w' => e = .returned (.bool true) ∧ w.grownBy w' none := by
  obtain ⟨h0, u0⟩ := h0
  obtain ⟨A, c, rfl, hr, hl, hm⟩ := h0
  have H0 : Hid (SlIs w (.slice A l0.length c) l0) := Lib.hid ⟨A, c, rfl, hr, hl, hm⟩
  have HW := Lib.hid (works_any w)
  have HS := Lib.hid hs
  have U0 := Lib.hid u0
  have HQ := Lib.hid hq
  obtain ⟨q0, q1⟩ := hq
  clear hr hs u0
  by_cases hb0 : 500 < l0.length
  · have hb0' : decide ((500 : Int) < (l0.length : Int)) = true := by simp; omega
    go_enter Try.func5, Try.ntmps5
    go_wp2_with fail
    refine HW.out.mono ?_
    rintro e w1 ⟨rfl, hg⟩
    have HG := Lib.hid hg
    clear hg
    go_wp2_with fail
    refine (works_any w1).mono ?_
    rintro e w2 ⟨rfl, hg⟩
    have HG2 := Lib.hid (grown_up HG.out hg (by simp))
    clear hg
    go_wp2
    go_ret
    exact ⟨rfl, HG2.out⟩
  · have hb0' : decide ((500 : Int) < (l0.length : Int)) = false := by simp; omega
    go_enter Try.func5, Try.ntmps5
    go_wp2_with fail
    refine HW.out.mono ?_
    rintro e w1 ⟨rfl, hg⟩
    have HG := Lib.hid hg
    clear hg
    go_wp2_with fail
    refine (of_made _ l0 s w1 (H0.out.kept HG.out) (by omega)).mono ?_
    rintro e w2 ⟨b, ga, rfl, ht, hb, hga, hgl, hg⟩
    have HT : Hid (TapeIs w2 b ga ⟨l0, s, 0⟩) := Lib.hid ht
    have HG2 := Lib.hid (grown_up HG.out hg (by simp))
    have HB : Hid (w.heap.size ≤ b ∧ w.heap.size ≤ ga ∧ b < w2.heap.size ∧ ga < w2.heap.size) := Lib.hid ⟨Nat.le_trans HG.out.size hb, Nat.le_trans HG.out.size hga, ht.lt, hgl⟩
    clear ht hb hga hgl hg
    go_wp2_with fail
    refine (new_made s w2).mono ?_
    rintro e w3 ⟨b2, ga2, rfl, ht, hb, hga, hgl, hg⟩
    have HU : Hid (TapeIs w3 b2 ga2 ⟨[], s, 0⟩) := Lib.hid ht
    have HT3 := Lib.hid (HT.out.kept hg)
    have HG3 := Lib.hid (grown_up HG2.out hg (by simp))
    have HB2 : Hid (b < b2 ∧ ga < b2 ∧ b < ga2 ∧ ga2 < w3.heap.size ∧ ga < w3.heap.size ∧ w.heap.size ≤ b2) := Lib.hid (by have := HB.out; have := hg.size; have := HG2.out.size; omega)
    clear ht hb hga hgl hg
    go_wp2_with fail
    go_loopg [9] l0.length (fun g s9 wx => ∃ j : Nat, j + g = l0.length ∧ s9 = .int .i64 j ∧ Hid (TapeIs wx b ga ⟨l0.drop j, s, j⟩ ∧ TapeIs wx b2 ga2 ⟨[], s, 0⟩ ∧ w.grownBy wx none ∧ w3.heap.size ≤ wx.heap.size))
    case atStart => exact ⟨0, by omega, rfl, Lib.hid ⟨HT3.out, HU.out, HG3.out, Nat.le_refl _⟩⟩
    case round =>
      obtain ⟨j, hj, rfl, HX⟩ := hrel
      cases gk with
      | zero =>
        obtain rfl : j = l0.length := by omega
        obtain ⟨t1, t2, t3, t4⟩ := HX.out
        rw [drop_end] at t1
        have HD := Lib.hid (draws_any b ga q 10 ⟨[], s, l0.length⟩ wr t1 ⟨by simp, HS.out, by show (0 : Int) ≤ (l0.length : Int); omega, by show (l0.length : Int) < _; omega⟩ HQ.out (by decide) (by show (l0.length : Int) + 10 < _; omega) (by have := HB2.out; omega))
        have HX2 := Lib.hid (And.intro t2 (And.intro t3 t4))
        clear t1 t2 t3 t4 HX
        go_wp2_with fail
        refine HD.out.mono ?_
        rintro e w4 ⟨g, rfl, hk, hgb, ht, hg⟩
        obtain ⟨t2, t3, t4⟩ := HX2.out
        have hB2 := HB2.out
        have hB := HB.out
        have HE := Lib.hid (draws_any b2 ga2 q 10 ⟨[], s, 0⟩ w4 (t2.grown hg (by simp; omega) (by simp; omega)) ⟨by simp, HS.out, Int.le_refl _, by show (0 : Int) < _; decide⟩ HQ.out (by decide) (by show (0 : Int) + 10 < _; decide) (by have := hg.size; omega))
        have HK := Lib.hid hk
        have HG4 := Lib.hid (grown_tape t3 hg hB.1)
        have HGB : Hid (wr.heap.size ≤ g ∧ g < w4.heap.size ∧ b2 < wr.heap.size) := Lib.hid ⟨hgb, hk.lt, t2.lt⟩
        clear hk hgb ht hg t2 t3 t4 hB2 hB
        go_wp2_with fail
        refine HE.out.mono ?_
        rintro e w5 ⟨g2, rfl, hk, hgb, ht, hg⟩
        have HK5 : Hid (Bk w5 g 23 (nums (TS.vals q 10 ⟨[], s, l0.length⟩)).toArray) := Lib.hid (HK.out.grown hg (by have := HGB.out; simp; omega))
        rw [TS.vals_d q 10 s 0 l0.length] at hk
        have HK6 := Lib.hid hk
        have HG5 := Lib.hid (grown_tape HG4.out hg HB2.out.2.2.2.2.2)
        have hlen := TS.vals_length q 10 ⟨[], s, l0.length⟩
        have HN := nums_any (some ⟨g, 0, none⟩) (some ⟨g2, 0, none⟩) 10 10 (TS.vals q 10 ⟨[], s, l0.length⟩) (TS.vals q 10 ⟨[], s, l0.length⟩) w5 HK5.out.rd HK6.out.rd (by rw [hlen]; decide) (by rw [hlen]; decide)
        rw [hlen, decide_eq_true rfl] at HN
        have HNN := Lib.hid HN
        clear hk hgb ht hg HN hlen
        go_wp2_with fail
        refine HNN.out.mono ?_
        rintro e w6 ⟨rfl, n, rfl⟩
        go_wp2
        go_ret
        exact ⟨rfl, grownBy_drewN HG5.out n⟩
      | succ k =>
        have hjn : (j : Int) < (l0.length : Int) := by omega
        have hjN : j < l0.length := by omega
        obtain ⟨g, o, rfl, hcell⟩ := H0.out.far hjN
        have hx := U0.out l0[j] (List.getElem_mem hjN)
        obtain ⟨t1, t2, t3, t4⟩ := HX.out
        have hok : TS.ok ⟨l0.drop j, s, j⟩ := ⟨fun x hx => U0.out x (List.mem_of_mem_drop hx), HS.out, by show (0 : Int) ≤ (j : Int); omega, by show (j : Int) < _; omega⟩
        have HN := next_any b ga q _ wr t1 hok HQ.out
        have hcw := hcell wr t3
        have ev := drop_val l0 j hjN s j q
        have en := drop_next l0 j hjN s j q
        unfold Drawn at HN
        rw [ev, en] at HN
        have HNN := Lib.hid HN
        have HX2 := Lib.hid (And.intro t2 (And.intro t3 t4))
        obtain ⟨hx0, hx1⟩ := hx
        clear HN ev en t1 t2 t3 t4 HX hcell hok
        generalize l0[j] = x at *
        by_cases hqp : 0 < q
        · have hqd : decide ((0 : Int) < q) = true := by simpa using hqp
          have hv : belowI x q = x % q := by unfold belowI; rw [if_neg (by omega)]
          rw [hv] at HNN
          clear hv
          go_wp2_with fail
          refine HNN.out.mono ?_
          rintro e w4 ⟨rfl, ht, hg⟩
          have HR : Hid (TapeIs w4 b ga ⟨l0.drop (j + 1), s, (j : Int) + 1⟩ ∧ TapeIs w4 b2 ga2 ⟨[], s, 0⟩ ∧ w.grownBy w4 none ∧ w3.heap.size ≤ w4.heap.size) := Lib.hid (by
            obtain ⟨t2, t3, t4⟩ := HX2.out
            have hB := HB.out
            have hB2 := HB2.out
            exact ⟨ht, t2.grown hg (by simp; omega) (by simp; omega), grown_tape t3 hg hB.1, Nat.le_trans t4 hg.size⟩)
          clear ht hg hcw
          go_wp2
          go_roundg k
          case measure => omega
          case rel => exact ⟨j + 1, by omega, by go_num, by rw [Int.natCast_add]; exact HR⟩
        · have hqd : decide ((0 : Int) < q) = false := by simp; omega
          have hv : belowI x q = x := by unfold belowI; rw [if_pos (by omega)]
          rw [hv] at HNN
          clear hv
          go_wp2_with fail
          refine HNN.out.mono ?_
          rintro e w4 ⟨rfl, ht, hg⟩
          have HR : Hid (TapeIs w4 b ga ⟨l0.drop (j + 1), s, (j : Int) + 1⟩ ∧ TapeIs w4 b2 ga2 ⟨[], s, 0⟩ ∧ w.grownBy w4 none ∧ w3.heap.size ≤ w4.heap.size) := Lib.hid (by
            obtain ⟨t2, t3, t4⟩ := HX2.out
            have hB := HB.out
            have hB2 := HB2.out
            exact ⟨ht, t2.grown hg (by simp; omega) (by simp; omega), grown_tape t3 hg hB.1, Nat.le_trans t4 hg.size⟩)
          clear ht hg hcw
          go_wp2
          go_roundg k
          case measure => omega
          case rel => exact ⟨j + 1, by omega, by go_num, by rw [Int.natCast_add]; exact HR⟩
end Go.Proofs.Ytcabcblopfpbfaa
