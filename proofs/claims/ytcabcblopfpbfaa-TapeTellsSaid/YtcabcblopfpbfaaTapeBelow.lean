/- consistorylaw12.TapeBelow, walked: it answers true for every numbers told ahead, every seed, all bounds. -/
import Derived.Test.YtcabcblopfpbfaaTapeF
import Derived.Test.YtcabcblopfpbfaaArgs
namespace Go.Proofs.Ytcabcblopfpbfaa
open Go.RowKit

def TS.runL : List Int → TS → TS
  | [], T => T
  | q :: r, T => TS.runL r (T.next q)
theorem TS.runL_snoc : ∀ (l : List Int) (q : Int) (T : TS), T.runL (l ++ [q]) = (T.runL l).next q
  | [], _, _ => rfl
  | p :: r, q, T => TS.runL_snoc r q (T.next p)
theorem TS.ok_runL : ∀ (l : List Int) (T : TS), T.ok → T.d + l.length < 4611686018427387904 → (T.runL l).ok ∧ (T.runL l).d = T.d + l.length
  | [], T, h, _ => ⟨h, by simp [TS.runL]⟩
  | q :: r, T, h, hd => by
    simp only [List.length_cons] at hd ⊢
    have h1 := TS.ok_next (q := q) h (by omega)
    have h2 := TS.ok_runL r (T.next q) h1 (by rw [TS.next_d]; omega)
    refine ⟨h2.1, ?_⟩
    show ((T.next q).runL r).d = _
    rw [h2.2, TS.next_d]
    omega
theorem belowI_lt (x q : Int) (h : 0 < q) : 0 ≤ belowI x q ∧ belowI x q < q := by
  unfold belowI
  rw [if_neg (by omega)]
  exact emod_bd x q h
theorem TS.val_lt {q : Int} (T : TS) (h : 0 < q) : 0 ≤ T.val q ∧ T.val q < q := by
  obtain ⟨l, s, d⟩ := T
  cases l with
  | nil => exact belowI_lt _ _ h
  | cons x l => exact belowI_lt _ _ h
theorem TS.ok_start {l : List Int} {s : Int} (hl : ∀ x ∈ l, U64 x) (hs : U64 s) : TS.ok ⟨l, s, 0⟩ := ⟨hl, hs, Int.le_refl _, by show (0 : Int) < _; decide⟩
/-- Element k of a slice that came in, where it lies; and that it lies there still. -/
theorem SlIs.far {w : World} {A : Option Addr} {n c : Nat} {l : List Int} (h : SlIs w (.slice A n c) l) {k : Nat} (hk : k < l.length) : ∃ g o, A = some ⟨g, o, none⟩ ∧ ∀ w', w.grownBy w' none → w'.cell? ⟨g, o + k, none⟩ = some (.int .u64 l[k]) := by
  obtain ⟨A', c', e, hr, _, _⟩ := h
  injection e with e1 _ _
  subst e1
  obtain ⟨g, o, e, hg, hc⟩ := hr.at (k := k) (by simpa [nums] using hk)
  refine ⟨g, o, e, fun w' hw => ?_⟩
  rw [World.cell?_of_block (w := w) (hw.block g hg (by simp)), hc]
  simp [nums]
theorem grown_tape {w w0 w1 : World} {b : Nat} (h : w.grownBy w0 none) (k : w0.grownBy w1 (some b)) (hb : w.heap.size ≤ b) : w.grownBy w1 none := grown_up h k (by intro g e; injection e with e; omega)
theorem SlIs.cell {w : World} {v : Value} {l : List Int} (h : SlIs w v l) {k : Nat} (hk : k < l.length) : ∃ g o c, v = .slice (some ⟨g, o, none⟩) l.length c ∧ g < w.heap.size ∧ w.cell? ⟨g, o + k, none⟩ = some (.int .u64 l[k]) := by
  obtain ⟨A, c, rfl, hr, _, _⟩ := h
  obtain ⟨g, o, rfl, hg, hc⟩ := hr.at (k := k) (by simpa [nums] using hk)
  exact ⟨g, o, c, rfl, hg, by rw [hc]; simp [nums]⟩

set_option maxHeartbeats 1000000 in
theorem below_law (v0 : Value) (l0 : List Int) (s : Int) (v2 : Value) (l2 : List Int) (w : World) (h0 : SlArg w v0 l0) (hs : U64 s) (h2 : SlArg w v2 l2) :
    Calls Try.prog 3 #[v0, .int .u64 s, v2] w fun e w' => e = .returned (.bool true) ∧ w.grownBy w' none := by
  obtain ⟨h0, u0⟩ := h0
  obtain ⟨h2, u2⟩ := h2
  obtain ⟨A, c, rfl, hr, hl, hm⟩ := h0
  obtain ⟨B, d, rfl, hr2, hl2, hm2⟩ := h2
  have H0 : Hid (SlIs w (.slice A l0.length c) l0) := Lib.hid ⟨A, c, rfl, hr, hl, hm⟩
  have H2 : Hid (SlIs w (.slice B l2.length d) l2) := Lib.hid ⟨B, d, rfl, hr2, hl2, hm2⟩
  have HW := Lib.hid (works_any w)
  have HS := Lib.hid hs
  have U0 := Lib.hid u0
  have U2 := Lib.hid u2
  clear hr hr2 hs u0 u2
  by_cases hb0 : 500 < l0.length
  · have hb0' : decide ((500 : Int) < (l0.length : Int)) = true := by simp; omega
    go_enter Try.func3, Try.ntmps3
    go_wp2_with fail
    refine HW.out.mono ?_
    rintro e w1 ⟨rfl, hg⟩
    have HG := Lib.hid hg
    clear hg
    go_wp2_with fail
    refine (works_any w1).mono ?_
    rintro e w2 ⟨rfl, hg⟩
    have HG2 := Lib.hid (grown_up HG.out hg (by simp))
    clear hg
    go_wp2
    go_ret
    exact ⟨rfl, HG2.out⟩
  · have hb0' : decide ((500 : Int) < (l0.length : Int)) = false := by simp; omega
    by_cases hb2 : 500 < l2.length
    · have hb2' : decide ((500 : Int) < (l2.length : Int)) = true := by simp; omega
      go_enter Try.func3, Try.ntmps3
      go_wp2_with fail
      refine HW.out.mono ?_
      rintro e w1 ⟨rfl, hg⟩
      have HG := Lib.hid hg
      clear hg
      go_wp2_with fail
      refine (works_any w1).mono ?_
      rintro e w2 ⟨rfl, hg⟩
      have HG2 := Lib.hid (grown_up HG.out hg (by simp))
      clear hg
      go_wp2
      go_ret
      exact ⟨rfl, HG2.out⟩
    · have hb2' : decide ((500 : Int) < (l2.length : Int)) = false := by simp; omega
      go_enter Try.func3, Try.ntmps3
      go_wp2_with fail
      refine HW.out.mono ?_
      rintro e w1 ⟨rfl, hg⟩
      have HG := Lib.hid hg
      clear hg
      go_wp2_with fail
      refine (of_made _ l0 s w1 (H0.out.kept HG.out) (by omega)).mono ?_
      rintro e w2 ⟨b, ga, rfl, ht, hb, hga, hgl, hg⟩
      have HT : Hid (TapeIs w2 b ga ⟨l0, s, 0⟩) := Lib.hid ht
      have HG2 := Lib.hid (grown_up HG.out hg (by simp))
      have HB : Hid (w.heap.size ≤ b) := Lib.hid (Nat.le_trans HG.out.size hb)
      have HOK : Hid (TS.ok ⟨l0, s, 0⟩) := Lib.hid (TS.ok_start U0.out HS.out)
      clear ht hb hga hgl hg
      go_wp2_with fail
      go_loopg [8] l2.length (fun g s8 wx => ∃ j : Nat, j + g = l2.length ∧ s8 = .int .i64 j ∧ Hid (TapeIs wx b ga (TS.runL (l2.take j) ⟨l0, s, 0⟩) ∧ w.grownBy wx none))
      case atStart => exact ⟨0, by omega, rfl, Lib.hid ⟨HT.out, HG2.out⟩⟩
      case round =>
        obtain ⟨j, hj, rfl, HX⟩ := hrel
        cases gk with
        | zero =>
          obtain rfl : j = l2.length := by omega
          go_wp2
          go_ret
          exact ⟨rfl, HX.out.2⟩
        | succ k =>
          have hjn : (j : Int) < (l2.length : Int) := by omega
          have hjN : j < l2.length := by omega
          obtain ⟨g, o, rfl, hcell⟩ := H2.out.far hjN
          have hq := U2.out l2[j] (List.getElem_mem hjN)
          have hok := TS.ok_runL (l2.take j) ⟨l0, s, 0⟩ HOK.out (by simp; omega)
          have hlen : (l2.take j).length = j := by rw [List.length_take]; omega
          rw [hlen] at hok
          have hrun : TS.runL (l2.take (j + 1)) ⟨l0, s, 0⟩ = (TS.runL (l2.take j) ⟨l0, s, 0⟩).next l2[j] := by rw [List.take_succ_eq_append_getElem hjN, TS.runL_snoc]
          have hHX := HX.out
          generalize l2[j] = q at *
          generalize hTT : TS.runL (l2.take j) ⟨l0, s, 0⟩ = T at *
          obtain ⟨hok1, hok2⟩ := hok
          have HN := Lib.hid (next_any b ga q T wr hHX.1 hok1 hq)
          have HG3 := Lib.hid hHX.2
          have HD : Hid (T.d = (j : Int)) := Lib.hid (by rw [hok2]; simp)
          have HR := Lib.hid hrun
          have HC := Lib.hid hcell
          have hcw := hcell wr hHX.2
          obtain ⟨hq0, _⟩ := hq
          clear hrun hHX hok1 hok2 hlen hTT HX hcell
          go_wp2_with fail
          refine HN.out.mono ?_
          rintro e w3 ⟨rfl, ht, hg⟩
          have HG4 := Lib.hid (grown_tape HG3.out hg HB.out)
          have hc3 := HC.out w3 HG4.out
          have HA := Lib.hid (at_tape b ga (T.next q) w3 ht)
          have HTN : Hid (TapeIs w3 b ga (TS.runL (l2.take (j + 1)) ⟨l0, s, 0⟩)) := Lib.hid (by rw [HR.out]; exact ht)
          have hd : (T.next q).d = (j : Int) + 1 := by rw [TS.next_d, HD.out]
          rw [hd] at HA
          clear hcw ht hg hd
          by_cases hqp : 0 < q
          · obtain ⟨v0, v1⟩ := TS.val_lt T hqp
            have d1 : decide ((0 : Int) < q) = true := by simpa using hqp
            have d2 : decide (q ≤ T.val q) = false := by simp; omega
            go_wp2_with fail
            refine HA.out.mono ?_
            rintro e w4 ⟨rfl, hw⟩
            rw [hw]
            clear hw
            go_wp2
            go_roundg k
            case measure => omega
            case rel => exact ⟨j + 1, by omega, by go_num, Lib.hid ⟨HTN.out, HG4.out⟩⟩
          · have d1 : decide ((0 : Int) < q) = false := by simp; omega
            go_wp2_with fail
            refine HA.out.mono ?_
            rintro e w4 ⟨rfl, hw⟩
            rw [hw]
            clear hw
            go_wp2
            go_roundg k
            case measure => omega
            case rel => exact ⟨j + 1, by omega, by go_num, Lib.hid ⟨HTN.out, HG4.out⟩⟩
end Go.Proofs.Ytcabcblopfpbfaa
