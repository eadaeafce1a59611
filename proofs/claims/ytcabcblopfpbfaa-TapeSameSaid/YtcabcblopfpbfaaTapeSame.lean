/- consistorylaw12.TapeSame, walked: it answers true for every numbers told ahead, seed, bounds ahead, bounds behind. -/
import Derived.Test.YtcabcblopfpbfaaTapeG
import Derived.Test.YtcabcblopfpbfaaTapeJumps
import Derived.Deep.RegionHeld3
namespace Go.Proofs.Ytcabcblopfpbfaa
open Go.RowKit

set_option maxHeartbeats 1000000 in
theorem same_law (v0 : Value) (l0 : List Int) (s : Int) (v2 : Value) (l2 : List Int) (v3 : Value) (l3 : List Int) (w : World) (h0 : SlArg w v0 l0) (hs : U64 s) (h2 : SlArg w v2 l2) (h3 : SlArg w v3 l3) :
    Calls Try.prog 9 #[v0, .int .u64 s, v2, v3] w fun e w' => e = .returned (.bool true) ∧ w.grownBy w' none := by
  obtain ⟨h0, u0⟩ := h0
  obtain ⟨h2, u2⟩ := h2
  obtain ⟨h3, u3⟩ := h3
  obtain ⟨A, c, rfl, hr, hl, hm⟩ := h0
  obtain ⟨B, d, rfl, hr2, hl2, hm2⟩ := h2
  obtain ⟨C, f, rfl, hr3, hl3, hm3⟩ := h3
  have H0 : Hid (SlIs w (.slice A l0.length c) l0) := Lib.hid ⟨A, c, rfl, hr, hl, hm⟩
  have H2 : Hid (SlIs w (.slice B l2.length d) l2) := Lib.hid ⟨B, d, rfl, hr2, hl2, hm2⟩
  have H3 : Hid (SlIs w (.slice C l3.length f) l3) := Lib.hid ⟨C, f, rfl, hr3, hl3, hm3⟩
  have HW := Lib.hid (fun w => works_any w)
  have HS := Lib.hid hs
  have U0 := Lib.hid u0
  have U2 := Lib.hid u2
  have U3 := Lib.hid u3
  clear hr hr2 hr3 hs u0 u2 u3
  by_cases hb : 500 < l0.length ∨ 500 < l2.length ∨ 500 < l3.length
  · by_cases hb0 : 500 < l0.length
    · have hb0' : decide ((500 : Int) < (l0.length : Int)) = true := by simp; omega
      clear hb hb0
      go_enter Try.func9, Try.ntmps9
      go_wp2_with fail
      refine (HW.out _).mono ?_
      rintro e w1 ⟨rfl, hg⟩
      have HG := Lib.hid hg
      clear hg
      go_wp2_with fail
      refine (HW.out w1).mono ?_
      rintro e w2 ⟨rfl, hg⟩
      have HG2 := Lib.hid (grown_up HG.out hg (by simp))
      clear hg
      go_wp2
      go_ret
      exact ⟨rfl, HG2.out⟩
    · have hb0' : decide ((500 : Int) < (l0.length : Int)) = false := by simp; omega
      by_cases hb2 : 500 < l2.length
      · have hb2' : decide ((500 : Int) < (l2.length : Int)) = true := by simp; omega
        clear hb hb0 hb2
        go_enter Try.func9, Try.ntmps9
        go_wp2_with fail
        refine (HW.out _).mono ?_
        rintro e w1 ⟨rfl, hg⟩
        have HG := Lib.hid hg
        clear hg
        go_wp2_with fail
        refine (HW.out w1).mono ?_
        rintro e w2 ⟨rfl, hg⟩
        have HG2 := Lib.hid (grown_up HG.out hg (by simp))
        clear hg
        go_wp2
        go_ret
        exact ⟨rfl, HG2.out⟩
      · have hb2' : decide ((500 : Int) < (l2.length : Int)) = false := by simp; omega
        have hb3' : decide ((500 : Int) < (l3.length : Int)) = true := by simp; omega
        clear hb hb0 hb2
        go_enter Try.func9, Try.ntmps9
        go_wp2_with fail
        refine (HW.out _).mono ?_
        rintro e w1 ⟨rfl, hg⟩
        have HG := Lib.hid hg
        clear hg
        go_wp2_with fail
        refine (HW.out w1).mono ?_
        rintro e w2 ⟨rfl, hg⟩
        have HG2 := Lib.hid (grown_up HG.out hg (by simp))
        clear hg
        go_wp2
        go_ret
        exact ⟨rfl, HG2.out⟩
  · have hb0' : decide ((500 : Int) < (l0.length : Int)) = false := by simp; omega
    have hb2' : decide ((500 : Int) < (l2.length : Int)) = false := by simp; omega
    have hb3' : decide ((500 : Int) < (l3.length : Int)) = false := by simp; omega
    go_enter Try.func9, Try.ntmps9
    go_wp2_with fail
    refine (HW.out _).mono ?_
    rintro e w1 ⟨rfl, hg⟩
    have HG := Lib.hid hg
    clear hg
    go_wp2_with fail
    refine (of_made _ l0 s w1 (H0.out.kept HG.out) (by omega)).mono ?_
    rintro e w2 ⟨b1, ga1, rfl, ht, hb, hga, hgl, hg⟩
    have HT : Hid (TapeIs w2 b1 ga1 ⟨l0, s, 0⟩) := Lib.hid ht
    have HG2 := Lib.hid (grown_up HG.out hg (by simp))
    have HB : Hid (w.heap.size ≤ b1 ∧ w.heap.size ≤ ga1 ∧ b1 < w2.heap.size ∧ ga1 < w2.heap.size) := Lib.hid ⟨Nat.le_trans HG.out.size hb, Nat.le_trans HG.out.size hga, ht.lt, hgl⟩
    clear ht hb hga hgl hg
    go_wp2_with fail
    refine (of_made _ l0 s w2 (H0.out.kept HG2.out) (by omega)).mono ?_
    rintro e w3 ⟨b2, ga2, rfl, ht, hb, hga, hgl, hg⟩
    have HT2 : Hid (TapeIs w3 b2 ga2 ⟨l0, s, 0⟩) := Lib.hid ht
    have HT1 := Lib.hid (HT.out.kept hg)
    have HG3 := Lib.hid (grown_up HG2.out hg (by simp))
    have HB2 : Hid (b1 < b2 ∧ ga1 < b2 ∧ b1 < ga2 ∧ ga2 < w3.heap.size ∧ w.heap.size ≤ b2) := Lib.hid (by have := HB.out; have := hg.size; have := HG2.out.size; omega)
    have HOK : Hid (TS.ok ⟨l0, s, 0⟩) := Lib.hid (TS.ok_start U0.out HS.out)
    clear ht hb hga hgl hg
    go_wp2_with fail
    have HTW : Hid (Two w w3 b1 ga1 b2 ga2 ⟨l0, s, 0⟩ ⟨l0, s, 0⟩) := Lib.hid (by have h := HB2.out; have k := HB.out; exact ⟨HT1.out, HT2.out, HG3.out, by omega, by omega, by omega, by omega, by have := HT2.out.lt; omega⟩)
    clear HT HG2 HB HT2 HT1 HG3 HB2
    go_loopg [11] l2.length (fun g s11 wx => ∃ j : Nat, j + g = l2.length ∧ s11 = .int .i64 j ∧ Hid (Two w wx b1 ga1 b2 ga2 (TS.runL (l2.take j) ⟨l0, s, 0⟩) (TS.runL (l2.take j) ⟨l0, s, 0⟩)))
    case atStart => exact ⟨0, by omega, rfl, HTW⟩
    case round =>
      obtain ⟨j, hj, rfl, HX⟩ := hrel
      cases gk with
      | zero =>
        obtain rfl : j = l2.length := by omega
        have hok := TS.runL_take_ok l2 l2.length (Nat.le_refl _) _ HOK.out (by show (0 : Int) + _ < _; omega)
        have hlen := TS.runL_ahead_le (l2.take l2.length) ⟨l0, s, 0⟩
        have HXX := HX.out
        generalize TS.runL (l2.take l2.length) ⟨l0, s, 0⟩ = T at *
        have HO := Lib.hid hok.1
        have HD : Hid (T.d = (l2.length : Int)) := Lib.hid (by rw [hok.2]; show (0 : Int) + _ = _; omega)
        have HCP := Lib.hid (copy_any b1 ga1 T wr HXX.1 (by have : T.ahead.length ≤ l0.length := hlen; omega))
        have HT2 := Lib.hid HXX
        clear HX HXX hok hlen HTW
        go_wp2_with fail
        refine HCP.out.mono ?_
        rintro e w4 ⟨b3, ga3, rfl, ht, hb, hga, hgl, hg⟩
        have HT4 := Lib.hid (HT2.out.copy ht hb hga hg)
        have HB4 : Hid (b1 < w4.heap.size ∧ ga1 < w4.heap.size ∧ b3 < w4.heap.size ∧ ga3 < w4.heap.size) := Lib.hid (by
          have h := HT2.out
          have h1 := h.1.lt
          have h2 := h.2.2.2.2.2.2.2
          have h3 := hg.size
          have h4 := ht.lt
          omega)
        clear ht hb hga hgl hg HT2 HCP
        obtain ⟨i0, hi, hz0, hz1, hz2⟩ := info_parts u64_info
        go_wp2_with fail
        go_loopg [13, 14] l3.length (fun g s13 s14 wx => ∃ j : Nat, j + g = l3.length ∧ s14 = .int .i64 j ∧ Hid (wx.ownsRow w4.heap.size 23 1 s13 j (nums (TS.valsL (l3.take j) T)) ∧ Two w wx b1 ga1 b3 ga3 T (TS.runL (l3.take j) T) ∧ w4.heap.size ≤ wx.heap.size))
        case atStart => exact ⟨0, by omega, rfl, Lib.hid ⟨World.ownsRow_nil _ _ _ _, HT4.out, Nat.le_refl _⟩⟩
        case round =>
          obtain ⟨j, hj, rfl, HX⟩ := hrel
          cases gk with
          | zero =>
            obtain rfl : j = l3.length := by omega
            obtain ⟨ow, tw, sz⟩ := HX.out
            rw [List.take_length] at ow tw
            obtain ⟨D, cd, rfl, hrd, hfar⟩ := own_sl ow
            have HRD := Lib.hid hrd
            have HFR := Lib.hid hfar
            have HTW := Lib.hid tw
            have HA := at_tape b1 ga1 T wr tw.1
            rw [HD.out] at HA
            have HAA := Lib.hid HA
            clear HX ow tw sz hrd hfar HA
            go_wp2_with fail
            refine HAA.out.mono ?_
            rintro e w5 ⟨rfl, hw⟩
            rw [hw]
            clear hw
            go_wp2_with fail
            go_loopg [15] l3.length (fun g s15 wx => ∃ j : Nat, j + g = l3.length ∧ s15 = .int .i64 j ∧ Hid (Two w wx b1 ga1 b3 ga3 (TS.runL (l3.take j) T) (TS.runL l3 T) ∧ Rd wx D (nums (TS.valsL l3 T))))
            case atStart => exact ⟨0, by omega, rfl, Lib.hid ⟨HTW.out, HRD.out⟩⟩
            case round =>
              obtain ⟨j, hj, rfl, HX⟩ := hrel
              cases gk with
              | zero =>
                obtain rfl : j = l3.length := by omega
                have tw := HX.out.1
                rw [List.take_length] at tw
                have hok := TS.runL_take_ok l3 l3.length (Nat.le_refl _) T HO.out (by rw [HD.out]; omega)
                rw [List.take_length] at hok
                have HO2 := Lib.hid hok.1
                have HTX := Lib.hid tw
                clear HX tw hok
                generalize TS.runL l3 T = R at *
                have HA1 := Lib.hid (at_tape b1 ga1 R wr HTX.out.1)
                have HA2 := Lib.hid (at_tape b3 ga3 R wr HTX.out.2.1)
                go_wp2_with fail
                refine HA1.out.mono ?_
                rintro e w6 ⟨rfl, hw⟩
                rw [hw]
                clear hw
                go_wp2_with fail
                refine HA2.out.mono ?_
                rintro e w6 ⟨rfl, hw⟩
                rw [hw]
                clear hw
                go_wp2_with fail
                refine (two_fst w _ b1 ga1 b3 ga3 _ _ 0 HTX HO2 (Lib.hid (u64k 0))).mono ?_
                rintro e w7 ⟨rfl, HT7, _⟩
                go_wp2_with fail
                refine (two_snd w _ b1 ga1 b3 ga3 _ _ 0 HT7 HO2 (Lib.hid (u64k 0))).mono ?_
                rintro e w8 ⟨rfl, HT8, _⟩
                go_wp2
                go_ret
                exact ⟨rfl, HT8.out.2.2.1⟩
              | succ k =>
                have hjn : (j : Int) < (l3.length : Int) := by omega
                have hjN : j < l3.length := by omega
                obtain ⟨g, o, rfl, hcell⟩ := H3.out.far hjN
                obtain ⟨g', o', rfl, hg'l, hcell'⟩ := HX.out.2.at (k := j) (by simp [nums, TS.valsL_length]; exact hjN)
                have hval : (nums (TS.valsL l3 T))[j]'(by simp [nums, TS.valsL_length]; exact hjN) = .int .u64 ((TS.runL (l3.take j) T).val l3[j]) := by rw [← TS.valsL_at l3 T j hjN]; simp [nums]
                rw [hval] at hcell'
                have hq := U3.out l3[j] (List.getElem_mem hjN)
                have HQ := Lib.hid hq
                have hok := TS.runL_take_ok l3 j (by omega) T HO.out (by rw [HD.out]; omega)
                have hstep := TS.runL_step l3 j hjN T
                have HXX := HX.out
                have HG' : Hid (b1 < g') := Lib.hid (by have h := HFR.out g' o' rfl; have := HB4.out; omega)
                clear hval
                generalize l3[j] = q at *
                generalize TS.runL (l3.take j) T = R at *
                generalize TS.runL l3 T = R3 at *
                generalize TS.valsL l3 T = V at *
                have HO2 := Lib.hid hok.1
                have HT5 := Lib.hid HXX.1
                have HRV := Lib.hid HXX.2
                have HSt := Lib.hid hstep
                have HC := Lib.hid hcell
                have hcw := hcell wr HXX.1.2.2.1
                clear HX HXX hok hstep hcell hq
                go_wp2_with fail
                go_region_held3 (fun w' => w'.cell? ⟨g, o + j, none⟩ = some (.int .u64 q) ∧ w'.cell? ⟨g', o' + j, none⟩ = some (.int .u64 (R.val q))) (first | (exact ⟨by assumption, by assumption⟩) | go_keep) (first
                  | (go_at_call 12; (with_reducible refine (two_fst w _ b1 ga1 b3 ga3 _ _ q (Two.drew HT5) HO2 HQ).mono ?_);  rintro e w' ⟨rfl, HTa, HGa⟩; have hcw' := HC.out w' HTa.out.2.2.1; have hcw'' : w'.cell? ⟨g', o' + j, none⟩ = some (.int .u64 (R.val q)) := (World.cell?_of_block (w := wr.drew) (HGa.out.block g' hg'l (by have := HG'.out; simp; omega))).trans hcell'))
                have HRW : Hid (Rd w' (some ⟨g', o', none⟩) (nums V)) := Lib.hid ((HRV.out.grown (grownBy_drewN (World.grownBy.refl wr none) 1) (by simp)).grown HGa.out (by intro g2 o2 e; injection e with e; injection e with e1 e2 e3; subst e1; have := HG'.out; simp; omega))
                go_wp2
                go_roundg k
                case measure => omega
                case rel => exact ⟨j + 1, by omega, by go_num, Lib.hid ⟨by rw [HSt.out]; exact HTa.out, HRW.out⟩⟩
          | succ k =>
            have hjn : (j : Int) < (l3.length : Int) := by omega
            have hjN : j < l3.length := by omega
            obtain ⟨g, o, rfl, hcell⟩ := H3.out.far hjN
            have hq := U3.out l3[j] (List.getElem_mem hjN)
            have HQ := Lib.hid hq
            have hok := TS.runL_take_ok l3 j (by omega) T HO.out (by rw [HD.out]; omega)
            have hstep := TS.runL_step l3 j hjN T
            have hvals := TS.valsL_step l3 j hjN T
            have hvlen : (nums (TS.valsL (l3.take j) T)).length = j := by simp [nums, TS.valsL_length]; omega
            have HXX := HX.out
            generalize l3[j] = q at *
            generalize TS.runL (l3.take j) T = R at *
            generalize TS.valsL (l3.take j) T = V at *
            have HO2 := Lib.hid hok.1
            have HT5 := Lib.hid HXX.2.1
            have HOW := Lib.hid HXX.1
            have HSZ := Lib.hid HXX.2.2
            have HSt := Lib.hid hstep
            have HVl := Lib.hid hvals
            have HVn := Lib.hid hvlen
            have hcw := hcell wr HXX.2.1.2.2.1
            clear HX HXX hok hstep hvals hvlen hcell hq
            go_wp2_with fail
            refine (two_snd w wr b1 ga1 b3 ga3 _ _ q HT5 HO2 HQ).mono ?_
            rintro e w5 ⟨rfl, HT6, HG5⟩
            have hown : w5.ownsRow w4.heap.size 23 1 u13 j (nums V) := HOW.out.kept HG5.out (by
              rcases ho : u13.ownBlock with _ | g
              · exact .inl rfl
              · right
                intro e
                injection e with e
                have := HOW.out.lt g ho
                have := HB4.out
                omega)
            have hown1 := hown.alloc (.cells #[.int .u64 (R.val q)] 23)
            have hc : ∀ j' u, ([Value.int .u64 (R.val q)] : List Value)[j']? = some u → (w5.alloc (.cells #[.int .u64 (R.val q)] 23)).cell? ((⟨w5.heap.size, 0, none⟩ : Addr).add j') = some u :=
              (Bk.new w5 23 ([Value.int .u64 (R.val q)] : List Value).toArray : Bk _ _ _ ([Value.int .u64 (R.val q)] : List Value).toArray).rd.addr
            have hbs : w4.heap.size ≤ w5.heap.size := Nat.le_trans HSZ.out HG5.out.size
            go_wp2_with (at_builtin; refine wpList_append_own _ rfl (.tmp 67) (.tmp 74) 22 rfl w4.heap.size 23 i0 (.int .u64 0) 1 8 Try.underlying22 hi hz0 hz1 hz2 rfl (by decide) _ _ _ rfl hown1 ⟨w5.heap.size, 0, none⟩ 1 1 [.int .u64 (R.val q)] rfl rfl hc (by simp [Value.oneCell']) (by unfold maxLen; omega) (by omega) (by simp; omega) ?_)
            intro v' w6 hown6 hgrow _
            have HR : Hid (w6.ownsRow w4.heap.size 23 1 v' (j + 1) (nums (TS.valsL (l3.take (j + 1)) T)) ∧ Two w w6 b1 ga1 b3 ga3 T (TS.runL (l3.take (j + 1)) T) ∧ w4.heap.size ≤ w6.heap.size) := Lib.hid (by
              rw [HVl.out, HSt.out]
              refine ⟨by simpa [nums] using hown6, ((HT6.out.up (World.grownBy_alloc w5 _ none)).far hgrow ?_), Nat.le_trans hbs (Nat.le_trans (by simp) hgrow.size)⟩
              intro g e
              have h1 := hown1.lt g e
              have h2 := HB4.out
              omega)
            clear hown6 hgrow hown hown1 hc hbs
            go_wp2
            go_roundg k
            case measure => omega
            case rel => exact ⟨j + 1, by omega, by go_num, HR⟩
      | succ k =>
        have hjn : (j : Int) < (l2.length : Int) := by omega
        have hjN : j < l2.length := by omega
        obtain ⟨g, o, rfl, hcell⟩ := H2.out.far hjN
        have hq := U2.out l2[j] (List.getElem_mem hjN)
        have HQ := Lib.hid hq
        have hok := TS.runL_take_ok l2 j (by omega) _ HOK.out (by show (0 : Int) + _ < _; omega)
        have hstep := TS.runL_step l2 j hjN ⟨l0, s, 0⟩
        have HXX := HX.out
        generalize l2[j] = q at *
        generalize TS.runL (l2.take j) ⟨l0, s, 0⟩ = T at *
        have HO := Lib.hid hok.1
        have HT2 := Lib.hid HXX
        have HSt := Lib.hid hstep
        have HC := Lib.hid hcell
        have hcw := hcell wr HXX.2.2.1
        clear HX HXX hok hstep hcell hq
        go_wp2_with fail
        go_region_held3 (fun w' => w'.cell? ⟨g, o + j, none⟩ = some (.int .u64 q)) (first | assumption | go_keep) (first
          | (go_at_call 12; (with_reducible refine (two_fst w _ b1 ga1 b2 ga2 _ _ q (Two.drew HT2) HO HQ).mono ?_);  rintro e w' ⟨rfl, HTa, _⟩; have hcw' := HC.out w' HTa.out.2.2.1)
          | (go_at_call 12; (with_reducible refine (two_snd w _ b1 ga1 b2 ga2 _ _ q HTa HO HQ).mono ?_);  rintro e w' ⟨rfl, HTb, _⟩; have hcw' := HC.out w' HTb.out.2.2.1))
        go_wp2
        go_roundg k
        case measure => omega
        case rel => exact ⟨j + 1, by omega, by go_num, Lib.hid (by rw [HSt.out]; exact HTb.out)⟩
end Go.Proofs.Ytcabcblopfpbfaa
