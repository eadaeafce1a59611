/- consistorylaw12.TapeTells, walked: tape answers as the document does, whatever is told ahead, drawn, written over. -/
import Derived.Test.YtcabcblopfpbfaaTapeFive
import Derived.Deep.CutBlock
import Derived.Deep.AppendLies
namespace Go.Proofs.Ytcabcblopfpbfaa
open Go.RowKit

theorem wpAnyH_mono {P : Program} {md : Region.Mode} {ops : Array Oper} {Q : Exit → Act → World → Prop} {S S' : World → Prop} (hS : ∀ w, S' w → S w) : ∀ (fuel : Nat) (done : Array Bool) (a : Act) (w : World), wpAnyH P md ops Q S' fuel done a w → wpAnyH P md ops Q S fuel done a w := by
  intro fuel
  induction fuel with
  | zero => intro done a w h; exact h
  | succ f ih => intro done a w h; exact ⟨h.1, fun i hi => wpOp_mono (fun a' w' k => ⟨hS _ k.1, ih _ a' w' k.2⟩) (h.2 i hi)⟩
set_option maxRecDepth 100000 in
set_option maxHeartbeats 4000000 in
theorem tells_law (v0 : Value) (l0 : List Int) (s : Int) (v2 : Value) (l2 : List Int) (n : Int) (w : World) (h0 : SlArg w v0 l0) (hs : U64 s) (h2 : SlArg w v2 l2) (hn : -9223372036854775808 ≤ n ∧ n ≤ 9223372036854775807) :
    Calls Try.prog 8 #[v0, .int .u64 s, v2, .int .i64 n] w fun e w' => e = .returned (.bool true) ∧ w.grownBy w' none := by
  obtain ⟨h0, u0⟩ := h0
  obtain ⟨h2, u2⟩ := h2
  obtain ⟨A, c, rfl, hr, hl, hm⟩ := h0
  obtain ⟨B, d, rfl, hr2, hl2, hm2⟩ := h2
  have H0 : Hid (SlIs w (.slice A l0.length c) l0) := Lib.hid ⟨A, c, rfl, hr, hl, hm⟩
  have H2 : Hid (SlIs w (.slice B l2.length d) l2) := Lib.hid ⟨B, d, rfl, hr2, hl2, hm2⟩
  have HR0 := Lib.hid hr
  have HS := Lib.hid hs
  have U0 := Lib.hid u0
  have U2 := Lib.hid u2
  clear hr hr2 hs u0 u2
  by_cases hb0 : 500 < l0.length
  · have hb0' : decide ((500 : Int) < (l0.length : Int)) = true := by simp; omega
    go_enter Try.func8, Try.ntmps8
    go_wp2
    go_ret
    exact ⟨rfl, World.grownBy.refl w none⟩
  · have hb0' : decide ((500 : Int) < (l0.length : Int)) = false := by simp; omega
    by_cases hb2 : 500 < l2.length
    · have hb2' : decide ((500 : Int) < (l2.length : Int)) = true := by simp; omega
      go_enter Try.func8, Try.ntmps8
      go_wp2
      go_ret
      exact ⟨rfl, World.grownBy.refl w none⟩
    · have hb2' : decide ((500 : Int) < (l2.length : Int)) = false := by simp; omega
      go_enter Try.func8, Try.ntmps8
      go_upto_region 3 with fail
      obtain ⟨i0, hi, hz0, hz1, hz2⟩ := info_parts u64_info
      go_cut [9] (fun s9 wx => Hid (wx.ownsRow w.heap.size 23 1 s9 l0.length (nums l0) ∧ w.grownBy wx none))
      case first =>
        have hown := World.ownsRow_made (base := w.heap.size) (e := 23) (size := 1) w #[] 0 (Nat.le_refl _) (Nat.zero_le _) rfl
        cases A with
        | none =>
          have hl0 : l0 = [] := by
            cases l0 with
            | nil => rfl
            | cons x l => obtain ⟨g, o, e, _⟩ := HR0.out (by simp [nums]); cases e
          subst hl0
          go_wp2_with fail
          go_meet
          exact Lib.hid ⟨hown, World.grownBy_alloc w _ none⟩
        | some x =>
          have hr1 : Rd (w.alloc (.cells #[] 23)) (some x) (nums l0) := HR0.out.grown (World.grownBy_alloc w _ none) (by simp)
          have hc := hr1.addr
          go_wp2_with (at_builtin; refine wpList_append_own _ rfl (.tmp 27) (.tmp 28) 22 rfl w.heap.size 23 i0 (.int .u64 0) 1 8 Try.underlying22 hi hz0 hz1 hz2 rfl (by decide) _ _ _ rfl hown x l0.length c (nums l0) rfl (by simp [nums]) hc (nums_one l0) (by unfold maxLen; omega) (by omega) (by simp) ?_)
          intro v' w1 hown1 hgrow _
          have HX : Hid (w1.ownsRow w.heap.size 23 1 v' l0.length (nums l0) ∧ w.grownBy w1 none) := Lib.hid ⟨by simpa using hown1, grown_up (World.grownBy_alloc w _ none) hgrow (by simp [Value.ownBlock])⟩
          clear hown1 hgrow hc hr1 hown
          go_wp2_with fail
          go_meet
          exact HX
      case rest =>
        obtain ⟨ow, hg⟩ := hcut.out
        obtain ⟨D, cd, rfl, hrd, hfar⟩ := own_sl ow
        have hcd := own_cap ow
        have HOW := Lib.hid ow
        have HG := Lib.hid hg
        have HIN : Hid (SlIs wc (.slice D l0.length cd) l0) := Lib.hid ⟨D, cd, rfl, hrd, hcd.1, hcd.2⟩
        clear hcut ow hg hrd hfar hi hz0 hz1 hz2
        go_wp2_with fail
        refine (of_made _ l0 s wc HIN.out (by omega)).mono ?_
        rintro e w1 ⟨b1, g1, rfl, ht, hb, hga, hgl, hg⟩
        have HT1 : Hid (TapeIs w1 b1 g1 ⟨l0, s, 0⟩ ∧ wc.grownBy w1 none ∧ wc.heap.size ≤ b1 ∧ wc.heap.size ≤ g1 ∧ b1 < w1.heap.size ∧ g1 < w1.heap.size) := Lib.hid ⟨ht, hg, hb, hga, ht.lt, hgl⟩
        clear ht hb hga hgl hg
        go_wp2_with fail
        refine (rof_made _ l0 s w1 (H0.out.kept (HG.out.trans HT1.out.2.1)) (by omega)).mono ?_
        rintro e w2 ⟨b2, g2, rfl, ht, hb, hga, hgl, hg⟩
        have HT2 : Hid (RTapeIs w2 b2 g2 ⟨l0, s, 0⟩ ∧ w1.grownBy w2 none ∧ w1.heap.size ≤ b2 ∧ w1.heap.size ≤ g2 ∧ b2 < w2.heap.size ∧ g2 < w2.heap.size) := Lib.hid ⟨ht, hg, hb, hga, ht.lt, hgl⟩
        clear ht hb hga hgl hg
        go_wp2_with fail
        refine (new_made s w2).mono ?_
        rintro e w3 ⟨b3, g3, rfl, ht, hb, hga, hgl, hg⟩
        have HT3 : Hid (TapeIs w3 b3 g3 ⟨[], s, 0⟩ ∧ w2.grownBy w3 none ∧ w2.heap.size ≤ b3 ∧ w2.heap.size ≤ g3 ∧ b3 < w3.heap.size ∧ g3 < w3.heap.size) := Lib.hid ⟨ht, hg, hb, hga, ht.lt, hgl⟩
        clear ht hb hga hgl hg
        go_wp2_with fail
        refine (rnew_made s w3).mono ?_
        rintro e w4 ⟨b4, g4, rfl, ht, hb, hga, hgl, hg⟩
        have HF : Hid (Four w w4 ⟨b1, g1, b2, g2, b3, g3, b4, g4⟩ ⟨l0, s, 0⟩ ⟨l0, s, 0⟩ ⟨[], s, 0⟩ ⟨[], s, 0⟩) := Lib.hid (by
          obtain ⟨a1, a2, a3, a4, a5, a6⟩ := HT1.out
          obtain ⟨c1, c2, c3, c4, c5, c6⟩ := HT2.out
          obtain ⟨d1, d2, d3, d4, d5, d6⟩ := HT3.out
          have hsz := HG.out.size
          have h14 : w1.grownBy w4 none := (c2.trans d2).trans hg
          have h24 : w2.grownBy w4 none := d2.trans hg
          have z1 := c2.size
          have z2 := d2.size
          have z3 := hg.size
          have z4 := ht.lt
          refine ⟨a1.kept h14, c1.kept h24, d1.kept hg, ht, (HG.out.trans a2).trans h14, ?_, ?_⟩
          · unfold Quad.sep
            simp only
            omega
          · unfold Quad.low
            simp only
            omega)
        have HOW4 : Hid (w4.ownsRow w.heap.size 23 1 (.slice D l0.length cd) l0.length (nums l0)) := Lib.hid (HOW.out.kept (((HT1.out.2.1.trans HT2.out.2.1).trans HT3.out.2.1).trans hg) (by
          rcases (Value.slice D l0.length cd).ownBlock with _ | g
          · exact .inl rfl
          · exact .inr (by simp)))
        have HLOW : Hid (∀ g, (Value.slice D l0.length cd).ownBlock = some g → w.heap.size ≤ g ∧ g < b1 ∧ g < g1) := Lib.hid (fun g e => by
          have h := HOW.out.lt g e
          have h1 := HT1.out
          omega)
        have HQS : Hid (Quad.sep ⟨b1, g1, b2, g2, b3, g3, b4, g4⟩ w.heap.size) := Lib.hid HF.out.2.2.2.2.2.1
        clear ht hb hga hgl hg HT1 HT2 HT3 HOW HIN
        go_wp2_with fail
        go_loopg [14] l0.length (fun g s14 wx => ∃ j : Nat, j + g = l0.length ∧ s14 = .int .i64 j ∧ Hid ((∃ xs, wx.ownsRow w.heap.size 23 1 (.slice D l0.length cd) l0.length xs) ∧ Four w wx ⟨b1, g1, b2, g2, b3, g3, b4, g4⟩ ⟨l0, s, 0⟩ ⟨l0, s, 0⟩ ⟨[], s, 0⟩ ⟨[], s, 0⟩))
        case atStart => exact ⟨0, by omega, rfl, Lib.hid ⟨⟨_, HOW4.out⟩, HF.out⟩⟩
        case round =>
          obtain ⟨j, hj, rfl, HX⟩ := hrel
          cases gk with
          | zero =>
            obtain rfl : j = l0.length := by omega
            have HF2 := Lib.hid HX.out.2
            clear HX HF HOW4
            go_wp2_with fail
            have HOK1 : Hid (TS.ok ⟨l0, s, 0⟩) := Lib.hid (TS.ok_start U0.out HS.out)
            have HOK2 : Hid (TS.ok ⟨[], s, 0⟩) := Lib.hid (TS.ok_start (by simp) HS.out)
            go_loopg [15] l2.length (fun g s15 wx => ∃ j : Nat, j + g = l2.length ∧ s15 = .int .i64 j ∧ Hid (Four w wx ⟨b1, g1, b2, g2, b3, g3, b4, g4⟩ (TS.runL (l2.take j) ⟨l0, s, 0⟩) (TS.runL (l2.take j) ⟨l0, s, 0⟩) (TS.runL (l2.take j) ⟨[], s, 0⟩) (TS.runL (l2.take j) ⟨[], s, 0⟩)))
            case atStart => exact ⟨0, by omega, rfl, HF2⟩
            case round =>
              obtain ⟨j, hj, rfl, HX⟩ := hrel
              cases gk with
              | zero =>
                obtain rfl : j = l2.length := by omega
                have HF3 : Hid (Four w wr ⟨b1, g1, b2, g2, b3, g3, b4, g4⟩ (TS.runL l2 ⟨l0, s, 0⟩) (TS.runL l2 ⟨l0, s, 0⟩) (TS.runL l2 ⟨[], s, 0⟩) (TS.runL l2 ⟨[], s, 0⟩)) := Lib.hid (by have := HX.out; rwa [List.take_length] at this)
                have HFIT : Hid ((TS.runL l2 ⟨l0, s, 0⟩).fit 500) := Lib.hid (by
                  have h := TS.runL_take_ok l2 l2.length (Nat.le_refl _) _ HOK1.out (by show (0 : Int) + _ < _; omega)
                  rw [List.take_length] at h
                  refine ⟨h.1, ?_, ?_⟩
                  · rw [h.2]; show (0 : Int) + _ ≤ _; omega
                  · exact Nat.le_trans (TS.runL_ahead_le l2 _) (by show l0.length ≤ 500; omega))
                clear HX HF2 HOK1 HOK2
                generalize TS.runL l2 ⟨l0, s, 0⟩ = R at *
                generalize TS.runL l2 ⟨[], s, 0⟩ = Z at *
                go_upto_if 103 with fail
                go_cut [16] (fun s16 wx => ∃ q : Int, s16 = .int .u64 q ∧ Hid (U64 q) ∧ wx = wr)
                case first =>
                  by_cases hp : 0 < l2.length
                  · have hp' : decide ((0 : Int) < (l2.length : Int)) = true := decide_eq_true (by omega)
                    obtain ⟨g, o, rfl, hcell⟩ := H2.out.far hp
                    have hcw : wr.cell? ⟨g, o, none⟩ = some (.int .u64 l2[0]) := by have := hcell wr HF3.out.2.2.2.2.1; simpa using this
                    have HQ0 := Lib.hid (U2.out l2[0] (List.getElem_mem hp))
                    clear hcell
                    generalize l2[0] = q at *
                    go_wp2_with fail
                    go_meet
                    exact ⟨q, rfl, HQ0, rfl⟩
                  · have hp' : decide ((0 : Int) < (l2.length : Int)) = false := decide_eq_false (by omega)
                    go_wp2_with fail
                    go_meet
                    exact ⟨10, rfl, Lib.hid (u64k 10), rfl⟩
                case rest =>
                  obtain ⟨q, rfl, HQ, rfl⟩ := hcut
                  have HLT : Hid (b2 < wc.heap.size) := Lib.hid HF3.out.2.2.2.2.2.2.2.2.1
                  have HLE : Hid ((R.outs n q).length ≤ 9223372036854775807) := Lib.hid (by have := TS.outs_length n q R; exact Nat.le_trans this (by decide))
                  have HFIT2 : Hid ((R.aft n q).fit 1524) := Lib.hid (TS.fit_aft n q HFIT.out (by decide))
                  go_wp2_with fail
                  refine (four_draws1 w _ ⟨b1, g1, b2, g2, b3, g3, b4, g4⟩ _ _ _ _ n q 500 HF3 HFIT (Lib.hid (by decide)) HQ).mono ?_
                  rintro e w1 ⟨A1, c1, rfl, HOUT, HF4⟩
                  go_wp2_with fail
                  refine wp_region_held_drew (S := (fun _ => True)) (by kernel_rfl) ?_ (fun hHeld => ?_)
                  · exact trivial
                  refine wpAnyH_take (i := 0) (oi := ({ dst := some 111, op := Go.Op.move (Go.Operand.tmp 17), type := 22, pos := "law.go:34", after := #[], guard := none } : Oper)) (v := ?vb0) rfl (by kernel_rfl) (by kernel_rfl) (by kernel_rfl) (fun _ _ _ h => h) (Or.inl ⟨by rfl, ?hyb0⟩) (by assumption) ?rsb0
                  case hyb0 => (intro w hSw; (try dsimp only at hSw); go_simp; first | done | with_reducible rfl)
                  try simp only [Act.put, List.setIfInBounds_toArray, List.set_cons_zero, List.set_cons_succ]
                  refine wpAnyH_take (i := 1) (oi := ({ dst := some 112, op := Go.Op.move (Go.Operand.tmp 11), type := 38, pos := "law.go:34", after := #[], guard := none } : Oper)) (v := ?vb1) rfl (by kernel_rfl) (by kernel_rfl) (by kernel_rfl) (fun _ _ _ h => h) (Or.inl ⟨by rfl, ?hyb1⟩) (by assumption) ?rsb1
                  case hyb1 => (intro w hSw; (try dsimp only at hSw); go_simp; first | done | with_reducible rfl)
                  try simp only [Act.put, List.setIfInBounds_toArray, List.set_cons_zero, List.set_cons_succ]
                  refine wpAnyH_take (i := 2) (oi := ({ dst := some 113, op := Go.Op.move (Go.Operand.tmp 3), type := 3, pos := "law.go:34", after := #[], guard := none } : Oper)) (v := ?vb2) rfl (by kernel_rfl) (by kernel_rfl) (by kernel_rfl) (fun _ _ _ h => h) (Or.inl ⟨by rfl, ?hyb2⟩) (by assumption) ?rsb2
                  case hyb2 => (intro w hSw; (try dsimp only at hSw); go_simp; first | done | with_reducible rfl)
                  try simp only [Act.put, List.setIfInBounds_toArray, List.set_cons_zero, List.set_cons_succ]
                  refine wpAnyH_take (i := 3) (oi := ({ dst := some 114, op := Go.Op.move (Go.Operand.tmp 16), type := 23, pos := "law.go:34", after := #[], guard := none } : Oper)) (v := ?vb3) rfl (by kernel_rfl) (by kernel_rfl) (by kernel_rfl) (fun _ _ _ h => h) (Or.inl ⟨by rfl, ?hyb3⟩) (by assumption) ?rsb3
                  case hyb3 => (intro w hSw; (try dsimp only at hSw); go_simp; first | done | with_reducible rfl)
                  try simp only [Act.put, List.setIfInBounds_toArray, List.set_cons_zero, List.set_cons_succ]
                  refine wpAnyH_ready (rs := [4]) (by kernel_rfl) (by simp) ?_
                  refine AllReadyH.cons (o := ({ dst := some 115, op := Go.Op.call { callee := Go.Callee.value (Go.Operand.func 21), args := #[Go.Operand.tmp 112, Go.Operand.tmp 113, Go.Operand.tmp 114], argTypes := #[38, 3, 23] }, type := 22, pos := "law.go:34", after := #[{ on := 1, ground := Go.Ground.data }, { on := 2, ground := Go.Ground.data }, { on := 3, ground := Go.Ground.data }], guard := none } : Oper)) rfl (fun K hK => ?_) AllReadyH.nil
                  go_simp
                  refine (four_draws2 w _ ⟨b1, g1, b2, g2, b3, g3, b4, g4⟩ _ _ _ _ n q 500 (Four.drew HF4) HFIT (Lib.hid (by decide)) HQ).mono ?_
                  rintro e w2 ⟨A2, c2, rfl, HRD, HGR, HF5⟩
                  have HOUT2 := Lib.hid (Out.grown (w := w1.drew) HOUT.out.1 HGR.out HLT.out)
                  go_wp2_with fail
                  refine hK.out _ _ ?_ (fun hHeld => ?_)
                  · trivial
                  clear hK K
                  try simp only [Act.put, List.setIfInBounds_toArray, List.set_cons_zero, List.set_cons_succ]
                  refine wpAnyH_ready (rs := [5]) (by kernel_rfl) (by simp) ?_
                  refine AllReadyH.cons (o := ({ dst := some 116, op := Go.Op.call { callee := Go.Callee.value (Go.Operand.func 16), args := #[Go.Operand.tmp 111, Go.Operand.tmp 115], argTypes := #[22, 22] }, type := 4, pos := "law.go:34", after := #[{ on := 0, ground := Go.Ground.data }, { on := 4, ground := Go.Ground.data }, { on := 4, ground := Go.Ground.chain }], guard := none } : Oper)) rfl (fun K hK => ?_) AllReadyH.nil
                  go_simp
                  refine (nums_any A1 A2 c1 c2 _ _ _ HOUT2.out.1 HRD.out HLE.out HLE.out).mono ?_
                  rintro e w3 ⟨rfl, nn, hw⟩
                  subst hw
                  have HF6 : Hid (Four w (w2.drewN nn) ⟨b1, g1, b2, g2, b3, g3, b4, g4⟩ (R.aft n q) (R.aft n q) Z Z) := Lib.hid (HF5.out.up (grownBy_drewN (World.grownBy.refl w2 none) nn))
                  go_wp2_with fail
                  refine hK.out _ _ ?_ (fun hHeld => ?_)
                  · trivial
                  clear hK K
                  try simp only [Act.put, List.setIfInBounds_toArray, List.set_cons_zero, List.set_cons_succ]
                  refine wpAnyH_take (i := 6) (oi := ({ dst := some 117, op := Go.Op.unOp Go.UnOp.not 4 (Go.Operand.tmp 116), type := 4, pos := "law.go:34", after := #[{ on := 5, ground := Go.Ground.data }], guard := none } : Oper)) (v := ?vb6) rfl (by kernel_rfl) (by kernel_rfl) (by kernel_rfl) (fun _ _ _ h => h) (Or.inl ⟨by rfl, ?hyb6⟩) (by assumption) ?rsb6
                  case hyb6 => (intro w hSw; (try dsimp only at hSw); go_simp; first | done | with_reducible rfl)
                  try simp only [Act.put, List.setIfInBounds_toArray, List.set_cons_zero, List.set_cons_succ]
                  refine wpAnyH_take (i := 7) (oi := ({ dst := some 118, op := Go.Op.move (Go.Operand.tmp 117), type := 4, pos := "law.go:34", after := #[{ on := 6, ground := Go.Ground.data }, { on := 5, ground := Go.Ground.chain }], guard := none } : Oper)) (v := ?vb7) rfl (by kernel_rfl) (by kernel_rfl) (by kernel_rfl) (fun _ _ _ h => h) (Or.inl ⟨by rfl, ?hyb7⟩) (by assumption) ?rsb7
                  case hyb7 => (intro w hSw; (try dsimp only at hSw); go_simp; first | done | with_reducible rfl)
                  try simp only [Act.put, List.setIfInBounds_toArray, List.set_cons_zero, List.set_cons_succ]
                  refine wpAnyH_take (i := 8) (oi := ({ dst := some 119, op := Go.Op.move (Go.Operand.tmp 10), type := 25, pos := "law.go:34", after := #[{ on := 7, ground := Go.Ground.guard }], guard := some (7, false) } : Oper)) (v := ?vb8) rfl (by kernel_rfl) (by kernel_rfl) (by kernel_rfl) (fun _ _ _ h => h) (Or.inl ⟨by rfl, ?hyb8⟩) (by assumption) ?rsb8
                  case hyb8 => (intro w hSw; (try dsimp only at hSw); go_simp; first | done | with_reducible rfl)
                  try simp only [Act.put, List.setIfInBounds_toArray, List.set_cons_zero, List.set_cons_succ]
                  refine wpAnyH_take (i := 10) (oi := ({ dst := some 121, op := Go.Op.move (Go.Operand.tmp 11), type := 38, pos := "law.go:34", after := #[{ on := 7, ground := Go.Ground.guard }], guard := some (7, false) } : Oper)) (v := ?vb10) rfl (by kernel_rfl) (by kernel_rfl) (by kernel_rfl) (fun _ _ _ h => h) (Or.inl ⟨by rfl, ?hyb10⟩) (by assumption) ?rsb10
                  case hyb10 => (intro w hSw; (try dsimp only at hSw); go_simp; first | done | with_reducible rfl)
                  try simp only [Act.put, List.setIfInBounds_toArray, List.set_cons_zero, List.set_cons_succ]
                  refine wpAnyH_take (i := 11) (oi := ({ dst := some 122, op := Go.Op.nilCheck (Go.Operand.tmp 121), type := 0, pos := "law.go:34", after := #[{ on := 10, ground := Go.Ground.data }, { on := 7, ground := Go.Ground.guard }], guard := some (7, false) } : Oper)) (v := ?vb11) rfl (by kernel_rfl) (by kernel_rfl) (by kernel_rfl) (fun _ _ _ h => h) (Or.inl ⟨by rfl, ?hyb11⟩) (by assumption) ?rsb11
                  case hyb11 => (intro w hSw; (try dsimp only at hSw); go_simp; first | done | with_reducible rfl)
                  try simp only [Act.put, List.setIfInBounds_toArray, List.set_cons_zero, List.set_cons_succ]
                  refine wpAnyH_take (i := 12) (oi := ({ dst := some 123, op := Go.Op.fieldAddr 42 (Go.Operand.tmp 122) 2, type := 0, pos := "law.go:34", after := #[{ on := 11, ground := Go.Ground.data }, { on := 7, ground := Go.Ground.guard }], guard := some (7, false) } : Oper)) (v := ?vb12) rfl (by kernel_rfl) (by kernel_rfl) (by kernel_rfl) (fun _ _ _ h => h) (Or.inl ⟨by rfl, ?hyb12⟩) (by assumption) ?rsb12
                  case hyb12 => (intro w hSw; (try dsimp only at hSw); go_simp; first | done | with_reducible rfl)
                  try simp only [Act.put, List.setIfInBounds_toArray, List.set_cons_zero, List.set_cons_succ]
                  refine wpAnyH_mono (S' := (fun w' => w'.cell? ⟨b2, 2, none⟩ = some (.int .i64 (R.aft n q).d))) (fun _ _ => trivial) _ _ _ _ ?_
                  clear hHeld
                  have hHeld : (fun w' => w'.cell? ⟨b2, 2, none⟩ = some (.int .i64 (R.aft n q).d)) (w2.drewN nn) := HF6.out.2.1.d_cell
                  refine wpAnyH_take (i := 13) (oi := ({ dst := some 124, op := Go.Op.load 3 (Go.Operand.tmp 123), type := 3, pos := "law.go:34", after := #[{ on := 12, ground := Go.Ground.data }, { on := 7, ground := Go.Ground.guard }], guard := some (7, false) } : Oper)) (v := ?vb13) rfl (by kernel_rfl) (by kernel_rfl) (by kernel_rfl) (fun _ _ _ h => h) (Or.inl ⟨by rfl, ?hyb13⟩) (by assumption) ?rsb13
                  case hyb13 => (intro w hSw; (try dsimp only at hSw); go_simp; first | done | with_reducible rfl)
                  try simp only [Act.put, List.setIfInBounds_toArray, List.set_cons_zero, List.set_cons_succ]
                  refine wpAnyH_ready (rs := [9]) (by kernel_rfl) (by simp) ?_
                  refine AllReadyH.cons (o := ({ dst := some 120, op := Go.Op.call { callee := Go.Callee.value (Go.Operand.func 13), args := #[Go.Operand.tmp 119], argTypes := #[25] }, type := 3, pos := "law.go:34", after := #[{ on := 8, ground := Go.Ground.data }, { on := 7, ground := Go.Ground.chain }, { on := 7, ground := Go.Ground.guard }], guard := some (7, false) } : Oper)) rfl (fun K hK => ?_) AllReadyH.nil
                  go_simp
                  refine (four_at1 w _ ⟨b1, g1, b2, g2, b3, g3, b4, g4⟩ _ _ _ _ HF6).mono ?_
                  rintro e w4 ⟨rfl, hw⟩
                  subst hw
                  go_wp2_with fail
                  refine hK.out _ _ ?_ (fun hHeld => ?_)
                  · exact hHeld
                  clear hK K
                  try simp only [Act.put, List.setIfInBounds_toArray, List.set_cons_zero, List.set_cons_succ]
                  refine wpAnyH_take (i := 14) (oi := ({ dst := some 125, op := Go.Op.binOp Go.BinOp.neq 3 (Go.Operand.tmp 120) (Go.Operand.tmp 124) 3, type := 4, pos := "law.go:34", after := #[{ on := 9, ground := Go.Ground.data }, { on := 13, ground := Go.Ground.data }, { on := 7, ground := Go.Ground.guard }], guard := some (7, false) } : Oper)) (v := ?vb14) rfl (by kernel_rfl) (by kernel_rfl) (by kernel_rfl) (fun _ _ _ h => h) (Or.inl ⟨by rfl, ?hyb14⟩) (by assumption) ?rsb14
                  case hyb14 => (intro w hSw; (try dsimp only at hSw); go_simp; first | done | with_reducible rfl)
                  try simp only [Act.put, List.setIfInBounds_toArray, List.set_cons_zero, List.set_cons_succ]
                  refine wpAnyH_take (i := 15) (oi := ({ dst := some 126, op := Go.Op.pick (Go.Operand.tmp 118) (Go.Operand.const (Go.Value.bool true)) (Go.Operand.tmp 125), type := 4, pos := "law.go:34", after := #[{ on := 7, ground := Go.Ground.data }, { on := 14, ground := Go.Ground.data }], guard := none } : Oper)) (v := ?vb15) rfl (by kernel_rfl) (by kernel_rfl) (by kernel_rfl) (fun _ _ _ h => h) (Or.inl ⟨by rfl, ?hyb15⟩) (by assumption) ?rsb15
                  case hyb15 => (intro w hSw; (try dsimp only at hSw); go_simp; first | done | with_reducible rfl)
                  try simp only [Act.put, List.setIfInBounds_toArray, List.set_cons_zero, List.set_cons_succ]
                  refine wpAnyH_done (by kernel_rfl) ?_ _
                  go_wp2_with fail
                  have HL : Hid ((R.outs n q).length ≤ 1024) := Lib.hid (TS.outs_length n q R)
                  have HBK : Hid (0 < (R.outs n q).length → ∃ gg cs, A1 = some ⟨gg, 0, none⟩ ∧ wc.heap.size ≤ gg ∧ cs.size = (R.outs n q).length ∧ Bk (w2.drewN nn) gg 23 cs) := Lib.hid (fun hp => by
                    obtain ⟨gg, e, hk, hb⟩ := HOUT2.out.2 hp
                    exact ⟨gg, _, e, hk, by simp [nums], hb⟩)
                  have HLOW : Hid (w.heap.size ≤ wc.heap.size ∧ Quad.low ⟨b1, g1, b2, g2, b3, g3, b4, g4⟩ wc.heap.size) := Lib.hid ⟨HF3.out.2.2.2.2.1.size, HF3.out.2.2.2.2.2.2⟩
                  clear HOUT HOUT2 HRD HGR HF3 HF4 HF5 HLT HLE HFIT hHeld
                  generalize R.outs n q = L at *
                  generalize R.aft n q = V at *
                  go_loopg [18] L.length (fun g s18 wx => ∃ j : Nat, j + g = L.length ∧ s18 = .int .i64 j ∧ Hid ((0 < L.length → ∃ gg cs, A1 = some ⟨gg, 0, none⟩ ∧ wc.heap.size ≤ gg ∧ cs.size = L.length ∧ Bk wx gg 23 cs) ∧ Four w wx ⟨b1, g1, b2, g2, b3, g3, b4, g4⟩ V V Z Z))
                  case atStart => exact ⟨0, by omega, rfl, Lib.hid ⟨HBK.out, HF6.out⟩⟩
                  case round =>
                    obtain ⟨j, hj, rfl, HX⟩ := hrel
                    cases gk with
                    | zero =>
                      obtain rfl : j = L.length := by omega
                      have HF7 := Lib.hid HX.out.2
                      have HFIT3 : Hid ((V.next q).fit 1525) := Lib.hid (TS.fit_next q HFIT2.out (by decide))
                      have HQ0 := Lib.hid (u64k 0)
                      clear HX HBK HF6
                      go_wp2_with fail
                      refine wp_region_held_drew (S := (fun _ => True)) (by kernel_rfl) ?_ (fun hHeld => ?_)
                      · exact trivial
                      refine wpAnyH_take (i := 0) (oi := ({ dst := some 136, op := Go.Op.move (Go.Operand.tmp 10), type := 25, pos := "law.go:40", after := #[], guard := none } : Oper)) (v := ?vc0) rfl (by kernel_rfl) (by kernel_rfl) (by kernel_rfl) (fun _ _ _ h => h) (Or.inl ⟨by rfl, ?hyc0⟩) (by assumption) ?rsc0
                      case hyc0 => (intro w hSw; (try dsimp only at hSw); go_simp; first | done | with_reducible rfl)
                      try simp only [Act.put, List.setIfInBounds_toArray, List.set_cons_zero, List.set_cons_succ]
                      refine wpAnyH_take (i := 1) (oi := ({ dst := some 137, op := Go.Op.move (Go.Operand.tmp 16), type := 23, pos := "law.go:40", after := #[], guard := none } : Oper)) (v := ?vc1) rfl (by kernel_rfl) (by kernel_rfl) (by kernel_rfl) (fun _ _ _ h => h) (Or.inl ⟨by rfl, ?hyc1⟩) (by assumption) ?rsc1
                      case hyc1 => (intro w hSw; (try dsimp only at hSw); go_simp; first | done | with_reducible rfl)
                      try simp only [Act.put, List.setIfInBounds_toArray, List.set_cons_zero, List.set_cons_succ]
                      refine wpAnyH_take (i := 3) (oi := ({ dst := some 139, op := Go.Op.move (Go.Operand.tmp 11), type := 38, pos := "law.go:40", after := #[], guard := none } : Oper)) (v := ?vc3) rfl (by kernel_rfl) (by kernel_rfl) (by kernel_rfl) (fun _ _ _ h => h) (Or.inl ⟨by rfl, ?hyc3⟩) (by assumption) ?rsc3
                      case hyc3 => (intro w hSw; (try dsimp only at hSw); go_simp; first | done | with_reducible rfl)
                      try simp only [Act.put, List.setIfInBounds_toArray, List.set_cons_zero, List.set_cons_succ]
                      refine wpAnyH_take (i := 4) (oi := ({ dst := some 140, op := Go.Op.move (Go.Operand.tmp 16), type := 23, pos := "law.go:40", after := #[], guard := none } : Oper)) (v := ?vc4) rfl (by kernel_rfl) (by kernel_rfl) (by kernel_rfl) (fun _ _ _ h => h) (Or.inl ⟨by rfl, ?hyc4⟩) (by assumption) ?rsc4
                      case hyc4 => (intro w hSw; (try dsimp only at hSw); go_simp; first | done | with_reducible rfl)
                      try simp only [Act.put, List.setIfInBounds_toArray, List.set_cons_zero, List.set_cons_succ]
                      refine wpAnyH_ready (rs := [2]) (by kernel_rfl) (by simp) ?_
                      refine AllReadyH.cons (o := ({ dst := some 138, op := Go.Op.call { callee := Go.Callee.value (Go.Operand.func 12), args := #[Go.Operand.tmp 136, Go.Operand.tmp 137], argTypes := #[25, 23] }, type := 23, pos := "law.go:40", after := #[{ on := 0, ground := Go.Ground.data }, { on := 1, ground := Go.Ground.data }], guard := none } : Oper)) rfl (fun K hK => ?_) AllReadyH.nil
                      go_simp
                      refine (four_1 w _ ⟨b1, g1, b2, g2, b3, g3, b4, g4⟩ _ _ _ _ q (Four.drew HF7) (Lib.hid HFIT2.out.1) HQ).mono ?_
                      rintro e y1 ⟨rfl, HFa⟩
                      go_wp2_with fail
                      refine hK.out _ _ ?_ (fun hHeld => ?_)
                      · trivial
                      clear hK K
                      try simp only [Act.put, List.setIfInBounds_toArray, List.set_cons_zero, List.set_cons_succ]
                      refine wpAnyH_ready (rs := [5]) (by kernel_rfl) (by simp) ?_
                      refine AllReadyH.cons (o := ({ dst := some 141, op := Go.Op.call { callee := Go.Callee.value (Go.Operand.func 20), args := #[Go.Operand.tmp 139, Go.Operand.tmp 140], argTypes := #[38, 23] }, type := 23, pos := "law.go:40", after := #[{ on := 3, ground := Go.Ground.data }, { on := 4, ground := Go.Ground.data }, { on := 2, ground := Go.Ground.chain }], guard := none } : Oper)) rfl (fun K hK => ?_) AllReadyH.nil
                      go_simp
                      refine (four_2 w _ ⟨b1, g1, b2, g2, b3, g3, b4, g4⟩ _ _ _ _ q HFa (Lib.hid HFIT2.out.1) HQ).mono ?_
                      rintro e y2 ⟨rfl, HFb⟩
                      go_wp2_with fail
                      refine hK.out _ _ ?_ (fun hHeld => ?_)
                      · trivial
                      clear hK K
                      try simp only [Act.put, List.setIfInBounds_toArray, List.set_cons_zero, List.set_cons_succ]
                      refine wpAnyH_take (i := 6) (oi := ({ dst := some 142, op := Go.Op.binOp Go.BinOp.eql 23 (Go.Operand.tmp 138) (Go.Operand.tmp 141) 23, type := 4, pos := "law.go:40", after := #[{ on := 2, ground := Go.Ground.data }, { on := 5, ground := Go.Ground.data }], guard := none } : Oper)) (v := ?vc6) rfl (by kernel_rfl) (by kernel_rfl) (by kernel_rfl) (fun _ _ _ h => h) (Or.inl ⟨by rfl, ?hyc6⟩) (by assumption) ?rsc6
                      case hyc6 => (intro w hSw; (try dsimp only at hSw); go_simp; first | done | with_reducible rfl)
                      try simp only [Act.put, List.setIfInBounds_toArray, List.set_cons_zero, List.set_cons_succ]
                      refine wpAnyH_take (i := 7) (oi := ({ dst := some 143, op := Go.Op.move (Go.Operand.tmp 142), type := 4, pos := "law.go:40", after := #[{ on := 6, ground := Go.Ground.data }, { on := 5, ground := Go.Ground.chain }], guard := none } : Oper)) (v := ?vc7) rfl (by kernel_rfl) (by kernel_rfl) (by kernel_rfl) (fun _ _ _ h => h) (Or.inl ⟨by rfl, ?hyc7⟩) (by assumption) ?rsc7
                      case hyc7 => (intro w hSw; (try dsimp only at hSw); go_simp; first | done | with_reducible rfl)
                      try simp only [Act.put, List.setIfInBounds_toArray, List.set_cons_zero, List.set_cons_succ]
                      refine wpAnyH_take (i := 8) (oi := ({ dst := some 144, op := Go.Op.move (Go.Operand.tmp 10), type := 25, pos := "law.go:40", after := #[{ on := 7, ground := Go.Ground.guard }], guard := some (7, true) } : Oper)) (v := ?vc8) rfl (by kernel_rfl) (by kernel_rfl) (by kernel_rfl) (fun _ _ _ h => h) (Or.inl ⟨by rfl, ?hyc8⟩) (by assumption) ?rsc8
                      case hyc8 => (intro w hSw; (try dsimp only at hSw); go_simp; first | done | with_reducible rfl)
                      try simp only [Act.put, List.setIfInBounds_toArray, List.set_cons_zero, List.set_cons_succ]
                      refine wpAnyH_take (i := 11) (oi := ({ dst := some 147, op := Go.Op.move (Go.Operand.tmp 11), type := 38, pos := "law.go:40", after := #[{ on := 7, ground := Go.Ground.guard }], guard := some (7, true) } : Oper)) (v := ?vc11) rfl (by kernel_rfl) (by kernel_rfl) (by kernel_rfl) (fun _ _ _ h => h) (Or.inl ⟨by rfl, ?hyc11⟩) (by assumption) ?rsc11
                      case hyc11 => (intro w hSw; (try dsimp only at hSw); go_simp; first | done | with_reducible rfl)
                      try simp only [Act.put, List.setIfInBounds_toArray, List.set_cons_zero, List.set_cons_succ]
                      refine wpAnyH_ready (rs := [9]) (by kernel_rfl) (by simp) ?_
                      refine AllReadyH.cons (o := ({ dst := some 145, op := Go.Op.call { callee := Go.Callee.value (Go.Operand.func 17), args := #[Go.Operand.tmp 144], argTypes := #[25] }, type := 25, pos := "law.go:40", after := #[{ on := 8, ground := Go.Ground.data }, { on := 7, ground := Go.Ground.chain }, { on := 7, ground := Go.Ground.guard }], guard := some (7, true) } : Oper)) rfl (fun K hK => ?_) AllReadyH.nil
                      go_simp
                      refine (four_copy1 w _ ⟨b1, g1, b2, g2, b3, g3, b4, g4⟩ _ _ _ _ HFb 1525 HFIT3).mono ?_
                      rintro e y3 ⟨b5, g5, rfl, HCa, HFc⟩
                      go_wp2_with fail
                      refine hK.out _ _ ?_ (fun hHeld => ?_)
                      · trivial
                      clear hK K
                      try simp only [Act.put, List.setIfInBounds_toArray, List.set_cons_zero, List.set_cons_succ]
                      refine wpAnyH_ready (rs := [10]) (by kernel_rfl) (by simp) ?_
                      refine AllReadyH.cons (o := ({ dst := some 146, op := Go.Op.call { callee := Go.Callee.value (Go.Operand.func 12), args := #[Go.Operand.tmp 145, Go.Operand.const (Go.Value.int Go.IntKind.u64 0)], argTypes := #[25, 23] }, type := 23, pos := "law.go:40", after := #[{ on := 9, ground := Go.Ground.data }, { on := 9, ground := Go.Ground.chain }, { on := 7, ground := Go.Ground.guard }], guard := some (7, true) } : Oper)) rfl (fun K hK => ?_) AllReadyH.nil
                      go_simp
                      refine (four_cnext1 w _ ⟨b1, g1, b2, g2, b3, g3, b4, g4⟩ _ _ _ _ _ b5 g5 0 1525 HFc HCa HFIT3 HQ0).mono ?_
                      rintro e y4 ⟨rfl, HFd⟩
                      go_wp2_with fail
                      refine hK.out _ _ ?_ (fun hHeld => ?_)
                      · trivial
                      clear hK K
                      try simp only [Act.put, List.setIfInBounds_toArray, List.set_cons_zero, List.set_cons_succ]
                      refine wpAnyH_ready (rs := [12]) (by kernel_rfl) (by simp) ?_
                      refine AllReadyH.cons (o := ({ dst := some 148, op := Go.Op.call { callee := Go.Callee.value (Go.Operand.func 22), args := #[Go.Operand.tmp 147], argTypes := #[38] }, type := 38, pos := "law.go:40", after := #[{ on := 11, ground := Go.Ground.data }, { on := 10, ground := Go.Ground.chain }, { on := 7, ground := Go.Ground.guard }], guard := some (7, true) } : Oper)) rfl (fun K hK => ?_) AllReadyH.nil
                      go_simp
                      refine (four_copy2 w _ ⟨b1, g1, b2, g2, b3, g3, b4, g4⟩ _ _ _ _ HFd 1525 HFIT3).mono ?_
                      rintro e y5 ⟨b6, g6, rfl, HCb, HFe⟩
                      go_wp2_with fail
                      refine hK.out _ _ ?_ (fun hHeld => ?_)
                      · trivial
                      clear hK K
                      try simp only [Act.put, List.setIfInBounds_toArray, List.set_cons_zero, List.set_cons_succ]
                      refine wpAnyH_ready (rs := [13]) (by kernel_rfl) (by simp) ?_
                      refine AllReadyH.cons (o := ({ dst := some 149, op := Go.Op.call { callee := Go.Callee.value (Go.Operand.func 20), args := #[Go.Operand.tmp 148, Go.Operand.const (Go.Value.int Go.IntKind.u64 0)], argTypes := #[38, 23] }, type := 23, pos := "law.go:40", after := #[{ on := 12, ground := Go.Ground.data }, { on := 12, ground := Go.Ground.chain }, { on := 7, ground := Go.Ground.guard }], guard := some (7, true) } : Oper)) rfl (fun K hK => ?_) AllReadyH.nil
                      go_simp
                      refine (four_cnext2 w _ ⟨b1, g1, b2, g2, b3, g3, b4, g4⟩ _ _ _ _ _ b6 g6 0 1525 HFe HCb HFIT3 HQ0).mono ?_
                      rintro e y6 ⟨rfl, HFf⟩
                      go_wp2_with fail
                      refine hK.out _ _ ?_ (fun hHeld => ?_)
                      · trivial
                      clear hK K
                      try simp only [Act.put, List.setIfInBounds_toArray, List.set_cons_zero, List.set_cons_succ]
                      refine wpAnyH_take (i := 14) (oi := ({ dst := some 150, op := Go.Op.binOp Go.BinOp.eql 23 (Go.Operand.tmp 146) (Go.Operand.tmp 149) 23, type := 4, pos := "law.go:40", after := #[{ on := 10, ground := Go.Ground.data }, { on := 13, ground := Go.Ground.data }, { on := 7, ground := Go.Ground.guard }], guard := some (7, true) } : Oper)) (v := ?vc14) rfl (by kernel_rfl) (by kernel_rfl) (by kernel_rfl) (fun _ _ _ h => h) (Or.inl ⟨by rfl, ?hyc14⟩) (by assumption) ?rsc14
                      case hyc14 => (intro w hSw; (try dsimp only at hSw); go_simp; first | done | with_reducible rfl)
                      try simp only [Act.put, List.setIfInBounds_toArray, List.set_cons_zero, List.set_cons_succ]
                      refine wpAnyH_take (i := 15) (oi := ({ dst := some 151, op := Go.Op.pick (Go.Operand.tmp 143) (Go.Operand.tmp 150) (Go.Operand.const (Go.Value.bool false)), type := 4, pos := "law.go:40", after := #[{ on := 7, ground := Go.Ground.data }, { on := 14, ground := Go.Ground.data }], guard := none } : Oper)) (v := ?vc15) rfl (by kernel_rfl) (by kernel_rfl) (by kernel_rfl) (fun _ _ _ h => h) (Or.inl ⟨by rfl, ?hyc15⟩) (by assumption) ?rsc15
                      case hyc15 => (intro w hSw; (try dsimp only at hSw); go_simp; first | done | with_reducible rfl)
                      try simp only [Act.put, List.setIfInBounds_toArray, List.set_cons_zero, List.set_cons_succ]
                      refine wpAnyH_take (i := 16) (oi := ({ dst := some 152, op := Go.Op.move (Go.Operand.tmp 151), type := 4, pos := "law.go:40", after := #[{ on := 15, ground := Go.Ground.data }, { on := 13, ground := Go.Ground.chain }], guard := none } : Oper)) (v := ?vc16) rfl (by kernel_rfl) (by kernel_rfl) (by kernel_rfl) (fun _ _ _ h => h) (Or.inl ⟨by rfl, ?hyc16⟩) (by assumption) ?rsc16
                      case hyc16 => (intro w hSw; (try dsimp only at hSw); go_simp; first | done | with_reducible rfl)
                      try simp only [Act.put, List.setIfInBounds_toArray, List.set_cons_zero, List.set_cons_succ]
                      refine wpAnyH_take (i := 17) (oi := ({ dst := some 153, op := Go.Op.move (Go.Operand.tmp 10), type := 25, pos := "law.go:40", after := #[{ on := 16, ground := Go.Ground.guard }], guard := some (16, true) } : Oper)) (v := ?vc17) rfl (by kernel_rfl) (by kernel_rfl) (by kernel_rfl) (fun _ _ _ h => h) (Or.inl ⟨by rfl, ?hyc17⟩) (by assumption) ?rsc17
                      case hyc17 => (intro w hSw; (try dsimp only at hSw); go_simp; first | done | with_reducible rfl)
                      try simp only [Act.put, List.setIfInBounds_toArray, List.set_cons_zero, List.set_cons_succ]
                      refine wpAnyH_take (i := 19) (oi := ({ dst := some 155, op := Go.Op.move (Go.Operand.tmp 11), type := 38, pos := "law.go:40", after := #[{ on := 16, ground := Go.Ground.guard }], guard := some (16, true) } : Oper)) (v := ?vc19) rfl (by kernel_rfl) (by kernel_rfl) (by kernel_rfl) (fun _ _ _ h => h) (Or.inl ⟨by rfl, ?hyc19⟩) (by assumption) ?rsc19
                      case hyc19 => (intro w hSw; (try dsimp only at hSw); go_simp; first | done | with_reducible rfl)
                      try simp only [Act.put, List.setIfInBounds_toArray, List.set_cons_zero, List.set_cons_succ]
                      refine wpAnyH_take (i := 20) (oi := ({ dst := some 156, op := Go.Op.nilCheck (Go.Operand.tmp 155), type := 0, pos := "law.go:40", after := #[{ on := 19, ground := Go.Ground.data }, { on := 16, ground := Go.Ground.guard }], guard := some (16, true) } : Oper)) (v := ?vc20) rfl (by kernel_rfl) (by kernel_rfl) (by kernel_rfl) (fun _ _ _ h => h) (Or.inl ⟨by rfl, ?hyc20⟩) (by assumption) ?rsc20
                      case hyc20 => (intro w hSw; (try dsimp only at hSw); go_simp; first | done | with_reducible rfl)
                      try simp only [Act.put, List.setIfInBounds_toArray, List.set_cons_zero, List.set_cons_succ]
                      refine wpAnyH_take (i := 21) (oi := ({ dst := some 157, op := Go.Op.fieldAddr 42 (Go.Operand.tmp 156) 2, type := 0, pos := "law.go:40", after := #[{ on := 20, ground := Go.Ground.data }, { on := 16, ground := Go.Ground.guard }], guard := some (16, true) } : Oper)) (v := ?vc21) rfl (by kernel_rfl) (by kernel_rfl) (by kernel_rfl) (fun _ _ _ h => h) (Or.inl ⟨by rfl, ?hyc21⟩) (by assumption) ?rsc21
                      case hyc21 => (intro w hSw; (try dsimp only at hSw); go_simp; first | done | with_reducible rfl)
                      try simp only [Act.put, List.setIfInBounds_toArray, List.set_cons_zero, List.set_cons_succ]
                      refine wpAnyH_mono (S' := (fun w' => w'.cell? ⟨b2, 2, none⟩ = some (.int .i64 (V.next q).d))) (fun _ _ => trivial) _ _ _ _ ?_
                      clear hHeld
                      have hHeld : (fun w' => w'.cell? ⟨b2, 2, none⟩ = some (.int .i64 (V.next q).d)) y6 := HFf.out.2.1.d_cell
                      refine wpAnyH_take (i := 22) (oi := ({ dst := some 158, op := Go.Op.load 3 (Go.Operand.tmp 157), type := 3, pos := "law.go:40", after := #[{ on := 21, ground := Go.Ground.data }, { on := 16, ground := Go.Ground.guard }], guard := some (16, true) } : Oper)) (v := ?vc22) rfl (by kernel_rfl) (by kernel_rfl) (by kernel_rfl) (fun _ _ _ h => h) (Or.inl ⟨by rfl, ?hyc22⟩) (by assumption) ?rsc22
                      case hyc22 => (intro w hSw; (try dsimp only at hSw); go_simp; first | done | with_reducible rfl)
                      try simp only [Act.put, List.setIfInBounds_toArray, List.set_cons_zero, List.set_cons_succ]
                      refine wpAnyH_ready (rs := [18]) (by kernel_rfl) (by simp) ?_
                      refine AllReadyH.cons (o := ({ dst := some 154, op := Go.Op.call { callee := Go.Callee.value (Go.Operand.func 13), args := #[Go.Operand.tmp 153], argTypes := #[25] }, type := 3, pos := "law.go:40", after := #[{ on := 17, ground := Go.Ground.data }, { on := 16, ground := Go.Ground.chain }, { on := 16, ground := Go.Ground.guard }], guard := some (16, true) } : Oper)) rfl (fun K hK => ?_) AllReadyH.nil
                      go_simp
                      refine (four_at1 w _ ⟨b1, g1, b2, g2, b3, g3, b4, g4⟩ _ _ _ _ HFf).mono ?_
                      rintro e y7 ⟨rfl, hw⟩
                      subst hw
                      go_wp2_with fail
                      refine hK.out _ _ ?_ (fun hHeld => ?_)
                      · exact hHeld
                      clear hK K
                      try simp only [Act.put, List.setIfInBounds_toArray, List.set_cons_zero, List.set_cons_succ]
                      refine wpAnyH_take (i := 23) (oi := ({ dst := some 159, op := Go.Op.binOp Go.BinOp.eql 3 (Go.Operand.tmp 154) (Go.Operand.tmp 158) 3, type := 4, pos := "law.go:40", after := #[{ on := 18, ground := Go.Ground.data }, { on := 22, ground := Go.Ground.data }, { on := 16, ground := Go.Ground.guard }], guard := some (16, true) } : Oper)) (v := ?vc23) rfl (by kernel_rfl) (by kernel_rfl) (by kernel_rfl) (fun _ _ _ h => h) (Or.inl ⟨by rfl, ?hyc23⟩) (by assumption) ?rsc23
                      case hyc23 => (intro w hSw; (try dsimp only at hSw); go_simp; first | done | with_reducible rfl)
                      try simp only [Act.put, List.setIfInBounds_toArray, List.set_cons_zero, List.set_cons_succ]
                      refine wpAnyH_take (i := 24) (oi := ({ dst := some 160, op := Go.Op.pick (Go.Operand.tmp 152) (Go.Operand.tmp 159) (Go.Operand.const (Go.Value.bool false)), type := 4, pos := "law.go:40", after := #[{ on := 16, ground := Go.Ground.data }, { on := 23, ground := Go.Ground.data }], guard := none } : Oper)) (v := ?vc24) rfl (by kernel_rfl) (by kernel_rfl) (by kernel_rfl) (fun _ _ _ h => h) (Or.inl ⟨by rfl, ?hyc24⟩) (by assumption) ?rsc24
                      case hyc24 => (intro w hSw; (try dsimp only at hSw); go_simp; first | done | with_reducible rfl)
                      try simp only [Act.put, List.setIfInBounds_toArray, List.set_cons_zero, List.set_cons_succ]
                      refine wpAnyH_take (i := 25) (oi := ({ dst := some 8, op := Go.Op.assign (Go.Operand.tmp 160), type := 4, pos := "law.go:40", after := #[{ on := 24, ground := Go.Ground.data }, { on := 18, ground := Go.Ground.chain }, { on := 0, ground := Go.Ground.phase }, { on := 1, ground := Go.Ground.phase }, { on := 2, ground := Go.Ground.phase }, { on := 3, ground := Go.Ground.phase }, { on := 4, ground := Go.Ground.phase }, { on := 5, ground := Go.Ground.phase }, { on := 6, ground := Go.Ground.phase }, { on := 7, ground := Go.Ground.phase }, { on := 8, ground := Go.Ground.phase }, { on := 9, ground := Go.Ground.phase }, { on := 10, ground := Go.Ground.phase }, { on := 11, ground := Go.Ground.phase }, { on := 12, ground := Go.Ground.phase }, { on := 13, ground := Go.Ground.phase }, { on := 14, ground := Go.Ground.phase }, { on := 15, ground := Go.Ground.phase }, { on := 16, ground := Go.Ground.phase }, { on := 17, ground := Go.Ground.phase }, { on := 18, ground := Go.Ground.phase }, { on := 19, ground := Go.Ground.phase }, { on := 20, ground := Go.Ground.phase }, { on := 21, ground := Go.Ground.phase }, { on := 22, ground := Go.Ground.phase }, { on := 23, ground := Go.Ground.phase }, { on := 24, ground := Go.Ground.phase }], guard := none } : Oper)) (v := ?vc25) rfl (by kernel_rfl) (by kernel_rfl) (by kernel_rfl) (fun _ _ _ h => h) (Or.inl ⟨by rfl, ?hyc25⟩) (by assumption) ?rsc25
                      case hyc25 => (intro w hSw; (try dsimp only at hSw); go_simp; first | done | with_reducible rfl)
                      try simp only [Act.put, List.setIfInBounds_toArray, List.set_cons_zero, List.set_cons_succ]
                      refine wpAnyH_done (by kernel_rfl) ?_ _
                      go_wp2
                      go_ret
                      exact ⟨rfl, HFf.out.2.2.2.2.1⟩
                    | succ k =>
                      have hjn : (j : Int) < (L.length : Int) := by omega
                      have hjm := HL.out
                      obtain ⟨gg, cs, rfl, hk, hsz, hbk⟩ := HX.out.1 (by omega)
                      have hc1 : wr.cell? ⟨gg, j, none⟩ = some (cs[j]'(by omega)) := (hbk.cell j).trans (Array.getElem?_eq_getElem (by omega))
                      have hf1 : wr.frozen? ⟨gg, j, none⟩ = false := hbk.free j
                      have HR : Hid ((0 < L.length → ∃ g' cs', (some ⟨gg, 0, none⟩ : Option Addr) = some ⟨g', 0, none⟩ ∧ wc.heap.size ≤ g' ∧ cs'.size = L.length ∧ Bk (wr.setCell ⟨gg, j, none⟩ (.int .u64 5)) g' 23 cs') ∧ Four w (wr.setCell ⟨gg, j, none⟩ (.int .u64 5)) ⟨b1, g1, b2, g2, b3, g3, b4, g4⟩ V V Z Z) := Lib.hid (by
                        refine ⟨fun _ => ⟨gg, _, rfl, hk, ?_, hbk.set j _⟩, HX.out.2.beside (grownBy_set (World.grownBy.refl wr (some gg)) j _) ?_ (HLOW.out.2.up hk)⟩
                        · simpa using hsz
                        · have := HLOW.out.1; omega)
                      clear HX hbk
                      generalize cs[j]'(by omega) = old at hc1
                      clear hsz
                      go_wp2
                      go_roundg k
                      case measure => omega
                      case rel => exact ⟨j + 1, by omega, by go_num, HR⟩
              | succ k =>
                have hjn : (j : Int) < (l2.length : Int) := by omega
                have hjN : j < l2.length := by omega
                obtain ⟨g, o, rfl, hcell⟩ := H2.out.far hjN
                have hq := U2.out l2[j] (List.getElem_mem hjN)
                have HQ := Lib.hid hq
                have hok := TS.runL_take_ok l2 j (by omega) _ HOK1.out (by show (0 : Int) + _ < _; omega)
                have hok2 := TS.runL_take_ok l2 j (by omega) _ HOK2.out (by show (0 : Int) + _ < _; omega)
                have hstep := TS.runL_step l2 j hjN ⟨l0, s, 0⟩
                have hstep2 := TS.runL_step l2 j hjN ⟨[], s, 0⟩
                have HXX := HX.out
                generalize l2[j] = q at *
                generalize TS.runL (l2.take j) ⟨l0, s, 0⟩ = R at *
                generalize TS.runL (l2.take j) ⟨[], s, 0⟩ = Z at *
                have HO := Lib.hid hok.1
                have HO2 := Lib.hid hok2.1
                have HT := Lib.hid HXX
                have HSt := Lib.hid hstep
                have HSt2 := Lib.hid hstep2
                have HC := Lib.hid hcell
                have hcw := hcell wr HXX.2.2.2.2.1
                clear HX HXX hok hok2 hstep hstep2 hcell hq
                go_wp2_with fail
                refine wp_region_held_drew (S := (fun w' => w'.cell? ⟨g, o + j, none⟩ = some (.int .u64 q))) (by kernel_rfl) ?_ (fun hHeld => ?_)
                · exact hcw
                refine wpAnyH_take (i := 0) (oi := ({ dst := some 55, op := Go.Op.move (Go.Operand.tmp 10), type := 25, pos := "law.go:25", after := #[], guard := none } : Oper)) (v := ?va0) rfl (by kernel_rfl) (by kernel_rfl) (by kernel_rfl) (fun _ _ _ h => h) (Or.inl ⟨by rfl, ?hya0⟩) (by assumption) ?rsa0
                case hya0 => (intro w hSw; (try dsimp only at hSw); go_simp; first | done | with_reducible rfl)
                try simp only [Act.put, List.setIfInBounds_toArray, List.set_cons_zero, List.set_cons_succ]
                refine wpAnyH_take (i := 1) (oi := ({ dst := some 56, op := Go.Op.move (Go.Operand.tmp 2), type := 22, pos := "law.go:25", after := #[], guard := none } : Oper)) (v := ?va1) rfl (by kernel_rfl) (by kernel_rfl) (by kernel_rfl) (fun _ _ _ h => h) (Or.inl ⟨by rfl, ?hya1⟩) (by assumption) ?rsa1
                case hya1 => (intro w hSw; (try dsimp only at hSw); go_simp; first | done | with_reducible rfl)
                try simp only [Act.put, List.setIfInBounds_toArray, List.set_cons_zero, List.set_cons_succ]
                refine wpAnyH_take (i := 2) (oi := ({ dst := some 57, op := Go.Op.move (Go.Operand.tmp 15), type := 3, pos := "law.go:25", after := #[], guard := none } : Oper)) (v := ?va2) rfl (by kernel_rfl) (by kernel_rfl) (by kernel_rfl) (fun _ _ _ h => h) (Or.inl ⟨by rfl, ?hya2⟩) (by assumption) ?rsa2
                case hya2 => (intro w hSw; (try dsimp only at hSw); go_simp; first | done | with_reducible rfl)
                try simp only [Act.put, List.setIfInBounds_toArray, List.set_cons_zero, List.set_cons_succ]
                refine wpAnyH_take (i := 3) (oi := ({ dst := some 58, op := Go.Op.indexAddr 22 (Go.Operand.tmp 56) (Go.Operand.tmp 57), type := 0, pos := "law.go:25", after := #[{ on := 1, ground := Go.Ground.data }, { on := 2, ground := Go.Ground.data }], guard := none } : Oper)) (v := ?va3) rfl (by kernel_rfl) (by kernel_rfl) (by kernel_rfl) (fun _ _ _ h => h) (Or.inl ⟨by rfl, ?hya3⟩) (by assumption) ?rsa3
                case hya3 => (intro w hSw; (try dsimp only at hSw); go_simp; first | done | with_reducible rfl)
                try simp only [Act.put, List.setIfInBounds_toArray, List.set_cons_zero, List.set_cons_succ]
                refine wpAnyH_take (i := 4) (oi := ({ dst := some 59, op := Go.Op.load 23 (Go.Operand.tmp 58), type := 23, pos := "law.go:25", after := #[{ on := 3, ground := Go.Ground.data }], guard := none } : Oper)) (v := ?va4) rfl (by kernel_rfl) (by kernel_rfl) (by kernel_rfl) (fun _ _ _ h => h) (Or.inl ⟨by rfl, ?hya4⟩) (by assumption) ?rsa4
                case hya4 => (intro w hSw; (try dsimp only at hSw); go_simp; first | done | with_reducible rfl)
                try simp only [Act.put, List.setIfInBounds_toArray, List.set_cons_zero, List.set_cons_succ]
                refine wpAnyH_take (i := 6) (oi := ({ dst := some 61, op := Go.Op.move (Go.Operand.tmp 11), type := 38, pos := "law.go:25", after := #[], guard := none } : Oper)) (v := ?va6) rfl (by kernel_rfl) (by kernel_rfl) (by kernel_rfl) (fun _ _ _ h => h) (Or.inl ⟨by rfl, ?hya6⟩) (by assumption) ?rsa6
                case hya6 => (intro w hSw; (try dsimp only at hSw); go_simp; first | done | with_reducible rfl)
                try simp only [Act.put, List.setIfInBounds_toArray, List.set_cons_zero, List.set_cons_succ]
                refine wpAnyH_take (i := 7) (oi := ({ dst := some 62, op := Go.Op.move (Go.Operand.tmp 2), type := 22, pos := "law.go:25", after := #[], guard := none } : Oper)) (v := ?va7) rfl (by kernel_rfl) (by kernel_rfl) (by kernel_rfl) (fun _ _ _ h => h) (Or.inl ⟨by rfl, ?hya7⟩) (by assumption) ?rsa7
                case hya7 => (intro w hSw; (try dsimp only at hSw); go_simp; first | done | with_reducible rfl)
                try simp only [Act.put, List.setIfInBounds_toArray, List.set_cons_zero, List.set_cons_succ]
                refine wpAnyH_take (i := 8) (oi := ({ dst := some 63, op := Go.Op.move (Go.Operand.tmp 15), type := 3, pos := "law.go:25", after := #[], guard := none } : Oper)) (v := ?va8) rfl (by kernel_rfl) (by kernel_rfl) (by kernel_rfl) (fun _ _ _ h => h) (Or.inl ⟨by rfl, ?hya8⟩) (by assumption) ?rsa8
                case hya8 => (intro w hSw; (try dsimp only at hSw); go_simp; first | done | with_reducible rfl)
                try simp only [Act.put, List.setIfInBounds_toArray, List.set_cons_zero, List.set_cons_succ]
                refine wpAnyH_take (i := 9) (oi := ({ dst := some 64, op := Go.Op.indexAddr 22 (Go.Operand.tmp 62) (Go.Operand.tmp 63), type := 0, pos := "law.go:25", after := #[{ on := 7, ground := Go.Ground.data }, { on := 8, ground := Go.Ground.data }], guard := none } : Oper)) (v := ?va9) rfl (by kernel_rfl) (by kernel_rfl) (by kernel_rfl) (fun _ _ _ h => h) (Or.inl ⟨by rfl, ?hya9⟩) (by assumption) ?rsa9
                case hya9 => (intro w hSw; (try dsimp only at hSw); go_simp; first | done | with_reducible rfl)
                try simp only [Act.put, List.setIfInBounds_toArray, List.set_cons_zero, List.set_cons_succ]
                refine wpAnyH_take (i := 10) (oi := ({ dst := some 65, op := Go.Op.load 23 (Go.Operand.tmp 64), type := 23, pos := "law.go:25", after := #[{ on := 9, ground := Go.Ground.data }], guard := none } : Oper)) (v := ?va10) rfl (by kernel_rfl) (by kernel_rfl) (by kernel_rfl) (fun _ _ _ h => h) (Or.inl ⟨by rfl, ?hya10⟩) (by assumption) ?rsa10
                case hya10 => (intro w hSw; (try dsimp only at hSw); go_simp; first | done | with_reducible rfl)
                try simp only [Act.put, List.setIfInBounds_toArray, List.set_cons_zero, List.set_cons_succ]
                refine wpAnyH_ready (rs := [5]) (by kernel_rfl) (by simp) ?_
                refine AllReadyH.cons (o := ({ dst := some 60, op := Go.Op.call { callee := Go.Callee.value (Go.Operand.func 12), args := #[Go.Operand.tmp 55, Go.Operand.tmp 59], argTypes := #[25, 23] }, type := 23, pos := "law.go:25", after := #[{ on := 0, ground := Go.Ground.data }, { on := 4, ground := Go.Ground.data }], guard := none } : Oper)) rfl (fun K hK => ?_) AllReadyH.nil
                go_simp
                refine (four_1 w _ ⟨b1, g1, b2, g2, b3, g3, b4, g4⟩ _ _ _ _ q (Four.drew HT) HO HQ).mono ?_
                rintro e w1 ⟨rfl, HTa⟩
                have hcw1 := HC.out w1 HTa.out.2.2.2.2.1
                go_wp2_with fail
                refine hK.out _ _ ?_ (fun hHeld => ?_)
                · exact hcw1
                clear hK K
                try simp only [Act.put, List.setIfInBounds_toArray, List.set_cons_zero, List.set_cons_succ]
                refine wpAnyH_ready (rs := [11]) (by kernel_rfl) (by simp) ?_
                refine AllReadyH.cons (o := ({ dst := some 66, op := Go.Op.call { callee := Go.Callee.value (Go.Operand.func 20), args := #[Go.Operand.tmp 61, Go.Operand.tmp 65], argTypes := #[38, 23] }, type := 23, pos := "law.go:25", after := #[{ on := 6, ground := Go.Ground.data }, { on := 10, ground := Go.Ground.data }, { on := 5, ground := Go.Ground.chain }], guard := none } : Oper)) rfl (fun K hK => ?_) AllReadyH.nil
                go_simp
                refine (four_2 w _ ⟨b1, g1, b2, g2, b3, g3, b4, g4⟩ _ _ _ _ q HTa HO HQ).mono ?_
                rintro e w2 ⟨rfl, HTb⟩
                have hcw2 := HC.out w2 HTb.out.2.2.2.2.1
                go_wp2_with fail
                refine hK.out _ _ ?_ (fun hHeld => ?_)
                · exact hcw2
                clear hK K
                try simp only [Act.put, List.setIfInBounds_toArray, List.set_cons_zero, List.set_cons_succ]
                refine wpAnyH_take (i := 12) (oi := ({ dst := some 67, op := Go.Op.binOp Go.BinOp.neq 23 (Go.Operand.tmp 60) (Go.Operand.tmp 66) 23, type := 4, pos := "law.go:25", after := #[{ on := 5, ground := Go.Ground.data }, { on := 11, ground := Go.Ground.data }], guard := none } : Oper)) (v := ?va12) rfl (by kernel_rfl) (by kernel_rfl) (by kernel_rfl) (fun _ _ _ h => h) (Or.inl ⟨by rfl, ?hya12⟩) (by assumption) ?rsa12
                case hya12 => (intro w hSw; (try dsimp only at hSw); go_simp; first | done | with_reducible rfl)
                try simp only [Act.put, List.setIfInBounds_toArray, List.set_cons_zero, List.set_cons_succ]
                refine wpAnyH_take (i := 13) (oi := ({ dst := some 68, op := Go.Op.move (Go.Operand.tmp 67), type := 4, pos := "law.go:25", after := #[{ on := 12, ground := Go.Ground.data }, { on := 11, ground := Go.Ground.chain }], guard := none } : Oper)) (v := ?va13) rfl (by kernel_rfl) (by kernel_rfl) (by kernel_rfl) (fun _ _ _ h => h) (Or.inl ⟨by rfl, ?hya13⟩) (by assumption) ?rsa13
                case hya13 => (intro w hSw; (try dsimp only at hSw); go_simp; first | done | with_reducible rfl)
                try simp only [Act.put, List.setIfInBounds_toArray, List.set_cons_zero, List.set_cons_succ]
                refine wpAnyH_take (i := 14) (oi := ({ dst := some 69, op := Go.Op.move (Go.Operand.tmp 12), type := 25, pos := "law.go:25", after := #[{ on := 13, ground := Go.Ground.guard }], guard := some (13, false) } : Oper)) (v := ?va14) rfl (by kernel_rfl) (by kernel_rfl) (by kernel_rfl) (fun _ _ _ h => h) (Or.inl ⟨by rfl, ?hya14⟩) (by assumption) ?rsa14
                case hya14 => (intro w hSw; (try dsimp only at hSw); go_simp; first | done | with_reducible rfl)
                try simp only [Act.put, List.setIfInBounds_toArray, List.set_cons_zero, List.set_cons_succ]
                refine wpAnyH_take (i := 15) (oi := ({ dst := some 70, op := Go.Op.move (Go.Operand.tmp 2), type := 22, pos := "law.go:25", after := #[{ on := 13, ground := Go.Ground.guard }], guard := some (13, false) } : Oper)) (v := ?va15) rfl (by kernel_rfl) (by kernel_rfl) (by kernel_rfl) (fun _ _ _ h => h) (Or.inl ⟨by rfl, ?hya15⟩) (by assumption) ?rsa15
                case hya15 => (intro w hSw; (try dsimp only at hSw); go_simp; first | done | with_reducible rfl)
                try simp only [Act.put, List.setIfInBounds_toArray, List.set_cons_zero, List.set_cons_succ]
                refine wpAnyH_take (i := 16) (oi := ({ dst := some 71, op := Go.Op.move (Go.Operand.tmp 15), type := 3, pos := "law.go:25", after := #[{ on := 13, ground := Go.Ground.guard }], guard := some (13, false) } : Oper)) (v := ?va16) rfl (by kernel_rfl) (by kernel_rfl) (by kernel_rfl) (fun _ _ _ h => h) (Or.inl ⟨by rfl, ?hya16⟩) (by assumption) ?rsa16
                case hya16 => (intro w hSw; (try dsimp only at hSw); go_simp; first | done | with_reducible rfl)
                try simp only [Act.put, List.setIfInBounds_toArray, List.set_cons_zero, List.set_cons_succ]
                refine wpAnyH_take (i := 17) (oi := ({ dst := some 72, op := Go.Op.indexAddr 22 (Go.Operand.tmp 70) (Go.Operand.tmp 71), type := 0, pos := "law.go:25", after := #[{ on := 15, ground := Go.Ground.data }, { on := 16, ground := Go.Ground.data }, { on := 13, ground := Go.Ground.guard }], guard := some (13, false) } : Oper)) (v := ?va17) rfl (by kernel_rfl) (by kernel_rfl) (by kernel_rfl) (fun _ _ _ h => h) (Or.inl ⟨by rfl, ?hya17⟩) (by assumption) ?rsa17
                case hya17 => (intro w hSw; (try dsimp only at hSw); go_simp; first | done | with_reducible rfl)
                try simp only [Act.put, List.setIfInBounds_toArray, List.set_cons_zero, List.set_cons_succ]
                refine wpAnyH_take (i := 18) (oi := ({ dst := some 73, op := Go.Op.load 23 (Go.Operand.tmp 72), type := 23, pos := "law.go:25", after := #[{ on := 17, ground := Go.Ground.data }, { on := 13, ground := Go.Ground.guard }], guard := some (13, false) } : Oper)) (v := ?va18) rfl (by kernel_rfl) (by kernel_rfl) (by kernel_rfl) (fun _ _ _ h => h) (Or.inl ⟨by rfl, ?hya18⟩) (by assumption) ?rsa18
                case hya18 => (intro w hSw; (try dsimp only at hSw); go_simp; first | done | with_reducible rfl)
                try simp only [Act.put, List.setIfInBounds_toArray, List.set_cons_zero, List.set_cons_succ]
                refine wpAnyH_take (i := 20) (oi := ({ dst := some 75, op := Go.Op.move (Go.Operand.tmp 13), type := 38, pos := "law.go:25", after := #[{ on := 13, ground := Go.Ground.guard }], guard := some (13, false) } : Oper)) (v := ?va20) rfl (by kernel_rfl) (by kernel_rfl) (by kernel_rfl) (fun _ _ _ h => h) (Or.inl ⟨by rfl, ?hya20⟩) (by assumption) ?rsa20
                case hya20 => (intro w hSw; (try dsimp only at hSw); go_simp; first | done | with_reducible rfl)
                try simp only [Act.put, List.setIfInBounds_toArray, List.set_cons_zero, List.set_cons_succ]
                refine wpAnyH_take (i := 21) (oi := ({ dst := some 76, op := Go.Op.move (Go.Operand.tmp 2), type := 22, pos := "law.go:25", after := #[{ on := 13, ground := Go.Ground.guard }], guard := some (13, false) } : Oper)) (v := ?va21) rfl (by kernel_rfl) (by kernel_rfl) (by kernel_rfl) (fun _ _ _ h => h) (Or.inl ⟨by rfl, ?hya21⟩) (by assumption) ?rsa21
                case hya21 => (intro w hSw; (try dsimp only at hSw); go_simp; first | done | with_reducible rfl)
                try simp only [Act.put, List.setIfInBounds_toArray, List.set_cons_zero, List.set_cons_succ]
                refine wpAnyH_take (i := 22) (oi := ({ dst := some 77, op := Go.Op.move (Go.Operand.tmp 15), type := 3, pos := "law.go:25", after := #[{ on := 13, ground := Go.Ground.guard }], guard := some (13, false) } : Oper)) (v := ?va22) rfl (by kernel_rfl) (by kernel_rfl) (by kernel_rfl) (fun _ _ _ h => h) (Or.inl ⟨by rfl, ?hya22⟩) (by assumption) ?rsa22
                case hya22 => (intro w hSw; (try dsimp only at hSw); go_simp; first | done | with_reducible rfl)
                try simp only [Act.put, List.setIfInBounds_toArray, List.set_cons_zero, List.set_cons_succ]
                refine wpAnyH_take (i := 23) (oi := ({ dst := some 78, op := Go.Op.indexAddr 22 (Go.Operand.tmp 76) (Go.Operand.tmp 77), type := 0, pos := "law.go:25", after := #[{ on := 21, ground := Go.Ground.data }, { on := 22, ground := Go.Ground.data }, { on := 13, ground := Go.Ground.guard }], guard := some (13, false) } : Oper)) (v := ?va23) rfl (by kernel_rfl) (by kernel_rfl) (by kernel_rfl) (fun _ _ _ h => h) (Or.inl ⟨by rfl, ?hya23⟩) (by assumption) ?rsa23
                case hya23 => (intro w hSw; (try dsimp only at hSw); go_simp; first | done | with_reducible rfl)
                try simp only [Act.put, List.setIfInBounds_toArray, List.set_cons_zero, List.set_cons_succ]
                refine wpAnyH_take (i := 24) (oi := ({ dst := some 79, op := Go.Op.load 23 (Go.Operand.tmp 78), type := 23, pos := "law.go:25", after := #[{ on := 23, ground := Go.Ground.data }, { on := 13, ground := Go.Ground.guard }], guard := some (13, false) } : Oper)) (v := ?va24) rfl (by kernel_rfl) (by kernel_rfl) (by kernel_rfl) (fun _ _ _ h => h) (Or.inl ⟨by rfl, ?hya24⟩) (by assumption) ?rsa24
                case hya24 => (intro w hSw; (try dsimp only at hSw); go_simp; first | done | with_reducible rfl)
                try simp only [Act.put, List.setIfInBounds_toArray, List.set_cons_zero, List.set_cons_succ]
                refine wpAnyH_ready (rs := [19]) (by kernel_rfl) (by simp) ?_
                refine AllReadyH.cons (o := ({ dst := some 74, op := Go.Op.call { callee := Go.Callee.value (Go.Operand.func 12), args := #[Go.Operand.tmp 69, Go.Operand.tmp 73], argTypes := #[25, 23] }, type := 23, pos := "law.go:25", after := #[{ on := 14, ground := Go.Ground.data }, { on := 18, ground := Go.Ground.data }, { on := 13, ground := Go.Ground.chain }, { on := 13, ground := Go.Ground.guard }], guard := some (13, false) } : Oper)) rfl (fun K hK => ?_) AllReadyH.nil
                go_simp
                refine (four_3 w _ ⟨b1, g1, b2, g2, b3, g3, b4, g4⟩ _ _ _ _ q HTb HO2 HQ).mono ?_
                rintro e w3 ⟨rfl, HTc⟩
                have hcw3 := HC.out w3 HTc.out.2.2.2.2.1
                go_wp2_with fail
                refine hK.out _ _ ?_ (fun hHeld => ?_)
                · exact hcw3
                clear hK K
                try simp only [Act.put, List.setIfInBounds_toArray, List.set_cons_zero, List.set_cons_succ]
                refine wpAnyH_ready (rs := [25]) (by kernel_rfl) (by simp) ?_
                refine AllReadyH.cons (o := ({ dst := some 80, op := Go.Op.call { callee := Go.Callee.value (Go.Operand.func 20), args := #[Go.Operand.tmp 75, Go.Operand.tmp 79], argTypes := #[38, 23] }, type := 23, pos := "law.go:25", after := #[{ on := 20, ground := Go.Ground.data }, { on := 24, ground := Go.Ground.data }, { on := 19, ground := Go.Ground.chain }, { on := 13, ground := Go.Ground.guard }], guard := some (13, false) } : Oper)) rfl (fun K hK => ?_) AllReadyH.nil
                go_simp
                refine (four_4 w _ ⟨b1, g1, b2, g2, b3, g3, b4, g4⟩ _ _ _ _ q HTc HO2 HQ).mono ?_
                rintro e w4 ⟨rfl, HTd⟩
                have hcw4 := HC.out w4 HTd.out.2.2.2.2.1
                go_wp2_with fail
                refine hK.out _ _ ?_ (fun hHeld => ?_)
                · exact hcw4
                clear hK K
                try simp only [Act.put, List.setIfInBounds_toArray, List.set_cons_zero, List.set_cons_succ]
                refine wpAnyH_take (i := 26) (oi := ({ dst := some 81, op := Go.Op.binOp Go.BinOp.neq 23 (Go.Operand.tmp 74) (Go.Operand.tmp 80) 23, type := 4, pos := "law.go:25", after := #[{ on := 19, ground := Go.Ground.data }, { on := 25, ground := Go.Ground.data }, { on := 13, ground := Go.Ground.guard }], guard := some (13, false) } : Oper)) (v := ?va26) rfl (by kernel_rfl) (by kernel_rfl) (by kernel_rfl) (fun _ _ _ h => h) (Or.inl ⟨by rfl, ?hya26⟩) (by assumption) ?rsa26
                case hya26 => (intro w hSw; (try dsimp only at hSw); go_simp; first | done | with_reducible rfl)
                try simp only [Act.put, List.setIfInBounds_toArray, List.set_cons_zero, List.set_cons_succ]
                refine wpAnyH_take (i := 27) (oi := ({ dst := some 82, op := Go.Op.pick (Go.Operand.tmp 68) (Go.Operand.const (Go.Value.bool true)) (Go.Operand.tmp 81), type := 4, pos := "law.go:25", after := #[{ on := 13, ground := Go.Ground.data }, { on := 26, ground := Go.Ground.data }], guard := none } : Oper)) (v := ?va27) rfl (by kernel_rfl) (by kernel_rfl) (by kernel_rfl) (fun _ _ _ h => h) (Or.inl ⟨by rfl, ?hya27⟩) (by assumption) ?rsa27
                case hya27 => (intro w hSw; (try dsimp only at hSw); go_simp; first | done | with_reducible rfl)
                try simp only [Act.put, List.setIfInBounds_toArray, List.set_cons_zero, List.set_cons_succ]
                refine wpAnyH_take (i := 28) (oi := ({ dst := some 83, op := Go.Op.move (Go.Operand.tmp 82), type := 4, pos := "law.go:25", after := #[{ on := 27, ground := Go.Ground.data }, { on := 25, ground := Go.Ground.chain }], guard := none } : Oper)) (v := ?va28) rfl (by kernel_rfl) (by kernel_rfl) (by kernel_rfl) (fun _ _ _ h => h) (Or.inl ⟨by rfl, ?hya28⟩) (by assumption) ?rsa28
                case hya28 => (intro w hSw; (try dsimp only at hSw); go_simp; first | done | with_reducible rfl)
                try simp only [Act.put, List.setIfInBounds_toArray, List.set_cons_zero, List.set_cons_succ]
                refine wpAnyH_take (i := 29) (oi := ({ dst := some 84, op := Go.Op.move (Go.Operand.tmp 10), type := 25, pos := "law.go:25", after := #[{ on := 28, ground := Go.Ground.guard }], guard := some (28, false) } : Oper)) (v := ?va29) rfl (by kernel_rfl) (by kernel_rfl) (by kernel_rfl) (fun _ _ _ h => h) (Or.inl ⟨by rfl, ?hya29⟩) (by assumption) ?rsa29
                case hya29 => (intro w hSw; (try dsimp only at hSw); go_simp; first | done | with_reducible rfl)
                try simp only [Act.put, List.setIfInBounds_toArray, List.set_cons_zero, List.set_cons_succ]
                refine wpAnyH_take (i := 31) (oi := ({ dst := some 86, op := Go.Op.move (Go.Operand.tmp 11), type := 38, pos := "law.go:25", after := #[{ on := 28, ground := Go.Ground.guard }], guard := some (28, false) } : Oper)) (v := ?va31) rfl (by kernel_rfl) (by kernel_rfl) (by kernel_rfl) (fun _ _ _ h => h) (Or.inl ⟨by rfl, ?hya31⟩) (by assumption) ?rsa31
                case hya31 => (intro w hSw; (try dsimp only at hSw); go_simp; first | done | with_reducible rfl)
                try simp only [Act.put, List.setIfInBounds_toArray, List.set_cons_zero, List.set_cons_succ]
                refine wpAnyH_take (i := 32) (oi := ({ dst := some 87, op := Go.Op.nilCheck (Go.Operand.tmp 86), type := 0, pos := "law.go:25", after := #[{ on := 31, ground := Go.Ground.data }, { on := 28, ground := Go.Ground.guard }], guard := some (28, false) } : Oper)) (v := ?va32) rfl (by kernel_rfl) (by kernel_rfl) (by kernel_rfl) (fun _ _ _ h => h) (Or.inl ⟨by rfl, ?hya32⟩) (by assumption) ?rsa32
                case hya32 => (intro w hSw; (try dsimp only at hSw); go_simp; first | done | with_reducible rfl)
                try simp only [Act.put, List.setIfInBounds_toArray, List.set_cons_zero, List.set_cons_succ]
                refine wpAnyH_take (i := 33) (oi := ({ dst := some 88, op := Go.Op.fieldAddr 42 (Go.Operand.tmp 87) 2, type := 0, pos := "law.go:25", after := #[{ on := 32, ground := Go.Ground.data }, { on := 28, ground := Go.Ground.guard }], guard := some (28, false) } : Oper)) (v := ?va33) rfl (by kernel_rfl) (by kernel_rfl) (by kernel_rfl) (fun _ _ _ h => h) (Or.inl ⟨by rfl, ?hya33⟩) (by assumption) ?rsa33
                case hya33 => (intro w hSw; (try dsimp only at hSw); go_simp; first | done | with_reducible rfl)
                try simp only [Act.put, List.setIfInBounds_toArray, List.set_cons_zero, List.set_cons_succ]
                refine wpAnyH_mono (S' := (fun w' => w'.cell? ⟨g, o + j, none⟩ = some (.int .u64 q) ∧ w'.cell? ⟨b2, 2, none⟩ = some (.int .i64 (R.next q).d) ∧ w'.cell? ⟨b4, 2, none⟩ = some (.int .i64 (Z.next q).d))) (fun _ h => h.1) _ _ _ _ ?_
                clear hHeld
                have hHeld : (fun w' => w'.cell? ⟨g, o + j, none⟩ = some (.int .u64 q) ∧ w'.cell? ⟨b2, 2, none⟩ = some (.int .i64 (R.next q).d) ∧ w'.cell? ⟨b4, 2, none⟩ = some (.int .i64 (Z.next q).d)) w4 := ⟨hcw4, HTd.out.2.1.d_cell, HTd.out.2.2.2.1.d_cell⟩
                refine wpAnyH_take (i := 34) (oi := ({ dst := some 89, op := Go.Op.load 3 (Go.Operand.tmp 88), type := 3, pos := "law.go:25", after := #[{ on := 33, ground := Go.Ground.data }, { on := 28, ground := Go.Ground.guard }], guard := some (28, false) } : Oper)) (v := ?va34) rfl (by kernel_rfl) (by kernel_rfl) (by kernel_rfl) (fun _ _ _ h => h) (Or.inl ⟨by rfl, ?hya34⟩) (by assumption) ?rsa34
                case hya34 => (intro w hSw; (try dsimp only at hSw); go_simp; first | done | with_reducible rfl)
                try simp only [Act.put, List.setIfInBounds_toArray, List.set_cons_zero, List.set_cons_succ]
                refine wpAnyH_ready (rs := [30]) (by kernel_rfl) (by simp) ?_
                refine AllReadyH.cons (o := ({ dst := some 85, op := Go.Op.call { callee := Go.Callee.value (Go.Operand.func 13), args := #[Go.Operand.tmp 84], argTypes := #[25] }, type := 3, pos := "law.go:25", after := #[{ on := 29, ground := Go.Ground.data }, { on := 28, ground := Go.Ground.chain }, { on := 28, ground := Go.Ground.guard }], guard := some (28, false) } : Oper)) rfl (fun K hK => ?_) AllReadyH.nil
                go_simp
                refine (four_at1 w _ ⟨b1, g1, b2, g2, b3, g3, b4, g4⟩ _ _ _ _ HTd).mono ?_
                rintro e w5 ⟨rfl, hw⟩
                subst hw
                go_wp2_with fail
                refine hK.out _ _ ?_ (fun hHeld => ?_)
                · exact hHeld
                clear hK K
                try simp only [Act.put, List.setIfInBounds_toArray, List.set_cons_zero, List.set_cons_succ]
                refine wpAnyH_take (i := 35) (oi := ({ dst := some 90, op := Go.Op.binOp Go.BinOp.neq 3 (Go.Operand.tmp 85) (Go.Operand.tmp 89) 3, type := 4, pos := "law.go:25", after := #[{ on := 30, ground := Go.Ground.data }, { on := 34, ground := Go.Ground.data }, { on := 28, ground := Go.Ground.guard }], guard := some (28, false) } : Oper)) (v := ?va35) rfl (by kernel_rfl) (by kernel_rfl) (by kernel_rfl) (fun _ _ _ h => h) (Or.inl ⟨by rfl, ?hya35⟩) (by assumption) ?rsa35
                case hya35 => (intro w hSw; (try dsimp only at hSw); go_simp; first | done | with_reducible rfl)
                try simp only [Act.put, List.setIfInBounds_toArray, List.set_cons_zero, List.set_cons_succ]
                refine wpAnyH_take (i := 36) (oi := ({ dst := some 91, op := Go.Op.pick (Go.Operand.tmp 83) (Go.Operand.const (Go.Value.bool true)) (Go.Operand.tmp 90), type := 4, pos := "law.go:25", after := #[{ on := 28, ground := Go.Ground.data }, { on := 35, ground := Go.Ground.data }], guard := none } : Oper)) (v := ?va36) rfl (by kernel_rfl) (by kernel_rfl) (by kernel_rfl) (fun _ _ _ h => h) (Or.inl ⟨by rfl, ?hya36⟩) (by assumption) ?rsa36
                case hya36 => (intro w hSw; (try dsimp only at hSw); go_simp; first | done | with_reducible rfl)
                try simp only [Act.put, List.setIfInBounds_toArray, List.set_cons_zero, List.set_cons_succ]
                refine wpAnyH_take (i := 37) (oi := ({ dst := some 92, op := Go.Op.move (Go.Operand.tmp 91), type := 4, pos := "law.go:25", after := #[{ on := 36, ground := Go.Ground.data }, { on := 30, ground := Go.Ground.chain }], guard := none } : Oper)) (v := ?va37) rfl (by kernel_rfl) (by kernel_rfl) (by kernel_rfl) (fun _ _ _ h => h) (Or.inl ⟨by rfl, ?hya37⟩) (by assumption) ?rsa37
                case hya37 => (intro w hSw; (try dsimp only at hSw); go_simp; first | done | with_reducible rfl)
                try simp only [Act.put, List.setIfInBounds_toArray, List.set_cons_zero, List.set_cons_succ]
                refine wpAnyH_take (i := 38) (oi := ({ dst := some 93, op := Go.Op.move (Go.Operand.tmp 12), type := 25, pos := "law.go:25", after := #[{ on := 37, ground := Go.Ground.guard }], guard := some (37, false) } : Oper)) (v := ?va38) rfl (by kernel_rfl) (by kernel_rfl) (by kernel_rfl) (fun _ _ _ h => h) (Or.inl ⟨by rfl, ?hya38⟩) (by assumption) ?rsa38
                case hya38 => (intro w hSw; (try dsimp only at hSw); go_simp; first | done | with_reducible rfl)
                try simp only [Act.put, List.setIfInBounds_toArray, List.set_cons_zero, List.set_cons_succ]
                refine wpAnyH_take (i := 40) (oi := ({ dst := some 95, op := Go.Op.move (Go.Operand.tmp 13), type := 38, pos := "law.go:25", after := #[{ on := 37, ground := Go.Ground.guard }], guard := some (37, false) } : Oper)) (v := ?va40) rfl (by kernel_rfl) (by kernel_rfl) (by kernel_rfl) (fun _ _ _ h => h) (Or.inl ⟨by rfl, ?hya40⟩) (by assumption) ?rsa40
                case hya40 => (intro w hSw; (try dsimp only at hSw); go_simp; first | done | with_reducible rfl)
                try simp only [Act.put, List.setIfInBounds_toArray, List.set_cons_zero, List.set_cons_succ]
                refine wpAnyH_take (i := 41) (oi := ({ dst := some 96, op := Go.Op.nilCheck (Go.Operand.tmp 95), type := 0, pos := "law.go:25", after := #[{ on := 40, ground := Go.Ground.data }, { on := 37, ground := Go.Ground.guard }], guard := some (37, false) } : Oper)) (v := ?va41) rfl (by kernel_rfl) (by kernel_rfl) (by kernel_rfl) (fun _ _ _ h => h) (Or.inl ⟨by rfl, ?hya41⟩) (by assumption) ?rsa41
                case hya41 => (intro w hSw; (try dsimp only at hSw); go_simp; first | done | with_reducible rfl)
                try simp only [Act.put, List.setIfInBounds_toArray, List.set_cons_zero, List.set_cons_succ]
                refine wpAnyH_take (i := 42) (oi := ({ dst := some 97, op := Go.Op.fieldAddr 42 (Go.Operand.tmp 96) 2, type := 0, pos := "law.go:25", after := #[{ on := 41, ground := Go.Ground.data }, { on := 37, ground := Go.Ground.guard }], guard := some (37, false) } : Oper)) (v := ?va42) rfl (by kernel_rfl) (by kernel_rfl) (by kernel_rfl) (fun _ _ _ h => h) (Or.inl ⟨by rfl, ?hya42⟩) (by assumption) ?rsa42
                case hya42 => (intro w hSw; (try dsimp only at hSw); go_simp; first | done | with_reducible rfl)
                try simp only [Act.put, List.setIfInBounds_toArray, List.set_cons_zero, List.set_cons_succ]
                refine wpAnyH_take (i := 43) (oi := ({ dst := some 98, op := Go.Op.load 3 (Go.Operand.tmp 97), type := 3, pos := "law.go:25", after := #[{ on := 42, ground := Go.Ground.data }, { on := 37, ground := Go.Ground.guard }], guard := some (37, false) } : Oper)) (v := ?va43) rfl (by kernel_rfl) (by kernel_rfl) (by kernel_rfl) (fun _ _ _ h => h) (Or.inl ⟨by rfl, ?hya43⟩) (by assumption) ?rsa43
                case hya43 => (intro w hSw; (try dsimp only at hSw); go_simp; first | done | with_reducible rfl)
                try simp only [Act.put, List.setIfInBounds_toArray, List.set_cons_zero, List.set_cons_succ]
                refine wpAnyH_ready (rs := [39]) (by kernel_rfl) (by simp) ?_
                refine AllReadyH.cons (o := ({ dst := some 94, op := Go.Op.call { callee := Go.Callee.value (Go.Operand.func 13), args := #[Go.Operand.tmp 93], argTypes := #[25] }, type := 3, pos := "law.go:25", after := #[{ on := 38, ground := Go.Ground.data }, { on := 37, ground := Go.Ground.chain }, { on := 37, ground := Go.Ground.guard }], guard := some (37, false) } : Oper)) rfl (fun K hK => ?_) AllReadyH.nil
                go_simp
                refine (four_at3 w _ ⟨b1, g1, b2, g2, b3, g3, b4, g4⟩ _ _ _ _ HTd).mono ?_
                rintro e w5 ⟨rfl, hw⟩
                subst hw
                go_wp2_with fail
                refine hK.out _ _ ?_ (fun hHeld => ?_)
                · exact hHeld
                clear hK K
                try simp only [Act.put, List.setIfInBounds_toArray, List.set_cons_zero, List.set_cons_succ]
                refine wpAnyH_take (i := 44) (oi := ({ dst := some 99, op := Go.Op.binOp Go.BinOp.neq 3 (Go.Operand.tmp 94) (Go.Operand.tmp 98) 3, type := 4, pos := "law.go:25", after := #[{ on := 39, ground := Go.Ground.data }, { on := 43, ground := Go.Ground.data }, { on := 37, ground := Go.Ground.guard }], guard := some (37, false) } : Oper)) (v := ?va44) rfl (by kernel_rfl) (by kernel_rfl) (by kernel_rfl) (fun _ _ _ h => h) (Or.inl ⟨by rfl, ?hya44⟩) (by assumption) ?rsa44
                case hya44 => (intro w hSw; (try dsimp only at hSw); go_simp; first | done | with_reducible rfl)
                try simp only [Act.put, List.setIfInBounds_toArray, List.set_cons_zero, List.set_cons_succ]
                refine wpAnyH_take (i := 45) (oi := ({ dst := some 100, op := Go.Op.pick (Go.Operand.tmp 92) (Go.Operand.const (Go.Value.bool true)) (Go.Operand.tmp 99), type := 4, pos := "law.go:25", after := #[{ on := 37, ground := Go.Ground.data }, { on := 44, ground := Go.Ground.data }], guard := none } : Oper)) (v := ?va45) rfl (by kernel_rfl) (by kernel_rfl) (by kernel_rfl) (fun _ _ _ h => h) (Or.inl ⟨by rfl, ?hya45⟩) (by assumption) ?rsa45
                case hya45 => (intro w hSw; (try dsimp only at hSw); go_simp; first | done | with_reducible rfl)
                try simp only [Act.put, List.setIfInBounds_toArray, List.set_cons_zero, List.set_cons_succ]
                refine wpAnyH_done (by kernel_rfl) ?_ _
                go_wp2
                go_roundg k
                case measure => omega
                case rel => exact ⟨j + 1, by omega, by go_num, Lib.hid (by rw [HSt.out, HSt2.out]; exact HTd.out)⟩
          | succ k =>
            have hjn : (j : Int) < (l0.length : Int) := by omega
            have hjN : j < l0.length := by omega
            obtain ⟨⟨xs, ow⟩, hf⟩ := HX.out
            obtain ⟨g, cap, e, hbg, hgl⟩ := ow.form (by omega)
            injection e with e1 e2 e3
            subst e1
            subst e3
            have hlen : xs.length = l0.length := by have := ow.1; omega
            have hc1 : wr.cell? ⟨g, j, none⟩ = some xs[j] := by rw [ow.cellAt j (by omega)]; exact List.getElem?_eq_getElem (by omega)
            have hf1 : wr.frozen? ⟨g, j, none⟩ = false := ow.frozenAt j
            have HR : Hid ((∃ ys, (wr.setCell ⟨g, j, none⟩ (.int .u64 5)).ownsRow w.heap.size 23 1 (.slice (some ⟨g, 0, none⟩) l0.length cd) l0.length ys) ∧ Four w (wr.setCell ⟨g, j, none⟩ (.int .u64 5)) ⟨b1, g1, b2, g2, b3, g3, b4, g4⟩ ⟨l0, s, 0⟩ ⟨l0, s, 0⟩ ⟨[], s, 0⟩ ⟨[], s, 0⟩) := Lib.hid (by
              refine ⟨⟨_, (ow.stored j _).1⟩, hf.far (grownBy_set (World.grownBy.refl wr (some g)) j _) ?_⟩
              intro g' e
              injection e with e
              subst e
              have h := HLOW.out g rfl
              have h2 := HQS.out
              unfold Quad.sep at h2
              simp only at h2 ⊢
              omega)
            clear HX ow hf
            generalize xs[j] = old at *
            go_wp2
            go_roundg k
            case measure => omega
            case rel => exact ⟨j + 1, by omega, by go_num, HR⟩
end Go.Proofs.Ytcabcblopfpbfaa
