/- poly.Weights, walked. share.secrets, small, all, weights, walked. share.all, walked (printed by mk_shrb.py). share.weights, Coms' closures, come over numbers, walked. share.come over numbers, members, walked. share.members, and slices.ContainsFunc at share's closures, walked (printed by mk_shre.py). A pair made in memory. share.Sum's closures, walked (printed by mk_shrf.py). share.come over pairs, walked (printed by mk_shrg.py). share.Sum, walked (printed by mk_shrh.py). fixed.Int, walked. Dealt as data. share.Coms, walked (printed by mk_shrk.py). Draws of a tape, told to what deals: tape.New, deal.secrets, deal.behind, walked. slices.Chunk, an iterator over pieces of a list, walked. -/
import Derived.Test.YtmjdpmfcbeaecaaDoorZ2
namespace Go.Proofs.YtmjdpmfcbeaecaaDoor
open Go Go.RowKit Go.Shelf

def underI (q : Int) (xs : List Int) (at_ : Int) (i : Nat) : Int := prodI q ((othersI q xs i at_).map (·.1))
def overI (q : Int) (xs : List Int) (at_ : Int) (i : Nat) : Int := prodI q ((othersI q xs i at_).map (·.2))
theorem shareV_yes {q : Int} {xs : List Int} {i : Nat} {at_ : Int} (h : HasInv (underI q xs at_ i) q) : shareV q xs i at_ = .tuple #[.int .u64 (invI (underI q xs at_ i) q), .int .u64 (overI q xs at_ i), .int .i64 0] := by
  unfold shareV
  exact if_pos h
theorem shareV_no {q : Int} {xs : List Int} {i : Nat} {at_ : Int} (h : ¬ HasInv (underI q xs at_ i) q) : shareV q xs i at_ = .tuple #[.int .u64 0, .int .u64 (overI q xs at_ i), .int .i64 5] := by
  unfold shareV
  exact if_neg h
/-- A weight. -/
noncomputable def wAt (q : Int) (xs : List Int) (at_ : Int) (i : Nat) : Int := mulI (invI (underI q xs at_ i) q) (overI q xs at_ i) q
open Classical in
/-- What is wrong with weights. -/
noncomputable def wErr (q : Int) (xs : List Int) (at_ : Int) : Int := if unlikeI xs q = 0 then (if ∀ i, i < xs.length → HasInv (underI q xs at_ i) q then 0 else 5) else unlikeI xs q
noncomputable def wList (q : Int) (xs : List Int) (at_ : Int) : List Int := if wErr q xs at_ = 0 then (List.range xs.length).map (wAt q xs at_) else []
theorem unlikeI_zero {xs : List Int} {q : Int} (h : unlikeI xs q = 0) : mayB q = true ∧ xs.length ≤ 1024 := by
  unfold unlikeI at h
  split at h
  · omega
  · split at h
    · omega
    · exact ⟨by simpa using ‹¬ mayB q = false›, by omega⟩
theorem invI_U64 {a q : Int} (hq : mayB q = true) (h : HasInv a q) : U64 (invI a q) := by
  have := invI_spec h
  simp [mayB] at hq
  exact ⟨this.1, by omega⟩
set_option maxRecDepth 100000 in
set_option maxHeartbeats 1000000 in
theorem weights_any (v : Value) (xs : List Int) (at_ q : Int) (X : Nat → Prop) (w : World) (h : Sl encU X w v xs) (hu : U64 at_) (hq : U64 q) :
    Calls Tryd.prog 90 #[v, .int .u64 at_, .int .u64 q] w (GivesE encU (fun g => w.heap.size ≤ g) w (wList q xs at_) (wErr q xs at_)) := by
  have H := Lib.hid h
  have HA := Lib.hid hu
  have HUN := Lib.hid (unlike_any v xs q X w h hq)
  obtain ⟨A, c, rfl, hc1, hc2⟩ := h.form
  clear h hu
  obtain ⟨we, hwe⟩ : ∃ we, we = wErr q xs at_ := ⟨_, rfl⟩
  obtain ⟨wl, hwl⟩ : ∃ wl, wl = wList q xs at_ := ⟨_, rfl⟩
  rw [← hwe, ← hwl]
  have HWL : Hid ((we = 0 → wl = (List.range xs.length).map (wAt q xs at_)) ∧ (¬ we = 0 → wl = [])) := Lib.hid ⟨fun e => by rw [hwl, wList, ← hwe, if_pos e], fun e => by rw [hwl, wList, ← hwe, if_neg e]⟩
  clear hwl
  by_cases hun : unlikeI xs q = 0
  · obtain ⟨hm, hl⟩ := unlikeI_zero hun
    have HM := Lib.hid hm
    have HWE : Hid (((∀ i, i < xs.length → HasInv (underI q xs at_ i) q) → we = 0) ∧ (∀ i, i < xs.length → ¬ HasInv (underI q xs at_ i) q → we = 5)) := Lib.hid ⟨fun e => by rw [hwe, wErr, if_pos hun, if_pos e], fun i hi e => by rw [hwe, wErr, if_pos hun, if_neg (fun hx => e (hx i hi))]⟩
    rw [hun] at HUN
    have HLN : Hid (xs.length ≤ 1024) := Lib.hid hl
    clear hwe hun hm
    go_enter Tryd.func90, Tryd.ntmps90
    go_wp2_with (refine HUN.out.mono ?_; rintro e w1 ⟨rfl, hg1⟩)
    have HG1 := Lib.hid hg1
    clear hg1 HUN
    go_wp2_with fail
    go_loopg [9, 22] xs.length (fun g s9 s22 wx => ∃ j : Nat, j + g = xs.length ∧ s22 = .int .i64 j ∧ Hid (Acc encU w.heap.size 22 (fun g => w.heap.size ≤ g) wx s9 ((List.range j).map (wAt q xs at_)) ∧ w.grownBy wx none ∧ ∀ i, i < j → HasInv (underI q xs at_ i) q))
    case atStart => exact ⟨0, by omega, rfl, Lib.hid ⟨Acc.nil _ _ _ _ _, HG1.out, fun i hi => absurd hi (by omega)⟩⟩
    case round =>
      obtain ⟨j, hj, rfl, HX⟩ := hrel
      cases gk with
      | zero =>
        obtain rfl : j = xs.length := by omega
        have h0 : we = 0 := HWE.out.1 HX.out.2.2
        subst h0
        have HR : Hid (Sl encU (fun g => w.heap.size ≤ g) wr u9 wl ∧ w.grownBy wr none) := Lib.hid ⟨by have := HX.out.1.sl; rwa [← HWL.out.1 rfl] at this, HX.out.2.1⟩
        clear HX HWL HWE
        go_wp2
        go_ret2
        exact ⟨_, rfl, HR.out.1, HR.out.2⟩
      | succ m =>
        have hjn : (j : Int) < (xs.length : Int) := by omega
        have hjN : j < xs.length := by omega
        have HS := Lib.hid (polyShare_any _ xs j at_ q X wr (H.out.kept HX.out.2.1) hjN HA.out HM.out)
        by_cases hi : HasInv (underI q xs at_ j) q
        · rw [shareV_yes hi] at HS
          have HU1 := Lib.hid (invI_U64 HM.out hi)
          have HU2 : Hid (U64 (overI q xs at_ j)) := Lib.hid (prodI_U64 q HM.out _)
          have HU3 : Hid (U64 (wAt q xs at_ j)) := Lib.hid (by have := mulI_bd (invI (underI q xs at_ j) q) (overI q xs at_ j) q HM.out; have h2 := HM.out; simp [mayB] at h2; exact ⟨this.1, by unfold wAt; omega⟩)
          have HSN : Hid ((List.range (j + 1)).map (wAt q xs at_) = (List.range j).map (wAt q xs at_) ++ [wAt q xs at_ j]) := Lib.hid (by simp [List.range_succ])
          have HI : Hid (∀ i, i < j + 1 → HasInv (underI q xs at_ i) q) := Lib.hid (fun i hi' => by
            rcases Nat.lt_or_ge i j with h' | h'
            · exact HX.out.2.2 i h'
            · obtain rfl : i = j := by omega
              exact hi)
          have HAC := Lib.hid HX.out.1
          have HG := Lib.hid HX.out.2.1
          have HLB : Hid ((((List.range j).map (wAt q xs at_)).length + 1) * 8 ≤ 140737488355328) := Lib.hid (by simp; omega)
          clear hi HX
          have hwv : mulI (invI (underI q xs at_ j) q) (overI q xs at_ j) q = wAt q xs at_ j := rfl
          have HMU := Lib.hid (fun w' => mul_gr (invI (underI q xs at_ j) q) (overI q xs at_ j) q w' HU1.out HU2.out)
          rw [hwv] at HMU
          clear hwv
          generalize xs.length = n at *
          go_wp2_with (go_at_call 112; refine HS.out.mono ?_; rintro e2 w2 ⟨rfl, hg2⟩)
          have HG2 := Lib.hid (HG.out.trans hg2)
          have HA2 := Lib.hid (HAC.out.kept hg2)
          clear hg2 HS
          go_wp2_with fail
          refine (HMU.out _).mono ?_
          rintro e3 w3 ⟨rfl, hg3⟩
          have HG3 := Lib.hid (HG2.out.trans hg3)
          have HA3 := Lib.hid (HA2.out.kept hg3)
          clear hg3 HMU
          go_wp2_with (at_builtin; refine wpList_pushG rfl (.tmp 37) (.tmp 42) rfl (E := encU) el_u64 HG3.out HA3.out (fun _ h => h) ⟨rfl, HU3.out⟩ HLB.out rfl rfl ?_)
          intro v2 w4 hacc2 hg4 hgo
          have HFIN : Hid (Acc encU w.heap.size 22 (fun g => w.heap.size ≤ g) w4 v2 ((List.range (j + 1)).map (wAt q xs at_)) ∧ w.grownBy w4 none ∧ ∀ i, i < j + 1 → HasInv (underI q xs at_ i) q) := Lib.hid ⟨by rw [HSN.out]; simpa using hacc2, hg4, HI.out⟩
          clear hacc2 hg4 hgo
          go_wp2_with fail
          go_roundg m
          case measure => omega
          case rel => exact ⟨j + 1, by omega, by go_num, HFIN⟩
        · rw [shareV_no hi] at HS
          have h5 : we = 5 := HWE.out.2 j hjN hi
          subst h5
          have HG := Lib.hid HX.out.2.1
          have HL0 := Lib.hid (HWL.out.2 (by decide))
          clear hi HX HWL HWE
          go_wp2_with (go_at_call 112; refine HS.out.mono ?_; rintro e2 w2 ⟨rfl, hg2⟩)
          have HG2 := Lib.hid (HG.out.trans hg2)
          clear hg2 HS
          go_wp2_with fail
          go_ret2
          exact ⟨_, rfl, by rw [HL0.out]; exact Sl.nil _ _ _, HG2.out⟩
  · have h0 : we = unlikeI xs q := by rw [hwe, wErr, if_neg hun]
    have HL0 := Lib.hid (HWL.out.2 (by rw [h0]; exact hun))
    clear HWL hwe
    rw [← h0] at HUN hun
    clear h0
    go_enter Tryd.func90, Tryd.ntmps90
    go_wp2_with (refine HUN.out.mono ?_; rintro e w1 ⟨rfl, hg1⟩)
    have HG1 := Lib.hid hg1
    clear hg1 HUN
    go_wp2_with fail
    go_ret2
    exact ⟨_, rfl, by rw [HL0.out]; exact Sl.nil _ _ _, HG1.out⟩
end Go.Proofs.YtmjdpmfcbeaecaaDoor

namespace Go.Proofs.YtmjdpmfcbeaecaaDoor
open Go Go.RowKit Go.Shelf

theorem ssecrets_any (p : Par) (w : World) :
    Calls Tryd.prog 49 #[p.v] w fun e w' => e = .returned (.int .i64 (secretsI p)) ∧ w.grownBy w' none := by
  go_enter Tryd.func49, Tryd.ntmps49
  go_wp2
  go_ret
  exact ⟨rfl, World.grownBy_alloc w _ none⟩
/-- Whether K and D are within their bounds. -/
def smallB (p : Par) : Bool := decide (0 ≤ p.K ∧ 0 ≤ p.D ∧ p.K ≤ 2 ∧ p.D ≤ 4)
set_option maxHeartbeats 1000000 in
theorem ssmall_any (p : Par) (w : World) :
    Calls Tryd.prog 50 #[p.v] w fun e w' => e = .returned (.bool (smallB p)) ∧ w.grownBy w' none := by
  obtain ⟨b, hb⟩ : ∃ b, b = smallB p := ⟨_, rfl⟩
  have HB : Hid ((b = true) = (0 ≤ p.K ∧ 0 ≤ p.D ∧ p.K ≤ 2 ∧ p.D ≤ 4)) := Lib.hid (by rw [hb, smallB]; simp)
  rw [← hb]
  clear hb
  by_cases h0 : 0 ≤ min p.K p.D
  · have d0 : decide (min p.K p.D ≥ 0) = true := by simpa using h0
    by_cases h1 : p.K ≤ 2
    · have d1 : decide (p.K ≤ 2) = true := by simpa using h1
      by_cases h2 : p.D ≤ 4
      · have d2 : decide (p.D ≤ 4) = true := by simpa using h2
        obtain rfl : b = true := by rw [HB.out]; omega
        clear h0 h1 h2 HB
        go_enter Tryd.func50, Tryd.ntmps50
        go_wp2
        go_ret
        exact ⟨by simp [*], World.grownBy_alloc w _ none⟩
      · have d2 : decide (p.D ≤ 4) = false := by simpa using h2
        obtain rfl : b = false := by rw [← Bool.not_eq_true, HB.out]; omega
        clear h0 h1 h2 HB
        go_enter Tryd.func50, Tryd.ntmps50
        go_wp2
        go_ret
        exact ⟨by simp [*], World.grownBy_alloc w _ none⟩
    · have d1 : decide (p.K ≤ 2) = false := by simpa using h1
      obtain rfl : b = false := by rw [← Bool.not_eq_true, HB.out]; omega
      clear h0 h1 HB
      go_enter Tryd.func50, Tryd.ntmps50
      go_wp2
      go_ret
      exact ⟨by simp [*], World.grownBy_alloc w _ none⟩
  · have d0 : decide (min p.K p.D ≥ 0) = false := by simpa using h0
    obtain rfl : b = false := by rw [← Bool.not_eq_true, HB.out]; omega
    clear h0 HB
    go_enter Tryd.func50, Tryd.ntmps50
    go_wp2
    go_ret
    exact ⟨by simp [*], World.grownBy_alloc w _ none⟩
end Go.Proofs.YtmjdpmfcbeaecaaDoor

namespace Go.Proofs.YtmjdpmfcbeaecaaDoor
open Go Go.RowKit Go.Shelf

set_option maxRecDepth 100000 in
set_option maxHeartbeats 400000 in
theorem allU_any (v : Value) (ls : List (List Int)) (s : Nat) (X : Nat → Prop) (w : World) (h : Sl (encS encU) X w v ls) (hs : ∀ x ∈ ls, s < x.length) (hb : ls.length ≤ 100000) (hb2 : s ≤ 100000) :
    Calls Tryd.prog 63 #[v, .int .i64 s] w (Gives encU (fun g => w.heap.size ≤ g) w (ls.map fun x => x[s]?.getD 0)) := by
  have H := Lib.hid h
  have HS := Lib.hid hs
  have HB := Lib.hid hb
  obtain ⟨A, c, rfl, hc1, hc2⟩ := h.form
  have hs0 : (0 : Int) ≤ (s : Int) := by omega
  clear h hs hb
  go_enter Tryd.func63, Tryd.ntmps63
  go_wp2_with fail
  go_loopg [5, 10] ls.length (fun g s5 s10 wx => ∃ j : Nat, j + g = ls.length ∧ s10 = .int .i64 j ∧ Hid (Acc encU w.heap.size 22 (fun g => w.heap.size ≤ g) wx s5 ((ls.take j).map fun x => x[s]?.getD 0) ∧ w.grownBy wx none))
  case atStart => exact ⟨0, by omega, rfl, Lib.hid ⟨Acc.nil _ _ _ _ _, World.grownBy.refl _ none⟩⟩
  case round =>
    obtain ⟨j, hj, rfl, HX⟩ := hrel
    cases gk with
    | zero =>
      obtain rfl : j = ls.length := by omega
      have HR : Hid (Sl encU (fun g => w.heap.size ≤ g) wr u5 (ls.map fun x => x[s]?.getD 0) ∧ w.grownBy wr none) := Lib.hid ⟨by have := HX.out.1.sl; rwa [List.take_length] at this, HX.out.2⟩
      clear HX
      go_wp2
      go_ret
      exact ⟨_, rfl, HR.out.1, HR.out.2⟩
    | succ m =>
      have hjn : (j : Int) < (ls.length : Int) := by omega
      have hjN : j < ls.length := by omega
      obtain ⟨hacc, hg⟩ := HX.out
      obtain ⟨g, o, c', u, e, _, _, hcu0, hsu⟩ := H.out.atS hjN
      injection e with e1 e2 e3
      subst e1 e3
      have hcu : wr.cell? ⟨g, o + j, none⟩ = some u := cell_kept hcu0 hg (by simp)
      have hsl : s < ls[j].length := HS.out _ (List.getElem_mem hjN)
      have hslI : (s : Int) < (ls[j].length : Int) := by omega
      obtain ⟨A1, c1, e1, hc3, hc4⟩ := hsu.form
      subst e1
      obtain ⟨g2, o2, c2, e2, _, _, hcx, hux⟩ := (hsu.kept hg).atU hsl
      injection e2 with e21 e22 e23
      subst e21 e23
      have HREP : Hid (encU.rep (fun g => (fun g => w.heap.size ≤ g) g ∧ some g ≠ u5.ownBlock) wr [.int .u64 ls[j][s]] ls[j][s]) := Lib.hid ⟨rfl, hux⟩
      have HSN : Hid ((ls.take (j + 1)).map (fun x => x[s]?.getD 0) = (ls.take j).map (fun x => x[s]?.getD 0) ++ [ls[j][s]]) := Lib.hid (by rw [List.take_succ_eq_append_getElem hjN, List.map_append]; simp [hsl])
      have HAC := Lib.hid hacc
      have HG := Lib.hid hg
      have HLB : Hid ((((ls.take j).map fun x => x[s]?.getD 0).length + 1) * 8 ≤ 140737488355328) := Lib.hid (by have := HB.out; simp; omega)
      clear hacc hg hsu HX hcu0 hux
      generalize ls[j][s] = y at *
      generalize ls[j].length = n1 at *
      go_wp2_with (at_builtin; refine wpList_pushG rfl (.tmp 14) (.tmp 19) rfl (E := encU) el_u64 HG.out HAC.out (fun _ h => h) HREP.out HLB.out rfl rfl ?_)
      intro v2 w2 hacc2 hg2 hgo
      have HFIN : Hid (Acc encU w.heap.size 22 (fun g => w.heap.size ≤ g) w2 v2 ((ls.take (j + 1)).map fun x => x[s]?.getD 0) ∧ w.grownBy w2 none) := Lib.hid ⟨by rw [HSN.out]; simpa using hacc2, hg2⟩
      clear hacc2 hg2 hgo
      go_wp2_with fail
      go_roundg m
      case measure => omega
      case rel => exact ⟨j + 1, by omega, by go_num, HFIN⟩
set_option maxRecDepth 100000 in
set_option maxHeartbeats 400000 in
theorem allS_any (v : Value) (ls : List (List (List Int))) (s : Nat) (X : Nat → Prop) (w : World) (h : Sl (encS (encS encU)) X w v ls) (hs : ∀ x ∈ ls, s < x.length) (hb : ls.length ≤ 100000) (hb2 : s ≤ 100000) :
    Calls Tryd.prog 64 #[v, .int .i64 s] w (Gives (encS encU) (fun g => X g ∨ w.heap.size ≤ g) w (ls.map fun x => x[s]?.getD [])) := by
  have H := Lib.hid h
  have HS := Lib.hid hs
  have HB := Lib.hid hb
  obtain ⟨A, c, rfl, hc1, hc2⟩ := h.form
  have hs0 : (0 : Int) ≤ (s : Int) := by omega
  clear h hs hb
  go_enter Tryd.func64, Tryd.ntmps64
  go_wp2_with fail
  go_loopg [5, 10] ls.length (fun g s5 s10 wx => ∃ j : Nat, j + g = ls.length ∧ s10 = .int .i64 j ∧ Hid (Acc (encS encU) w.heap.size 37 (fun g => X g ∨ w.heap.size ≤ g) wx s5 ((ls.take j).map fun x => x[s]?.getD []) ∧ w.grownBy wx none))
  case atStart => exact ⟨0, by omega, rfl, Lib.hid ⟨Acc.nil _ _ _ _ _, World.grownBy.refl _ none⟩⟩
  case round =>
    obtain ⟨j, hj, rfl, HX⟩ := hrel
    cases gk with
    | zero =>
      obtain rfl : j = ls.length := by omega
      have HR : Hid (Sl (encS encU) (fun g => X g ∨ w.heap.size ≤ g) wr u5 (ls.map fun x => x[s]?.getD []) ∧ w.grownBy wr none) := Lib.hid ⟨by have := HX.out.1.sl; rwa [List.take_length] at this, HX.out.2⟩
      clear HX
      go_wp2
      go_ret
      exact ⟨_, rfl, HR.out.1, HR.out.2⟩
    | succ m =>
      have hjn : (j : Int) < (ls.length : Int) := by omega
      have hjN : j < ls.length := by omega
      obtain ⟨hacc, hg⟩ := HX.out
      obtain ⟨g, o, c', u, e, _, _, hcu0, hsu⟩ := H.out.atS hjN
      injection e with e1 e2 e3
      subst e1 e3
      have hcu : wr.cell? ⟨g, o + j, none⟩ = some u := cell_kept hcu0 hg (by simp)
      have hsl : s < ls[j].length := HS.out _ (List.getElem_mem hjN)
      have hslI : (s : Int) < (ls[j].length : Int) := by omega
      obtain ⟨A1, c1, e1, hc3, hc4⟩ := hsu.form
      subst e1
      obtain ⟨g2, o2, c2, ux, e2, _, _, hcx, hux⟩ := (hsu.kept hg).atS hsl
      obtain ⟨_, _, _, ux', e2', _, _, hcx', hux'⟩ := hsu.atS hsl
      injection e2 with e21 e22 e23
      subst e21 e23
      injection e2' with e21 e22 e23
      injection e21 with e21
      injection e21 with e24 e25
      subst e24 e25
      have hcx2 : wr.cell? ⟨g2, o2 + s, none⟩ = some ux' := cell_kept hcx' hg (by simp)
      obtain rfl : ux = ux' := by rw [hcx] at hcx2; injection hcx2
      obtain ⟨A2, c3, e3, _, _⟩ := hux'.form
      subst e3
      have HREP : Hid ((encS encU).rep (fun g => (fun g => X g ∨ w.heap.size ≤ g) g ∧ some g ≠ u5.ownBlock) wr [.slice A2 ls[j][s].length c3] ls[j][s]) := Lib.hid ⟨_, rfl, (hux'.more fun g hlt hX => ⟨.inl hX, fun e => by have := (hacc.lt g e.symm).1; omega⟩).kept hg⟩
      have HSN : Hid ((ls.take (j + 1)).map (fun x => x[s]?.getD []) = (ls.take j).map (fun x => x[s]?.getD []) ++ [ls[j][s]]) := Lib.hid (by rw [List.take_succ_eq_append_getElem hjN, List.map_append]; simp [hsl])
      have HAC := Lib.hid hacc
      have HG := Lib.hid hg
      have HLB : Hid ((((ls.take j).map fun x => x[s]?.getD []).length + 1) * 24 ≤ 140737488355328) := Lib.hid (by have := HB.out; simp; omega)
      clear hacc hg hsu HX hcu0 hux hux' hcx' hcx2
      generalize ls[j][s] = y at *
      generalize ls[j].length = n1 at *
      go_wp2_with (at_builtin; refine wpList_pushG rfl (.tmp 14) (.tmp 19) rfl (E := (encS encU)) el_nums HG.out HAC.out (fun _ h => .inr h) HREP.out HLB.out rfl rfl ?_)
      intro v2 w2 hacc2 hg2 hgo
      have HFIN : Hid (Acc (encS encU) w.heap.size 37 (fun g => X g ∨ w.heap.size ≤ g) w2 v2 ((ls.take (j + 1)).map fun x => x[s]?.getD []) ∧ w.grownBy w2 none) := Lib.hid ⟨by rw [HSN.out]; simpa using hacc2, hg2⟩
      clear hacc2 hg2 hgo
      go_wp2_with fail
      go_roundg m
      case measure => omega
      case rel => exact ⟨j + 1, by omega, by go_num, HFIN⟩
set_option maxRecDepth 100000 in
set_option maxHeartbeats 400000 in
theorem allP_any (v : Value) (ls : List (List (Int × Int))) (s : Nat) (X : Nat → Prop) (w : World) (h : Sl (encS encP) X w v ls) (hs : ∀ x ∈ ls, s < x.length) (hb : ls.length ≤ 100000) (hb2 : s ≤ 100000) :
    Calls Tryd.prog 57 #[v, .int .i64 s] w (Gives encP (fun g => w.heap.size ≤ g) w (ls.map fun x => x[s]?.getD (0, 0))) := by
  have H := Lib.hid h
  have HS := Lib.hid hs
  have HB := Lib.hid hb
  obtain ⟨A, c, rfl, hc1, hc2⟩ := h.form
  have hs0 : (0 : Int) ≤ (s : Int) := by omega
  clear h hs hb
  go_enter Tryd.func57, Tryd.ntmps57
  go_wp2_with fail
  go_loopg [5, 10] ls.length (fun g s5 s10 wx => ∃ j : Nat, j + g = ls.length ∧ s10 = .int .i64 j ∧ Hid (Acc encP w.heap.size 36 (fun g => w.heap.size ≤ g) wx s5 ((ls.take j).map fun x => x[s]?.getD (0, 0)) ∧ w.grownBy wx none))
  case atStart => exact ⟨0, by omega, rfl, Lib.hid ⟨Acc.nil _ _ _ _ _, World.grownBy.refl _ none⟩⟩
  case round =>
    obtain ⟨j, hj, rfl, HX⟩ := hrel
    cases gk with
    | zero =>
      obtain rfl : j = ls.length := by omega
      have HR : Hid (Sl encP (fun g => w.heap.size ≤ g) wr u5 (ls.map fun x => x[s]?.getD (0, 0)) ∧ w.grownBy wr none) := Lib.hid ⟨by have := HX.out.1.sl; rwa [List.take_length] at this, HX.out.2⟩
      clear HX
      go_wp2
      go_ret
      exact ⟨_, rfl, HR.out.1, HR.out.2⟩
    | succ m =>
      have hjn : (j : Int) < (ls.length : Int) := by omega
      have hjN : j < ls.length := by omega
      obtain ⟨hacc, hg⟩ := HX.out
      obtain ⟨g, o, c', u, e, _, _, hcu0, hsu⟩ := H.out.atS hjN
      injection e with e1 e2 e3
      subst e1 e3
      have hcu : wr.cell? ⟨g, o + j, none⟩ = some u := cell_kept hcu0 hg (by simp)
      have hsl : s < ls[j].length := HS.out _ (List.getElem_mem hjN)
      have hslI : (s : Int) < (ls[j].length : Int) := by omega
      obtain ⟨A1, c1, e1, hc3, hc4⟩ := hsu.form
      subst e1
      obtain ⟨g2, o2, c2, e2, _, _, hcx, hcx2, hux⟩ := (hsu.kept hg).atP hsl
      injection e2 with e21 e22 e23
      subst e21 e23
      have HREP : Hid (encP.rep (fun g => (fun g => w.heap.size ≤ g) g ∧ some g ≠ u5.ownBlock) wr [.int .u64 ls[j][s].1, .int .u64 ls[j][s].2] ls[j][s]) := Lib.hid ⟨rfl, hux⟩
      have HSN : Hid ((ls.take (j + 1)).map (fun x => x[s]?.getD (0, 0)) = (ls.take j).map (fun x => x[s]?.getD (0, 0)) ++ [ls[j][s]]) := Lib.hid (by rw [List.take_succ_eq_append_getElem hjN, List.map_append]; simp [hsl])
      have HAC := Lib.hid hacc
      have HG := Lib.hid hg
      have HLB : Hid ((((ls.take j).map fun x => x[s]?.getD (0, 0)).length + 1) * 16 ≤ 140737488355328) := Lib.hid (by have := HB.out; simp; omega)
      clear hacc hg hsu HX hcu0 hux
      generalize ls[j][s] = y at *
      generalize ls[j].length = n1 at *
      go_wp2_with (at_builtin; refine wpList_pushG rfl (.tmp 14) (.tmp 19) rfl (E := encP) el_pair HG.out HAC.out (fun _ h => h) HREP.out HLB.out rfl rfl ?_)
      intro v2 w2 hacc2 hg2 hgo
      have HFIN : Hid (Acc encP w.heap.size 36 (fun g => w.heap.size ≤ g) w2 v2 ((ls.take (j + 1)).map fun x => x[s]?.getD (0, 0)) ∧ w.grownBy w2 none) := Lib.hid ⟨by rw [HSN.out]; simpa using hacc2, hg2⟩
      clear hacc2 hg2 hgo
      go_wp2_with fail
      go_roundg m
      case measure => omega
      case rel => exact ⟨j + 1, by omega, by go_num, HFIN⟩
end Go.Proofs.YtmjdpmfcbeaecaaDoor

namespace Go.Proofs.YtmjdpmfcbeaecaaDoor
open Go Go.RowKit Go.Shelf

set_option maxRecDepth 100000 in
set_option maxHeartbeats 400000 in
theorem sweights_any (v : Value) (at_ : List Int) (q : Int) (X : Nat → Prop) (w : World) (h : Sl encI X w v at_) (hm : ∀ i ∈ at_, 1 ≤ i ∧ i ≤ 7) (hq : U64 q) (hb : at_.length ≤ 100000) :
    Calls Tryd.prog 53 #[v, .int .u64 q] w (GivesE encU (fun g => w.heap.size ≤ g) w (wList q at_ 0) (wErr q at_ 0)) := by
  have H := Lib.hid h
  have HM := Lib.hid hm
  have HQ := Lib.hid hq
  have HB := Lib.hid hb
  obtain ⟨A, c, rfl, hc1, hc2⟩ := h.form
  clear h hm hq hb
  go_enter Tryd.func53, Tryd.ntmps53
  go_wp2_with fail
  go_loopg [6, 11] at_.length (fun g s6 s11 wx => ∃ j : Nat, j + g = at_.length ∧ s11 = .int .i64 j ∧ Hid (Acc encU w.heap.size 22 (fun g => w.heap.size ≤ g) wx s6 (at_.take j) ∧ w.grownBy wx none))
  case atStart => exact ⟨0, by omega, rfl, Lib.hid ⟨Acc.nil _ _ _ _ _, World.grownBy.refl _ none⟩⟩
  case round =>
    obtain ⟨j, hj, rfl, HX⟩ := hrel
    cases gk with
    | zero =>
      obtain rfl : j = at_.length := by omega
      have HR : Hid (Sl encU (fun g => w.heap.size ≤ g) wr u6 at_ ∧ w.grownBy wr none) := Lib.hid ⟨by have := HX.out.1.sl; rwa [List.take_length] at this, HX.out.2⟩
      have HW := Lib.hid (weights_any u6 at_ 0 q _ wr HR.out.1 ⟨by decide, by decide⟩ HQ.out)
      have HS := Lib.hid HR.out.2.size
      clear HX
      go_wp2_with fail
      refine HW.out.mono ?_
      rintro e w1 ⟨v1, rfl, hs1, hg1⟩
      have HF : Hid (Sl encU (fun g => w.heap.size ≤ g) w1 v1 (wList q at_ 0) ∧ w.grownBy w1 none) := Lib.hid ⟨hs1.more fun g _ h => Nat.le_trans HS.out h, HR.out.2.trans hg1⟩
      clear hs1 hg1
      go_wp2
      go_ret2
      exact ⟨_, rfl, HF.out.1, HF.out.2⟩
    | succ m =>
      have hjn : (j : Int) < (at_.length : Int) := by omega
      have hjN : j < at_.length := by omega
      obtain ⟨hacc, hg⟩ := HX.out
      obtain ⟨g, o, c', e, _, _, hcu, _⟩ := (H.out.kept hg).atI hjN
      injection e with e1 e2 e3
      subst e1 e3
      have hi := HM.out _ (List.getElem_mem hjN)
      have HSN : Hid (at_.take (j + 1) = at_.take j ++ [at_[j]]) := Lib.hid (List.take_succ_eq_append_getElem hjN)
      have HU : Hid (U64 at_[j]) := Lib.hid ⟨by omega, by omega⟩
      have HAC := Lib.hid hacc
      have HG := Lib.hid hg
      have HLB : Hid (((at_.take j).length + 1) * 8 ≤ 140737488355328) := Lib.hid (by have := HB.out; simp; omega)
      clear hacc hg HX
      obtain ⟨hi1, hi2⟩ := hi
      generalize at_[j] = y at *
      have hcv : IntKind.u64.wrap y = y := IntWalk.u64_in _ (by omega)
      generalize at_.length = n at *
      go_wp2_with (at_builtin; refine wpList_pushG rfl (.tmp 15) (.tmp 18) rfl (E := encU) el_u64 HG.out HAC.out (fun _ h => h) ⟨rfl, HU.out⟩ HLB.out rfl rfl ?_)
      intro v2 w2 hacc2 hg2 hgo
      have HFIN : Hid (Acc encU w.heap.size 22 (fun g => w.heap.size ≤ g) w2 v2 (at_.take (j + 1)) ∧ w.grownBy w2 none) := Lib.hid ⟨by rw [HSN.out]; simpa using hacc2, hg2⟩
      clear hacc2 hg2 hgo
      go_wp2_with fail
      go_roundg m
      case measure => omega
      case rel => exact ⟨j + 1, by omega, by go_num, HFIN⟩
/-- Coms' closures. -/
theorem coms2_any (p : Par) (gp : Nat) (x k : Int) (w : World) (hb : Bk w gp 24 p.cells) (hx : U64 x) (hk : U64 k) :
    Calls Tryd.prog 60 #[.int .u64 x, .int .u64 k, .pointer (some ⟨gp, 0, none⟩)] w fun e w' => e = .returned (.int .u64 (powI x k p.P)) ∧ w.grownBy w' none := by
  have HPW := Lib.hid (power_any p x k w hx hk)
  have hp := hb.prule
  clear hb hx hk
  go_enter Tryd.func60, Tryd.ntmps60
  go_wp2_with fail
  refine HPW.out.mono ?_
  rintro e w1 ⟨rfl, hg⟩
  have HG := Lib.hid hg
  clear hg hp
  go_wp2
  go_ret
  exact ⟨rfl, HG.out⟩
theorem coms3_any (p : Par) (gp : Nat) (a b : Int) (w : World) (hb : Bk w gp 24 p.cells) (ha : U64 a) (hbb : U64 b) :
    Calls Tryd.prog 61 #[.int .u64 a, .int .u64 b, .pointer (some ⟨gp, 0, none⟩)] w fun e w' => e = .returned (.int .u64 (timesI p.P [a, b])) ∧ w.grownBy w' none := by
  have HTW := Lib.hid (times_two p a b w ha hbb)
  have hp := hb.prule
  clear hb ha hbb
  go_enter Tryd.func61, Tryd.ntmps61
  go_wp2_with fail
  refine HTW.out.mono ?_
  rintro e w1 ⟨rfl, hg⟩
  have HG := Lib.hid hg
  clear hg hp
  go_wp2
  go_ret
  exact ⟨rfl, HG.out⟩
/-- What numbers come to. -/
def comeU (P : Int) : List Int → List Int → Int → Int
  | x :: l, k :: ks, a => comeU P l ks (timesI P [a, powI x k P])
  | _, _, a => a
theorem comeU_snoc (P : Int) : ∀ (l ks : List Int) (a : Int) (j : Nat) (h : j < l.length) (h' : j < ks.length), comeU P (l.take (j + 1)) (ks.take (j + 1)) a = timesI P [comeU P (l.take j) (ks.take j) a, powI l[j] ks[j] P]
  | x :: l, k :: ks, a, 0, _, _ => by simp [comeU]
  | x :: l, k :: ks, a, j + 1, h, h' => by
    simp only [List.take_succ_cons, comeU, List.getElem_cons_succ]
    exact comeU_snoc P l ks _ j (by simpa using h) (by simpa using h')
end Go.Proofs.YtmjdpmfcbeaecaaDoor

namespace Go.Proofs.YtmjdpmfcbeaecaaDoor
open Go Go.RowKit Go.Shelf

theorem comeU_U64 (P : Int) (hU : ∀ l, U64 (timesI P l)) : ∀ (l ks : List Int) (a : Int), U64 a → U64 (comeU P l ks a)
  | [], _, _, h => h
  | _ :: _, [], _, h => h
  | _ :: l, _ :: ks, _, _ => comeU_U64 P hU l ks _ (hU _)
theorem comeU_take (P : Int) : ∀ (l ks : List Int) (a : Int), comeU P l (ks.take l.length) a = comeU P l ks a
  | [], _, _ => by simp [comeU]
  | _ :: _, [], _ => by simp [comeU]
  | x :: l, k :: ks, a => by simp only [List.length_cons, List.take_succ_cons, comeU]; exact comeU_take P l ks _
set_option maxRecDepth 100000 in
set_option maxHeartbeats 400000 in
theorem comeU_any (p : Par) (gp : Nat) (vl vk : Value) (l ks : List Int) (a : Int) (X Y : Nat → Prop) (w : World) (hb : Bk w gp 24 p.cells) (hl : Sl encU X w vl l) (hk : Sl encU Y w vk ks) (hlen : l.length ≤ ks.length) (ha : U64 a) :
    Calls Tryd.prog 62 #[vl, vk, .int .u64 a, .func (.func 60) #[] #[.pointer (some ⟨gp, 0, none⟩)], .func (.func 61) #[] #[.pointer (some ⟨gp, 0, none⟩)]] w fun e w' => e = .returned (.int .u64 (comeU p.P l ks a)) ∧ w.grownBy w' none := by
  have HB := Lib.hid hb
  have HL := Lib.hid hl
  have HK := Lib.hid hk
  have HLN := Lib.hid hlen
  have HU0 := Lib.hid ha
  obtain ⟨A, c, rfl, hc1, hc2⟩ := hl.form
  obtain ⟨A2, c2, rfl, hc3, hc4⟩ := hk.form
  clear hb hl hk hlen ha
  go_enter Tryd.func62, Tryd.ntmps62
  go_wp2_with fail
  go_loopg [2, 15] l.length (fun g s2 s15 wx => ∃ (j : Nat) (b : Int), j + g = l.length ∧ s15 = .int .i64 j ∧ s2 = .int .u64 b ∧ Hid (w.grownBy wx none ∧ U64 b ∧ b = comeU p.P (l.take j) (ks.take j) a))
  case atStart => exact ⟨0, a, by omega, rfl, rfl, Lib.hid ⟨World.grownBy.refl _ none, HU0.out, by simp [comeU]⟩⟩
  case round =>
    obtain ⟨j, b, hj, rfl, rfl, HX⟩ := hrel
    cases gk with
    | zero =>
      obtain rfl : j = l.length := by omega
      have HE : Hid (b = comeU p.P l ks a) := Lib.hid (by rw [HX.out.2.2, List.take_length, comeU_take])
      have HG := Lib.hid HX.out.1
      clear HX
      go_wp2
      go_ret
      exact ⟨ret_u64 HE.out, HG.out⟩
    | succ m =>
      have hjn : (j : Int) < (l.length : Int) := by omega
      have hjN : j < l.length := by omega
      have hjK : j < ks.length := Nat.lt_of_lt_of_le hjN HLN.out
      have hjk : (j : Int) < (ks.length : Int) := by omega
      obtain ⟨g, o, c', e, _, _, hcu, hux⟩ := (HL.out.kept HX.out.1).atU hjN
      injection e with e1 e2 e3
      subst e1 e3
      obtain ⟨g2, o2, c2', e, _, _, hcu2, huk⟩ := (HK.out.kept HX.out.1).atU hjK
      injection e with e1 e2 e3
      subst e1 e3
      have HSN : Hid (timesI p.P [b, powI l[j] ks[j] p.P] = comeU p.P (l.take (j + 1)) (ks.take (j + 1)) a) := Lib.hid (by rw [comeU_snoc _ _ _ _ _ hjN hjK, ← HX.out.2.2])
      have H2 := Lib.hid (coms2_any p gp l[j] ks[j] wr (HB.out.grown HX.out.1 (by simp)) hux huk)
      have HPU := Lib.hid (powI_U64' l[j] ks[j] p.P)
      have HG := Lib.hid HX.out.1
      have HBU := Lib.hid HX.out.2.1
      clear HX hux huk
      generalize l[j] = x at *
      generalize ks[j] = k at *
      generalize l.length = n at *
      generalize ks.length = n2 at *
      go_wp2_with fail
      refine H2.out.mono ?_
      rintro e4 w1 ⟨rfl, hg1⟩
      have HG1 := Lib.hid (HG.out.trans hg1)
      have H3 := Lib.hid (coms3_any p gp b _ w1 (HB.out.grown HG1.out (by simp)) HBU.out HPU.out)
      clear hg1
      go_wp2_with fail
      refine H3.out.mono ?_
      rintro e5 w2 ⟨rfl, hg2⟩
      have HFIN : Hid (w.grownBy w2 none ∧ U64 (timesI p.P [b, powI x k p.P]) ∧ timesI p.P [b, powI x k p.P] = comeU p.P (l.take (j + 1)) (ks.take (j + 1)) a) := Lib.hid ⟨HG1.out.trans hg2, timesI_U64 p.P _, HSN.out⟩
      clear hg2
      go_wp2_with fail
      go_roundg m
      case measure => omega
      case rel => exact ⟨j + 1, _, by omega, by go_num, rfl, HFIN⟩
end Go.Proofs.YtmjdpmfcbeaecaaDoor

namespace Go.Proofs.YtmjdpmfcbeaecaaDoor
open Go Go.RowKit

/-- No index. -/
def memBad (i : Int) : Bool := decide (i < 1) || decide (7 < i)
theorem memOne_any (i : Int) (w : World) :
    Calls Tryd.prog 88 #[.int .i64 i] w fun e w' => e = .returned (.bool (memBad i)) ∧ w.grownBy w' none := by
  by_cases h1 : i < 1
  · have hr : memBad i = true := by simp [memBad, h1]
    rw [hr]
    clear hr
    go_enter Tryd.func88, Tryd.ntmps88
    go_wp2
    go_ret
    exact ⟨by simp, World.grownBy.refl _ none⟩
  · by_cases h2 : 7 < i
    · have hr : memBad i = true := by simp [memBad, h2]
      rw [hr]
      clear hr
      go_enter Tryd.func88, Tryd.ntmps88
      go_wp2
      go_ret
      exact ⟨by simp [*], World.grownBy.refl _ none⟩
    · have hr : memBad i = false := by simp [memBad, h1, h2]
      rw [hr]
      clear hr
      go_enter Tryd.func88, Tryd.ntmps88
      go_wp2
      go_ret
      exact ⟨by simp [*], World.grownBy.refl _ none⟩
set_option maxHeartbeats 400000 in
theorem indexMem  (v : Value) (l : List (Int)) (X : Nat → Prop) (w : World)  (h : Sl encI X w v l) :
    Calls Tryd.prog 110 #[v, .func (.func 88) #[] #[]] w (FoundB (l.any fun x => memBad x) w) := by
  have H := Lib.hid h
  have hl := h.bound
  obtain ⟨A, c, rfl, _, _⟩ := h.form
  clear h 
  go_enter Tryd.func110, Tryd.ntmps110
  go_wp2_with fail
  go_loopg [8] l.length (fun n s8 wx => ∃ j : Nat, j + n = l.length ∧ s8 = .int .i64 j ∧ Hid (w.grownBy wx none ∧ ∀ i (h : i < l.length), i < j → memBad l[i] = false))
  case atStart => exact ⟨0, by omega, rfl, Lib.hid ⟨World.grownBy.refl w none, fun i hi h => absurd h (by omega)⟩⟩
  case round =>
    obtain ⟨j, hj, rfl, HX⟩ := hrel
    cases gk with
    | zero =>
      obtain rfl : j = l.length := by omega
      have HE : Hid (FoundB (l.any fun x => memBad x) w (.returned (.int .i64 (-1))) wr) := Lib.hid ⟨-1, rfl, by
        have : (l.any fun x => memBad x) = false := by
          rw [List.any_eq_false]
          intro b hb
          obtain ⟨i, hi, rfl⟩ := List.getElem_of_mem hb
          simp [HX.out.2 i hi hi]
        rw [this]
        rfl, ⟨by decide, by decide⟩, HX.out.1⟩
      clear HX
      go_wp2
      go_ret
      exact HE.out
    | succ k =>
      have hjn : (j : Int) < (l.length : Int) := by omega
      have hjN : j < l.length := by omega
      obtain ⟨g, o, c', e, _, _, hcu, hu⟩ := (H.out.kept HX.out.1).atI hjN
      injection e with e1 e2 e3
      subst e1 e3
      have HC := Lib.hid (memOne_any l[j] wr)
      have HV : Hid (memBad l[j] = false ∨ memBad l[j] = true) := Lib.hid (by cases memBad l[j] <;> simp)
      have HR : Hid (memBad l[j] = false → ∀ i (h : i < l.length), i < j + 1 → memBad l[i] = false) := Lib.hid (fun h i hi hl => by
        rcases Nat.lt_or_ge i j with h1 | h1
        · exact HX.out.2 i hi h1
        · obtain rfl : i = j := by omega
          exact h)
      have HN : Hid (memBad l[j] = true → (l.any fun x => memBad x) = true) := Lib.hid (fun h => List.any_eq_true.2 ⟨_, List.getElem_mem hjN, by simp [h]⟩)
      have HG := Lib.hid HX.out.1
      clear HX hu e2
      generalize memBad l[j] = b at *
      generalize l[j] = x at *
      rcases HV.out with rfl | rfl
      · go_wp2_with fail
        refine HC.out.mono ?_
        rintro e w1 ⟨rfl, hg⟩
        have HG1 := Lib.hid (HG.out.trans hg)
        clear hg
        go_wp2
        go_roundg k
        case measure => omega
        case rel => exact ⟨j + 1, by omega, by go_num, Lib.hid ⟨HG1.out, HR.out (by simp)⟩⟩
      · have HE : Hid (∀ w1, w.grownBy w1 none → FoundB (l.any fun x => memBad x) w (.returned (.int .i64 j)) w1) := Lib.hid (fun w1 hg => ⟨j, rfl, by rw [HN.out rfl]; simp, ⟨by omega, by omega⟩, hg⟩)
        go_wp2_with fail
        refine HC.out.mono ?_
        rintro e w1 ⟨rfl, hg⟩
        have HG1 := Lib.hid (HG.out.trans hg)
        clear hg
        go_wp2
        go_ret
        exact HE.out _ HG1.out
set_option maxHeartbeats 400000 in
theorem containsMem  (v : Value) (l : List (Int)) (X : Nat → Prop) (w : World)  (h : Sl encI X w v l) :
    Calls Tryd.prog 87 #[v, .func (.func 88) #[] #[]] w fun e w' => e = .returned (.bool (l.any fun x => memBad x)) ∧ w.grownBy w' none := by
  have HC := Lib.hid (indexMem  v l X w  h)
  obtain ⟨A, c, rfl, _, _⟩ := h.form
  clear h 
  go_enter Tryd.func87, Tryd.ntmps87
  go_wp2_with fail
  refine HC.out.mono ?_
  rintro e w1 ⟨r, rfl, hr, _, hg⟩
  have HG := Lib.hid hg
  have HR := Lib.hid hr
  clear hg hr
  go_wp2
  go_ret
  exact ⟨ret_bool HR.out, HG.out⟩
/-- All are indices, and there are some. -/
def membersB (at_ : List Int) : Bool := decide (0 < at_.length) && !at_.any fun i => memBad i
theorem membersB_yes {at_ : List Int} (h : membersB at_ = true) : 0 < at_.length ∧ ∀ i ∈ at_, 1 ≤ i ∧ i ≤ 7 := by
  simp [membersB, memBad] at h
  exact ⟨h.1, fun i hi => h.2 i hi⟩
set_option maxHeartbeats 400000 in
theorem members_any (v : Value) (at_ : List Int) (X : Nat → Prop) (w : World) (h : Sl encI X w v at_) :
    Calls Tryd.prog 51 #[v] w fun e w' => e = .returned (.bool (membersB at_)) ∧ w.grownBy w' none := by
  have HC := Lib.hid (containsMem v at_ X w h)
  obtain ⟨A, c, rfl, _, _⟩ := h.form
  clear h
  by_cases h0 : 0 < at_.length
  · have hr : membersB at_ = !at_.any fun i => memBad i := by simp [membersB, h0]
    rw [hr]
    clear hr
    have hI : (0 : Int) < (at_.length : Int) := by omega
    generalize (at_.any fun i => memBad i) = b at *
    generalize at_.length = n at *
    go_enter Tryd.func51, Tryd.ntmps51
    go_wp2_with fail
    refine HC.out.mono ?_
    rintro e w1 ⟨rfl, hg⟩
    have HG := Lib.hid hg
    clear hg
    go_wp2
    go_ret
    exact ⟨by simp, HG.out⟩
  · have hr : membersB at_ = false := by simp [membersB, h0]
    rw [hr]
    clear hr
    have hI : ¬ (0 : Int) < (at_.length : Int) := by omega
    generalize at_.length = n at *
    go_enter Tryd.func51, Tryd.ntmps51
    go_wp2
    go_ret
    exact ⟨by simp [*], World.grownBy.refl _ none⟩
/-- A list of a column that is too short or too long. -/
def shortB (p : Par) (x : List Int) : Bool := !((x.length : Int) == wrap64 (p.T + 1))
theorem short_any (p : Par) (B : Nat) (v : Value) (x : List Int) (X : Nat → Prop) (w : World) (hb : Bk w B 24 p.cells) (h : Sl encU X w v x) :
    Calls Tryd.prog 58 #[v, .pointer (some ⟨B, 0, none⟩)] w fun e w' => e = .returned (.bool (shortB p x)) ∧ w.grownBy w' none := by
  obtain ⟨A, c, rfl, _, _⟩ := h.form
  have hc := hb.prule
  obtain ⟨r, hr⟩ : ∃ r, r = shortB p x := ⟨_, rfl⟩
  have HR := Lib.hid hr
  rw [← hr]
  clear h hb hr
  go_enter Tryd.func58, Tryd.ntmps58
  go_wp2
  go_ret
  exact ⟨ret_bool (by rw [HR.out]; rfl), World.grownBy.refl _ none⟩
set_option maxHeartbeats 400000 in
theorem indexShort (p : Par) (B : Nat) (v : Value) (l : List (List Int)) (X : Nat → Prop) (w : World) (hb : Bk w B 24 p.cells) (h : Sl (encS encU) X w v l) :
    Calls Tryd.prog 91 #[v, .func (.func 58) #[] #[.pointer (some ⟨B, 0, none⟩)]] w (FoundB (l.any fun x => shortB p x) w) := by
  have Hhb := Lib.hid hb
  have H := Lib.hid h
  have hl := h.bound
  obtain ⟨A, c, rfl, _, _⟩ := h.form
  clear h hb
  go_enter Tryd.func91, Tryd.ntmps91
  go_wp2_with fail
  go_loopg [8] l.length (fun n s8 wx => ∃ j : Nat, j + n = l.length ∧ s8 = .int .i64 j ∧ Hid (w.grownBy wx none ∧ ∀ i (h : i < l.length), i < j → shortB p l[i] = false))
  case atStart => exact ⟨0, by omega, rfl, Lib.hid ⟨World.grownBy.refl w none, fun i hi h => absurd h (by omega)⟩⟩
  case round =>
    obtain ⟨j, hj, rfl, HX⟩ := hrel
    cases gk with
    | zero =>
      obtain rfl : j = l.length := by omega
      have HE : Hid (FoundB (l.any fun x => shortB p x) w (.returned (.int .i64 (-1))) wr) := Lib.hid ⟨-1, rfl, by
        have : (l.any fun x => shortB p x) = false := by
          rw [List.any_eq_false]
          intro b hb
          obtain ⟨i, hi, rfl⟩ := List.getElem_of_mem hb
          simp [HX.out.2 i hi hi]
        rw [this]
        rfl, ⟨by decide, by decide⟩, HX.out.1⟩
      clear HX
      go_wp2
      go_ret
      exact HE.out
    | succ k =>
      have hjn : (j : Int) < (l.length : Int) := by omega
      have hjN : j < l.length := by omega
      obtain ⟨g, o, c', u, e, _, _, hcu, hu⟩ := (H.out.kept HX.out.1).atS hjN
      injection e with e1 e2 e3
      subst e1 e3
      have HC := Lib.hid (short_any p B u l[j] X wr (Hhb.out.grown HX.out.1 (by simp)) hu)
      have HV : Hid (shortB p l[j] = false ∨ shortB p l[j] = true) := Lib.hid (by cases shortB p l[j] <;> simp)
      have HR : Hid (shortB p l[j] = false → ∀ i (h : i < l.length), i < j + 1 → shortB p l[i] = false) := Lib.hid (fun h i hi hl => by
        rcases Nat.lt_or_ge i j with h1 | h1
        · exact HX.out.2 i hi h1
        · obtain rfl : i = j := by omega
          exact h)
      have HN : Hid (shortB p l[j] = true → (l.any fun x => shortB p x) = true) := Lib.hid (fun h => List.any_eq_true.2 ⟨_, List.getElem_mem hjN, by simp [h]⟩)
      obtain ⟨A7, c7, e7, _, _⟩ := hu.form
      generalize l[j].length = n7 at e7
      subst e7
      have HG := Lib.hid HX.out.1
      clear HX hu e2
      generalize shortB p l[j] = b at *
      generalize l[j] = x at *
      rcases HV.out with rfl | rfl
      · go_wp2_with fail
        refine HC.out.mono ?_
        rintro e w1 ⟨rfl, hg⟩
        have HG1 := Lib.hid (HG.out.trans hg)
        clear hg
        go_wp2
        go_roundg k
        case measure => omega
        case rel => exact ⟨j + 1, by omega, by go_num, Lib.hid ⟨HG1.out, HR.out (by simp)⟩⟩
      · have HE : Hid (∀ w1, w.grownBy w1 none → FoundB (l.any fun x => shortB p x) w (.returned (.int .i64 j)) w1) := Lib.hid (fun w1 hg => ⟨j, rfl, by rw [HN.out rfl]; simp, ⟨by omega, by omega⟩, hg⟩)
        go_wp2_with fail
        refine HC.out.mono ?_
        rintro e w1 ⟨rfl, hg⟩
        have HG1 := Lib.hid (HG.out.trans hg)
        clear hg
        go_wp2
        go_ret
        exact HE.out _ HG1.out
set_option maxHeartbeats 400000 in
theorem containsShort (p : Par) (B : Nat) (v : Value) (l : List (List Int)) (X : Nat → Prop) (w : World) (hb : Bk w B 24 p.cells) (h : Sl (encS encU) X w v l) :
    Calls Tryd.prog 59 #[v, .func (.func 58) #[] #[.pointer (some ⟨B, 0, none⟩)]] w fun e w' => e = .returned (.bool (l.any fun x => shortB p x)) ∧ w.grownBy w' none := by
  have HC := Lib.hid (indexShort p B v l X w hb h)
  obtain ⟨A, c, rfl, _, _⟩ := h.form
  clear h hb
  go_enter Tryd.func59, Tryd.ntmps59
  go_wp2_with fail
  refine HC.out.mono ?_
  rintro e w1 ⟨r, rfl, hr, _, hg⟩
  have HG := Lib.hid hg
  have HR := Lib.hid hr
  clear hg hr
  go_wp2
  go_ret
  exact ⟨ret_bool HR.out, HG.out⟩
/-- A member's list that is too short or too long. -/
def oddB (p : Par) (x : List (Int × Int)) : Bool := !((x.length : Int) == secretsI p)
theorem odd_any (p : Par) (B : Nat) (v : Value) (x : List (Int × Int)) (X : Nat → Prop) (w : World) (hb : Bk w B 24 p.cells) (h : Sl encP X w v x) :
    Calls Tryd.prog 48 #[v, .pointer (some ⟨B, 0, none⟩)] w fun e w' => e = .returned (.bool (oddB p x)) ∧ w.grownBy w' none := by
  obtain ⟨A, c, rfl, _, _⟩ := h.form
  have hc := hb.prule
  have HS := Lib.hid (ssecrets_any p w)
  obtain ⟨r, hr⟩ : ∃ r, r = oddB p x := ⟨_, rfl⟩
  have HR := Lib.hid hr
  rw [← hr]
  clear h hb hr
  go_enter Tryd.func48, Tryd.ntmps48
  go_wp2_with fail
  refine HS.out.mono ?_
  rintro e w1 ⟨rfl, hg⟩
  have HG := Lib.hid hg
  clear hg hc
  go_wp2
  go_ret
  exact ⟨ret_bool (by rw [HR.out]; rfl), HG.out⟩
set_option maxHeartbeats 400000 in
theorem indexOdd (p : Par) (B : Nat) (v : Value) (l : List (List (Int × Int))) (X : Nat → Prop) (w : World) (hb : Bk w B 24 p.cells) (h : Sl (encS encP) X w v l) :
    Calls Tryd.prog 89 #[v, .func (.func 48) #[] #[.pointer (some ⟨B, 0, none⟩)]] w (FoundB (l.any fun x => oddB p x) w) := by
  have Hhb := Lib.hid hb
  have H := Lib.hid h
  have hl := h.bound
  obtain ⟨A, c, rfl, _, _⟩ := h.form
  clear h hb
  go_enter Tryd.func89, Tryd.ntmps89
  go_wp2_with fail
  go_loopg [8] l.length (fun n s8 wx => ∃ j : Nat, j + n = l.length ∧ s8 = .int .i64 j ∧ Hid (w.grownBy wx none ∧ ∀ i (h : i < l.length), i < j → oddB p l[i] = false))
  case atStart => exact ⟨0, by omega, rfl, Lib.hid ⟨World.grownBy.refl w none, fun i hi h => absurd h (by omega)⟩⟩
  case round =>
    obtain ⟨j, hj, rfl, HX⟩ := hrel
    cases gk with
    | zero =>
      obtain rfl : j = l.length := by omega
      have HE : Hid (FoundB (l.any fun x => oddB p x) w (.returned (.int .i64 (-1))) wr) := Lib.hid ⟨-1, rfl, by
        have : (l.any fun x => oddB p x) = false := by
          rw [List.any_eq_false]
          intro b hb
          obtain ⟨i, hi, rfl⟩ := List.getElem_of_mem hb
          simp [HX.out.2 i hi hi]
        rw [this]
        rfl, ⟨by decide, by decide⟩, HX.out.1⟩
      clear HX
      go_wp2
      go_ret
      exact HE.out
    | succ k =>
      have hjn : (j : Int) < (l.length : Int) := by omega
      have hjN : j < l.length := by omega
      obtain ⟨g, o, c', u, e, _, _, hcu, hu⟩ := (H.out.kept HX.out.1).atS hjN
      injection e with e1 e2 e3
      subst e1 e3
      have HC := Lib.hid (odd_any p B u l[j] X wr (Hhb.out.grown HX.out.1 (by simp)) hu)
      have HV : Hid (oddB p l[j] = false ∨ oddB p l[j] = true) := Lib.hid (by cases oddB p l[j] <;> simp)
      have HR : Hid (oddB p l[j] = false → ∀ i (h : i < l.length), i < j + 1 → oddB p l[i] = false) := Lib.hid (fun h i hi hl => by
        rcases Nat.lt_or_ge i j with h1 | h1
        · exact HX.out.2 i hi h1
        · obtain rfl : i = j := by omega
          exact h)
      have HN : Hid (oddB p l[j] = true → (l.any fun x => oddB p x) = true) := Lib.hid (fun h => List.any_eq_true.2 ⟨_, List.getElem_mem hjN, by simp [h]⟩)
      obtain ⟨A7, c7, e7, _, _⟩ := hu.form
      generalize l[j].length = n7 at e7
      subst e7
      have HG := Lib.hid HX.out.1
      clear HX hu e2
      generalize oddB p l[j] = b at *
      generalize l[j] = x at *
      rcases HV.out with rfl | rfl
      · go_wp2_with fail
        refine HC.out.mono ?_
        rintro e w1 ⟨rfl, hg⟩
        have HG1 := Lib.hid (HG.out.trans hg)
        clear hg
        go_wp2
        go_roundg k
        case measure => omega
        case rel => exact ⟨j + 1, by omega, by go_num, Lib.hid ⟨HG1.out, HR.out (by simp)⟩⟩
      · have HE : Hid (∀ w1, w.grownBy w1 none → FoundB (l.any fun x => oddB p x) w (.returned (.int .i64 j)) w1) := Lib.hid (fun w1 hg => ⟨j, rfl, by rw [HN.out rfl]; simp, ⟨by omega, by omega⟩, hg⟩)
        go_wp2_with fail
        refine HC.out.mono ?_
        rintro e w1 ⟨rfl, hg⟩
        have HG1 := Lib.hid (HG.out.trans hg)
        clear hg
        go_wp2
        go_ret
        exact HE.out _ HG1.out
set_option maxHeartbeats 400000 in
theorem containsOdd (p : Par) (B : Nat) (v : Value) (l : List (List (Int × Int))) (X : Nat → Prop) (w : World) (hb : Bk w B 24 p.cells) (h : Sl (encS encP) X w v l) :
    Calls Tryd.prog 52 #[v, .func (.func 48) #[] #[.pointer (some ⟨B, 0, none⟩)]] w fun e w' => e = .returned (.bool (l.any fun x => oddB p x)) ∧ w.grownBy w' none := by
  have HC := Lib.hid (indexOdd p B v l X w hb h)
  obtain ⟨A, c, rfl, _, _⟩ := h.form
  clear h hb
  go_enter Tryd.func52, Tryd.ntmps52
  go_wp2_with fail
  refine HC.out.mono ?_
  rintro e w1 ⟨r, rfl, hr, _, hg⟩
  have HG := Lib.hid hg
  have HR := Lib.hid hr
  clear hg hr
  go_wp2
  go_ret
  exact ⟨ret_bool HR.out, HG.out⟩
end Go.Proofs.YtmjdpmfcbeaecaaDoor

namespace Go.Proofs.YtmjdpmfcbeaecaaDoor
open Go.RowKit

theorem zero_pair (w : World) (n : Nat) : ((w.drewN n).alloc (Obj.cells #[.int .u64 0, .int .u64 0] 36)).cell? ⟨w.heap.size, 0, none⟩ = some (.int .u64 0) ∧ ((w.drewN n).alloc (Obj.cells #[.int .u64 0, .int .u64 0] 36)).cell? ⟨w.heap.size, 1, none⟩ = some (.int .u64 0) ∧
    ((w.drewN n).alloc (Obj.cells #[.int .u64 0, .int .u64 0] 36)).frozen? ⟨w.heap.size, 0, none⟩ = false ∧ ((w.drewN n).alloc (Obj.cells #[.int .u64 0, .int .u64 0] 36)).frozen? ⟨w.heap.size, 1, none⟩ = false :=
  have h : Bk ((w.drewN n).alloc (Obj.cells #[.int .u64 0, .int .u64 0] 36)) w.heap.size 36 #[.int .u64 0, .int .u64 0] := Bk.new (w.drewN n) _ _
  ⟨h.cell 0, h.cell 1, h.free 0, h.free 1⟩
theorem pair_made (w : World) (n : Nat) (a b : Int) : w.grownBy ((((w.drewN n).alloc (Obj.cells #[.int .u64 0, .int .u64 0] 36)).setCell ⟨w.heap.size, 0, none⟩ (.int .u64 a)).setCell ⟨w.heap.size, 1, none⟩ (.int .u64 b)) none ∧
    Bk ((((w.drewN n).alloc (Obj.cells #[.int .u64 0, .int .u64 0] 36)).setCell ⟨w.heap.size, 0, none⟩ (.int .u64 a)).setCell ⟨w.heap.size, 1, none⟩ (.int .u64 b)) w.heap.size 36 #[.int .u64 a, .int .u64 b] := by
  have h0 : Bk ((w.drewN n).alloc (Obj.cells #[.int .u64 0, .int .u64 0] 36)) w.heap.size 36 #[.int .u64 0, .int .u64 0] := Bk.new (w.drewN n) _ _
  have g0 : w.grownBy ((w.drewN n).alloc (Obj.cells #[.int .u64 0, .int .u64 0] 36)) none := (grownBy_drewN (World.grownBy.refl w none) n).trans (World.grownBy_alloc _ _ none)
  refine ⟨?_, (h0.set 0 _).set 1 _⟩
  have g1 := grown_up g0 (grownBy_set (World.grownBy.refl _ (some w.heap.size)) 0 (.int .u64 a)) (by intro g e; injection e with e; omega)
  exact grown_up g1 (grownBy_set (World.grownBy.refl _ (some w.heap.size)) 1 (.int .u64 b)) (by intro g e; injection e with e; omega)
theorem pair_made2 (w : World) (n m : Nat) (a b : Int) : w.grownBy (((((w.drewN n).alloc (Obj.cells #[.int .u64 0, .int .u64 0] 36)).drewN m).setCell ⟨w.heap.size, 0, none⟩ (.int .u64 a)).setCell ⟨w.heap.size, 1, none⟩ (.int .u64 b)) none ∧
    Bk (((((w.drewN n).alloc (Obj.cells #[.int .u64 0, .int .u64 0] 36)).drewN m).setCell ⟨w.heap.size, 0, none⟩ (.int .u64 a)).setCell ⟨w.heap.size, 1, none⟩ (.int .u64 b)) w.heap.size 36 #[.int .u64 a, .int .u64 b] := by
  have h0 : Bk (((w.drewN n).alloc (Obj.cells #[.int .u64 0, .int .u64 0] 36)).drewN m) w.heap.size 36 #[.int .u64 0, .int .u64 0] := (Bk.new (w.drewN n) _ _).drewN m
  have g0 : w.grownBy (((w.drewN n).alloc (Obj.cells #[.int .u64 0, .int .u64 0] 36)).drewN m) none := grownBy_drewN ((grownBy_drewN (World.grownBy.refl w none) n).trans (World.grownBy_alloc _ _ none)) m
  refine ⟨?_, (h0.set 0 _).set 1 _⟩
  have g1 := grown_up g0 (grownBy_set (World.grownBy.refl _ (some w.heap.size)) 0 (.int .u64 a)) (by intro g e; injection e with e; omega)
  exact grown_up g1 (grownBy_set (World.grownBy.refl _ (some w.heap.size)) 1 (.int .u64 b)) (by intro g e; injection e with e; omega)
theorem bkDrawn {w : World} {g : Nat} {t : TypeId} {cs : Array Value} (h : Hid (Bk w g t cs)) (n : Nat) : Hid (Bk (w.drewN n) g t cs) := Lib.hid (h.out.drewN n)
end Go.Proofs.YtmjdpmfcbeaecaaDoor

namespace Go.Proofs.YtmjdpmfcbeaecaaDoor
open Go Go.RowKit

set_option maxRecDepth 100000 in
set_option maxHeartbeats 400000 in
theorem sum2_any (p : Par) (gp : Nat) (x : Int × Int) (k : Int) (w : World) (hb : Bk w gp 24 p.cells) (hu1 : U64 x.1) (hu2 : U64 x.2) (hu3 : U64 k) (hu4 : True) :
    Calls Tryd.prog 54 #[.agg #[.int .u64 x.1, .int .u64 x.2], .int .u64 k, .pointer (some ⟨gp, 0, none⟩)] w fun e w' => e = .returned (.agg #[.int .u64 (mulI x.1 k p.Q), .int .u64 (mulI x.2 k p.Q)]) ∧ w.grownBy w' none := by
  have HP : Hid (Bk ((w.alloc (.cells #[.int .u64 x.1, .int .u64 x.2] 36)).alloc (.cells #[.int .u64 0, .int .u64 0] 36)) gp 24 p.cells) := Lib.hid ((hb.alloc _).alloc _)
  have HX0 : Hid (Bk ((w.alloc (.cells #[.int .u64 x.1, .int .u64 x.2] 36)).alloc (.cells #[.int .u64 0, .int .u64 0] 36)) (w.heap.size) 36 #[.int .u64 x.1, .int .u64 x.2]) := Lib.hid (by have := (Bk.new w 36 #[.int .u64 x.1, .int .u64 x.2]).alloc (.cells #[.int .u64 0, .int .u64 0] 36); simpa using this)
  have HR : Hid (Bk ((w.alloc (.cells #[.int .u64 x.1, .int .u64 x.2] 36)).alloc (.cells #[.int .u64 0, .int .u64 0] 36)) (w.heap.size + 1) 36 #[.int .u64 0, .int .u64 0]) := Lib.hid (by have := Bk.new (w.alloc (.cells #[.int .u64 x.1, .int .u64 x.2] 36)) 36 #[.int .u64 0, .int .u64 0]; simpa using this)
  have HG : Hid (w.grownBy ((w.alloc (.cells #[.int .u64 x.1, .int .u64 x.2] 36)).alloc (.cells #[.int .u64 0, .int .u64 0] 36)) none ∧ w.heap.size + 1 < ((w.alloc (.cells #[.int .u64 x.1, .int .u64 x.2] 36)).alloc (.cells #[.int .u64 0, .int .u64 0] 36)).heap.size) := Lib.hid ⟨(World.grownBy_alloc w _ none).trans (World.grownBy_alloc _ _ none), by simp⟩
  have HU := Lib.hid (And.intro hu1 (And.intro hu2 (And.intro hu3 hu4)))
  clear hb hu1 hu2 hu3 hu4
  go_enter Tryd.func54, Tryd.ntmps54
  go_wp2_with fail
  obtain ⟨W, hW⟩ : ∃ W, W = ((w.alloc (.cells #[.int .u64 x.1, .int .u64 x.2] 36)).alloc (.cells #[.int .u64 0, .int .u64 0] 36)) := ⟨_, rfl⟩
  rw [← hW] at HP HR HG HX0 ⊢
  clear hW
  refine wp_region_mono 13 (by kernel_rfl) (by kernel_rfl) ?_
  refine MonoR.step (Pv.eq (.pointer (some ⟨w.heap.size, 0, none⟩))) [] (by kernel_rfl) (fun w' hw' => ?_) ?_
  · refine ask_do rfl fun K hK => ?_
    go_simp
    exact hK _ _ rfl rfl (World.grownBy.refl _ none)
  refine MonoR.step (Pv.eq (.int .u64 x.1)) [(0, 6)] (by kernel_rfl) (fun w' hw' => ?_) ?_
  · rintro _ rfl
    refine ask_do rfl fun K hK => ?_
    have hq := (HP.out.grown ((grown_drewN' W 1).trans hw') (by simp)).prule
    have hx0 := (HX0.out.grown ((grown_drewN' W 1).trans hw') (by simp)).cell
    have hx0a := hx0 0; have hx0b := hx0 1; simp at hx0a hx0b
    go_simp
    exact hK _ _ rfl rfl (World.grownBy.refl _ none)
  refine MonoR.step (Pv.eq (.int .u64 k)) [] (by kernel_rfl) (fun w' hw' => ?_) ?_
  · refine ask_do rfl fun K hK => ?_
    go_simp
    exact hK _ _ rfl rfl (World.grownBy.refl _ none)
  refine MonoR.step (Pv.eq (.pointer (some ⟨gp, 1, none⟩))) [] (by kernel_rfl) (fun w' hw' => ?_) ?_
  · refine ask_do rfl fun K hK => ?_
    go_simp
    exact hK _ _ rfl rfl (World.grownBy.refl _ none)
  refine MonoR.step (Pv.eq (.int .u64 p.Q)) [(3, 9)] (by kernel_rfl) (fun w' hw' => ?_) ?_
  · rintro _ rfl
    refine ask_do rfl fun K hK => ?_
    have hq := (HP.out.grown ((grown_drewN' W 1).trans hw') (by simp)).prule
    have hx0 := (HX0.out.grown ((grown_drewN' W 1).trans hw') (by simp)).cell
    have hx0a := hx0 0; have hx0b := hx0 1; simp at hx0a hx0b
    go_simp
    exact hK _ _ rfl rfl (World.grownBy.refl _ none)
  refine MonoR.step (Pv.eq (.int .u64 (mulI x.1 k p.Q))) [(1, 7), (2, 8), (4, 10)] (by kernel_rfl) (fun w' hw' => ?_) ?_
  · rintro _ rfl
    rintro _ rfl
    rintro _ rfl
    refine ask_do rfl fun K hK => ?_
    go_simp
    refine (mul_gr x.1 k p.Q w' HU.out.1 HU.out.2.2.1).mono ?_
    rintro e w3 ⟨rfl, hg⟩
    exact hK _ _ rfl rfl hg
  refine MonoR.step (Pv.eq (.pointer (some ⟨w.heap.size, 1, none⟩))) [] (by kernel_rfl) (fun w' hw' => ?_) ?_
  · refine ask_do rfl fun K hK => ?_
    go_simp
    exact hK _ _ rfl rfl (World.grownBy.refl _ none)
  refine MonoR.step (Pv.eq (.int .u64 x.2)) [(6, 12)] (by kernel_rfl) (fun w' hw' => ?_) ?_
  · rintro _ rfl
    refine ask_do rfl fun K hK => ?_
    have hq := (HP.out.grown ((grown_drewN' W 1).trans hw') (by simp)).prule
    have hx0 := (HX0.out.grown ((grown_drewN' W 1).trans hw') (by simp)).cell
    have hx0a := hx0 0; have hx0b := hx0 1; simp at hx0a hx0b
    go_simp
    exact hK _ _ rfl rfl (World.grownBy.refl _ none)
  refine MonoR.step (Pv.eq (.int .u64 k)) [] (by kernel_rfl) (fun w' hw' => ?_) ?_
  · refine ask_do rfl fun K hK => ?_
    go_simp
    exact hK _ _ rfl rfl (World.grownBy.refl _ none)
  refine MonoR.step (Pv.eq (.pointer (some ⟨gp, 1, none⟩))) [] (by kernel_rfl) (fun w' hw' => ?_) ?_
  · refine ask_do rfl fun K hK => ?_
    go_simp
    exact hK _ _ rfl rfl (World.grownBy.refl _ none)
  refine MonoR.step (Pv.eq (.int .u64 p.Q)) [(9, 15)] (by kernel_rfl) (fun w' hw' => ?_) ?_
  · rintro _ rfl
    refine ask_do rfl fun K hK => ?_
    have hq := (HP.out.grown ((grown_drewN' W 1).trans hw') (by simp)).prule
    have hx0 := (HX0.out.grown ((grown_drewN' W 1).trans hw') (by simp)).cell
    have hx0a := hx0 0; have hx0b := hx0 1; simp at hx0a hx0b
    go_simp
    exact hK _ _ rfl rfl (World.grownBy.refl _ none)
  refine MonoR.step (Pv.eq (.int .u64 (mulI x.2 k p.Q))) [(7, 13), (8, 14), (10, 16)] (by kernel_rfl) (fun w' hw' => ?_) ?_
  · rintro _ rfl
    rintro _ rfl
    rintro _ rfl
    refine ask_do rfl fun K hK => ?_
    go_simp
    refine (mul_gr x.2 k p.Q w' HU.out.2.1 HU.out.2.2.1).mono ?_
    rintro e w3 ⟨rfl, hg⟩
    exact hK _ _ rfl rfl hg
  refine MonoR.step (Pv.eq (.agg #[.int .u64 (mulI x.1 k p.Q), .int .u64 (mulI x.2 k p.Q)])) [(5, 11), (11, 17)] (by kernel_rfl) (fun w' hw' => ?_) ?_
  · rintro _ rfl
    rintro _ rfl
    refine ask_do rfl fun K hK => ?_
    go_simp
    exact hK _ _ rfl rfl (World.grownBy.refl _ none)
  intro w3 hw3
  intro y0 e0 y1 e1 y2 e2 y3 e3 y4 e4 y5 e5 y6 e6 y7 e7 y8 e8 y9 e9 y10 e10 y11 e11 y12 e12
  have e0 : y0 = .pointer (some ⟨w.heap.size, 0, none⟩) := e0
  subst e0
  have e1 : y1 = .int .u64 x.1 := e1
  subst e1
  have e2 : y2 = .int .u64 k := e2
  subst e2
  have e3 : y3 = .pointer (some ⟨gp, 1, none⟩) := e3
  subst e3
  have e4 : y4 = .int .u64 p.Q := e4
  subst e4
  have e5 : y5 = .int .u64 (mulI x.1 k p.Q) := e5
  subst e5
  have e6 : y6 = .pointer (some ⟨w.heap.size, 1, none⟩) := e6
  subst e6
  have e7 : y7 = .int .u64 x.2 := e7
  subst e7
  have e8 : y8 = .int .u64 k := e8
  subst e8
  have e9 : y9 = .pointer (some ⟨gp, 1, none⟩) := e9
  subst e9
  have e10 : y10 = .int .u64 p.Q := e10
  subst e10
  have e11 : y11 = .int .u64 (mulI x.2 k p.Q) := e11
  subst e11
  have e12 : y12 = .agg #[.int .u64 (mulI x.1 k p.Q), .int .u64 (mulI x.2 k p.Q)] := e12
  subst e12
  simp only [Act.put, List.setIfInBounds_toArray, List.set_cons_zero, List.set_cons_succ]
  have hr3 := HR.out.grown ((grown_drewN' W 1).trans hw3) (by simp)
  have hc0 := hr3.cell 0
  have hc1 := hr3.cell 1
  have hf0 := hr3.free 0
  have hf1 := hr3.free 1
  simp at hc0 hc1
  have hk5 := (hr3.set 0 (.int .u64 (mulI x.1 k p.Q))).set 1 (.int .u64 (mulI x.2 k p.Q))
  have hk0 := hk5.cell 0
  have hk1 := hk5.cell 1
  simp at hk0 hk1
  have HF : Hid (w.grownBy ((w3.setCell ⟨w.heap.size + 1, 0, none⟩ (.int .u64 (mulI x.1 k p.Q))).setCell ⟨w.heap.size + 1, 1, none⟩ (.int .u64 (mulI x.2 k p.Q))) none) := Lib.hid (grown_of_below (((below_grown (HG.out.1.trans ((grown_drewN' W 1).trans hw3))).setCell (p := ⟨w.heap.size + 1, 0, none⟩) (by simp <;> omega) _).setCell (p := ⟨w.heap.size + 1, 1, none⟩) (by simp <;> omega) _))
  clear hw3 hr3 hk5
  refine wpList_plain rfl fun K hK => ?_
  go_simp
  refine hK _ _ (wpList_nil ?_)
  go_wp2_with fail
  refine bodyPost_ret (v := .agg #[.int .u64 (mulI x.1 k p.Q), .int .u64 (mulI x.2 k p.Q)]) (by simp [results, Tryd.results54, go_sem, *]) rfl ⟨rfl, HF.out⟩
set_option maxRecDepth 100000 in
set_option maxHeartbeats 400000 in
theorem sum3_any (p : Par) (gp : Nat) (x y : Int × Int) (w : World) (hb : Bk w gp 24 p.cells) (hu1 : U64 x.1) (hu2 : U64 x.2) (hu3 : U64 y.1) (hu4 : U64 y.2) :
    Calls Tryd.prog 55 #[.agg #[.int .u64 x.1, .int .u64 x.2], .agg #[.int .u64 y.1, .int .u64 y.2], .pointer (some ⟨gp, 0, none⟩)] w fun e w' => e = .returned (.agg #[.int .u64 (addI x.1 y.1 p.Q), .int .u64 (addI x.2 y.2 p.Q)]) ∧ w.grownBy w' none := by
  have HP : Hid (Bk (((w.alloc (.cells #[.int .u64 x.1, .int .u64 x.2] 36)).alloc (.cells #[.int .u64 y.1, .int .u64 y.2] 36)).alloc (.cells #[.int .u64 0, .int .u64 0] 36)) gp 24 p.cells) := Lib.hid (((hb.alloc _).alloc _).alloc _)
  have HX0 : Hid (Bk (((w.alloc (.cells #[.int .u64 x.1, .int .u64 x.2] 36)).alloc (.cells #[.int .u64 y.1, .int .u64 y.2] 36)).alloc (.cells #[.int .u64 0, .int .u64 0] 36)) (w.heap.size) 36 #[.int .u64 x.1, .int .u64 x.2]) := Lib.hid (by have := (Bk.new w 36 #[.int .u64 x.1, .int .u64 x.2]).alloc (.cells #[.int .u64 y.1, .int .u64 y.2] 36) |>.alloc (.cells #[.int .u64 0, .int .u64 0] 36); simpa using this)
  have HX1 : Hid (Bk (((w.alloc (.cells #[.int .u64 x.1, .int .u64 x.2] 36)).alloc (.cells #[.int .u64 y.1, .int .u64 y.2] 36)).alloc (.cells #[.int .u64 0, .int .u64 0] 36)) (w.heap.size + 1) 36 #[.int .u64 y.1, .int .u64 y.2]) := Lib.hid (by have := (Bk.new (w.alloc (.cells #[.int .u64 x.1, .int .u64 x.2] 36)) 36 #[.int .u64 y.1, .int .u64 y.2]).alloc (.cells #[.int .u64 0, .int .u64 0] 36); simpa using this)
  have HR : Hid (Bk (((w.alloc (.cells #[.int .u64 x.1, .int .u64 x.2] 36)).alloc (.cells #[.int .u64 y.1, .int .u64 y.2] 36)).alloc (.cells #[.int .u64 0, .int .u64 0] 36)) (w.heap.size + 1 + 1) 36 #[.int .u64 0, .int .u64 0]) := Lib.hid (by have := Bk.new ((w.alloc (.cells #[.int .u64 x.1, .int .u64 x.2] 36)).alloc (.cells #[.int .u64 y.1, .int .u64 y.2] 36)) 36 #[.int .u64 0, .int .u64 0]; simpa using this)
  have HG : Hid (w.grownBy (((w.alloc (.cells #[.int .u64 x.1, .int .u64 x.2] 36)).alloc (.cells #[.int .u64 y.1, .int .u64 y.2] 36)).alloc (.cells #[.int .u64 0, .int .u64 0] 36)) none ∧ w.heap.size + 1 + 1 < (((w.alloc (.cells #[.int .u64 x.1, .int .u64 x.2] 36)).alloc (.cells #[.int .u64 y.1, .int .u64 y.2] 36)).alloc (.cells #[.int .u64 0, .int .u64 0] 36)).heap.size) := Lib.hid ⟨((World.grownBy_alloc w _ none).trans (World.grownBy_alloc _ _ none)).trans (World.grownBy_alloc _ _ none), by simp⟩
  have HU := Lib.hid (And.intro hu1 (And.intro hu2 (And.intro hu3 hu4)))
  clear hb hu1 hu2 hu3 hu4
  go_enter Tryd.func55, Tryd.ntmps55
  go_wp2_with fail
  obtain ⟨W, hW⟩ : ∃ W, W = (((w.alloc (.cells #[.int .u64 x.1, .int .u64 x.2] 36)).alloc (.cells #[.int .u64 y.1, .int .u64 y.2] 36)).alloc (.cells #[.int .u64 0, .int .u64 0] 36)) := ⟨_, rfl⟩
  rw [← hW] at HP HR HG HX0 HX1 ⊢
  clear hW
  refine wp_region_mono 15 (by kernel_rfl) (by kernel_rfl) ?_
  refine MonoR.step (Pv.eq (.pointer (some ⟨w.heap.size, 0, none⟩))) [] (by kernel_rfl) (fun w' hw' => ?_) ?_
  · refine ask_do rfl fun K hK => ?_
    go_simp
    exact hK _ _ rfl rfl (World.grownBy.refl _ none)
  refine MonoR.step (Pv.eq (.int .u64 x.1)) [(0, 6)] (by kernel_rfl) (fun w' hw' => ?_) ?_
  · rintro _ rfl
    refine ask_do rfl fun K hK => ?_
    have hq := (HP.out.grown ((grown_drewN' W 1).trans hw') (by simp)).prule
    have hx0 := (HX0.out.grown ((grown_drewN' W 1).trans hw') (by simp)).cell
    have hx1 := (HX1.out.grown ((grown_drewN' W 1).trans hw') (by simp)).cell
    have hx0a := hx0 0; have hx0b := hx0 1; simp at hx0a hx0b; have hx1a := hx1 0; have hx1b := hx1 1; simp at hx1a hx1b
    go_simp
    exact hK _ _ rfl rfl (World.grownBy.refl _ none)
  refine MonoR.step (Pv.eq (.pointer (some ⟨w.heap.size + 1, 0, none⟩))) [] (by kernel_rfl) (fun w' hw' => ?_) ?_
  · refine ask_do rfl fun K hK => ?_
    go_simp
    exact hK _ _ rfl rfl (World.grownBy.refl _ none)
  refine MonoR.step (Pv.eq (.int .u64 y.1)) [(2, 8)] (by kernel_rfl) (fun w' hw' => ?_) ?_
  · rintro _ rfl
    refine ask_do rfl fun K hK => ?_
    have hq := (HP.out.grown ((grown_drewN' W 1).trans hw') (by simp)).prule
    have hx0 := (HX0.out.grown ((grown_drewN' W 1).trans hw') (by simp)).cell
    have hx1 := (HX1.out.grown ((grown_drewN' W 1).trans hw') (by simp)).cell
    have hx0a := hx0 0; have hx0b := hx0 1; simp at hx0a hx0b; have hx1a := hx1 0; have hx1b := hx1 1; simp at hx1a hx1b
    go_simp
    exact hK _ _ rfl rfl (World.grownBy.refl _ none)
  refine MonoR.step (Pv.eq (.pointer (some ⟨gp, 1, none⟩))) [] (by kernel_rfl) (fun w' hw' => ?_) ?_
  · refine ask_do rfl fun K hK => ?_
    go_simp
    exact hK _ _ rfl rfl (World.grownBy.refl _ none)
  refine MonoR.step (Pv.eq (.int .u64 p.Q)) [(4, 10)] (by kernel_rfl) (fun w' hw' => ?_) ?_
  · rintro _ rfl
    refine ask_do rfl fun K hK => ?_
    have hq := (HP.out.grown ((grown_drewN' W 1).trans hw') (by simp)).prule
    have hx0 := (HX0.out.grown ((grown_drewN' W 1).trans hw') (by simp)).cell
    have hx1 := (HX1.out.grown ((grown_drewN' W 1).trans hw') (by simp)).cell
    have hx0a := hx0 0; have hx0b := hx0 1; simp at hx0a hx0b; have hx1a := hx1 0; have hx1b := hx1 1; simp at hx1a hx1b
    go_simp
    exact hK _ _ rfl rfl (World.grownBy.refl _ none)
  refine MonoR.step (Pv.eq (.int .u64 (addI x.1 y.1 p.Q))) [(1, 7), (3, 9), (5, 11)] (by kernel_rfl) (fun w' hw' => ?_) ?_
  · rintro _ rfl
    rintro _ rfl
    rintro _ rfl
    refine ask_do rfl fun K hK => ?_
    go_simp
    refine (add_gr x.1 y.1 p.Q w' HU.out.1 HU.out.2.2.1).mono ?_
    rintro e w3 ⟨rfl, hg⟩
    exact hK _ _ rfl rfl hg
  refine MonoR.step (Pv.eq (.pointer (some ⟨w.heap.size, 1, none⟩))) [] (by kernel_rfl) (fun w' hw' => ?_) ?_
  · refine ask_do rfl fun K hK => ?_
    go_simp
    exact hK _ _ rfl rfl (World.grownBy.refl _ none)
  refine MonoR.step (Pv.eq (.int .u64 x.2)) [(7, 13)] (by kernel_rfl) (fun w' hw' => ?_) ?_
  · rintro _ rfl
    refine ask_do rfl fun K hK => ?_
    have hq := (HP.out.grown ((grown_drewN' W 1).trans hw') (by simp)).prule
    have hx0 := (HX0.out.grown ((grown_drewN' W 1).trans hw') (by simp)).cell
    have hx1 := (HX1.out.grown ((grown_drewN' W 1).trans hw') (by simp)).cell
    have hx0a := hx0 0; have hx0b := hx0 1; simp at hx0a hx0b; have hx1a := hx1 0; have hx1b := hx1 1; simp at hx1a hx1b
    go_simp
    exact hK _ _ rfl rfl (World.grownBy.refl _ none)
  refine MonoR.step (Pv.eq (.pointer (some ⟨w.heap.size + 1, 1, none⟩))) [] (by kernel_rfl) (fun w' hw' => ?_) ?_
  · refine ask_do rfl fun K hK => ?_
    go_simp
    exact hK _ _ rfl rfl (World.grownBy.refl _ none)
  refine MonoR.step (Pv.eq (.int .u64 y.2)) [(9, 15)] (by kernel_rfl) (fun w' hw' => ?_) ?_
  · rintro _ rfl
    refine ask_do rfl fun K hK => ?_
    have hq := (HP.out.grown ((grown_drewN' W 1).trans hw') (by simp)).prule
    have hx0 := (HX0.out.grown ((grown_drewN' W 1).trans hw') (by simp)).cell
    have hx1 := (HX1.out.grown ((grown_drewN' W 1).trans hw') (by simp)).cell
    have hx0a := hx0 0; have hx0b := hx0 1; simp at hx0a hx0b; have hx1a := hx1 0; have hx1b := hx1 1; simp at hx1a hx1b
    go_simp
    exact hK _ _ rfl rfl (World.grownBy.refl _ none)
  refine MonoR.step (Pv.eq (.pointer (some ⟨gp, 1, none⟩))) [] (by kernel_rfl) (fun w' hw' => ?_) ?_
  · refine ask_do rfl fun K hK => ?_
    go_simp
    exact hK _ _ rfl rfl (World.grownBy.refl _ none)
  refine MonoR.step (Pv.eq (.int .u64 p.Q)) [(11, 17)] (by kernel_rfl) (fun w' hw' => ?_) ?_
  · rintro _ rfl
    refine ask_do rfl fun K hK => ?_
    have hq := (HP.out.grown ((grown_drewN' W 1).trans hw') (by simp)).prule
    have hx0 := (HX0.out.grown ((grown_drewN' W 1).trans hw') (by simp)).cell
    have hx1 := (HX1.out.grown ((grown_drewN' W 1).trans hw') (by simp)).cell
    have hx0a := hx0 0; have hx0b := hx0 1; simp at hx0a hx0b; have hx1a := hx1 0; have hx1b := hx1 1; simp at hx1a hx1b
    go_simp
    exact hK _ _ rfl rfl (World.grownBy.refl _ none)
  refine MonoR.step (Pv.eq (.int .u64 (addI x.2 y.2 p.Q))) [(8, 14), (10, 16), (12, 18)] (by kernel_rfl) (fun w' hw' => ?_) ?_
  · rintro _ rfl
    rintro _ rfl
    rintro _ rfl
    refine ask_do rfl fun K hK => ?_
    go_simp
    refine (add_gr x.2 y.2 p.Q w' HU.out.2.1 HU.out.2.2.2).mono ?_
    rintro e w3 ⟨rfl, hg⟩
    exact hK _ _ rfl rfl hg
  refine MonoR.step (Pv.eq (.agg #[.int .u64 (addI x.1 y.1 p.Q), .int .u64 (addI x.2 y.2 p.Q)])) [(6, 12), (13, 19)] (by kernel_rfl) (fun w' hw' => ?_) ?_
  · rintro _ rfl
    rintro _ rfl
    refine ask_do rfl fun K hK => ?_
    go_simp
    exact hK _ _ rfl rfl (World.grownBy.refl _ none)
  intro w3 hw3
  intro y0 e0 y1 e1 y2 e2 y3 e3 y4 e4 y5 e5 y6 e6 y7 e7 y8 e8 y9 e9 y10 e10 y11 e11 y12 e12 y13 e13 y14 e14
  have e0 : y0 = .pointer (some ⟨w.heap.size, 0, none⟩) := e0
  subst e0
  have e1 : y1 = .int .u64 x.1 := e1
  subst e1
  have e2 : y2 = .pointer (some ⟨w.heap.size + 1, 0, none⟩) := e2
  subst e2
  have e3 : y3 = .int .u64 y.1 := e3
  subst e3
  have e4 : y4 = .pointer (some ⟨gp, 1, none⟩) := e4
  subst e4
  have e5 : y5 = .int .u64 p.Q := e5
  subst e5
  have e6 : y6 = .int .u64 (addI x.1 y.1 p.Q) := e6
  subst e6
  have e7 : y7 = .pointer (some ⟨w.heap.size, 1, none⟩) := e7
  subst e7
  have e8 : y8 = .int .u64 x.2 := e8
  subst e8
  have e9 : y9 = .pointer (some ⟨w.heap.size + 1, 1, none⟩) := e9
  subst e9
  have e10 : y10 = .int .u64 y.2 := e10
  subst e10
  have e11 : y11 = .pointer (some ⟨gp, 1, none⟩) := e11
  subst e11
  have e12 : y12 = .int .u64 p.Q := e12
  subst e12
  have e13 : y13 = .int .u64 (addI x.2 y.2 p.Q) := e13
  subst e13
  have e14 : y14 = .agg #[.int .u64 (addI x.1 y.1 p.Q), .int .u64 (addI x.2 y.2 p.Q)] := e14
  subst e14
  simp only [Act.put, List.setIfInBounds_toArray, List.set_cons_zero, List.set_cons_succ]
  have hr3 := HR.out.grown ((grown_drewN' W 1).trans hw3) (by simp)
  have hc0 := hr3.cell 0
  have hc1 := hr3.cell 1
  have hf0 := hr3.free 0
  have hf1 := hr3.free 1
  simp at hc0 hc1
  have hk5 := (hr3.set 0 (.int .u64 (addI x.1 y.1 p.Q))).set 1 (.int .u64 (addI x.2 y.2 p.Q))
  have hk0 := hk5.cell 0
  have hk1 := hk5.cell 1
  simp at hk0 hk1
  have HF : Hid (w.grownBy ((w3.setCell ⟨w.heap.size + 1 + 1, 0, none⟩ (.int .u64 (addI x.1 y.1 p.Q))).setCell ⟨w.heap.size + 1 + 1, 1, none⟩ (.int .u64 (addI x.2 y.2 p.Q))) none) := Lib.hid (grown_of_below (((below_grown (HG.out.1.trans ((grown_drewN' W 1).trans hw3))).setCell (p := ⟨w.heap.size + 1 + 1, 0, none⟩) (by simp <;> omega) _).setCell (p := ⟨w.heap.size + 1 + 1, 1, none⟩) (by simp <;> omega) _))
  clear hw3 hr3 hk5
  refine wpList_plain rfl fun K hK => ?_
  go_simp
  refine hK _ _ (wpList_nil ?_)
  go_wp2_with fail
  refine bodyPost_ret (v := .agg #[.int .u64 (addI x.1 y.1 p.Q), .int .u64 (addI x.2 y.2 p.Q)]) (by simp [results, Tryd.results55, go_sem, *]) rfl ⟨rfl, HF.out⟩
end Go.Proofs.YtmjdpmfcbeaecaaDoor

namespace Go.Proofs.YtmjdpmfcbeaecaaDoor
open Go Go.RowKit

/-- What pairs come to. -/
def comeP (Q : Int) : List (Int × Int) → List Int → Int × Int → Int × Int
  | x :: l, k :: ks, a => comeP Q l ks (addI a.1 (mulI x.1 k Q) Q, addI a.2 (mulI x.2 k Q) Q)
  | _, _, a => a
theorem comeP_snoc (Q : Int) : ∀ (l : List (Int × Int)) (ks : List Int) (a : Int × Int) (j : Nat) (h : j < l.length) (h' : j < ks.length), comeP Q (l.take (j + 1)) (ks.take (j + 1)) a = (addI (comeP Q (l.take j) (ks.take j) a).1 (mulI l[j].1 ks[j] Q) Q, addI (comeP Q (l.take j) (ks.take j) a).2 (mulI l[j].2 ks[j] Q) Q)
  | x :: l, k :: ks, a, 0, _, _ => by simp [comeP]
  | x :: l, k :: ks, a, j + 1, h, h' => by
    simp only [List.take_succ_cons, comeP, List.getElem_cons_succ]
    exact comeP_snoc Q l ks _ j (by simpa using h) (by simpa using h')
theorem comeP_take (Q : Int) : ∀ (l : List (Int × Int)) (ks : List Int) (a : Int × Int), comeP Q l (ks.take l.length) a = comeP Q l ks a
  | [], _, _ => by simp [comeP]
  | _ :: _, [], _ => by simp [comeP]
  | x :: l, k :: ks, a => by simp only [List.length_cons, List.take_succ_cons, comeP]; exact comeP_take Q l ks _
set_option maxRecDepth 100000 in
set_option maxHeartbeats 1000000 in
theorem comeP_any (p : Par) (gp : Nat) (vl vk : Value) (l : List (Int × Int)) (ks : List Int) (a : Int × Int) (X Y : Nat → Prop) (w : World) (hb : Bk w gp 24 p.cells) (hl : Sl encP X w vl l) (hk : Sl encU Y w vk ks) (hlen : l.length ≤ ks.length) (ha : U64 a.1) (ha2 : U64 a.2) (hau : ∀ x y, U64 (addI x y p.Q)) (hmu : ∀ x y, U64 (mulI x y p.Q)) :
    Calls Tryd.prog 56 #[vl, vk, .agg #[.int .u64 a.1, .int .u64 a.2], .func (.func 54) #[] #[.pointer (some ⟨gp, 0, none⟩)], .func (.func 55) #[] #[.pointer (some ⟨gp, 0, none⟩)]] w fun e w' => e = .returned (.agg #[.int .u64 (comeP p.Q l ks a).1, .int .u64 (comeP p.Q l ks a).2]) ∧ w.grownBy w' none := by
  have HB := Lib.hid hb
  have HL := Lib.hid hl
  have HK := Lib.hid hk
  have HLN := Lib.hid hlen
  have HAU := Lib.hid hau
  have HMU := Lib.hid hmu
  have HST : Hid (Bk ((w.alloc (.cells #[.int .u64 a.1, .int .u64 a.2] 36)).alloc (.cells #[.int .u64 0, .int .u64 0] 36)) w.heap.size 36 #[.int .u64 a.1, .int .u64 a.2] ∧ Bk ((w.alloc (.cells #[.int .u64 a.1, .int .u64 a.2] 36)).alloc (.cells #[.int .u64 0, .int .u64 0] 36)) (w.heap.size + 1) 36 #[.int .u64 0, .int .u64 0] ∧ Below w.heap.size w ((w.alloc (.cells #[.int .u64 a.1, .int .u64 a.2] 36)).alloc (.cells #[.int .u64 0, .int .u64 0] 36)) ∧ U64 a.1 ∧ U64 a.2 ∧ a = comeP p.Q (l.take 0) (ks.take 0) a) := Lib.hid ⟨(Bk.new w _ _).alloc _, (by have := Bk.new (w.alloc (.cells #[.int .u64 a.1, .int .u64 a.2] 36)) 36 #[.int .u64 0, .int .u64 0]; simpa using this), below_grown ((World.grownBy_alloc w _ none).trans (World.grownBy_alloc _ _ none)), ha, ha2, by simp [comeP]⟩
  obtain ⟨A, c, rfl, hc1, hc2⟩ := hl.form
  obtain ⟨A2, c2, rfl, hc3, hc4⟩ := hk.form
  clear hb hl hk hlen ha ha2 hau hmu
  go_enter Tryd.func56, Tryd.ntmps56
  go_wp2_with fail
  go_loopg [15] l.length (fun g s15 wx => ∃ (j : Nat) (b : Int × Int), j + g = l.length ∧ s15 = .int .i64 j ∧ Hid (Bk wx w.heap.size 36 #[.int .u64 b.1, .int .u64 b.2] ∧ Bk wx (w.heap.size + 1) 36 #[.int .u64 0, .int .u64 0] ∧ Below w.heap.size w wx ∧ U64 b.1 ∧ U64 b.2 ∧ b = comeP p.Q (l.take j) (ks.take j) a))
  case atStart => exact ⟨0, a, by omega, rfl, HST⟩
  case round =>
    obtain ⟨j, b, hj, rfl, HX⟩ := hrel
    clear HST
    cases gk with
    | zero =>
      obtain rfl : j = l.length := by omega
      have HE : Hid (b = comeP p.Q l ks a) := Lib.hid (by rw [HX.out.2.2.2.2.2, List.take_length, comeP_take])
      have h00 := HX.out.1.cell 0
      have h01 := HX.out.1.cell 1
      have h10 := HX.out.2.1.cell 0
      have h11 := HX.out.2.1.cell 1
      have f10 := HX.out.2.1.free 0
      have f11 := HX.out.2.1.free 1
      have hk5 := (HX.out.2.1.set 0 (.int .u64 b.1)).set 1 (.int .u64 b.2)
      have hk0 := hk5.cell 0
      have hk1 := hk5.cell 1
      simp at h00 h01 h10 h11 hk0 hk1
      have HF : Hid (w.grownBy ((wr.setCell ⟨w.heap.size + 1, 0, none⟩ (.int .u64 b.1)).setCell ⟨w.heap.size + 1, 1, none⟩ (.int .u64 b.2)) none) := Lib.hid (grown_of_below ((HX.out.2.2.1.setCell (p := ⟨w.heap.size + 1, 0, none⟩) (by simp) _).setCell (p := ⟨w.heap.size + 1, 1, none⟩) (by simp) _))
      clear HX hk5
      go_wp2_with fail
      refine bodyPost_ret (v := .agg #[.int .u64 b.1, .int .u64 b.2]) (by simp [results, Tryd.results56, go_sem, *]) rfl ⟨by rw [HE.out], HF.out⟩
    | succ m =>
      have hjn : (j : Int) < (l.length : Int) := by omega
      have hjN : j < l.length := by omega
      have hjK : j < ks.length := Nat.lt_of_lt_of_le hjN HLN.out
      have hjk : (j : Int) < (ks.length : Int) := by omega
      have hg := grown_of_below HX.out.2.2.1
      obtain ⟨g, o, c', e, _, _, hcu, hcu1, hux, hux1⟩ := (HL.out.kept hg).atP hjN
      injection e with e1 e2 e3
      subst e1 e3
      obtain ⟨g2, o2, c2', e, _, _, hcu2, huk⟩ := HK.out.atU hjK
      injection e with e1 e2 e3
      subst e1 e3
      have HSN : Hid (comeP p.Q (l.take (j + 1)) (ks.take (j + 1)) a = (addI b.1 (mulI l[j].1 ks[j] p.Q) p.Q, addI b.2 (mulI l[j].2 ks[j] p.Q) p.Q)) := Lib.hid (by rw [comeP_snoc _ _ _ _ _ hjN hjK, ← HX.out.2.2.2.2.2])
      have HKC0 := Lib.hid hcu2
      have HUX : Hid (U64 l[j].1 ∧ U64 l[j].2 ∧ U64 ks[j]) := Lib.hid ⟨hux, hux1, huk⟩
      clear hcu2 hux hux1 huk hg
      obtain ⟨b1, b2⟩ := b
      generalize l[j] = x at *
      obtain ⟨x1, x2⟩ := x
      generalize ks[j] = k at *
      generalize l.length = n at *
      generalize ks.length = n2 at *
      dsimp only at hcu hcu1
      have HHX := HX
      clear HX
      go_wp2_with fail
      obtain ⟨W, hW⟩ : ∃ W, W = wr.alloc (Obj.cells #[.int .u64 x1, .int .u64 x2] 36) := ⟨_, rfl⟩
      rw [← hW]
      have HB0 : Hid (Bk W.drew w.heap.size 36 #[.int .u64 b1, .int .u64 b2]) := Lib.hid (by rw [hW]; exact HHX.out.1.alloc _)
      have HB1 : Hid (Bk W.drew (w.heap.size + 1) 36 #[.int .u64 0, .int .u64 0]) := Lib.hid (by rw [hW]; exact HHX.out.2.1.alloc _)
      have HY0 : Hid (Bk W.drew wr.heap.size 36 #[.int .u64 x1, .int .u64 x2]) := Lib.hid (by rw [hW]; exact Bk.new wr _ _)
      have hBL := HHX.out.2.2.1
      have HGW : Hid (w.grownBy W.drew none) := Lib.hid (by rw [hW]; exact ((grown_of_below hBL).trans (World.grownBy_alloc _ _ none)).trans (grown_drewN' _ 1))
      have HKC : Hid (∀ w', W.drew.grownBy w' none → w'.cell? ⟨g2, o2 + j, none⟩ = some (.int .u64 k)) := Lib.hid (fun w' hw' => cell_kept HKC0.out (HGW.out.trans hw') (by simp))
      have HGP : Hid (Bk W.drew gp 24 p.cells) := Lib.hid (HB.out.grown HGW.out (by simp))
      have H2 : Hid (∀ w', W.drew.grownBy w' none → Calls Tryd.prog 54 #[.agg #[.int .u64 x1, .int .u64 x2], .int .u64 k, .pointer (some ⟨gp, 0, none⟩)] w' fun e w'' => e = .returned (.agg #[.int .u64 (mulI x1 k p.Q), .int .u64 (mulI x2 k p.Q)]) ∧ w'.grownBy w'' none) := Lib.hid (fun w' hw' => sum2_any p gp (x1, x2) k w' (HGP.out.grown hw' (by simp)) HUX.out.1 HUX.out.2.1 HUX.out.2.2 trivial)
      have H3 : Hid (∀ w', W.drew.grownBy w' none → Calls Tryd.prog 55 #[.agg #[.int .u64 b1, .int .u64 b2], .agg #[.int .u64 (mulI x1 k p.Q), .int .u64 (mulI x2 k p.Q)], .pointer (some ⟨gp, 0, none⟩)] w' fun e w'' => e = .returned (.agg #[.int .u64 (addI b1 (mulI x1 k p.Q) p.Q), .int .u64 (addI b2 (mulI x2 k p.Q) p.Q)]) ∧ w'.grownBy w'' none) := Lib.hid (fun w' hw' => sum3_any p gp (b1, b2) (mulI x1 k p.Q, mulI x2 k p.Q) w' (HGP.out.grown hw' (by simp)) HHX.out.2.2.2.1 HHX.out.2.2.2.2.1 (HMU.out _ _) (HMU.out _ _))
      clear hW hBL hcu hcu1
      refine wp_region_mono 10 (by kernel_rfl) (by kernel_rfl) ?_
      refine MonoR.step (Pv.eq (.func (.func 55) #[] #[.pointer (some ⟨gp, 0, none⟩)])) [] (by kernel_rfl) (fun w' hw' => ?_) ?_
      · refine ask_do rfl fun K hK => ?_
        go_simp
        exact hK _ _ rfl rfl (World.grownBy.refl _ none)
      refine MonoR.step (Pv.eq (.agg #[.int .u64 (b1), .int .u64 (b2)])) [] (by kernel_rfl) (fun w' hw' => ?_) ?_
      · refine ask_do rfl fun K hK => ?_
        have hb0 := (HB0.out.grown hw' (by simp)).cell 0
        have hb1 := (HB0.out.grown hw' (by simp)).cell 1
        have hy0 := (HY0.out.grown hw' (by simp)).cell 0
        have hy1 := (HY0.out.grown hw' (by simp)).cell 1
        have hkc := HKC.out w' hw'
        simp at hb0 hb1 hy0 hy1
        go_simp
        exact hK _ _ rfl rfl (World.grownBy.refl _ none)
      refine MonoR.step (Pv.eq (.func (.func 54) #[] #[.pointer (some ⟨gp, 0, none⟩)])) [] (by kernel_rfl) (fun w' hw' => ?_) ?_
      · refine ask_do rfl fun K hK => ?_
        go_simp
        exact hK _ _ rfl rfl (World.grownBy.refl _ none)
      refine MonoR.step (Pv.eq (.agg #[.int .u64 (x1), .int .u64 (x2)])) [] (by kernel_rfl) (fun w' hw' => ?_) ?_
      · refine ask_do rfl fun K hK => ?_
        have hb0 := (HB0.out.grown hw' (by simp)).cell 0
        have hb1 := (HB0.out.grown hw' (by simp)).cell 1
        have hy0 := (HY0.out.grown hw' (by simp)).cell 0
        have hy1 := (HY0.out.grown hw' (by simp)).cell 1
        have hkc := HKC.out w' hw'
        simp at hb0 hb1 hy0 hy1
        go_simp
        exact hK _ _ rfl rfl (World.grownBy.refl _ none)
      refine MonoR.step (Pv.eq (.slice (some ⟨g2, o2, none⟩) n2 c2)) [] (by kernel_rfl) (fun w' hw' => ?_) ?_
      · refine ask_do rfl fun K hK => ?_
        go_simp
        exact hK _ _ rfl rfl (World.grownBy.refl _ none)
      refine MonoR.step (Pv.eq (.int .i64 j)) [] (by kernel_rfl) (fun w' hw' => ?_) ?_
      · refine ask_do rfl fun K hK => ?_
        go_simp
        exact hK _ _ rfl rfl (World.grownBy.refl _ none)
      refine MonoR.step (Pv.eq (.pointer (some ⟨g2, o2 + j, none⟩))) [(4, 24), (5, 25)] (by kernel_rfl) (fun w' hw' => ?_) ?_
      · rintro _ rfl
        rintro _ rfl
        refine ask_do rfl fun K hK => ?_
        go_simp
        exact hK _ _ rfl rfl (World.grownBy.refl _ none)
      refine MonoR.step (Pv.eq (.int .u64 k)) [(6, 26)] (by kernel_rfl) (fun w' hw' => ?_) ?_
      · rintro _ rfl
        refine ask_do rfl fun K hK => ?_
        have hb0 := (HB0.out.grown hw' (by simp)).cell 0
        have hb1 := (HB0.out.grown hw' (by simp)).cell 1
        have hy0 := (HY0.out.grown hw' (by simp)).cell 0
        have hy1 := (HY0.out.grown hw' (by simp)).cell 1
        have hkc := HKC.out w' hw'
        simp at hb0 hb1 hy0 hy1
        go_simp
        exact hK _ _ rfl rfl (World.grownBy.refl _ none)
      refine MonoR.step (Pv.eq (.agg #[.int .u64 (mulI x1 k p.Q), .int .u64 (mulI x2 k p.Q)])) [(2, 22), (3, 23), (7, 27)] (by kernel_rfl) (fun w' hw' => ?_) ?_
      · rintro _ rfl
        rintro _ rfl
        rintro _ rfl
        refine ask_do rfl fun K hK => ?_
        go_simp
        refine (H2.out w' hw').mono ?_
        rintro e w3 ⟨rfl, hg⟩
        exact hK _ _ rfl rfl hg
      refine MonoR.step (Pv.eq (.agg #[.int .u64 (addI b1 (mulI x1 k p.Q) p.Q), .int .u64 (addI b2 (mulI x2 k p.Q) p.Q)])) [(0, 20), (1, 21), (8, 28)] (by kernel_rfl) (fun w' hw' => ?_) ?_
      · rintro _ rfl
        rintro _ rfl
        rintro _ rfl
        refine ask_do rfl fun K hK => ?_
        go_simp
        refine (H3.out w' hw').mono ?_
        rintro e w3 ⟨rfl, hg⟩
        exact hK _ _ rfl rfl hg
      intro w3 hw3
      intro y0 e0 y1 e1 y2 e2 y3 e3 y4 e4 y5 e5 y6 e6 y7 e7 y8 e8 y9 e9
      have e0 : y0 = .func (.func 55) #[] #[.pointer (some ⟨gp, 0, none⟩)] := e0
      subst e0
      have e1 : y1 = .agg #[.int .u64 (b1), .int .u64 (b2)] := e1
      subst e1
      have e2 : y2 = .func (.func 54) #[] #[.pointer (some ⟨gp, 0, none⟩)] := e2
      subst e2
      have e3 : y3 = .agg #[.int .u64 (x1), .int .u64 (x2)] := e3
      subst e3
      have e4 : y4 = .slice (some ⟨g2, o2, none⟩) n2 c2 := e4
      subst e4
      have e5 : y5 = .int .i64 j := e5
      subst e5
      have e6 : y6 = .pointer (some ⟨g2, o2 + j, none⟩) := e6
      subst e6
      have e7 : y7 = .int .u64 k := e7
      subst e7
      have e8 : y8 = .agg #[.int .u64 (mulI x1 k p.Q), .int .u64 (mulI x2 k p.Q)] := e8
      subst e8
      have e9 : y9 = .agg #[.int .u64 (addI b1 (mulI x1 k p.Q) p.Q), .int .u64 (addI b2 (mulI x2 k p.Q) p.Q)] := e9
      subst e9
      simp only [Act.put, List.setIfInBounds_toArray, List.set_cons_zero, List.set_cons_succ]
      have hr3 := HB0.out.grown hw3 (by simp)
      have hc0 := hr3.cell 0
      have hc1 := hr3.cell 1
      have hf0 := hr3.free 0
      have hf1 := hr3.free 1
      simp at hc0 hc1
      have HFIN : Hid (Bk ((w3.setCell ⟨w.heap.size, 0, none⟩ (.int .u64 (addI b1 (mulI x1 k p.Q) p.Q))).setCell ⟨w.heap.size, 1, none⟩ (.int .u64 (addI b2 (mulI x2 k p.Q) p.Q))) w.heap.size 36 #[.int .u64 (addI b1 (mulI x1 k p.Q) p.Q), .int .u64 (addI b2 (mulI x2 k p.Q) p.Q)] ∧ Bk ((w3.setCell ⟨w.heap.size, 0, none⟩ (.int .u64 (addI b1 (mulI x1 k p.Q) p.Q))).setCell ⟨w.heap.size, 1, none⟩ (.int .u64 (addI b2 (mulI x2 k p.Q) p.Q))) (w.heap.size + 1) 36 #[.int .u64 0, .int .u64 0] ∧ Below w.heap.size w ((w3.setCell ⟨w.heap.size, 0, none⟩ (.int .u64 (addI b1 (mulI x1 k p.Q) p.Q))).setCell ⟨w.heap.size, 1, none⟩ (.int .u64 (addI b2 (mulI x2 k p.Q) p.Q))) ∧ U64 (addI b1 (mulI x1 k p.Q) p.Q) ∧ U64 (addI b2 (mulI x2 k p.Q) p.Q) ∧ (addI b1 (mulI x1 k p.Q) p.Q, addI b2 (mulI x2 k p.Q) p.Q) = comeP p.Q (l.take (j + 1)) (ks.take (j + 1)) a) := Lib.hid ⟨by have := (hr3.set 0 (.int .u64 (addI b1 (mulI x1 k p.Q) p.Q))).set 1 (.int .u64 (addI b2 (mulI x2 k p.Q) p.Q)); simpa using this, ((HB1.out.grown hw3 (by simp)).far (p := ⟨w.heap.size, 0, none⟩) (by simp) _).far (p := ⟨w.heap.size, 1, none⟩) (by simp) _, (((below_grown (HGW.out.trans hw3))).setCell (p := ⟨w.heap.size, 0, none⟩) (by simp) _).setCell (p := ⟨w.heap.size, 1, none⟩) (by simp) _, HAU.out _ _, HAU.out _ _, HSN.out.symm⟩
      clear hw3 hr3
      refine wpList_plain rfl fun K hK => ?_
      go_simp
      refine hK _ _ (wpList_nil ?_)
      go_wp2_with fail
      go_roundg m
      case measure => omega
      case rel => exact ⟨j + 1, (addI b1 (mulI x1 k p.Q) p.Q, addI b2 (mulI x2 k p.Q) p.Q), by omega, by go_num, HFIN⟩
end Go.Proofs.YtmjdpmfcbeaecaaDoor

namespace Go.Proofs.YtmjdpmfcbeaecaaDoor
open Go Go.RowKit

/-- What is wrong with a sum. -/
noncomputable def sumE (p : Par) (at_ : List Int) (l : List (List (Int × Int))) : Int := if smallB p && membersB at_ && at_.length == l.length && !l.any (fun x => oddB p x) then wErr p.Q at_ 0 else 1
/-- What pairs of members come to. -/
noncomputable def sumL (p : Par) (at_ : List Int) (l : List (List (Int × Int))) : List (Int × Int) := if sumE p at_ l = 0 then (List.range (secretsI p).toNat).map fun s => comeP p.Q (l.map fun x => x[s]?.getD (0, 0)) (wList p.Q at_ 0) (0, 0) else []
theorem wrap64_small {n : Int} (h : -9223372036854775808 ≤ n ∧ n ≤ 9223372036854775807) : wrap64 n = n := by unfold wrap64; omega
theorem addI_u64 (a b m : Int) (hm : mayB m = true) : U64 (addI a b m) := by
  unfold addI
  rw [if_pos hm]
  simp [mayB] at hm
  have h1 := Int.emod_nonneg (a % m + b % m) (show m ≠ 0 by omega)
  have h2 := Int.emod_lt_of_pos (a % m + b % m) hm.1
  exact ⟨h1, by omega⟩
theorem comeP_U64 (Q : Int) (h : ∀ x y, U64 (addI x y Q)) : ∀ (l : List (Int × Int)) (ks : List Int) (a : Int × Int), U64 a.1 → U64 a.2 → U64 (comeP Q l ks a).1 ∧ U64 (comeP Q l ks a).2
  | [], _, _, h1, h2 => ⟨h1, h2⟩
  | _ :: _, [], _, h1, h2 => ⟨h1, h2⟩
  | _ :: l, _ :: ks, _, _, _ => comeP_U64 Q h l ks _ (h _ _) (h _ _)
theorem smallB_secrets {p : Par} (h : smallB p = true) : 0 ≤ secretsI p ∧ secretsI p ≤ 10 := by
  simp [smallB] at h
  obtain ⟨h1, h2, h3, h4⟩ := h
  have e1 : wrap64 (p.D + 1) = p.D + 1 := wrap64_small (by omega)
  have h5 : 0 ≤ p.K * (p.D + 1) := Int.mul_nonneg h1 (by omega)
  have h6 : p.K * (p.D + 1) ≤ 2 * 5 := Int.mul_le_mul h3 (by omega) (by omega) (by omega)
  have e2 : secretsI p = p.K * (p.D + 1) := by unfold secretsI; rw [e1]; exact wrap64_small (by omega)
  rw [e2]
  omega
set_option maxRecDepth 100000 in
set_option maxHeartbeats 1000000 in
theorem sum_any (p : Par) (va : Value) (at_ : List Int) (vl : Value) (l : List (List (Int × Int))) (X Y : Nat → Prop) (w : World) (hp : p.ok) (ha : Sl encI X w va at_) (hl : Sl (encS encP) Y w vl l) (hb1 : at_.length ≤ 100000) (hb2 : l.length ≤ 100000) :
    Calls Tryd.prog 12 #[p.v, va, vl] w (GivesE encP (fun g => w.heap.size ≤ g) w (sumL p at_ l) (sumE p at_ l)) := by
  have HB : Hid (Bk (w.alloc (.cells p.cells 24)) w.heap.size 24 p.cells) := Lib.hid (Bk.new w _ _)
  have HG0 : Hid (w.grownBy (w.alloc (.cells p.cells 24)) none) := Lib.hid (World.grownBy_alloc w _ none)
  have HS1 := Lib.hid (ssmall_any p)
  have HS2 : Hid (∀ w', w.grownBy w' none → _) := Lib.hid (fun w' hw => members_any va at_ X w' (ha.kept hw))
  have HS4 : Hid (∀ w', w.grownBy w' none → Bk w' w.heap.size 24 p.cells → _) := Lib.hid (fun w' hw hbk => containsOdd p w.heap.size vl l Y w' hbk (hl.kept hw))
  have HA := Lib.hid ha
  have HL := Lib.hid hl
  have HQ := Lib.hid hp.Q
  obtain ⟨A, c, rfl, _, _⟩ := ha.form
  obtain ⟨A2, c2, rfl, _, _⟩ := hl.form
  clear ha hl hp
  cases b1 : smallB p with
  | false =>
    have h1 : sumE p at_ l = 1 := by simp [sumE, b1]
    have HL0 : Hid (sumL p at_ l = []) := Lib.hid (by simp [sumL, h1])
    rw [h1]
    clear h1
    rw [b1] at HS1
    clear b1 HS2 HS4 HA HL
    go_enter Tryd.func12, Tryd.ntmps12
    go_wp2_with fail
    refine (HS1.out _).mono ?_
    rintro e w1 ⟨rfl, hg1⟩
    have HG1 := Lib.hid (HG0.out.trans hg1)
    have HB1 := Lib.hid (HB.out.grown hg1 (by simp))
    clear hg1
    go_wp2_with fail
    go_ret2
    exact ⟨_, rfl, by rw [HL0.out]; exact Sl.nil _ _ _, HG1.out⟩
  | true =>
    cases b2 : membersB at_ with
    | false =>
      have h1 : sumE p at_ l = 1 := by simp [sumE, b2]
      have HL0 : Hid (sumL p at_ l = []) := Lib.hid (by simp [sumL, h1])
      rw [h1]
      clear h1
      rw [b1] at HS1
      rw [b2] at HS2
      clear b1 b2 HS4 HA HL
      go_enter Tryd.func12, Tryd.ntmps12
      go_wp2_with fail
      refine (HS1.out _).mono ?_
      rintro e w1 ⟨rfl, hg1⟩
      have HG1 := Lib.hid (HG0.out.trans hg1)
      have HB1 := Lib.hid (HB.out.grown hg1 (by simp))
      clear hg1
      go_wp2_with fail
      refine (HS2.out _ HG1.out).mono ?_
      rintro e w2 ⟨rfl, hg2⟩
      have HG2 := Lib.hid (HG1.out.trans hg2)
      have HB2 := Lib.hid (HB1.out.grown hg2 (by simp))
      clear hg2
      go_wp2_with fail
      go_ret2
      exact ⟨_, rfl, by rw [HL0.out]; exact Sl.nil _ _ _, HG2.out⟩
    | true =>
      rw [b1] at HS1
      rw [b2] at HS2
      by_cases h3 : at_.length = l.length
      · have d3 : ((at_.length : Int) != (l.length : Int)) = false := by simp [h3]
        cases b4 : l.any fun x => oddB p x with
        | true =>
          have h1 : sumE p at_ l = 1 := by unfold sumE; rw [b4]; simp
          have HL0 : Hid (sumL p at_ l = []) := Lib.hid (by simp [sumL, h1])
          rw [h1]
          clear h1
          rw [b4] at HS4
          clear b1 b2 b4 h3 HA HL
          generalize at_.length = n1 at *
          generalize l.length = n2 at *
          go_enter Tryd.func12, Tryd.ntmps12
          go_wp2_with fail
          refine (HS1.out _).mono ?_
          rintro e w1 ⟨rfl, hg1⟩
          have HG1 := Lib.hid (HG0.out.trans hg1)
          have HB1 := Lib.hid (HB.out.grown hg1 (by simp))
          clear hg1
          go_wp2_with fail
          refine (HS2.out _ HG1.out).mono ?_
          rintro e w2 ⟨rfl, hg2⟩
          have HG2 := Lib.hid (HG1.out.trans hg2)
          have HB2 := Lib.hid (HB1.out.grown hg2 (by simp))
          clear hg2
          go_wp2_with fail
          refine (HS4.out _ HG2.out HB2.out).mono ?_
          rintro e w3 ⟨rfl, hg3⟩
          have HG3 := Lib.hid (HG2.out.trans hg3)
          have HB3 := Lib.hid (HB2.out.grown hg3 (by simp))
          have hp3 := HB3.out.prule
          clear hg3
          go_wp2_with fail
          go_ret2
          exact ⟨_, rfl, by rw [HL0.out]; exact Sl.nil _ _ _, HG3.out⟩
        | false =>
          have h1 : sumE p at_ l = wErr p.Q at_ 0 := by unfold sumE; rw [b1, b2, b4]; simp [h3]
          obtain ⟨hn0, hm⟩ := membersB_yes b2
          have HW : Hid (∀ w', w.grownBy w' none → _) := Lib.hid (fun w' hw => sweights_any _ at_ p.Q X w' (HA.out.kept hw) hm HQ.out hb1)
          rw [b4] at HS4
          have hsec := smallB_secrets b1
          have HSE := Lib.hid (ssecrets_any p)
          obtain ⟨we, hwe⟩ : ∃ we, we = wErr p.Q at_ 0 := ⟨_, rfl⟩
          obtain ⟨wl, hwl⟩ : ∃ wl, wl = wList p.Q at_ 0 := ⟨_, rfl⟩
          rw [← hwe, ← hwl] at HW
          rw [← hwe] at h1
          by_cases he : we = 0
          · subst he
            obtain ⟨N, hN⟩ : ∃ N, N = (secretsI p).toNat := ⟨_, rfl⟩
            have HN : Hid (secretsI p = (N : Int) ∧ N ≤ 10) := Lib.hid (by omega)
            have HLL : Hid (sumL p at_ l = (List.range N).map (fun s => comeP p.Q (l.map fun x => x[s]?.getD (0, 0)) wl (0, 0))) := Lib.hid (by rw [sumL, if_pos h1, hwl, hN])
            have hun : unlikeI at_ p.Q = 0 := by
              refine Classical.byContradiction fun hx => hx ?_
              have h2 := hwe
              unfold wErr at h2
              rw [if_neg hx] at h2
              exact h2.symm
            have HM := Lib.hid (unlikeI_zero hun).1
            have HWLN : Hid (l.length ≤ wl.length) := Lib.hid (by rw [hwl, wList, if_pos hwe.symm, List.length_map, List.length_range, h3]; exact Nat.le_refl _)
            have HAL : Hid (∀ s w', s < N → w.grownBy w' none → _) := Lib.hid (fun s w' (hs : s < N) (hw : w.grownBy w' none) => allP_any _ l s Y w' (HL.out.kept hw) (fun x hx => by
              have hb := List.any_eq_false.1 b4 x hx
              simp [oddB] at hb
              have := HN.out.1
              omega) hb2 (by have := HN.out.2; omega))
            have HAU : Hid (∀ x y, U64 (addI x y p.Q)) := Lib.hid (fun x y => addI_u64 x y _ HM.out)
            have HMU : Hid (∀ x y, U64 (mulI x y p.Q)) := Lib.hid (fun x y => by have h5 := mulI_bd x y p.Q HM.out; have h6 := HM.out; simp [mayB] at h6; exact ⟨h5.1, by omega⟩)
            rw [HN.out.1] at HSE
            rw [h1]
            clear h1 hwe hwl b1 b2 b4 h3 hn0 hm hsec hN hun HA
            generalize hn1 : at_.length = n1 at *
            generalize hn2 : l.length = n2 at *
            clear hn1
            go_enter Tryd.func12, Tryd.ntmps12
            go_wp2_with fail
            refine (HS1.out _).mono ?_
            rintro e w1 ⟨rfl, hg1⟩
            have HG1 := Lib.hid (HG0.out.trans hg1)
            have HB1 := Lib.hid (HB.out.grown hg1 (by simp))
            clear hg1
            go_wp2_with fail
            refine (HS2.out _ HG1.out).mono ?_
            rintro e w2 ⟨rfl, hg2⟩
            have HG2 := Lib.hid (HG1.out.trans hg2)
            have HB2 := Lib.hid (HB1.out.grown hg2 (by simp))
            clear hg2
            go_wp2_with fail
            refine (HS4.out _ HG2.out HB2.out).mono ?_
            rintro e w3 ⟨rfl, hg3⟩
            have HG3 := Lib.hid (HG2.out.trans hg3)
            have HB3 := Lib.hid (HB2.out.grown hg3 (by simp))
            have hp3 := HB3.out.prule
            clear hg3
            go_wp2_with fail
            refine (HW.out _ HG3.out).mono ?_
            rintro e w4 ⟨vw, rfl, hsw, hg4⟩
            have HG4 := Lib.hid (HG3.out.trans hg4)
            have HB4 := Lib.hid (HB3.out.grown hg4 (by simp))
            have hp4 := HB4.out.prule
            have HSW := Lib.hid hsw
            clear hg4 hsw hp3
            go_wp2_with fail
            refine (HSE.out _).mono ?_
            rintro e w5 ⟨rfl, hg5⟩
            have HG5 := Lib.hid (HG4.out.trans hg5)
            have HB5 := Lib.hid (HB4.out.grown hg5 (by simp))
            have HSW5 := Lib.hid (HSW.out.kept hg5)
            clear hg5 hp4
            go_wp2_with fail
            go_loopg [13, 50] N (fun g s13 s50 wx => ∃ j : Nat, j + g = N ∧ s50 = .int .i64 j ∧ Hid (Acc encP w5.heap.size 36 (fun g => w.heap.size ≤ g) wx s13 ((List.range j).map (fun s => comeP p.Q (l.map fun x => x[s]?.getD (0, 0)) wl (0, 0))) ∧ w5.grownBy wx none))
            case atStart => exact ⟨0, by omega, rfl, Lib.hid ⟨Acc.nil _ _ _ _ _, World.grownBy.refl _ none⟩⟩
            case round =>
              obtain ⟨j, hj, rfl, HX⟩ := hrel
              cases gk with
              | zero =>
                obtain rfl : j = N := by omega
                have HR : Hid (Sl encP (fun g => w.heap.size ≤ g) wr u13 (sumL p at_ l) ∧ w.grownBy wr none) := Lib.hid ⟨by rw [HLL.out]; exact HX.out.1.sl, HG5.out.trans HX.out.2⟩
                clear HX
                go_wp2
                go_ret2
                exact ⟨_, rfl, HR.out.1, HR.out.2⟩
              | succ m =>
                have hjn : (j : Int) < (N : Int) := by omega
                have hjN : j < N := by omega
                have hN10 : N ≤ 10 := HN.out.2
                have HSN : Hid ((List.range (j + 1)).map (fun s => comeP p.Q (l.map fun x => x[s]?.getD (0, 0)) wl (0, 0)) = (List.range j).map (fun s => comeP p.Q (l.map fun x => x[s]?.getD (0, 0)) wl (0, 0)) ++ [(fun s => comeP p.Q (l.map fun x => x[s]?.getD (0, 0)) wl (0, 0)) j]) := Lib.hid (by simp [List.range_succ])
                have HAC := Lib.hid HX.out.1
                have HG6 := Lib.hid HX.out.2
                have HLB : Hid ((((List.range j).map (fun s => comeP p.Q (l.map fun x => x[s]?.getD (0, 0)) wl (0, 0))).length + 1) * 16 ≤ 140737488355328) := Lib.hid (by have := HN.out.2; simp; omega)
                have HA6 := Lib.hid (HAL.out j wr hjN (HG5.out.trans HX.out.2))
                clear HX
                go_wp2_with fail
                refine HA6.out.mono ?_
                rintro e w7 ⟨v7, rfl, hs7, hg7⟩
                have HG7 := Lib.hid (HG6.out.trans hg7)
                have HAC7 := Lib.hid (HAC.out.kept hg7)
                have HC := Lib.hid (comeP_any p w.heap.size v7 vw _ wl (0, 0) _ _ w7 (HB5.out.grown HG7.out (by simp)) hs7 (HSW5.out.kept HG7.out) (by rw [List.length_map, hn2]; exact HWLN.out) ⟨by decide, by decide⟩ ⟨by decide, by decide⟩ HAU.out HMU.out)
                obtain ⟨A7, c7, e7, _, _⟩ := hs7.form
                subst e7
                clear hs7 hg7
                have hlenc : (l.map fun x => x[j]?.getD (0, 0)).length = n2 := by rw [List.length_map, hn2]
                rw [hlenc] at HC ⊢
                clear hlenc
                obtain ⟨r, hr⟩ : ∃ r, r = comeP p.Q (l.map fun x => x[j]?.getD (0, 0)) wl (0, 0) := ⟨_, rfl⟩
                rw [← hr] at HC
                have HRU : Hid (U64 r.1 ∧ U64 r.2) := Lib.hid (by rw [hr]; exact comeP_U64 p.Q HAU.out _ _ _ ⟨by decide, by decide⟩ ⟨by decide, by decide⟩)
                have HSN2 : Hid ((List.range (j + 1)).map (fun s => comeP p.Q (l.map fun x => x[s]?.getD (0, 0)) wl (0, 0)) = (List.range j).map (fun s => comeP p.Q (l.map fun x => x[s]?.getD (0, 0)) wl (0, 0)) ++ [r]) := Lib.hid (by rw [hr]; exact HSN.out)
                clear hr
                go_wp2_with fail
                refine HC.out.mono ?_
                rintro e w8 ⟨rfl, hg8⟩
                have HG8 := Lib.hid (HG7.out.trans hg8)
                have HAC8 := Lib.hid (HAC7.out.kept hg8)
                have HWB : Hid (∀ g, w5.heap.size ≤ g → w.heap.size ≤ g) := Lib.hid (fun g h => Nat.le_trans HG5.out.size h)
                clear hg8
                go_wp2_with (at_builtin; refine wpList_pushG rfl (.tmp 53) (.tmp 62) rfl (E := encP) el_pair HG8.out HAC8.out HWB.out ⟨rfl, HRU.out⟩ HLB.out rfl rfl ?_)
                intro v2 w9 hacc2 hg9 hgo
                have HFIN : Hid (Acc encP w5.heap.size 36 (fun g => w.heap.size ≤ g) w9 v2 ((List.range (j + 1)).map (fun s => comeP p.Q (l.map fun x => x[s]?.getD (0, 0)) wl (0, 0))) ∧ w5.grownBy w9 none) := Lib.hid ⟨by rw [HSN2.out]; simpa using hacc2, hg9⟩
                clear hacc2 hg9 hgo
                go_wp2_with fail
                go_roundg m
                case measure => omega
                case rel => exact ⟨j + 1, by omega, by go_num, HFIN⟩
          · have HL0 : Hid (sumL p at_ l = []) := Lib.hid (by simp [sumL, h1, he])
            rw [h1]
            clear h1 hwe hwl b1 b2 b4 h3 hn0 hm hsec HA HL
            generalize at_.length = n1 at *
            generalize l.length = n2 at *
            go_enter Tryd.func12, Tryd.ntmps12
            go_wp2_with fail
            refine (HS1.out _).mono ?_
            rintro e w1 ⟨rfl, hg1⟩
            have HG1 := Lib.hid (HG0.out.trans hg1)
            have HB1 := Lib.hid (HB.out.grown hg1 (by simp))
            clear hg1
            go_wp2_with fail
            refine (HS2.out _ HG1.out).mono ?_
            rintro e w2 ⟨rfl, hg2⟩
            have HG2 := Lib.hid (HG1.out.trans hg2)
            have HB2 := Lib.hid (HB1.out.grown hg2 (by simp))
            clear hg2
            go_wp2_with fail
            refine (HS4.out _ HG2.out HB2.out).mono ?_
            rintro e w3 ⟨rfl, hg3⟩
            have HG3 := Lib.hid (HG2.out.trans hg3)
            have HB3 := Lib.hid (HB2.out.grown hg3 (by simp))
            have hp3 := HB3.out.prule
            clear hg3
            go_wp2_with fail
            refine (HW.out _ HG3.out).mono ?_
            rintro e w4 ⟨vw, rfl, hsw, hg4⟩
            have HG4 := Lib.hid (HG3.out.trans hg4)
            clear hsw hg4 hp3
            go_wp2_with fail
            go_ret2
            exact ⟨_, rfl, by rw [HL0.out]; exact Sl.nil _ _ _, HG4.out⟩
      · have d3 : ((at_.length : Int) != (l.length : Int)) = true := by simp; omega
        have h1 : sumE p at_ l = 1 := by simp [sumE, h3]
        have HL0 : Hid (sumL p at_ l = []) := Lib.hid (by simp [sumL, h1])
        rw [h1]
        clear h1
        clear b1 b2 h3 HA HL HS4
        generalize at_.length = n1 at *
        generalize l.length = n2 at *
        go_enter Tryd.func12, Tryd.ntmps12
        go_wp2_with fail
        refine (HS1.out _).mono ?_
        rintro e w1 ⟨rfl, hg1⟩
        have HG1 := Lib.hid (HG0.out.trans hg1)
        have HB1 := Lib.hid (HB.out.grown hg1 (by simp))
        clear hg1
        go_wp2_with fail
        refine (HS2.out _ HG1.out).mono ?_
        rintro e w2 ⟨rfl, hg2⟩
        have HG2 := Lib.hid (HG1.out.trans hg2)
        have HB2 := Lib.hid (HB1.out.grown hg2 (by simp))
        clear hg2
        go_wp2_with fail
        go_ret2
        exact ⟨_, rfl, by rw [HL0.out]; exact Sl.nil _ _ _, HG2.out⟩
end Go.Proofs.YtmjdpmfcbeaecaaDoor

namespace Go.Proofs.YtmjdpmfcbeaecaaDoor
open Go Go.RowKit

/-- The whole number of a number. -/
def fixI (x q : Int) : Int := if q = 0 then 0 else if addI x 0 q ≤ (q - 1) / 2 then addI x 0 q else addI x 0 q - q
set_option maxHeartbeats 400000 in
theorem fixInt_any (x q : Int) (w : World) (hx : U64 x) (hq : U64 q) :
    Calls Tryd.prog 84 #[.int .u64 x, .int .u64 q] w fun e w' => e = .returned (.int .i64 (fixI x q)) ∧ w.grownBy w' none := by
  have HA := Lib.hid (add_gr x 0 q w hx ⟨by decide, by decide⟩)
  obtain ⟨q0, q1⟩ := hq
  by_cases hz : q = 0
  · subst hz
    have hr : addI x 0 0 = 0 := by simp [addI, mayB]
    have hr2 : fixI x 0 = 0 := by simp [fixI]
    rw [hr] at HA
    rw [hr2]
    clear hr hr2 hx
    go_enter Tryd.func84, Tryd.ntmps84
    go_wp2_with fail
    refine HA.out.mono ?_
    rintro e w1 ⟨rfl, hg⟩
    have HG := Lib.hid hg
    clear hg
    go_wp2
    go_ret
    exact ⟨rfl, HG.out⟩
  · have hqz : (q == 0) = false := by simp [hz]
    have e1 : IntKind.u64.wrap (q - 1) = q - 1 := IntWalk.u64_in _ (by omega)
    have e2 : Int.tdiv (q - 1) 2 = (q - 1) / 2 := Int.tdiv_eq_ediv_of_nonneg (by omega)
    have hb : 0 ≤ addI x 0 q ∧ addI x 0 q < 2305843009213693952 ∧ (¬ addI x 0 q ≤ (q - 1) / 2 → q ≤ 2305843009213693952) := by
      cases hm : mayB q with
      | false =>
        have : addI x 0 q = 0 := by simp [addI, hm]
        rw [this]
        exact ⟨by omega, by omega, fun h => by omega⟩
      | true =>
        have := addI_bd x 0 q hm
        simp [mayB] at hm
        exact ⟨this.1, by omega, fun _ => hm.2⟩
    obtain ⟨hb0, hb1, hb2⟩ := hb
    have hf : fixI x q = if addI x 0 q ≤ (q - 1) / 2 then addI x 0 q else addI x 0 q - q := by simp [fixI, hz]
    have e3 : IntKind.i64.wrap (addI x 0 q) = addI x 0 q := IntWalk.i64_in _ (by omega)
    by_cases hle : addI x 0 q ≤ (q - 1) / 2
    · rw [hf, if_pos hle]
      have hd : decide (addI x 0 q ≤ (q - 1) / 2) = true := by simpa using hle
      clear hf hle hx hb2
      generalize addI x 0 q = v at *
      go_enter Tryd.func84, Tryd.ntmps84
      go_wp2_with fail
      refine HA.out.mono ?_
      rintro e w1 ⟨rfl, hg⟩
      have HG := Lib.hid hg
      clear hg
      go_wp2
      go_ret
      exact ⟨rfl, HG.out⟩
    · rw [hf, if_neg hle]
      have hq2 := hb2 hle
      have hd : decide (addI x 0 q ≤ (q - 1) / 2) = false := by simpa using hle
      have e4 : IntKind.i64.wrap q = q := IntWalk.i64_in _ (by omega)
      have e5 : IntKind.i64.wrap (addI x 0 q - q) = addI x 0 q - q := IntWalk.i64_in _ (by omega)
      clear hf hle hx hb2
      generalize addI x 0 q = v at *
      go_enter Tryd.func84, Tryd.ntmps84
      go_wp2_with fail
      refine HA.out.mono ?_
      rintro e w1 ⟨rfl, hg⟩
      have HG := Lib.hid hg
      clear hg
      go_wp2
      go_ret
      exact ⟨rfl, HG.out⟩
end Go.Proofs.YtmjdpmfcbeaecaaDoor

namespace Go.Proofs.YtmjdpmfcbeaecaaDoor
open Go Go.RowKit

/-- What a dealer dealt: the dealer, and lists of commitments. -/
def encD : Enc (Int × List (List Int)) where
  size := 2
  pos := by decide
  rep := fun X w cs d => ∃ v, cs = [.int .i64 d.1, v] ∧ I64 d.1 ∧ Sl (encS encU) X w v d.2
  len := fun h => by obtain ⟨v, rfl, _⟩ := h; rfl
  ones := fun h u hu => by
    obtain ⟨v, rfl, _, A, c, rfl, _⟩ := h
    simp at hu
    rcases hu with rfl | rfl <;> rfl
  keep := fun h hg hX => by obtain ⟨v, e, i, h⟩ := h; exact ⟨v, e, i, h.keep hg hX⟩
  more := fun h hX => by obtain ⟨v, e, i, h⟩ := h; exact ⟨v, e, i, h.more hX⟩
  keepc := fun h hg hr => by obtain ⟨v, e, i, h⟩ := h; exact ⟨v, e, i, h.keepc hg hr⟩
theorem Sl.atD {X : Nat → Prop} {w : World} {v : Value} {xs : List (Int × List (List Int))} (h : Sl encD X w v xs) {k : Nat} (hk : k < xs.length) :
    ∃ g o c u, v = .slice (some ⟨g, o, none⟩) xs.length c ∧ g < w.heap.size ∧ X g ∧ w.cell? ⟨g, o + k * 2, none⟩ = some (.int .i64 xs[k].1) ∧ w.cell? ⟨g, o + k * 2 + 1, none⟩ = some u ∧ I64 xs[k].1 ∧ Sl (encS encU) X w u xs[k].2 := by
  obtain ⟨g, o, c, cs, e, hg, hX, ⟨u, rfl, hi, hu⟩, hc⟩ := h.at hk
  exact ⟨g, o, c, u, e, hg, hX, hc 0 _ rfl, hc 1 _ rfl, hi, hu⟩
/-- What is wrong with commitments put together. -/
noncomputable def comsE (p : Par) (deals : List (Int × List (List Int))) : Int :=
  if smallB p && decide (0 ≤ p.T ∧ p.T ≤ 2) && !deals.any (fun d => !((d.2.length : Int) == secretsI p) || d.2.any (shortB p)) && membersB (deals.map (·.1)) then wErr p.Q (deals.map (·.1)) 0 else 1
/-- .. and what they come to. -/
noncomputable def comsL (p : Par) (deals : List (Int × List (List Int))) : List (List Int) :=
  if comsE p deals = 0 then (List.range (secretsI p).toNat).map fun s => (List.range (p.T + 1).toNat).map fun j => comeU p.P (deals.map fun d => (d.2[s]?.getD [])[j]?.getD 0) (wList p.Q (deals.map (·.1)) 0) (timesI p.P []) else []
end Go.Proofs.YtmjdpmfcbeaecaaDoor

namespace Go.Proofs.YtmjdpmfcbeaecaaDoor
open Go Go.RowKit

theorem info_int : (Tryd.prog.info? 3).map (fun i => (i.zero, i.size, i.bytes)) = some (some (.int .i64 0), 1, 8) := by kernel_rfl
theorem el_int : ElemOk Tryd.prog 28 3 1 8 := ElemOk.mk' (by decide) Tryd.underlying28 info_int rfl
/-- A dealing that is not as long as it should be. -/
def badB (p : Par) (d : Int × List (List Int)) : Bool := !((d.2.length : Int) == secretsI p) || d.2.any (shortB p)
/-- Two lists built side by side: numbers, and lists of lists that lay there ahead. -/
structure Two (base : Nat) (wx : World) (v6 v7 : Value) (xs : List Int) (cs : List (List (List Int))) : Prop where
  fst : Acc encI base 3 (fun g => base ≤ g ∧ some g ≠ v7.ownBlock) wx v6 xs
  snd : Acc (encS (encS encU)) base 34 (fun g => g < base ∨ some g ≠ v6.ownBlock) wx v7 cs
theorem Two.kept {base : Nat} {wx w' : World} {v6 v7 : Value} {xs : List Int} {cs : List (List (List Int))} (h : Two base wx v6 v7 xs cs) (hg : wx.grownBy w' none) : Two base w' v6 v7 xs cs := ⟨h.fst.kept hg, h.snd.kept hg⟩
theorem Two.one {base : Nat} {wx w' : World} {v6 v7 v6' : Value} {xs xs' : List Int} {cs : List (List (List Int))} (h : Two base wx v6 v7 xs cs) (ha : Acc encI base 3 (fun g => base ≤ g ∧ some g ≠ v7.ownBlock) w' v6' xs') (hg : wx.grownBy w' v6.ownBlock) (hm : Moved wx v6 v6') : Two base w' v6' v7 xs' cs := by
  refine ⟨ha, ?_⟩
  have h1 : Acc (encS (encS encU)) base 34 (fun g => (g < base ∨ some g ≠ v6'.ownBlock) ∧ some g ≠ v6.ownBlock) wx v7 cs := h.snd.more fun g hg hx => by
    rcases hx with hx | hx
    · exact ⟨.inl hx, fun e => by have := (h.fst.lt g e.symm).1; omega⟩
    · exact ⟨.inr fun e => hm.ne hg (fun e' => hx e'.symm) e.symm, hx⟩
  exact (h1.keep hg fun g hx => hx.2).more fun g _ hx => hx.1
theorem Two.two {base : Nat} {wx w' : World} {v6 v7 v7' : Value} {xs : List Int} {cs cs' : List (List (List Int))} (h : Two base wx v6 v7 xs cs) (ha : Acc (encS (encS encU)) base 34 (fun g => g < base ∨ some g ≠ v6.ownBlock) w' v7' cs') (hg : wx.grownBy w' v7.ownBlock) (hm : Moved wx v7 v7') : Two base w' v6 v7' xs cs' := by
  refine ⟨?_, ha⟩
  have h1 : Acc encI base 3 (fun g => (base ≤ g ∧ some g ≠ v7'.ownBlock) ∧ some g ≠ v7.ownBlock) wx v6 xs := h.fst.more fun g hg hx => ⟨⟨hx.1, fun e => hm.ne hg (fun e' => hx.2 e'.symm) e.symm⟩, hx.2⟩
  exact (h1.keep hg fun g hx => hx.2).more fun g _ hx => hx.1
theorem Two.lt6 {base : Nat} {wx : World} {v6 v7 : Value} {xs : List Int} {cs : List (List (List Int))} (h : Two base wx v6 v7 xs cs) : ∀ g, wx.heap.size ≤ g → g < base ∨ some g ≠ v6.ownBlock := fun g hg => .inr fun e => by have := (h.fst.lt g e.symm).2; omega
theorem Two.lt7 {base : Nat} {wx : World} {v6 v7 : Value} {xs : List Int} {cs : List (List (List Int))} (h : Two base wx v6 v7 xs cs) (hb : base ≤ wx.heap.size) : ∀ g, wx.heap.size ≤ g → base ≤ g ∧ some g ≠ v7.ownBlock := fun g hg => ⟨by omega, fun e => by have := (h.snd.lt g e.symm).2; omega⟩
theorem Two.hZ {base : Nat} {wx : World} {v6 v7 : Value} {xs : List Int} {cs : List (List (List Int))} (h : Two base wx v6 v7 xs cs) {w' : World} : ∀ (c : List Value) (y : List (List Int)), (encS (encS encU)).rep (fun g => g < base) w' c y → (encS (encS encU)).rep (fun g => (g < base ∨ some g ≠ v6.ownBlock) ∧ some g ≠ v7.ownBlock) w' c y := fun c y hr => (encS (encS encU)).more hr fun g _ hx => ⟨.inl hx, fun e => by have := (h.snd.lt g e.symm).1; omega⟩
/-- The first j dealings are as long as they should be. -/
def OkTo (p : Par) (deals : List (Int × List (List Int))) (j : Nat) : Prop := ∀ i (h : i < deals.length), i < j → badB p deals[i] = false
theorem OkTo.all {p : Par} {deals : List (Int × List (List Int))} (h : OkTo p deals deals.length) : ∀ d ∈ deals, badB p d = false := fun d hd => by
  obtain ⟨i, hi, rfl⟩ := List.getElem_of_mem hd
  exact h i hi hi
theorem gives_nil {α : Type} {E : Enc α} {Y : Nat → Prop} {w w' : World} {xs : List α} {n k : Int} (h1 : n = k) (h2 : xs = []) (hg : w.grownBy w' none) : GivesE E Y w xs n (.returned (.tuple #[.slice none 0 0, .int .i64 k])) w' := by
  subst h1 h2
  exact ⟨_, rfl, Sl.nil _ _ _, hg⟩
theorem gives_fin {α : Type} {E : Enc α} {Y : Nat → Prop} {w w' : World} {xs : List α} {n k : Int} {v : Value} (hs : Sl E Y w' v xs) (h1 : n = k) (hg : w.grownBy w' none) : GivesE E Y w xs n (.returned (.tuple #[v, .int .i64 k])) w' := by
  subst h1
  exact ⟨_, rfl, hs, hg⟩
theorem grown_two {w : World} {a b : Obj} : w.grownBy ((w.alloc a).alloc b) none := (World.grownBy_alloc w _ none).trans (World.grownBy_alloc _ _ none)
theorem Bk.one {w : World} {b : Nat} {t : TypeId} {u : Value} (h : Bk w b t #[u]) : ∀ j v, [u][j]? = some v → w.cell? ⟨b, j, none⟩ = some v := fun j v hv => by rw [h.cell j]; simpa using hv
section
variable {α : Type} {P : Program} {E : Enc α} {base : Nat} {e : TypeId} {X : Nat → Prop} {w : World} {v : Value} {xs : List α}
/-- append(out, y): the thing y lies in a block that is known. -/
theorem pushAt_core {cs : List Value} {y : α} {t : TypeId} {bytes b c : Nat} (hE : ElemOk P t e E.size bytes) (hacc : Acc E base e X w v xs) (hrep : E.rep (fun g => X g ∧ some g ≠ v.ownBlock) w cs y) (hcell : ∀ j u, cs[j]? = some u → w.cell? ⟨b, j, none⟩ = some u)
    (hlen : (xs.length + 1) * bytes ≤ 140737488355328) (hb : base ≤ w.heap.size) (hN : ∀ g, w.heap.size ≤ g → X g)
    {o : Oper} {a : Act} {K : Act → World → Prop} {Q : Exit → Act → World → Prop} (s x : Operand)
    (ho : o.op = .call { callee := .builtin .append, args := #[s, x], argTypes := #[t, t] }) (hs : a.eval s = v) (hx : a.eval x = .slice (some ⟨b, 0, none⟩) 1 c)
    (h : ∀ v' w', Acc E base e X w' v' (xs ++ [y]) → w.grownBy w' v.ownBlock → Moved w v v' → K (a.put o.dst v') w') : o.wp P a w K Q := by
  obtain ⟨_, css, h1, _, h3⟩ := id hacc
  have hcl := E.len hrep
  refine wp_app s x t ho (size := E.size) hE E.pos hs h3 (some ⟨b, 0, none⟩) 1 c cs hx (by rw [hcl, Nat.one_mul]) (by simp) ?_ (E.ones hrep) hlen hb ?_
  · intro ad e' j u hu
    injection e' with e'
    subst e'
    rw [← hcell j u hu]
    unfold Addr.add
    split
    · rename_i h0
      have : j = 0 := by simpa using h0
      subst this
      rfl
    · simp
  · intro v' w' hown hg hat
    have hat' : Moved w v v' := hat.imp id fun e => ⟨_, Nat.le_refl _, e⟩
    refine h v' w' (hacc.app (cs2 := [cs]) (ys := [y]) rfl (fun i hi hi' => ?_) (fun css' hc' => ?_) hg hat' hN) hg hat'
    · have : i = 0 := by simp at hi; omega
      subst this
      exact hrep
    · have e1 : css' = css.flatten := own_same hc' h3
      rw [e1]
      simpa using hown
theorem step_pushAt {cs : List Value} {y : α} {t : TypeId} {bytes b c : Nat} {ops : Array Oper} {o : Oper} {a : Act} {K : Act → World → Prop} {Q : Exit → Act → World → Prop} {F : Prop} (hgd : o.guard = none) (s x : Operand)
    (ho : o.op = .call { callee := .builtin .append, args := #[s, x], argTypes := #[t, t] }) (hE : ElemOk P t e E.size bytes) (hacc : Acc E base e X w v xs) (hs : a.eval s = v) (hx : a.eval x = .slice (some ⟨b, 0, none⟩) 1 c) (hrep : E.rep (fun g => X g ∧ some g ≠ v.ownBlock) w cs y) (hcell : ∀ j u, cs[j]? = some u → w.cell? ⟨b, j, none⟩ = some u)
    (hlen : (xs.length + 1) * bytes ≤ 140737488355328) (hb : base ≤ w.heap.size) (hN : ∀ g, w.heap.size ≤ g → X g)
    (h : ∀ v' w', Acc E base e X w' v' (xs ++ [y]) → w.grownBy w' v.ownBlock → Moved w v v' → K (a.put o.dst v') w') : if Region.wanted o (yielded ops a.tmps) = true then Oper.wp P o a w K Q else F := by
  have hw : Region.wanted o (yielded ops a.tmps) = true := by simp [Region.wanted, hgd]
  rw [if_pos hw]
  exact pushAt_core hE hacc hrep hcell hlen hb hN s x ho hs hx h
end
set_option maxRecDepth 100000 in
set_option maxHeartbeats 4000000 in
theorem scoms_any (p : Par) (vd : Value) (deals : List (Int × List (List Int))) (X : Nat → Prop) (w : World) (hp : p.ok) (hd : Sl encD X w vd deals) (hb1 : deals.length ≤ 100000) (hb2 : ∀ d ∈ deals, d.2.length ≤ 100000) :
    Calls Tryd.prog 13 #[p.v, vd] w (GivesE (encS encU) (fun g => w.heap.size ≤ g) w (comsL p deals) (comsE p deals)) := by
  have HB : Hid (Bk (w.alloc (.cells p.cells 24)) w.heap.size 24 p.cells) := Lib.hid (Bk.new w _ _)
  have HG0 : Hid (w.grownBy (w.alloc (.cells p.cells 24)) none) := Lib.hid (World.grownBy_alloc w _ none)
  have HS1 := Lib.hid (ssmall_any p)
  have HSE := Lib.hid (ssecrets_any p)
  have HQ := Lib.hid hp.Q
  have HD := Lib.hid hd
  obtain ⟨A, c, rfl, _, _⟩ := hd.form
  clear hd hp
  cases b1 : smallB p with
  | false =>
    have h1 : comsE p deals = 1 := by simp [comsE, b1]
    have HL0 : Hid (comsL p deals = []) := Lib.hid (by simp [comsL, h1])
    rw [h1]
    rw [b1] at HS1
    clear h1 b1 HD
    generalize deals.length = n at *
    go_enter Tryd.func13, Tryd.ntmps13
    go_wp2_with fail
    refine (HS1.out _).mono ?_
    rintro e w1 ⟨rfl, hg1⟩
    have HG1 := Lib.hid (HG0.out.trans hg1)
    have hp1 := (HB.out.grown hg1 (by simp)).prule
    clear hg1
    go_wp2_with fail
    go_ret2
    exact ⟨_, rfl, by rw [HL0.out]; exact Sl.nil _ _ _, HG1.out⟩
  | true =>
    rw [b1] at HS1
    by_cases ht : p.T < 0
    · have h1 : comsE p deals = 1 := by unfold comsE; rw [if_neg]; simp; omega
      have HL0 : Hid (comsL p deals = []) := Lib.hid (by simp [comsL, h1])
      have d1 : decide (p.T < 0) = true := by simpa using ht
      rw [h1]
      clear h1 b1 HD ht
      generalize deals.length = n at *
      go_enter Tryd.func13, Tryd.ntmps13
      go_wp2_with fail
      refine (HS1.out _).mono ?_
      rintro e w1 ⟨rfl, hg1⟩
      have HG1 := Lib.hid (HG0.out.trans hg1)
      have hp1 := (HB.out.grown hg1 (by simp)).prule
      clear hg1
      go_wp2_with fail
      go_ret2
      exact ⟨_, rfl, by rw [HL0.out]; exact Sl.nil _ _ _, HG1.out⟩
    · have d1 : decide (p.T < 0) = false := by simpa using ht
      by_cases ht2 : p.T ≤ 2
      · have d2 : decide (p.T > 2) = false := by simpa using ht2
        have hsec := smallB_secrets b1
        obtain ⟨N, hN⟩ : ∃ N, N = (secretsI p).toNat := ⟨_, rfl⟩
        have HN : Hid (secretsI p = (N : Int) ∧ N ≤ 10) := Lib.hid (by omega)
        obtain ⟨t, hT⟩ : ∃ t : Nat, t = (p.T + 1).toNat := ⟨_, rfl⟩
        have HT : Hid (p.T + 1 = (t : Int) ∧ t ≤ 3 ∧ 1 ≤ t) := Lib.hid (by omega)
        have hw1 : wrap64 (p.T + 1) = (t : Int) := by have := HT.out.1; rw [wrap64_small (by omega)]; omega
        rw [HN.out.1] at HSE
        have HE1 : Hid ((∃ d ∈ deals, badB p d = true) → comsE p deals = 1) := Lib.hid (by
          rintro ⟨d, hd, hb⟩
          have : deals.any (fun d => !((d.2.length : Int) == secretsI p) || d.2.any (shortB p)) = true := List.any_eq_true.2 ⟨d, hd, hb⟩
          unfold comsE
          rw [this]
          simp)
        have HE0 : Hid ((∀ d ∈ deals, badB p d = false) → comsE p deals = if membersB (deals.map (·.1)) = true then wErr p.Q (deals.map (·.1)) 0 else 1) := Lib.hid (by
          intro h
          have : deals.any (fun d => !((d.2.length : Int) == secretsI p) || d.2.any (shortB p)) = false := List.any_eq_false.2 fun d hd => by rw [show (!((d.2.length : Int) == secretsI p) || d.2.any (shortB p)) = badB p d from rfl, h d hd]; simp
          unfold comsE
          rw [this, b1]
          simp [show 0 ≤ p.T ∧ p.T ≤ 2 by omega])
        have HLE : Hid (comsE p deals ≠ 0 → comsL p deals = []) := Lib.hid (fun h => by simp [comsL, h])
        have HLL : Hid (comsE p deals = 0 → comsL p deals = (List.range N).map fun s => (List.range t).map fun j => comeU p.P (deals.map fun d => (d.2[s]?.getD [])[j]?.getD 0) (wList p.Q (deals.map (·.1)) 0) (timesI p.P [])) := Lib.hid (fun h => by rw [comsL, if_pos h, hN, hT])
        have HXB : Hid (∀ d, badB p d = (!((d.2.length : Int) == (N : Int)) || d.2.any (shortB p))) := Lib.hid (fun d => by rw [badB, HN.out.1])
        have HSH : Hid (∀ x, shortB p x = !((x.length : Int) == (t : Int))) := Lib.hid (fun x => by rw [shortB, hw1])
        clear hsec hN hT b1 ht ht2
        have HCS : Hid (∀ v l w', Sl (encS encU) X w v l → w.grownBy w' none → Bk w' w.heap.size 24 p.cells → _) := Lib.hid (fun v l w' hv hw hbk => containsShort p w.heap.size v l X w' hbk (hv.kept hw))
        go_enter Tryd.func13, Tryd.ntmps13
        go_wp2_with fail
        refine (HS1.out _).mono ?_
        rintro e w1 ⟨rfl, hg1⟩
        have HG1 := Lib.hid (HG0.out.trans hg1)
        have HB1 := Lib.hid (HB.out.grown hg1 (by simp))
        have hp1 := HB1.out.prule
        clear hg1
        go_wp2_with fail
        go_loopg [6, 7, 34] deals.length (fun g s6 s7 s34 wx => ∃ j : Nat, j + g = deals.length ∧ s34 = .int .i64 j ∧ Hid (Two w1.heap.size wx s6 s7 ((deals.take j).map (·.1)) ((deals.take j).map (·.2)) ∧ w1.grownBy wx none ∧ OkTo p deals j))
        case atStart => exact ⟨0, by omega, rfl, Lib.hid ⟨⟨Acc.nil _ _ _ _ _, Acc.nil _ _ _ _ _⟩, World.grownBy.refl _ none, fun i h hi => absurd hi (by omega)⟩⟩
        case round =>
          obtain ⟨j, hj, rfl, HX⟩ := hrel
          cases gk with
          | zero =>
            obtain rfl : j = deals.length := by omega
            obtain ⟨htw, hg, hok⟩ := HX.out
            rw [List.take_length] at htw
            have hE := HE0.out hok.all
            have HOK : Hid (∀ d ∈ deals, badB p d = false) := Lib.hid hok.all
            have HGG := Lib.hid (HG1.out.trans hg)
            have HS6 := Lib.hid htw.fst.sl
            have HS7 := Lib.hid htw.snd.sl
            have HBR := Lib.hid (HB1.out.grown hg (by simp))
            obtain ⟨A6, c6, e6, k6, l6⟩ := htw.fst.sl.form
            obtain ⟨A7, c7, e7, k7, l7⟩ := htw.snd.sl.form
            rw [List.length_map] at e6 e7 k6 k7
            subst e6 e7
            obtain ⟨xs, hxs⟩ : ∃ y, y = deals.map (·.1) := ⟨_, rfl⟩
            obtain ⟨cs, hcs⟩ : ∃ y, y = deals.map (·.2) := ⟨_, rfl⟩
            have HXL : Hid (xs.length = deals.length ∧ cs.length = deals.length) := Lib.hid (by rw [hxs, hcs]; simp)
            have HCS0 : Hid (∀ x ∈ cs, x.length = N ∧ ∀ y ∈ x, y.length = t) := Lib.hid (by
              intro x hx
              rw [hcs] at hx
              obtain ⟨d, hd, rfl⟩ := List.mem_map.1 hx
              have h1 := HOK.out d hd
              rw [HXB.out] at h1
              simp at h1
              refine ⟨by have := h1.1; omega, fun y hy => ?_⟩
              have h2 := h1.2 y hy
              rw [HSH.out] at h2
              simp at h2
              omega)
            have HLL2 : Hid (comsE p deals = 0 → comsL p deals = (List.range N).map fun s => (List.range t).map fun j => comeU p.P ((cs.map fun x => x[s]?.getD []).map fun x => x[j]?.getD 0) (wList p.Q xs 0) (timesI p.P [])) := Lib.hid (fun h => by
              rw [HLL.out h, hcs, hxs]
              simp only [List.map_map]
              rfl)
            rw [← hxs] at hE HS6
            rw [← hcs] at HS7
            have HM1 := Lib.hid (members_any _ xs _ wr HS6.out)
            clear htw hok hg hxs hcs HX HE0 HE1 HLL HXB HSH HOK HD
            cases b2 : membersB xs with
            | false =>
              rw [b2] at hE HM1
              have h1 : comsE p deals = 1 := hE
              have HL0 : Hid (comsE p deals = 1 ∧ comsL p deals = []) := Lib.hid ⟨h1, HLE.out (by rw [h1]; decide)⟩
              clear h1 hE b2
              generalize deals.length = n at *
              go_wp2_with fail
              refine HM1.out.mono ?_
              rintro e w2 ⟨rfl, hg2⟩
              have HG2 := Lib.hid (HGG.out.trans hg2)
              clear hg2
              go_wp2_with fail
              go_ret2
              exact gives_nil HL0.out.1 HL0.out.2 HG2.out
            | true =>
              rw [b2] at hE HM1
              have hE : comsE p deals = wErr p.Q xs 0 := hE
              obtain ⟨hn0, hm⟩ := membersB_yes b2
              have HW : Hid (∀ w', wr.grownBy w' none → _) := Lib.hid (fun w' hw => sweights_any _ xs p.Q _ w' (HS6.out.kept hw) hm HQ.out (by rw [HXL.out.1]; exact hb1))
              obtain ⟨we, hwe⟩ : ∃ we, we = wErr p.Q xs 0 := ⟨_, rfl⟩
              obtain ⟨wl, hwl⟩ : ∃ wl, wl = wList p.Q xs 0 := ⟨_, rfl⟩
              rw [← hwe, ← hwl] at HW
              rw [← hwe] at hE
              rw [← hwl] at HLL2
              by_cases he : we = 0
              · subst he
                have HLL := Lib.hid (HLL2.out hE)
                have HEE := Lib.hid hE
                have HWLN : Hid (wl.length = deals.length) := Lib.hid (by rw [hwl, wList, if_pos hwe.symm, List.length_map, List.length_range, HXL.out.1])
                have HDL := Lib.hid hb1
                generalize hnd : deals.length = n at *
                obtain ⟨z0, hz0⟩ : ∃ z, z = timesI p.P [] := ⟨_, rfl⟩
                have HTN := Lib.hid (times_nil p)
                have HZU : Hid (U64 z0) := Lib.hid (by rw [hz0]; exact timesI_U64 p.P [])
                rw [← hz0] at HTN HLL
                have HAS : Hid (∀ s w', s < N → wr.grownBy w' none → _) := Lib.hid (fun s w' (hs : s < N) (hw : wr.grownBy w' none) => allS_any _ cs s _ w' (HS7.out.kept hw) (fun x hx => by have := (HCS0.out x hx).1; omega) (by rw [HXL.out.2]; exact HDL.out) (by have := HN.out.2; omega))
                have HAU : Hid (∀ s k v w', s < N → k < t → Sl (encS encU) TT w' v (cs.map fun x => x[s]?.getD []) → _) := Lib.hid (fun s k v w' (hs : s < N) (hk : k < t) hv => allU_any v (cs.map fun x => x[s]?.getD []) k TT w' hv (fun x hx => by
                  obtain ⟨y, hy, rfl⟩ := List.mem_map.1 hx
                  obtain ⟨h1, h2⟩ := HCS0.out y hy
                  have hs' : s < y.length := by omega
                  rw [List.getElem?_eq_getElem hs', Option.getD_some, h2 _ (List.getElem_mem hs')]
                  exact hk) (by rw [List.length_map, HXL.out.2]; exact HDL.out) (by have := HT.out.2.1; omega))
                have HCO : Hid (∀ (L : List Int) v vw Y w', L.length = n → Sl encU TT w' v L → Sl encU Y w' vw wl → Bk w' w.heap.size 24 p.cells → _) := Lib.hid (fun L v vw Y w' hl hv hk hbk => comeU_any p w.heap.size v vw L wl z0 TT Y w' hbk hv hk (by rw [hl, HWLN.out]; exact Nat.le_refl _) HZU.out)
                have HRUU : Hid (∀ L, U64 (comeU p.P L wl z0)) := Lib.hid (fun L => comeU_U64 p.P (timesI_U64 p.P) L wl z0 HZU.out)
                clear hwe hwl hE hn0 hm hz0 hnd
                go_wp2_with fail
                refine HM1.out.mono ?_
                rintro e w2 ⟨rfl, hg2⟩
                have HR2 := Lib.hid hg2
                have HB2 := Lib.hid (HBR.out.grown hg2 (by simp))
                have hp2 := HB2.out.prule
                clear hg2 hp1
                go_wp2_with fail
                refine (HW.out _ HR2.out).mono ?_
                rintro e w3 ⟨vw, rfl, hsw, hg3⟩
                have HR3 := Lib.hid (HR2.out.trans hg3)
                have HB3 := Lib.hid (HB2.out.grown hg3 (by simp))
                have hp3 := HB3.out.prule
                obtain ⟨Aw, cw, ew, _, _⟩ := hsw.form
                subst ew
                have HSW := Lib.hid hsw
                clear hg3 hsw hp2
                go_wp2_with fail
                refine (HSE.out _).mono ?_
                rintro e w4 ⟨rfl, hg4⟩
                have HR4 := Lib.hid (HR3.out.trans hg4)
                have HB4 := Lib.hid (HB3.out.grown hg4 (by simp))
                have HSW4 := Lib.hid (HSW.out.kept hg4)
                have HGW4 := Lib.hid (HGG.out.trans HR4.out)
                clear hg4 hp3
                obtain ⟨wz, hwz⟩ : ∃ y, y = wr := ⟨_, rfl⟩
                subst hwz
                go_wp2_with fail
                go_loopg [15, 79] N (fun g s15 s79 wx => ∃ i : Nat, i + g = N ∧ s79 = .int .i64 i ∧ Hid (Acc (encS encU) w4.heap.size 37 (fun g => w.heap.size ≤ g) wx s15 ((List.range i).map fun s => (List.range t).map fun j => comeU p.P ((cs.map fun x => x[s]?.getD []).map fun x => x[j]?.getD 0) wl z0) ∧ w4.grownBy wx none))
                case atStart => exact ⟨0, by omega, rfl, Lib.hid ⟨Acc.nil _ _ _ _ _, World.grownBy.refl _ none⟩⟩
                case round =>
                  obtain ⟨i, hi, rfl, HX⟩ := hrel
                  cases gk with
                  | zero =>
                    obtain rfl : i = N := by omega
                    have HR : Hid (Sl (encS encU) (fun g => w.heap.size ≤ g) wr u15 (comsL p deals) ∧ w.grownBy wr none ∧ comsE p deals = 0) := Lib.hid ⟨by rw [HLL.out]; exact HX.out.1.sl, HGW4.out.trans HX.out.2, HEE.out⟩
                    clear HX
                    go_wp2
                    go_ret2
                    exact gives_fin HR.out.1 HR.out.2.2 HR.out.2.1
                  | succ m =>
                    have hin : (i : Int) < (N : Int) := by omega
                    have hiN : i < N := by omega
                    have hN10 : N ≤ 10 := HN.out.2
                    have ht3 : t ≤ 3 := HT.out.2.1
                    have HAO := Lib.hid HX.out.1
                    have HGo := Lib.hid HX.out.2
                    obtain ⟨wo, hwo⟩ : ∃ y, y = wr := ⟨_, rfl⟩
                    subst hwo
                    have HBo := Lib.hid (HB4.out.grown HGo.out (by simp))
                    have HRo := Lib.hid (HR4.out.trans HGo.out)
                    have HWo := Lib.hid (HSW4.out.kept HGo.out)
                    have HASo := Lib.hid (fun w' (hw : wo.grownBy w' none) => HAS.out i w' hiN (HRo.out.trans hw))
                    have HAUo := Lib.hid (fun k v w' (hk : k < t) hv => HAU.out i k v w' hiN hk hv)
                    have HSNo : Hid (((List.range (i + 1)).map fun s => (List.range t).map fun j => comeU p.P ((cs.map fun x => x[s]?.getD []).map fun x => x[j]?.getD 0) wl z0) = ((List.range i).map fun s => (List.range t).map fun j => comeU p.P ((cs.map fun x => x[s]?.getD []).map fun x => x[j]?.getD 0) wl z0) ++ [(List.range t).map fun j => comeU p.P ((cs.map fun x => x[i]?.getD []).map fun x => x[j]?.getD 0) wl z0]) := Lib.hid (by simp [List.range_succ])
                    obtain ⟨L1, hL1⟩ : ∃ y, y = cs.map fun x => x[i]?.getD [] := ⟨_, rfl⟩
                    rw [← hL1] at HASo HAUo HSNo
                    have HL1 : Hid (L1.length = n) := Lib.hid (by rw [hL1, List.length_map, HXL.out.2])
                    obtain ⟨RO, hRO⟩ : ∃ y, y = (List.range i).map fun s => (List.range t).map fun j => comeU p.P ((cs.map fun x => x[s]?.getD []).map fun x => x[j]?.getD 0) wl z0 := ⟨_, rfl⟩
                    rw [← hRO] at HAO HSNo
                    have HLBo : Hid ((RO.length + 1) * 24 ≤ 140737488355328) := Lib.hid (by rw [hRO, List.length_map, List.length_range]; have := HN.out.2; omega)
                    have hpo := HBo.out.prule
                    clear HX hL1 hRO
                    go_wp2_with fail
                    simp only [hw1]
                    go_loopg [17, 85] t (fun g s17 s85 wx => ∃ k : Nat, k + g = t ∧ s85 = .int .i64 k ∧ Hid (Acc encU wo.heap.size 22 (fun g => wo.heap.size ≤ g) wx s17 ((List.range k).map fun j => comeU p.P (L1.map fun x => x[j]?.getD 0) wl z0) ∧ wo.grownBy wx none))
                    case atStart => exact ⟨0, by omega, rfl, Lib.hid ⟨Acc.nil _ _ _ _ _, World.grownBy.refl _ none⟩⟩
                    case round =>
                      obtain ⟨k, hk, rfl, HY⟩ := hrel
                      cases gk with
                      | zero =>
                        obtain rfl : k = t := by omega
                        have HSl := Lib.hid HY.out.1.sl
                        obtain ⟨A17, c17, e17, _, _⟩ := HY.out.1.sl.form
                        rw [List.length_map, List.length_range] at e17
                        subst e17
                        have HAO2 := Lib.hid (HAO.out.kept HY.out.2)
                        have HG5 := Lib.hid (HGo.out.trans HY.out.2)
                        have HREP : Hid ((encS encU).rep (fun g => w.heap.size ≤ g ∧ some g ≠ u15.ownBlock) wr [.slice A17 k c17] ((List.range k).map fun j => comeU p.P (L1.map fun x => x[j]?.getD 0) wl z0)) := Lib.hid ⟨_, rfl, HSl.out.more fun g _ hx => ⟨Nat.le_trans (HGW4.out.trans HGo.out).size hx, fun e => by have := (HAO.out.lt g e.symm).2; omega⟩⟩
                        have HWB : Hid (∀ g, w4.heap.size ≤ g → w.heap.size ≤ g) := Lib.hid (fun g h => Nat.le_trans HGW4.out.size h)
                        clear HY
                        go_wp2_with (at_builtin; refine wpList_pushG rfl (.tmp 103) (.tmp 105) rfl (E := encS encU) el_nums HG5.out HAO2.out HWB.out HREP.out HLBo.out rfl rfl ?_)
                        intro v2 w9 hacc2 hg9 hgo
                        have HFIN : Hid (Acc (encS encU) w4.heap.size 37 (fun g => w.heap.size ≤ g) w9 v2 ((List.range (i + 1)).map fun s => (List.range k).map fun j => comeU p.P ((cs.map fun x => x[s]?.getD []).map fun x => x[j]?.getD 0) wl z0) ∧ w4.grownBy w9 none) := Lib.hid ⟨by rw [HSNo.out]; exact hacc2, hg9⟩
                        clear hacc2 hg9 hgo
                        go_wp2_with fail
                        go_roundg m
                        case measure => omega
                        case rel => exact ⟨i + 1, by omega, by go_num, HFIN⟩
                      | succ m2 =>
                        have hkn : (k : Int) < (t : Int) := by omega
                        have hkN : k < t := by omega
                        have HBk := Lib.hid ((HBo.out.grown HY.out.2 (by simp)).grown (grown_drewN' wr 1) (by simp))
                        have HWk := Lib.hid ((HWo.out.kept HY.out.2).kept (grown_drewN' wr 1))
                        have HGk := Lib.hid (HY.out.2.trans (grown_drewN' wr 1))
                        have HAk := Lib.hid (HY.out.1.kept (grown_drewN' wr 1))
                        obtain ⟨A17, c17, e17, _, _⟩ := HY.out.1.sl.form
                        rw [List.length_map, List.length_range] at e17
                        subst e17
                        have HSN : Hid (((List.range (k + 1)).map fun j => comeU p.P (L1.map fun x => x[j]?.getD 0) wl z0) = ((List.range k).map fun j => comeU p.P (L1.map fun x => x[j]?.getD 0) wl z0) ++ [comeU p.P (L1.map fun x => x[k]?.getD 0) wl z0]) := Lib.hid (by simp [List.range_succ])
                        have HASi := Lib.hid (fun w' (hw : wr.drew.grownBy w' none) => HASo.out w' (HGk.out.trans hw))
                        have HAUi := Lib.hid (fun v w' hv (_ : wr.drew.grownBy w' none) => HAUo.out k v w' hkN hv)
                        obtain ⟨L2, hL2⟩ : ∃ y, y = L1.map fun x => x[k]?.getD 0 := ⟨_, rfl⟩
                        rw [← hL2] at HAUi HSN
                        have HCOi := Lib.hid (fun v w' hv (hw : wr.drew.grownBy w' none) => HCO.out L2 v _ _ w' (by rw [hL2, List.length_map, HL1.out]) hv (HWk.out.kept hw) (HBk.out.grown hw (by simp)))
                        have HRU := Lib.hid (HRUU.out L2)
                        obtain ⟨r, hr⟩ : ∃ y, y = comeU p.P L2 wl z0 := ⟨_, rfl⟩
                        rw [← hr] at HCOi HRU HSN
                        obtain ⟨RI, hRI⟩ : ∃ y, y = (List.range k).map fun j => comeU p.P (L1.map fun x => x[j]?.getD 0) wl z0 := ⟨_, rfl⟩
                        rw [← hRI] at HSN HAk
                        have HLB : Hid ((RI.length + [r].length) * 8 ≤ 140737488355328) := Lib.hid (by rw [hRI, List.length_map, List.length_range]; have := HT.out.2.1; simp; omega)
                        have HT3 := Lib.hid HT.out.2.1
                        clear HY hL2 hr hRI
                        go_upto_region 28 with (fail)
                        refine wp_region_mono 13 (by kernel_rfl) (by kernel_rfl) ?_
                        -- op 0 (slot 88): move
                        refine MonoR.step (Pv.eq (.slice A17 k c17)) [] (by kernel_rfl) (fun w' hw' => ?_) ?_
                        · refine ask_do rfl fun K hK => ?_
                          go_simp
                          exact hK _ _ rfl rfl (World.grownBy.refl _ none)
                        -- op 1 (slot 89): move
                        refine MonoR.step (Pv.eq (.slice A7 n c7)) [] (by kernel_rfl) (fun w' hw' => ?_) ?_
                        · refine ask_do rfl fun K hK => ?_
                          go_simp
                          exact hK _ _ rfl rfl (World.grownBy.refl _ none)
                        -- op 2 (slot 90): move
                        refine MonoR.step (Pv.eq (.int .i64 (i : Int))) [] (by kernel_rfl) (fun w' hw' => ?_) ?_
                        · refine ask_do rfl fun K hK => ?_
                          go_simp
                          exact hK _ _ rfl rfl (World.grownBy.refl _ none)
                        -- op 3 (slot 91): call
                        refine MonoR.step (Pv.sl (encS encU) TT L1) [(1, 89), (2, 90)] (by kernel_rfl) (fun w' hw' => ?_) ?_
                        · rintro _ rfl
                          rintro _ rfl
                          refine ask_do rfl fun K hK => ?_
                          go_simp
                          refine (HASi.out w' hw').mono ?_
                          rintro e w3 ⟨v3, rfl, h3, hg⟩
                          exact hK _ _ rfl (h3.more (fun _ _ _ => trivial)) hg
                        -- op 4 (slot 92): move
                        refine MonoR.step (Pv.eq (.int .i64 (k : Int))) [] (by kernel_rfl) (fun w' hw' => ?_) ?_
                        · refine ask_do rfl fun K hK => ?_
                          go_simp
                          exact hK _ _ rfl rfl (World.grownBy.refl _ none)
                        -- op 5 (slot 93): call
                        refine MonoR.step (Pv.sl (encU) TT L2) [(3, 91), (4, 92)] (by kernel_rfl) (fun w' hw' => ?_) ?_
                        · intro x91 h91
                          have h91 : Sl (encS encU) TT w' x91 L1 := h91
                          obtain ⟨A91, c91, e91, k91, l91⟩ := h91.form
                          have e91 : x91 = .slice A91 L1.length c91 := e91
                          subst e91
                          rintro _ rfl
                          refine ask_do rfl fun K hK => ?_
                          go_simp
                          refine (HAUi.out _ w' h91 hw').mono ?_
                          rintro e w3 ⟨v3, rfl, h3, hg⟩
                          exact hK _ _ rfl (h3.more (fun _ _ _ => trivial)) hg
                        -- op 6 (slot 94): move
                        refine MonoR.step (Pv.eq (.slice Aw wl.length cw)) [] (by kernel_rfl) (fun w' hw' => ?_) ?_
                        · refine ask_do rfl fun K hK => ?_
                          go_simp
                          exact hK _ _ rfl rfl (World.grownBy.refl _ none)
                        -- op 7 (slot 95): load
                        refine MonoR.step (Pv.eq (p.v)) [] (by kernel_rfl) (fun w' hw' => ?_) ?_
                        · refine ask_do rfl fun K hK => ?_
                          have hp := (HBk.out.grown hw' (by simp)).prule
                          go_simp
                          exact hK _ _ rfl rfl (World.grownBy.refl _ none)
                        -- op 8 (slot 96): call
                        refine MonoR.step (Pv.eq (.int .u64 z0)) [(7, 95)] (by kernel_rfl) (fun w' hw' => ?_) ?_
                        · rintro _ rfl
                          refine ask_do rfl fun K hK => ?_
                          go_simp
                          refine (HTN.out w').mono ?_
                          rintro e w3 ⟨rfl, hg⟩
                          exact hK _ _ rfl rfl hg
                        -- op 9 (slot 97): move
                        refine MonoR.step (Pv.eq (.func (.func 60) #[] #[.pointer (some ⟨w.heap.size, 0, none⟩)])) [] (by kernel_rfl) (fun w' hw' => ?_) ?_
                        · refine ask_do rfl fun K hK => ?_
                          go_simp
                          exact hK _ _ rfl rfl (World.grownBy.refl _ none)
                        -- op 10 (slot 98): move
                        refine MonoR.step (Pv.eq (.func (.func 61) #[] #[.pointer (some ⟨w.heap.size, 0, none⟩)])) [] (by kernel_rfl) (fun w' hw' => ?_) ?_
                        · refine ask_do rfl fun K hK => ?_
                          go_simp
                          exact hK _ _ rfl rfl (World.grownBy.refl _ none)
                        -- op 11 (slot 99): call
                        refine MonoR.step (Pv.eq (.int .u64 r)) [(5, 93), (6, 94), (8, 96), (9, 97), (10, 98)] (by kernel_rfl) (fun w' hw' => ?_) ?_
                        · intro x93 h93
                          have h93 : Sl (encU) TT w' x93 L2 := h93
                          obtain ⟨A93, c93, e93, k93, l93⟩ := h93.form
                          have e93 : x93 = .slice A93 L2.length c93 := e93
                          subst e93
                          rintro _ rfl
                          rintro _ rfl
                          rintro _ rfl
                          rintro _ rfl
                          refine ask_do rfl fun K hK => ?_
                          go_simp
                          refine (HCOi.out _ w' h93 hw').mono ?_
                          rintro e w3 ⟨rfl, hg⟩
                          exact hK _ _ rfl rfl hg
                        -- op 12 (slot 100): buildSlice
                        refine MonoR.step (Pv.sl (encU) TT [r]) [(11, 99)] (by kernel_rfl) (fun w' hw' => ?_) ?_
                        · rintro _ rfl
                          refine ask_do rfl fun K hK => ?_
                          go_simp
                          exact hK _ _ rfl (Sl.build [[.int .u64 r]] rfl ⟨⟨rfl, HRU.out⟩, trivial⟩ rfl (by decide)) (World.grownBy_alloc w' _ none)
                        
                        intro w5 hw5
                        intro y0 k0 y1 k1 y2 k2 y3 k3 y4 k4 y5 k5 y6 k6 y7 k7 y8 k8 y9 k9 y10 k10 y11 k11 y12 h12
                        simp only [Act.put, List.setIfInBounds_toArray, List.set_cons_zero, List.set_cons_succ]
                        have e0 : y0 = .slice A17 k c17 := k0
                        subst e0
                        obtain ⟨A12, c12, e12, _, _⟩ := h12.form
                        have e12 : y12 = .slice A12 1 c12 := e12
                        subst e12
                        have HA5 := Lib.hid (HAk.out.kept hw5)
                        have HG5 := Lib.hid (HGk.out.trans hw5)
                        have HS12 : Hid (Sl encU TT w5 (.slice A12 1 c12) [r]) := Lib.hid h12
                        clear k0 k1 k2 k3 k4 k5 k6 k7 k8 k9 k10 k11 h12 hw5
                        refine wpList_apps rfl (.tmp 88) (.tmp 100) rfl (E := encU) el_u64 HA5.out rfl rfl HS12.out (fun _ _ h => h) HLB.out HG5.out.size (fun g hg => Nat.le_trans HG5.out.size hg) ?_
                        intro v6 w6 ha hgr _
                        have HFIN : Hid (Acc encU wo.heap.size 22 (fun g => wo.heap.size ≤ g) w6 v6 ((List.range (k + 1)).map fun j => comeU p.P (L1.map fun x => x[j]?.getD 0) wl z0) ∧ wo.grownBy w6 none) := Lib.hid ⟨by rw [HSN.out]; exact ha, grown_up HG5.out hgr (fun g he => (HA5.out.lt g he).1)⟩
                        clear ha hgr
                        go_wp2_with fail
                        go_roundg m2
                        case measure => omega
                        case rel => exact ⟨k + 1, by omega, by go_num, HFIN⟩
              · have HL0 : Hid (comsE p deals = we ∧ comsL p deals = []) := Lib.hid ⟨hE, HLE.out (by rw [hE]; exact he)⟩
                have hd : (we != 0) = true := by simpa using he
                clear hwe hwl hE hn0 hm he
                generalize deals.length = n at *
                go_wp2_with fail
                refine HM1.out.mono ?_
                rintro e w2 ⟨rfl, hg2⟩
                have HR2 := Lib.hid hg2
                have HB2 := Lib.hid (HBR.out.grown hg2 (by simp))
                have hp2 := HB2.out.prule
                clear hg2 hp1
                go_wp2_with fail
                refine (HW.out _ HR2.out).mono ?_
                rintro e w3 ⟨vw, rfl, hsw, hg3⟩
                have HR3 := Lib.hid (HGG.out.trans (HR2.out.trans hg3))
                clear hg3 hsw hp2
                go_wp2_with fail
                go_ret2
                exact gives_nil HL0.out.1 HL0.out.2 HR3.out
          | succ m =>
            have hjn : (j : Int) < (deals.length : Int) := by omega
            have hjN : j < deals.length := by omega
            obtain ⟨htw, hg, hbd⟩ := HX.out
            have HGr := Lib.hid (HG1.out.trans hg)
            obtain ⟨gd, od, cd, ud, e, _, _, hc0, hc1, hi0, hs0⟩ := (HD.out.kept HGr.out).atD hjN
            obtain ⟨_, _, _, ud', e', q1, q2, q3, hc1', q4, hs0'⟩ := HD.out.atD hjN
            clear q1 q2 q3 q4
            injection e with e1 e2 e3
            subst e1 e3
            injection e' with e1' e6' e7'
            clear e6' e7'
            injection e1' with e1'
            injection e1' with e4 e5
            subst e4 e5
            obtain rfl : ud = ud' := by have := cell_kept hc1' HGr.out (by simp); rw [hc1] at this; injection this
            have HDL : Hid (deals[j].2.length ≤ 100000) := Lib.hid (hb2 _ (List.getElem_mem hjN))
            have HMEM : Hid (badB p deals[j] = true → comsE p deals = 1) := Lib.hid (fun h => HE1.out ⟨_, List.getElem_mem hjN, h⟩)
            have HXJ := Lib.hid (HXB.out deals[j])
            have HSN6 : Hid ((deals.take (j + 1)).map (·.1) = (deals.take j).map (·.1) ++ [deals[j].1]) := Lib.hid (by rw [List.take_succ_eq_append_getElem hjN, List.map_append]; rfl)
            have HSN7 : Hid ((deals.take (j + 1)).map (·.2) = (deals.take j).map (·.2) ++ [deals[j].2]) := Lib.hid (by rw [List.take_succ_eq_append_getElem hjN, List.map_append]; rfl)
            have HLB6 : Hid ((((deals.take j).map (·.1)).length + 1) * 8 ≤ 140737488355328) := Lib.hid (by simp; omega)
            have HLB7 : Hid ((((deals.take j).map (·.2)).length + 1) * 24 ≤ 140737488355328) := Lib.hid (by simp; omega)
            have HBN : Hid (badB p deals[j] = false → OkTo p deals (j + 1)) := Lib.hid (fun hb i h hi => by
              rcases Nat.lt_or_ge i j with h1 | h1
              · exact hbd i h h1
              · obtain rfl : i = j := by omega
                exact hb)
            obtain ⟨d1, hd1⟩ : ∃ y, y = deals[j].1 := ⟨_, rfl⟩
            obtain ⟨d2', hd2⟩ : ∃ y, y = deals[j].2 := ⟨_, rfl⟩
            rw [← hd1] at hc0 HSN6 hi0
            rw [← hd2] at hs0' HSN7 HDL HXJ
            obtain ⟨bb, hbb⟩ : ∃ y, y = badB p deals[j] := ⟨_, rfl⟩
            rw [← hbb] at HMEM HXJ HBN
            clear hbb
            obtain ⟨x6, hx6⟩ : ∃ y, y = (deals.take j).map (·.1) := ⟨_, rfl⟩
            obtain ⟨x7, hx7⟩ : ∃ y, y = (deals.take j).map (·.2) := ⟨_, rfl⟩
            rw [← hx6] at htw HSN6 HLB6
            rw [← hx7] at htw HSN7 HLB7
            have HTW := Lib.hid htw
            have HGG := Lib.hid hg
            have HSD := Lib.hid hs0'
            have HI0 := Lib.hid hi0
            have HBR := Lib.hid (HB1.out.grown hg (by simp))
            obtain ⟨Ad, cd', e7, _, _⟩ := hs0'.form
            subst e7
            clear hs0 hs0' hc1' hd1 hd2 hx6 hx7 htw hg hbd e2 HX hi0
            generalize hnd : deals.length = n at *
            generalize hn2 : d2'.length = n2 at *
            by_cases hnN : (n2 : Int) = (N : Int)
            · have hq : ((n2 : Int) != (N : Int)) = false := by simpa using hnN
              cases hs : d2'.any (shortB p) with
              | true =>
                have h1 : comsE p deals = 1 := HMEM.out (by rw [HXJ.out, hs]; simp)
                have HAN : Hid (d2'.any (fun x => shortB p x) = true) := Lib.hid hs
                clear hs hnN
                have HL0 : Hid (comsE p deals = 1 ∧ comsL p deals = []) := Lib.hid ⟨h1, HLE.out (by rw [h1]; decide)⟩
                clear h1
                go_upto_region 9 with (fail)
                have HBD : Hid (Bk (wr.alloc (.cells #[.int .i64 d1, .slice Ad n2 cd'] 41)).drew wr.heap.size 41 #[.int .i64 d1, .slice Ad n2 cd']) := Lib.hid ((Bk.new wr _ _).grown (grown_drewN' _ 1) (by simp))
                have HBd : Hid (Bk (wr.alloc (.cells #[.int .i64 d1, .slice Ad n2 cd'] 41)).drew w.heap.size 24 p.cells) := Lib.hid ((HBR.out.alloc _).grown (grown_drewN' _ 1) (by simp))
                have HGd : Hid (w.grownBy (wr.alloc (.cells #[.int .i64 d1, .slice Ad n2 cd'] 41)).drew none) := Lib.hid ((HGr.out.trans (World.grownBy_alloc wr _ none)).trans (grown_drewN' _ 1))
                refine wp_region_mono 12 (by kernel_rfl) (by kernel_rfl) ?_
                -- op 0 (slot 39): fieldAddr
                refine MonoR.step (Pv.eq (.pointer (some ⟨wr.heap.size, 1, none⟩))) [] (by kernel_rfl) (fun w' hw' => ?_) ?_
                · refine ask_do rfl fun K hK => ?_
                  go_simp
                  exact hK _ _ rfl rfl (World.grownBy.refl _ none)
                -- op 1 (slot 40): load
                refine MonoR.step (Pv.eq (.slice Ad n2 cd')) [(0, 39)] (by kernel_rfl) (fun w' hw' => ?_) ?_
                · rintro _ rfl
                  refine ask_do rfl fun K hK => ?_
                  have hd0 := (HBD.out.grown hw' (by simp)).cell 0
                  have hd1 := (HBD.out.grown hw' (by simp)).cell 1
                  simp at hd0 hd1
                  have hp := (HBd.out.grown hw' (by simp)).prule
                  go_simp
                  exact hK _ _ rfl rfl (World.grownBy.refl _ none)
                -- op 2 (slot 41): call
                refine MonoR.step (Pv.eq (.int .i64 (n2 : Int))) [(1, 40)] (by kernel_rfl) (fun w' hw' => ?_) ?_
                · rintro _ rfl
                  refine ask_do rfl fun K hK => ?_
                  go_simp
                  exact hK _ _ rfl rfl (World.grownBy.refl _ none)
                -- op 3 (slot 42): load
                refine MonoR.step (Pv.eq (p.v)) [] (by kernel_rfl) (fun w' hw' => ?_) ?_
                · refine ask_do rfl fun K hK => ?_
                  have hd0 := (HBD.out.grown hw' (by simp)).cell 0
                  have hd1 := (HBD.out.grown hw' (by simp)).cell 1
                  simp at hd0 hd1
                  have hp := (HBd.out.grown hw' (by simp)).prule
                  go_simp
                  exact hK _ _ rfl rfl (World.grownBy.refl _ none)
                -- op 4 (slot 43): call
                refine MonoR.step (Pv.eq (.int .i64 (N : Int))) [(3, 42)] (by kernel_rfl) (fun w' hw' => ?_) ?_
                · rintro _ rfl
                  refine ask_do rfl fun K hK => ?_
                  go_simp
                  refine (HSE.out _).mono ?_
                  rintro e w3 ⟨rfl, hg⟩
                  exact hK _ _ rfl rfl hg
                -- op 5 (slot 44): binOp
                refine MonoR.step (Pv.eq (.bool false)) [(2, 41), (4, 43)] (by kernel_rfl) (fun w' hw' => ?_) ?_
                · rintro _ rfl
                  rintro _ rfl
                  refine ask_do rfl fun K hK => ?_
                  go_simp
                  exact hK _ _ rfl rfl (World.grownBy.refl _ none)
                -- op 6 (slot 45): move
                refine MonoR.step (Pv.eq (.bool false)) [(5, 44)] (by kernel_rfl) (fun w' hw' => ?_) ?_
                · rintro _ rfl
                  refine ask_do rfl fun K hK => ?_
                  go_simp
                  exact hK _ _ rfl rfl (World.grownBy.refl _ none)
                -- op 7 (slot 46): fieldAddr [(6, 'false')]
                refine MonoR.step (Pv.eq (.pointer (some ⟨wr.heap.size, 1, none⟩))) [(6, 45)] (by kernel_rfl) (fun w' hw' => ?_) ?_
                · rintro _ rfl
                  refine ask_do rfl fun K hK => ?_
                  go_simp
                  exact hK _ _ rfl rfl (World.grownBy.refl _ none)
                -- op 8 (slot 47): load [(6, 'false')]
                refine MonoR.step (Pv.eq (.slice Ad n2 cd')) [(6, 45), (7, 46)] (by kernel_rfl) (fun w' hw' => ?_) ?_
                · rintro _ rfl
                  rintro _ rfl
                  refine ask_do rfl fun K hK => ?_
                  have hd0 := (HBD.out.grown hw' (by simp)).cell 0
                  have hd1 := (HBD.out.grown hw' (by simp)).cell 1
                  simp at hd0 hd1
                  have hp := (HBd.out.grown hw' (by simp)).prule
                  go_simp
                  exact hK _ _ rfl rfl (World.grownBy.refl _ none)
                -- op 9 (slot 48): move [(6, 'false')]
                refine MonoR.step (Pv.eq (.func (.func 58) #[] #[.pointer (some ⟨w.heap.size, 0, none⟩)])) [(6, 45)] (by kernel_rfl) (fun w' hw' => ?_) ?_
                · rintro _ rfl
                  refine ask_do rfl fun K hK => ?_
                  go_simp
                  exact hK _ _ rfl rfl (World.grownBy.refl _ none)
                -- op 10 (slot 49): call [(6, 'false')]
                refine MonoR.step (Pv.eq (.bool true)) [(6, 45), (8, 47), (9, 48)] (by kernel_rfl) (fun w' hw' => ?_) ?_
                · rintro _ rfl
                  rintro _ rfl
                  rintro _ rfl
                  refine ask_do rfl fun K hK => ?_
                  go_simp
                  refine (HCS.out _ _ _ HSD.out (HGd.out.trans hw') (HBd.out.grown hw' (by simp))).mono ?_
                  rintro e w3 ⟨rfl, hg⟩
                  rw [HAN.out]
                  exact hK _ _ rfl rfl hg
                -- op 11 (slot 50): pick
                refine MonoR.step (Pv.eq (.bool true)) [(6, 45), (10, 49)] (by kernel_rfl) (fun w' hw' => ?_) ?_
                · rintro _ rfl
                  rintro _ rfl
                  refine ask_do rfl fun K hK => ?_
                  go_simp
                  exact hK _ _ rfl rfl (World.grownBy.refl _ none)
                
                intro w3 hw3
                intro y0 k0 y1 k1 y2 k2 y3 k3 y4 k4 y5 k5 y6 k6 y7 k7 y8 k8 y9 k9 y10 k10
                rintro _ rfl
                have HW3 := Lib.hid hw3
                clear hw3
                refine wpList_nil ?_
                simp only [Act.put, List.setIfInBounds_toArray, List.set_cons_zero, List.set_cons_succ]
                clear k0 k1 k2 k3 k4 k5 k6 k7 k8 k9 k10
                have HG4 : Hid (w.grownBy w3 none) := Lib.hid (HGd.out.trans HW3.out)
                go_wp2_with fail
                go_ret2
                exact gives_nil HL0.out.1 HL0.out.2 HG4.out
              | false =>
                have HAN : Hid (d2'.any (fun x => shortB p x) = false) := Lib.hid hs
                have HBF := Lib.hid (HBN.out (by rw [HXJ.out, hs]; simp [hnN]))
                have HNN := Lib.hid hnN
                have HSS := Lib.hid hs
                clear hs hnN
                go_upto_region 9 with (fail)
                have HBD : Hid (Bk (wr.alloc (.cells #[.int .i64 d1, .slice Ad n2 cd'] 41)).drew wr.heap.size 41 #[.int .i64 d1, .slice Ad n2 cd']) := Lib.hid ((Bk.new wr _ _).grown (grown_drewN' _ 1) (by simp))
                have HBd : Hid (Bk (wr.alloc (.cells #[.int .i64 d1, .slice Ad n2 cd'] 41)).drew w.heap.size 24 p.cells) := Lib.hid ((HBR.out.alloc _).grown (grown_drewN' _ 1) (by simp))
                have HGd : Hid (w.grownBy (wr.alloc (.cells #[.int .i64 d1, .slice Ad n2 cd'] 41)).drew none) := Lib.hid ((HGr.out.trans (World.grownBy_alloc wr _ none)).trans (grown_drewN' _ 1))
                refine wp_region_mono 12 (by kernel_rfl) (by kernel_rfl) ?_
                -- op 0 (slot 39): fieldAddr
                refine MonoR.step (Pv.eq (.pointer (some ⟨wr.heap.size, 1, none⟩))) [] (by kernel_rfl) (fun w' hw' => ?_) ?_
                · refine ask_do rfl fun K hK => ?_
                  go_simp
                  exact hK _ _ rfl rfl (World.grownBy.refl _ none)
                -- op 1 (slot 40): load
                refine MonoR.step (Pv.eq (.slice Ad n2 cd')) [(0, 39)] (by kernel_rfl) (fun w' hw' => ?_) ?_
                · rintro _ rfl
                  refine ask_do rfl fun K hK => ?_
                  have hd0 := (HBD.out.grown hw' (by simp)).cell 0
                  have hd1 := (HBD.out.grown hw' (by simp)).cell 1
                  simp at hd0 hd1
                  have hp := (HBd.out.grown hw' (by simp)).prule
                  go_simp
                  exact hK _ _ rfl rfl (World.grownBy.refl _ none)
                -- op 2 (slot 41): call
                refine MonoR.step (Pv.eq (.int .i64 (n2 : Int))) [(1, 40)] (by kernel_rfl) (fun w' hw' => ?_) ?_
                · rintro _ rfl
                  refine ask_do rfl fun K hK => ?_
                  go_simp
                  exact hK _ _ rfl rfl (World.grownBy.refl _ none)
                -- op 3 (slot 42): load
                refine MonoR.step (Pv.eq (p.v)) [] (by kernel_rfl) (fun w' hw' => ?_) ?_
                · refine ask_do rfl fun K hK => ?_
                  have hd0 := (HBD.out.grown hw' (by simp)).cell 0
                  have hd1 := (HBD.out.grown hw' (by simp)).cell 1
                  simp at hd0 hd1
                  have hp := (HBd.out.grown hw' (by simp)).prule
                  go_simp
                  exact hK _ _ rfl rfl (World.grownBy.refl _ none)
                -- op 4 (slot 43): call
                refine MonoR.step (Pv.eq (.int .i64 (N : Int))) [(3, 42)] (by kernel_rfl) (fun w' hw' => ?_) ?_
                · rintro _ rfl
                  refine ask_do rfl fun K hK => ?_
                  go_simp
                  refine (HSE.out _).mono ?_
                  rintro e w3 ⟨rfl, hg⟩
                  exact hK _ _ rfl rfl hg
                -- op 5 (slot 44): binOp
                refine MonoR.step (Pv.eq (.bool false)) [(2, 41), (4, 43)] (by kernel_rfl) (fun w' hw' => ?_) ?_
                · rintro _ rfl
                  rintro _ rfl
                  refine ask_do rfl fun K hK => ?_
                  go_simp
                  exact hK _ _ rfl rfl (World.grownBy.refl _ none)
                -- op 6 (slot 45): move
                refine MonoR.step (Pv.eq (.bool false)) [(5, 44)] (by kernel_rfl) (fun w' hw' => ?_) ?_
                · rintro _ rfl
                  refine ask_do rfl fun K hK => ?_
                  go_simp
                  exact hK _ _ rfl rfl (World.grownBy.refl _ none)
                -- op 7 (slot 46): fieldAddr [(6, 'false')]
                refine MonoR.step (Pv.eq (.pointer (some ⟨wr.heap.size, 1, none⟩))) [(6, 45)] (by kernel_rfl) (fun w' hw' => ?_) ?_
                · rintro _ rfl
                  refine ask_do rfl fun K hK => ?_
                  go_simp
                  exact hK _ _ rfl rfl (World.grownBy.refl _ none)
                -- op 8 (slot 47): load [(6, 'false')]
                refine MonoR.step (Pv.eq (.slice Ad n2 cd')) [(6, 45), (7, 46)] (by kernel_rfl) (fun w' hw' => ?_) ?_
                · rintro _ rfl
                  rintro _ rfl
                  refine ask_do rfl fun K hK => ?_
                  have hd0 := (HBD.out.grown hw' (by simp)).cell 0
                  have hd1 := (HBD.out.grown hw' (by simp)).cell 1
                  simp at hd0 hd1
                  have hp := (HBd.out.grown hw' (by simp)).prule
                  go_simp
                  exact hK _ _ rfl rfl (World.grownBy.refl _ none)
                -- op 9 (slot 48): move [(6, 'false')]
                refine MonoR.step (Pv.eq (.func (.func 58) #[] #[.pointer (some ⟨w.heap.size, 0, none⟩)])) [(6, 45)] (by kernel_rfl) (fun w' hw' => ?_) ?_
                · rintro _ rfl
                  refine ask_do rfl fun K hK => ?_
                  go_simp
                  exact hK _ _ rfl rfl (World.grownBy.refl _ none)
                -- op 10 (slot 49): call [(6, 'false')]
                refine MonoR.step (Pv.eq (.bool false)) [(6, 45), (8, 47), (9, 48)] (by kernel_rfl) (fun w' hw' => ?_) ?_
                · rintro _ rfl
                  rintro _ rfl
                  rintro _ rfl
                  refine ask_do rfl fun K hK => ?_
                  go_simp
                  refine (HCS.out _ _ _ HSD.out (HGd.out.trans hw') (HBd.out.grown hw' (by simp))).mono ?_
                  rintro e w3 ⟨rfl, hg⟩
                  rw [HAN.out]
                  exact hK _ _ rfl rfl hg
                -- op 11 (slot 50): pick
                refine MonoR.step (Pv.eq (.bool false)) [(6, 45), (10, 49)] (by kernel_rfl) (fun w' hw' => ?_) ?_
                · rintro _ rfl
                  rintro _ rfl
                  refine ask_do rfl fun K hK => ?_
                  go_simp
                  exact hK _ _ rfl rfl (World.grownBy.refl _ none)
                
                intro w3 hw3
                intro y0 k0 y1 k1 y2 k2 y3 k3 y4 k4 y5 k5 y6 k6 y7 k7 y8 k8 y9 k9 y10 k10
                rintro _ rfl
                have HW3 := Lib.hid hw3
                clear hw3
                refine wpList_nil ?_
                simp only [Act.put, List.setIfInBounds_toArray, List.set_cons_zero, List.set_cons_succ]
                clear k0 k1 k2 k3 k4 k5 k6 k7 k8 k9 k10
                have HW4 : Hid (wr.grownBy w3.drew none) := Lib.hid (((World.grownBy_alloc wr _ none).trans (grown_drewN' _ 1)).trans (HW3.out.trans (grown_drewN' w3 1)))
                have HTWd := Lib.hid (HTW.out.kept HW4.out)
                have HGGd : Hid (w1.grownBy w3.drew none) := Lib.hid (HGG.out.trans HW4.out)
                have HGwd : Hid (w.grownBy w3.drew none) := Lib.hid (HG1.out.trans HGGd.out)
                have HBDd : Hid (Bk w3.drew wr.heap.size 41 #[.int .i64 d1, .slice Ad n2 cd']) := Lib.hid (HBD.out.grown (HW3.out.trans (grown_drewN' w3 1)) (by simp))
                have hq0 := HBDd.out.cell 0
                have hq1 := HBDd.out.cell 1
                simp at hq0 hq1
                have HNE6 : Hid (some wr.heap.size ≠ u6.ownBlock) := Lib.hid (fun e => by have := (HTW.out.fst.lt _ e.symm).2; omega)
                have HNE7 : Hid (some wr.heap.size ≠ u7.ownBlock) := Lib.hid (fun e => by have := (HTW.out.snd.lt _ e.symm).2; omega)
                have HSZ : Hid (∀ w', w3.drew.grownBy w' none → w1.heap.size ≤ w'.heap.size) := Lib.hid (fun w' h => (HGGd.out.trans h).size)
                have HREP7 : Hid (∀ (w' : World) (v6 : Value), w1.grownBy w' none → (encS (encS encU)).rep (fun g => (g < w1.heap.size ∨ some g ≠ v6.ownBlock) ∧ some g ≠ u7.ownBlock) w' [.slice Ad n2 cd'] d2') := Lib.hid (fun w' v6 h => by
                  have hb := HSD.out.bounded
                  have h1 := hb.kept (HG1.out.trans h)
                  exact ⟨_, rfl, h1.more fun g _ hx => ⟨.inl (Nat.lt_of_lt_of_le hx.2 HG1.out.size), fun e => by have h7 := (HTW.out.snd.lt g e.symm).1; have h8 := hx.2; have h9 := HG1.out.size; omega⟩⟩)
                have GA : Hid (w3.drew.grownBy (w3.drew.alloc (.cells #[.int .i64 d1] 3)) none) := Lib.hid (World.grownBy_alloc _ _ none)
                have GB : Hid (w3.drew.grownBy ((w3.drew.alloc (.cells #[.int .i64 d1] 3)).alloc (.cells #[.slice Ad n2 cd'] 34)) none) := Lib.hid grown_two
                have GC : Hid (w3.drew.grownBy ((w3.drew.alloc (.cells #[.slice Ad n2 cd'] 34)).alloc (.cells #[.int .i64 d1] 3)) none) := Lib.hid grown_two
                have B6A : Hid (∀ j v, [Value.int .i64 d1][j]? = some v → World.cell? (w3.drew.alloc (.cells #[.int .i64 d1] 3)) ⟨w3.heap.size, j, none⟩ = some v) := Lib.hid (Bk.one (t := 3) (Bk.new w3.drew _ _))
                have B6B : Hid (∀ j v, [Value.int .i64 d1][j]? = some v → World.cell? ((w3.drew.alloc (.cells #[.int .i64 d1] 3)).alloc (.cells #[.slice Ad n2 cd'] 34)) ⟨w3.heap.size, j, none⟩ = some v) := Lib.hid (Bk.one (t := 3) ((Bk.new w3.drew _ _).alloc _))
                have B6C : Hid (∀ j v, [Value.int .i64 d1][j]? = some v → World.cell? ((w3.drew.alloc (.cells #[.slice Ad n2 cd'] 34)).alloc (.cells #[.int .i64 d1] 3)) ⟨w3.heap.size + 1, j, none⟩ = some v) := Lib.hid (by
                  have h := Bk.new (w3.drew.alloc (.cells #[.slice Ad n2 cd'] 34)) 3 #[.int .i64 d1]
                  rw [World.size_alloc] at h
                  exact Bk.one h)
                have B7B : Hid (Bk ((w3.drew.alloc (.cells #[.int .i64 d1] 3)).alloc (.cells #[.slice Ad n2 cd'] 34)) (w3.heap.size + 1) 34 #[.slice Ad n2 cd']) := Lib.hid (by
                  have h := Bk.new (w3.drew.alloc (.cells #[.int .i64 d1] 3)) 34 #[.slice Ad n2 cd']
                  rw [World.size_alloc] at h
                  exact h)
                have B7C : Hid (Bk ((w3.drew.alloc (.cells #[.slice Ad n2 cd'] 34)).alloc (.cells #[.int .i64 d1] 3)) w3.heap.size 34 #[.slice Ad n2 cd']) := Lib.hid ((Bk.new w3.drew _ _).alloc _)
                have HNB : Hid (some (w3.heap.size + 1) ≠ u6.ownBlock ∧ some w3.heap.size ≠ u6.ownBlock) := Lib.hid ⟨fun e => by have h1 := (HTWd.out.fst.lt _ e.symm).2; change _ < w3.heap.size at h1; omega, fun e => by have h1 := (HTWd.out.fst.lt _ e.symm).2; change _ < w3.heap.size at h1; omega⟩
                go_wp2_with fail
                go_region_held3 (fun w' => w'.cell? ⟨wr.heap.size, 0, none⟩ = some (.int .i64 d1) ∧ w'.cell? ⟨wr.heap.size, 1, none⟩ = some (.slice Ad n2 cd')) (first | (exact ⟨by assumption, by assumption⟩) | go_keep)
                  (first
                    | (refine step_pushAt rfl (.tmp 51) (.tmp 54) rfl (E := encI) (y := d1) el_int (HTWd.out.kept GA.out).fst rfl rfl ⟨rfl, HI0.out⟩ B6A.out HLB6.out (HSZ.out _ GA.out) ((HTWd.out.kept GA.out).lt7 (HSZ.out _ GA.out)) ?_; intro v3 w4 ha hgr hm; have HT4 := Lib.hid ((HTWd.out.kept GA.out).one ha hgr hm); have HG4 := Lib.hid (grown_up (HGGd.out.trans GA.out) hgr (fun g he => ((HTWd.out.kept GA.out).fst.lt g he).1)); have hB4 := (HBDd.out.grown GA.out (by simp)).grown hgr HNE6.out; have hq0 := hB4.cell 0; have hq1 := hB4.cell 1; simp at hq0 hq1; have HB4 := Lib.hid hB4; clear ha hgr hm hB4)
                    | (refine step_pushAt rfl (.tmp 51) (.tmp 54) rfl (E := encI) (y := d1) el_int (HTWd.out.kept GB.out).fst rfl rfl ⟨rfl, HI0.out⟩ B6B.out HLB6.out (HSZ.out _ GB.out) ((HTWd.out.kept GB.out).lt7 (HSZ.out _ GB.out)) ?_; intro v3 w4 ha hgr hm; have HT4 := Lib.hid ((HTWd.out.kept GB.out).one ha hgr hm); have HG4 := Lib.hid (grown_up (HGGd.out.trans GB.out) hgr (fun g he => ((HTWd.out.kept GB.out).fst.lt g he).1)); have hB4 := (HBDd.out.grown GB.out (by simp)).grown hgr HNE6.out; have hq0 := hB4.cell 0; have hq1 := hB4.cell 1; simp at hq0 hq1; have HB4 := Lib.hid hB4; have HC4 := Lib.hid (Bk.one (B7B.out.grown hgr HNB.out.1)); clear ha hgr hm hB4)
                    | (refine step_pushAt rfl (.tmp 51) (.tmp 54) rfl (E := encI) (y := d1) el_int (HTWd.out.kept GC.out).fst rfl rfl ⟨rfl, HI0.out⟩ B6C.out HLB6.out (HSZ.out _ GC.out) ((HTWd.out.kept GC.out).lt7 (HSZ.out _ GC.out)) ?_; intro v3 w4 ha hgr hm; have HT4 := Lib.hid ((HTWd.out.kept GC.out).one ha hgr hm); have HG4 := Lib.hid (grown_up (HGGd.out.trans GC.out) hgr (fun g he => ((HTWd.out.kept GC.out).fst.lt g he).1)); have hB4 := (HBDd.out.grown GC.out (by simp)).grown hgr HNE6.out; have hq0 := hB4.cell 0; have hq1 := hB4.cell 1; simp at hq0 hq1; have HB4 := Lib.hid hB4; have HC4 := Lib.hid (Bk.one (B7C.out.grown hgr HNB.out.2)); clear ha hgr hm hB4)
                    | (refine step_pushAt rfl (.tmp 56) (.tmp 59) rfl (E := encS (encS encU)) (y := d2') el_rows (HT4.out.kept (World.grownBy_alloc w4 (.cells #[.slice Ad n2 cd'] 34) none)).snd rfl rfl (HREP7.out _ _ (HG4.out.trans (World.grownBy_alloc w4 (.cells #[.slice Ad n2 cd'] 34) none))) (Bk.one (Bk.new w4 34 _)) HLB7.out (HG4.out.trans (World.grownBy_alloc w4 (.cells #[.slice Ad n2 cd'] 34) none)).size (HT4.out.kept (World.grownBy_alloc w4 (.cells #[.slice Ad n2 cd'] 34) none)).lt6 ?_; intro v5 w5 ha hgr hm; have HT5 := Lib.hid ((HT4.out.kept (World.grownBy_alloc w4 (.cells #[.slice Ad n2 cd'] 34) none)).two ha hgr hm); have HG5 := Lib.hid (grown_up (HG4.out.trans (World.grownBy_alloc w4 (.cells #[.slice Ad n2 cd'] 34) none)) hgr (fun g he => ((HT4.out.kept (World.grownBy_alloc w4 (.cells #[.slice Ad n2 cd'] 34) none)).snd.lt g he).1)); have hB5 := (HB4.out.alloc _).grown hgr HNE7.out; have hr0 := hB5.cell 0; have hr1 := hB5.cell 1; simp at hr0 hr1; clear ha hgr hm hB5)
                    | (refine step_pushAt rfl (.tmp 56) (.tmp 59) rfl (E := encS (encS encU)) (y := d2') el_rows HT4.out.snd rfl rfl (HREP7.out _ _ HG4.out) HC4.out HLB7.out HG4.out.size HT4.out.lt6 ?_; intro v5 w5 ha hgr hm; have HT5 := Lib.hid (HT4.out.two ha hgr hm); have HG5 := Lib.hid (grown_up HG4.out hgr (fun g he => (HT4.out.snd.lt g he).1)); have hB5 := HB4.out.grown hgr HNE7.out; have hr0 := hB5.cell 0; have hr1 := hB5.cell 1; simp at hr0 hr1; clear ha hgr hm hB5)
                    )
                all_goals
                  have HFIN : Hid (Two w1.heap.size w5 v3 v5 ((deals.take (j + 1)).map (·.1)) ((deals.take (j + 1)).map (·.2)) ∧ w1.grownBy w5 none ∧ OkTo p deals (j + 1)) := Lib.hid ⟨by rw [HSN6.out, HSN7.out]; exact HT5.out, HG5.out, HBF.out⟩
                  go_wp2_with fail
                  go_roundg m
                  case measure => omega
                  case rel => exact ⟨j + 1, by omega, by go_num, HFIN⟩
            · have hq : ((n2 : Int) != (N : Int)) = true := by simpa using hnN
              have h1 : comsE p deals = 1 := HMEM.out (by rw [HXJ.out]; simp [hnN])
              clear hnN
              have HL0 : Hid (comsE p deals = 1 ∧ comsL p deals = []) := Lib.hid ⟨h1, HLE.out (by rw [h1]; decide)⟩
              clear h1
              go_upto_region 9 with (fail)
              have HBD : Hid (Bk (wr.alloc (.cells #[.int .i64 d1, .slice Ad n2 cd'] 41)).drew wr.heap.size 41 #[.int .i64 d1, .slice Ad n2 cd']) := Lib.hid ((Bk.new wr _ _).grown (grown_drewN' _ 1) (by simp))
              have HBd : Hid (Bk (wr.alloc (.cells #[.int .i64 d1, .slice Ad n2 cd'] 41)).drew w.heap.size 24 p.cells) := Lib.hid ((HBR.out.alloc _).grown (grown_drewN' _ 1) (by simp))
              have HGd : Hid (w.grownBy (wr.alloc (.cells #[.int .i64 d1, .slice Ad n2 cd'] 41)).drew none) := Lib.hid ((HGr.out.trans (World.grownBy_alloc wr _ none)).trans (grown_drewN' _ 1))
              refine wp_region_mono 12 (by kernel_rfl) (by kernel_rfl) ?_
              -- op 0 (slot 39): fieldAddr
              refine MonoR.step (Pv.eq (.pointer (some ⟨wr.heap.size, 1, none⟩))) [] (by kernel_rfl) (fun w' hw' => ?_) ?_
              · refine ask_do rfl fun K hK => ?_
                go_simp
                exact hK _ _ rfl rfl (World.grownBy.refl _ none)
              -- op 1 (slot 40): load
              refine MonoR.step (Pv.eq (.slice Ad n2 cd')) [(0, 39)] (by kernel_rfl) (fun w' hw' => ?_) ?_
              · rintro _ rfl
                refine ask_do rfl fun K hK => ?_
                have hd0 := (HBD.out.grown hw' (by simp)).cell 0
                have hd1 := (HBD.out.grown hw' (by simp)).cell 1
                simp at hd0 hd1
                have hp := (HBd.out.grown hw' (by simp)).prule
                go_simp
                exact hK _ _ rfl rfl (World.grownBy.refl _ none)
              -- op 2 (slot 41): call
              refine MonoR.step (Pv.eq (.int .i64 (n2 : Int))) [(1, 40)] (by kernel_rfl) (fun w' hw' => ?_) ?_
              · rintro _ rfl
                refine ask_do rfl fun K hK => ?_
                go_simp
                exact hK _ _ rfl rfl (World.grownBy.refl _ none)
              -- op 3 (slot 42): load
              refine MonoR.step (Pv.eq (p.v)) [] (by kernel_rfl) (fun w' hw' => ?_) ?_
              · refine ask_do rfl fun K hK => ?_
                have hd0 := (HBD.out.grown hw' (by simp)).cell 0
                have hd1 := (HBD.out.grown hw' (by simp)).cell 1
                simp at hd0 hd1
                have hp := (HBd.out.grown hw' (by simp)).prule
                go_simp
                exact hK _ _ rfl rfl (World.grownBy.refl _ none)
              -- op 4 (slot 43): call
              refine MonoR.step (Pv.eq (.int .i64 (N : Int))) [(3, 42)] (by kernel_rfl) (fun w' hw' => ?_) ?_
              · rintro _ rfl
                refine ask_do rfl fun K hK => ?_
                go_simp
                refine (HSE.out _).mono ?_
                rintro e w3 ⟨rfl, hg⟩
                exact hK _ _ rfl rfl hg
              -- op 5 (slot 44): binOp
              refine MonoR.step (Pv.eq (.bool true)) [(2, 41), (4, 43)] (by kernel_rfl) (fun w' hw' => ?_) ?_
              · rintro _ rfl
                rintro _ rfl
                refine ask_do rfl fun K hK => ?_
                go_simp
                exact hK _ _ rfl rfl (World.grownBy.refl _ none)
              -- op 6 (slot 45): move
              refine MonoR.step (Pv.eq (.bool true)) [(5, 44)] (by kernel_rfl) (fun w' hw' => ?_) ?_
              · rintro _ rfl
                refine ask_do rfl fun K hK => ?_
                go_simp
                exact hK _ _ rfl rfl (World.grownBy.refl _ none)
              -- op 7 (slot 46): fieldAddr [(6, 'false')]
              refine MonoR.step (Pv.eq (undef)) [(6, 45)] (by kernel_rfl) (fun w' hw' => ?_) ?_
              · rintro _ rfl
                exact ask_skip rfl rfl rfl
              -- op 8 (slot 47): load [(6, 'false')]
              refine MonoR.step (Pv.eq (undef)) [(6, 45), (7, 46)] (by kernel_rfl) (fun w' hw' => ?_) ?_
              · rintro _ rfl
                rintro _ rfl
                exact ask_skip rfl rfl rfl
              -- op 9 (slot 48): move [(6, 'false')]
              refine MonoR.step (Pv.eq (undef)) [(6, 45)] (by kernel_rfl) (fun w' hw' => ?_) ?_
              · rintro _ rfl
                exact ask_skip rfl rfl rfl
              -- op 10 (slot 49): call [(6, 'false')]
              refine MonoR.step (Pv.eq (undef)) [(6, 45), (8, 47), (9, 48)] (by kernel_rfl) (fun w' hw' => ?_) ?_
              · rintro _ rfl
                rintro _ rfl
                rintro _ rfl
                exact ask_skip rfl rfl rfl
              -- op 11 (slot 50): pick
              refine MonoR.step (Pv.eq (.bool true)) [(6, 45), (10, 49)] (by kernel_rfl) (fun w' hw' => ?_) ?_
              · rintro _ rfl
                rintro _ rfl
                refine ask_do rfl fun K hK => ?_
                go_simp
                exact hK _ _ rfl rfl (World.grownBy.refl _ none)
              
              intro w3 hw3
              intro y0 k0 y1 k1 y2 k2 y3 k3 y4 k4 y5 k5 y6 k6 y7 k7 y8 k8 y9 k9 y10 k10
              rintro _ rfl
              have HW3 := Lib.hid hw3
              clear hw3
              refine wpList_nil ?_
              simp only [Act.put, List.setIfInBounds_toArray, List.set_cons_zero, List.set_cons_succ]
              clear k0 k1 k2 k3 k4 k5 k6 k7 k8 k9 k10
              have HG4 : Hid (w.grownBy w3 none) := Lib.hid (HGd.out.trans HW3.out)
              go_wp2_with fail
              go_ret2
              exact gives_nil HL0.out.1 HL0.out.2 HG4.out
      · have h1 : comsE p deals = 1 := by unfold comsE; rw [if_neg]; simp; omega
        have HL0 : Hid (comsL p deals = []) := Lib.hid (by simp [comsL, h1])
        have d2 : decide (p.T > 2) = true := by simp; omega
        rw [h1]
        clear h1 b1 HD ht ht2
        generalize deals.length = n at *
        go_enter Tryd.func13, Tryd.ntmps13
        go_wp2_with fail
        refine (HS1.out _).mono ?_
        rintro e w1 ⟨rfl, hg1⟩
        have HG1 := Lib.hid (HG0.out.trans hg1)
        have hp1 := (HB.out.grown hg1 (by simp)).prule
        clear hg1
        go_wp2_with fail
        go_ret2
        exact ⟨_, rfl, by rw [HL0.out]; exact Sl.nil _ _ _, HG1.out⟩
end Go.Proofs.YtmjdpmfcbeaecaaDoor

namespace Go.Proofs.YtmjdpmfcbeaecaaDoor
open Go Go.RowKit

/-- A tape in block g: what its k-th draw below q is, and how it lies when k were made; bl: the blocks that it has. -/
structure Tp (g : Nat) (q : Int) (dr : Nat → Int) (TI : Nat → World → Prop) (bl : Nat → Prop) (most : Nat) : Prop where
  own : bl g
  old : ∀ {k w b}, TI k w → bl b → b < w.heap.size
  val : ∀ k, U64 (dr k)
  keep : ∀ {k w w'} {row : Option Nat}, TI k w → w.grownBy w' row → (∀ b, row = some b → ¬ bl b) → TI k w'
  next : ∀ {k w}, k < most → TI k w → Calls Tryd.prog 77 #[.pointer (some ⟨g, 0, none⟩), .int .u64 q] w fun e w' => e = .returned (.int .u64 (dr k)) ∧ TI (k + 1) w' ∧ w.grownBy w' (some g)
def seedS (q s : Int) : Nat → Int
  | 0 => s
  | k + 1 => drawS q (seedS q s k)
theorem seedS_U64 (q s : Int) (hs : U64 s) : ∀ k, U64 (seedS q s k)
  | 0 => hs
  | k + 1 => drawS_U64 q _ (seedS_U64 q s hs k)
/-- A tape of a seed. -/
theorem tp_own (g : Nat) (q s : Int) (hs : U64 s) (hq : U64 q) : Tp g q (fun k => drawX q (seedS q s k)) (fun k w => Bk w g 117 #[.int .u64 (seedS q s k), .slice none 0 0, .int .i64 k]) (fun b => b = g) 1000000 where
  own := rfl
  old := fun h e => by subst e; exact h.lt
  val := fun k => drawX_U64 q _ hq
  keep := fun h hg hr => h.grown hg (fun e => hr g e.symm rfl)
  next := fun {k w} hk h => (next_own g none 0 (seedS q s k) k q w (seedS_U64 q s hs k) hq (by omega) (by omega) h).mono fun _ _ ⟨h1, h2, h3⟩ => ⟨h1, by simpa [seedS] using h2, h3⟩
set_option maxHeartbeats 400000 in
theorem new20_any (s : Int) (w : World) :
    Calls Tryd.prog 25 #[.int .u64 s] w fun e w' => e = .returned (.pointer (some ⟨w.heap.size, 0, none⟩)) ∧ w' = w.alloc (.cells #[.int .u64 s, .slice none 0 0, .int .i64 0] 117) := by
  go_enter Tryd.func25, Tryd.ntmps25
  go_wp2_with fail
  go_ret
  exact ⟨rfl, rfl⟩
theorem dsecrets_any (p : Par) (w : World) :
    Calls Tryd.prog 76 #[p.v] w fun e w' => e = .returned (.int .i64 (secretsI p)) ∧ w.grownBy w' none := by
  go_enter Tryd.func76, Tryd.ntmps76
  go_wp2
  go_ret
  exact ⟨rfl, World.grownBy_alloc w _ none⟩
theorem Acc.made1 (w : World) (e : TypeId) {B : Nat} (hB : B ≤ w.heap.size) (X : Nat → Prop) (hX : X w.heap.size) (z : Int) (hz : U64 z) : Acc encU B e X (w.alloc (.cells #[.int .u64 z] e)) (.slice (some ⟨w.heap.size, 0, none⟩) 1 1) [z] :=
  ⟨fun g hg => by simp [Value.ownBlock] at hg; subst hg; exact hX, [[.int .u64 z]], rfl, fun i hi hi' => by
    obtain rfl : i = 0 := by simp at hi; omega
    exact ⟨rfl, hz⟩, ⟨by simp [encU], .inr ⟨w.heap.size, 1, #[.int .u64 z], rfl, hB, heap_alloc_new w _, Nat.le_refl _, by decide, rfl, by simp [encU]⟩⟩⟩
/-- A number, modulo q, with n draws behind it, the first of them the k-th. -/
def behI (x q : Int) (dr : Nat → Int) (n k : Nat) : List Int := x % q :: (List.range n).map fun j => dr (k + j)
theorem behI_succ (x q : Int) (dr : Nat → Int) (n k : Nat) : behI x q dr (n + 1) k = behI x q dr n k ++ [dr (k + n)] := by
  simp [behI, List.range_succ]
theorem behI_len (x q : Int) (dr : Nat → Int) (n k : Nat) : (behI x q dr n k).length = n + 1 := by simp [behI]
set_option maxHeartbeats 1000000 in
theorem behind_any {g : Nat} {q : Int} {dr : Nat → Int} {TI : Nat → World → Prop} {bl : Nat → Prop} {most : Nat} (hT : Tp g q dr TI bl most) (x : Int) (n k : Nat) (w : World) (hx : U64 x) (hq : U64 q) (hq0 : 0 < q) (hn : n ≤ 1000) (hk : k + n ≤ most) (hI : TI k w) :
    Calls Tryd.prog 78 #[.int .u64 x, .int .i64 n, .int .u64 q, .func (.func 77) #[.pointer (some ⟨g, 0, none⟩)] #[]] w fun e w' => ∃ v, e = .returned v ∧ Sl encU (fun b => w.heap.size ≤ b) w' v (behI x q dr n k) ∧ TI (k + n) w' ∧ w.grownBy w' (some g) := by
  have HT := Lib.hid hT
  obtain ⟨q0, q1⟩ := hq
  obtain ⟨x0, x1⟩ := hx
  have hqz : (q == 0) = false := by simp; omega
  have hqz2 : ¬ q = 0 := by omega
  have hmod : Int.tmod x q = x % q := Int.tmod_eq_emod_of_nonneg x0
  obtain ⟨z, hz⟩ : ∃ y, y = x % q := ⟨_, rfl⟩
  have HZ : Hid (U64 z) := Lib.hid (by rw [hz]; exact ⟨Int.emod_nonneg _ (by omega), Int.lt_trans (Int.emod_lt_of_pos _ hq0) (by omega)⟩)
  have hzw : IntKind.u64.wrap z = z := IntWalk.u64_in _ (by have := HZ.out; obtain ⟨a, b⟩ := this; omega)
  have HGW : Hid (g < w.heap.size) := Lib.hid (hT.old hI hT.own)
  obtain ⟨w1, hw1⟩ : ∃ y, y = w.alloc (Obj.cells #[.int .u64 z] 22) := ⟨_, rfl⟩
  have HG1 : Hid (w.grownBy w1 none) := Lib.hid (by rw [hw1]; exact World.grownBy_alloc w _ none)
  have HA1 : Hid (Acc encU w.heap.size 22 (fun b => w.heap.size ≤ b) w1 (.slice (some ⟨w.heap.size, 0, none⟩) 1 1) (behI x q dr 0 k)) := Lib.hid (by
    rw [hw1, show behI x q dr 0 k = [z] by simp [behI, hz]]
    exact Acc.made1 w _ (Nat.le_refl _) _ (Nat.le_refl _) z HZ.out)
  have HI1 : Hid (TI k w1) := Lib.hid (hT.keep hI HG1.out (by simp))
  have HOB : Hid (∀ b, bl b → b < w.heap.size) := Lib.hid (fun b hb => hT.old hI hb)
  have e1 : x % q = z := hz.symm
  rw [e1] at hmod
  clear hT hI hz
  go_enter Tryd.func78, Tryd.ntmps78
  go_wp2_with fail
  rw [← hw1]
  clear hw1
  go_loopg [9, 15] n (fun gk s9 s15 wx => ∃ j : Nat, j + gk = n ∧ s15 = .int .i64 j ∧ Hid (Acc encU w.heap.size 22 (fun b => w.heap.size ≤ b) wx s9 (behI x q dr j k) ∧ TI (k + j) wx ∧ w.grownBy wx (some g)))
  case atStart => exact ⟨0, by omega, rfl, Lib.hid ⟨HA1.out, HI1.out, HG1.out.but _⟩⟩
  case round =>
    obtain ⟨j, hj, rfl, HX⟩ := hrel
    cases gk with
    | zero =>
      obtain rfl : j = n := by omega
      have HR : Hid (Sl encU (fun b => w.heap.size ≤ b) wr u9 (behI x q dr j k) ∧ TI (k + j) wr ∧ w.grownBy wr (some g)) := Lib.hid ⟨HX.out.1.sl, HX.out.2⟩
      have hno : ¬ ((j : Int) < (j : Int)) := by omega
      clear HX
      go_wp2
      go_ret
      exact ⟨_, rfl, HR.out⟩
    | succ m =>
      have hjn : (j : Int) < (n : Int) := by omega
      have HC := Lib.hid (HT.out.next (by omega) HX.out.2.1)
      have HA := Lib.hid HX.out.1
      have HG := Lib.hid HX.out.2.2
      have HV := Lib.hid (HT.out.val (k + j))
      have HSN := Lib.hid (behI_succ x q dr j k)
      have HLB : Hid (((behI x q dr j k).length + 1) * 8 ≤ 140737488355328) := Lib.hid (by rw [behI_len]; omega)
      obtain ⟨y, hy⟩ : ∃ y, y = dr (k + j) := ⟨_, rfl⟩
      rw [← hy] at HC HV HSN
      clear HX hy
      go_wp2_with fail
      refine HC.out.mono ?_
      rintro e w2 ⟨rfl, hi2, hg2⟩
      have HA2 := Lib.hid (HA.out.keep hg2 (fun b hb e => by injection e with e; have := HGW.out; omega))
      have HI2 := Lib.hid hi2
      have HG2 : Hid (w.grownBy w2 (some g)) := Lib.hid (HG.out.trans hg2)
      have HSZ : Hid (w.heap.size ≤ w2.heap.size) := Lib.hid HG2.out.size
      clear hi2 hg2
      go_wp2_with (at_builtin; refine wpList_push rfl (.tmp 17) (.tmp 21) rfl (E := encU) (y := y) el_u64 HA2.out rfl rfl ⟨rfl, HV.out⟩ HLB.out HSZ.out (fun _ h => Nat.le_trans HSZ.out h) ?_)
      intro v9 w3 ha hg hm
      have HFIN : Hid (Acc encU w.heap.size 22 (fun b => w.heap.size ≤ b) w3 v9 (behI x q dr (j + 1) k) ∧ TI (k + (j + 1)) w3 ∧ w.grownBy w3 (some g)) := Lib.hid ⟨by rw [HSN.out]; exact ha, HT.out.keep HI2.out hg (fun b e hb => by have := (HA2.out.lt b e).1; have := HOB.out b hb; omega), HG2.out.andThen hg (fun b e => .inl (HA2.out.lt b e).1)⟩
      clear ha hg hm
      go_wp2_with fail
      go_roundg m
      case measure => omega
      case rel => exact ⟨j + 1, by omega, by go_num, HFIN⟩
end Go.Proofs.YtmjdpmfcbeaecaaDoor

namespace Go.Proofs.YtmjdpmfcbeaecaaDoor
open Go Go.RowKit Go.Shelf

attribute [local go_sem] Oper.semAt_some
theorem Sl.cap {α : Type} {E : Enc α} {X : Nat → Prop} {w : World} {A : Option Addr} {n c : Nat} {xs : List α} (h : Sl E X w (.slice A n c) xs) (c' : Nat) (h1 : n ≤ c') (h2 : c' ≤ 9223372036854775807) : Sl E X w (.slice A n c') xs := by
  obtain ⟨A', c0, e, _, _, h3⟩ := h
  injection e with e1 e2 _
  subst e1 e2
  exact ⟨_, c', rfl, h1, h2, h3⟩
set_option maxHeartbeats 400000 in
theorem chunk_any (A : Option Addr) (m c n : Nat) (hn : 1 ≤ n) (w : World) :
    Calls Tryd.prog 83 #[.slice A m c, .int .i64 n] w fun e w' => e = .returned (.func (.func 109) #[] #[.pointer (some ⟨w.heap.size, 0, none⟩), .pointer (some ⟨w.heap.size + 1, 0, none⟩)]) ∧ w' = (w.alloc (.cells #[.slice A m c] 37)).alloc (.cells #[.int .i64 n] 3) := by
  have h1 : decide ((n : Int) < 1) = false := by simp; omega
  clear hn
  go_enter Tryd.func83, Tryd.ntmps83
  go_wp2
  go_ret
  exact ⟨rfl, rfl⟩
/-- A piece as it is handed over. -/
abbrev CK (X : Nat → Prop) (w₀ : World) (l : List Int) (n : Nat) := { x : (Option Addr × Nat) × List Int // Sl encU X w₀ (.slice x.1.1 n x.1.2) x.2 ∧ x.2.length = n ∧ ∀ y ∈ x.2, y ∈ l }
set_option maxRecDepth 100000 in
set_option maxHeartbeats 2000000 in
theorem chunk_in (n : Nat) (hn : 1 ≤ n) (lo Ba Bb : Nat) (va : Value) (l : List Int) (m k : Nat) (hm : 1 ≤ m) (hlen : l.length = k * m) (X : Nat → Prop) (w₀ : World) (J Jx : List (CK X w₀ l m) → World → Prop)
    (hY : ∀ pre x W, J pre W → pre.length < k → YieldAt Fence.wide (n - 1) Tryd.prog lo #[.slice x.1.1.1 m x.1.1.2] W fun e W' =>
      (e = .returned (.bool true) ∧ J (pre ++ [x]) W' ∧ KpAB w₀.heap.size Ba Bb W W') ∨ (e = .returned (.bool false) ∧ Jx (pre ++ [x]) W'))
    (W : World) (hJ : AbidesFrom W.heap.size J) (hW0 : Below w₀.heap.size w₀ W) (hBa : Boxed W Ba 37 va) (hBb : Boxed W Bb 3 (.int .i64 m)) (hA : Sl encU X w₀ va l) (h0 : J [] W) :
    CallsIn Fence.wide n Tryd.prog 109 #[.func (.yield lo) #[] #[], .pointer (some ⟨Ba, 0, none⟩), .pointer (some ⟨Bb, 0, none⟩)] W fun e W' => (∃ v, e = .returned v) ∧
      ((∃ ys, ys.map (fun y => y.1.2) = chk m l k ∧ J ys W') ∨ (∃ pre, True ∧ Jx pre W')) := by
  refine callsIn_of_wp Tryd.func109 rfl trivial ?_ rfl
  simp only [Tryd.ntmps109, List.size_toArray, List.length_cons, List.length_nil, Nat.reduceAdd, Nat.reduceSub, Array.replicate_succ, Array.replicate_zero, List.push_toArray, List.append_toArray, List.nil_append, List.cons_append]
  obtain ⟨A1, c1, rfl, hc1, hc2⟩ := hA.form
  have HA := Lib.hid hA
  have HBA := Lib.hid hBa
  have HBB := Lib.hid hBb
  have HH0 := Lib.hid h0
  have HLEN := Lib.hid hlen
  clear hA hBa hBb h0 hlen
  obtain ⟨L, hL⟩ : ∃ L, L = l.length := ⟨_, rfl⟩
  have HL := Lib.hid hL
  rw [← hL] at HBA hc1
  clear hL
  gi_wp2
  gi_loopw [4] (fun s4 wr => ∃ (r i0 : Nat) (pre : List (CK X w₀ l m)), r ≤ k ∧ i0 ≤ L ∧ s4 = .int .i64 i0 ∧ Hid (i0 = r * m ∧ pre.map (fun y => y.1.2) = chk m l r ∧ J pre wr ∧ KpAB w₀.heap.size Ba Bb W wr)) (fun s4 _ => L - (intOf s4).toNat)
  case atStart => exact ⟨0, 0, [], by omega, by omega, rfl, Lib.hid ⟨by omega, rfl, HH0.out, KpAB.refl _ _ _ _⟩⟩
  case round =>
    obtain ⟨r, i0, pre, hr, hi0, rfl, HX⟩ := hrel
    have hca : wr.cell? ⟨Ba, 0, none⟩ = some (.slice A1 L c1) := (World.cell?_of_block (w := W) HX.out.2.2.2.2.1).trans HBA.out.cell
    have hcb : wr.cell? ⟨Bb, 0, none⟩ = some (.int .i64 m) := (World.cell?_of_block (w := W) HX.out.2.2.2.2.2).trans HBB.out.cell
    have hBaLt : w₀.heap.size ≤ wr.heap.size ∧ Ba < wr.heap.size ∧ Bb < wr.heap.size := ⟨(hW0.trans HX.out.2.2.2.1).size, Nat.lt_of_lt_of_le HBA.out.lt HX.out.2.2.2.1.size, Nat.lt_of_lt_of_le HBB.out.lt HX.out.2.2.2.1.size⟩
    by_cases hlt : r < k
    · have hmm : r * m + m ≤ k * m := by
        have h1 := Nat.mul_le_mul_right m (show r + 1 ≤ k from hlt)
        rw [Nat.add_mul] at h1
        omega
      have him : i0 + m ≤ L := by rw [HX.out.1, HL.out, HLEN.out]; exact hmm
      have hil : i0 < L := by omega
      have hI : (i0 : Int) < (L : Int) := by omega
      have hIM : (i0 : Int) + (m : Int) ≤ (L : Int) := by omega
      have hIC : (i0 : Int) + (m : Int) ≤ (c1 : Int) := by omega
      have hIc : (i0 : Int) < (c1 : Int) := by omega
      have hm0 : (0 : Int) < (m : Int) := by omega
      have hcne : ¬ c1 = i0 := by omega
      have hmin : min (m : Int) ((L : Int) - (i0 : Int)) = (m : Int) := by omega
      have hnat : ((L - i0 : Nat) : Int) = (L : Int) - (i0 : Int) := by omega
      have hmin2 : min (m : Int) ((L - i0 : Nat) : Int) = (m : Int) := by omega
      obtain ⟨g, o, rfl, _, _⟩ := HA.out.addr (by rw [← HL.out]; omega)
      have hpl : pre.length = r := by have := congrArg List.length HX.out.2.1; simpa [chk_length] using this
      have hJk : J pre wr.drew := hJ _ wr wr.drew none HX.out.2.2.1 (grownBy_drewN (World.grownBy.refl wr none) 1) (by simp)
      have hSP : Sl encU X w₀ (.slice (some ⟨g, o + i0, none⟩) m m) ((l.drop (r * m)).take m) := by
        have h1 := HA.out.drop i0 (by rw [← HL.out]; omega)
        rw [show encU.size = 1 from rfl, Nat.mul_one, HX.out.1] at h1
        have h2 := h1.take m (by rw [List.length_drop, ← HL.out]; have := HX.out.1; omega)
        rw [HX.out.1]
        exact h2.cap m (Nat.le_refl _) (by omega)
      have hpm : ((l.drop (r * m)).take m).length = m := by rw [List.length_take, List.length_drop, ← HL.out]; have := HX.out.1; omega
      have HCA : Hid (∀ w', wr.drew.grownBy w' none → w'.cell? ⟨Ba, 0, none⟩ = some (.slice (some ⟨g, o, none⟩) L c1)) := Lib.hid (fun w' h => cell_kept hca ((grown_drewN' wr 1).trans h) (by simp))
      have HCB : Hid (∀ w', wr.drew.grownBy w' none → w'.cell? ⟨Bb, 0, none⟩ = some (.int .i64 m)) := Lib.hid (fun w' h => cell_kept hcb ((grown_drewN' wr 1).trans h) (by simp))
      have HI1 : Hid (i0 + m = (r + 1) * m) := Lib.hid (by rw [HX.out.1, Nat.add_mul, Nat.one_mul])
      have HPX := Lib.hid HX.out.2.1
      have HKW := Lib.hid HX.out.2.2.2
      have HJK := Lib.hid hJk
      have HLA := Lib.hid hBaLt
      clear HX hJk hmm
      gi_wp2
      refine wpIn_region_mono 6 (by kernel_rfl) (by kernel_rfl) (by kernel_rfl) ?_
      -- op 0 (slot 13): load
      refine MonoR.step (Pv.eq (.int .i64 (m : Int))) [] (by kernel_rfl) (fun w' hw' => ?_) ?_
      · refine ask_do rfl fun K hK => ?_
        have hd := HCA.out w' hw'
        have he := HCB.out w' hw'
        go_simp
        exact hK _ _ rfl rfl (World.grownBy.refl _ none)
      -- op 1 (slot 14): load
      refine MonoR.step (Pv.eq (.slice (some ⟨g, o, none⟩) L c1)) [] (by kernel_rfl) (fun w' hw' => ?_) ?_
      · refine ask_do rfl fun K hK => ?_
        have hd := HCA.out w' hw'
        have he := HCB.out w' hw'
        go_simp
        exact hK _ _ rfl rfl (World.grownBy.refl _ none)
      -- op 2 (slot 15): move
      refine MonoR.step (Pv.eq (.int .i64 (i0 : Int))) [] (by kernel_rfl) (fun w' hw' => ?_) ?_
      · refine ask_do rfl fun K hK => ?_
        go_simp
        exact hK _ _ rfl rfl (World.grownBy.refl _ none)
      -- op 3 (slot 16): slice
      refine MonoR.step (Pv.eq (.slice (some ⟨g, o + i0, none⟩) (L - i0) (c1 - i0))) [(1, 14), (2, 15)] (by kernel_rfl) (fun w' hw' => ?_) ?_
      · rintro _ rfl
        rintro _ rfl
        refine ask_do rfl fun K hK => ?_
        go_simp
        exact hK _ _ rfl rfl (World.grownBy.refl _ none)
      -- op 4 (slot 17): call
      refine MonoR.step (Pv.eq (.int .i64 ((L : Int) - (i0 : Int)))) [(3, 16)] (by kernel_rfl) (fun w' hw' => ?_) ?_
      · rintro _ rfl
        refine ask_do rfl fun K hK => ?_
        go_simp
        exact hK _ _ rfl rfl (World.grownBy.refl _ none)
      -- op 5 (slot 18): call
      refine MonoR.step (Pv.eq (.int .i64 (m : Int))) [(0, 13), (4, 17)] (by kernel_rfl) (fun w' hw' => ?_) ?_
      · rintro _ rfl
        rintro _ rfl
        refine ask_do rfl fun K hK => ?_
        go_simp
        exact hK _ _ rfl rfl (World.grownBy.refl _ none)
      
      intro w3 hw3
      intro y0 k0 y1 k1 y2 k2 y3 k3 y4 k4 y5 k5
      show wpListIn Fence.wide n Tryd.prog _ _ _ _ w3
      simp only [Act.put, List.setIfInBounds_toArray, List.set_cons_zero, List.set_cons_succ]
      have k5 : y5 = .int .i64 (m : Int) := k5
      subst k5
      have HW3 := Lib.hid hw3
      clear hw3 k0 k1 k2 k3 k4
      have hJ3 : J pre w3 := hJ _ wr.drew w3 none HJK.out HW3.out (by simp)
      have HK3 : Hid (KpAB w₀.heap.size Ba Bb wr w3) := Lib.hid (by
        have hg := (grown_drewN' wr 1).trans HW3.out
        exact ⟨(below_grown hg).mono HLA.out.1, hg.block _ HLA.out.2.1 (by simp), hg.block _ HLA.out.2.2 (by simp)⟩)
      have hcc := HCA.out w3 HW3.out
      obtain ⟨fn, tmps, assign, body, hy, hR⟩ := hY _ (⟨((some ⟨g, o + i0, none⟩, m), (l.drop (r * m)).take m), hSP, hpm, fun y hy => List.mem_of_mem_drop (List.mem_of_mem_take hy)⟩ : CK X w₀ l m) w3 hJ3 (by rw [hpl]; exact hlt)
      dsimp only at hy
      have HPN : Hid ((pre ++ [(⟨((some ⟨g, o + i0, none⟩, m), (l.drop (r * m)).take m), hSP, hpm, fun y hy => List.mem_of_mem_drop (List.mem_of_mem_take hy)⟩ : CK X w₀ l m)]).map (fun y => y.1.2) = chk m l (r + 1)) := Lib.hid (by rw [List.map_append, HPX.out, chk_succ]; rfl)
      have HR := Lib.hid (hR.mono (R' := fun e W' => ∃ bb : Bool, e = .returned (.bool bb) ∧ Hid ((bb = true ∧ J (pre ++ [(⟨((some ⟨g, o + i0, none⟩, m), (l.drop (r * m)).take m), hSP, hpm, fun y hy => List.mem_of_mem_drop (List.mem_of_mem_take hy)⟩ : CK X w₀ l m)]) W' ∧ KpAB w₀.heap.size Ba Bb w3 W') ∨ (bb = false ∧ Jx (pre ++ [(⟨((some ⟨g, o + i0, none⟩, m), (l.drop (r * m)).take m), hSP, hpm, fun y hy => List.mem_of_mem_drop (List.mem_of_mem_take hy)⟩ : CK X w₀ l m)]) W'))) (fun e W' h => by
        rcases h with ⟨h1, h2, h3⟩ | ⟨h1, h2⟩
        · exact ⟨true, h1, Lib.hid (.inl ⟨rfl, h2, h3⟩)⟩
        · exact ⟨false, h1, Lib.hid (.inr ⟨rfl, h2⟩)⟩))
      clear hR hJ3
      gi_wp2
      refine HR.out.mono ?_
      rintro e W' ⟨bb, rfl, hout⟩
      cases bb with
      | true =>
        rcases hout.out with ⟨_, hJ2, hK2⟩ | ⟨h, _⟩
        · have hcb2 : W'.cell? ⟨Bb, 0, none⟩ = some (.int .i64 m) := (World.cell?_of_block (w := w3) hK2.2.2).trans (HCB.out w3 HW3.out)
          gi_wp2
          exact ⟨⟨r + 1, i0 + m, _, by omega, by omega, by go_num, Lib.hid ⟨HI1.out, HPN.out, hJ2, HKW.out.trans (HK3.out.trans hK2)⟩⟩, by simp [intOf]; omega⟩
        · cases h
      | false =>
        rcases hout.out with ⟨h, _⟩ | ⟨_, hJx2⟩
        · cases h
        · gi_wp2
          refine bodyPost_ret (results_none rfl _ _ _) rfl ?_
          exact ⟨⟨_, rfl⟩, .inr ⟨_, trivial, hJx2⟩⟩
    · obtain rfl : r = k := by omega
      have hn2 : ¬ (i0 : Int) < (L : Int) := by have h1 := HX.out.1; have h2 := HLEN.out; have h3 := HL.out; omega
      gi_wp2
      go_end0
      exact ⟨⟨_, rfl⟩, .inl ⟨pre, HX.out.2.1, HX.out.2.2.1⟩⟩
theorem chunk_stops (n : Nat) (hn : 1 ≤ n) (Ba Bb : Nat) (va : Value) (l : List Int) (m k : Nat) (hm : 1 ≤ m) (hlen : l.length = k * m) (X : Nat → Prop) (w₀ w1 : World) (h01 : Below w₀.heap.size w₀ w1) (hBa : Boxed w1 Ba 37 va) (hBb : Boxed w1 Bb 3 (.int .i64 m)) (hA : Sl encU X w₀ va l) :
    SeqStopsK Fence.wide n Tryd.prog 109 #[.pointer (some ⟨Ba, 0, none⟩), .pointer (some ⟨Bb, 0, none⟩)] (fun x : CK X w₀ l m => #[.slice x.1.1.1 m x.1.1.2]) (KpAB w₀.heap.size Ba Bb) (fun ys => ys.map (fun y => y.1.2) = chk m l k) (fun _ => True) k w1 := fun lo J Jx W hW hJ _ hY h0 =>
  chunk_in n hn lo Ba Bb va l m k hm hlen X w₀ J Jx hY W hJ (h01.trans (hW.mono h01.size)) ((hW.5 Ba hBa.lt).trans hBa) ((hW.5 Bb hBb.lt).trans hBb) hA h0
end Go.Proofs.YtmjdpmfcbeaecaaDoor
