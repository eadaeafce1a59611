/- poly.Weights, walked. share.secrets, small, all, weights, walked. share.all, walked (printed by mk_shrb.py). share.weights, Coms' closures, come over numbers, walked. share.come over numbers, members, walked. share.members, and slices.ContainsFunc at share's closures, walked (printed by mk_shre.py). A pair made in memory. share.Sum's closures, walked (printed by mk_shrf.py). share.come over pairs, walked (printed by mk_shrg.py). share.Sum, walked (printed by mk_shrh.py). fixed.Int, walked. Dealt as data. share.Coms, walked (printed by mk_shrk.py). Draws of a tape, told to what deals: tape.New, deal.secrets, deal.behind, walked. slices.Chunk, an iterator over pieces of a list, walked. A region that draws its order, in which some operations, one behind the other (the late ones: appends, stores), turn what lay there (printed by mk_late.py from XMono). share.Model, walked. The document's comparisons, of what is the same, walked. The document's comparison of models, of what is the same, walked. Weights, sums and commitments reckoned: what Lean can decide. math/bits.TrailingZeros64 and mod.Prime, walked. What comes in: data of whatever depth, as the walks want it. group.May, walked: its asks one by one. group.May, walked: the asks as values, and the whole. Powers and commitments modulo P: plain arithmetic. The plain law of weights: places apart, rows turned about, one place alone. No program in sight but the data's words. The plain law of weights: rows turned about, one place alone. What members' pairs, and dealers' commitments, come to: in whatever row, and of one alone: the plain law of ShareRows. The plain law of ShareFits: what shares come to fits what their commitments come to. The plain law of weights at 0: two or three points tell a polynomial's first number. poly.Eval; bivar.wide, reads, Col; walked. -/
import Derived.Test.YtonkbmknanpchaaDoorZ2
import Derived.Deep.QuietTactic
import Derived.BigQuiet
import Derived.Deep.LoopGhost
import Derived.Lib.TrailingZeros
import Derived.WalkMore
import Derived.ProofKit
import Derived.OpenShut
import Derived.ChangeOld
import Derived.Deep.Slices
import Derived.IntWalk
namespace Go.Proofs.YtonkbmknanpchaaDoor
open Go Go.RowKit Go.Shelf

def underI (q : Int) (xs : List Int) (at_ : Int) (i : Nat) : Int := prodI q ((othersI q xs i at_).map (·.1))
def overI (q : Int) (xs : List Int) (at_ : Int) (i : Nat) : Int := prodI q ((othersI q xs i at_).map (·.2))
theorem shareV_yes {q : Int} {xs : List Int} {i : Nat} {at_ : Int} (h : HasInv (underI q xs at_ i) q) : shareV q xs i at_ = .tuple #[.int .u64 (invI (underI q xs at_ i) q), .int .u64 (overI q xs at_ i), .int .i64 0] := by
  unfold shareV
  exact if_pos h
theorem shareV_no {q : Int} {xs : List Int} {i : Nat} {at_ : Int} (h : ¬ HasInv (underI q xs at_ i) q) : shareV q xs i at_ = .tuple #[.int .u64 0, .int .u64 (overI q xs at_ i), .int .i64 5] := by
  unfold shareV
  exact if_neg h
/-- A weight. -/
noncomputable def wAt (q : Int) (xs : List Int) (at_ : Int) (i : Nat) : Int := mulI (invI (underI q xs at_ i) q) (overI q xs at_ i) q
open Classical in
/-- What is wrong with weights. -/
noncomputable def wErr (q : Int) (xs : List Int) (at_ : Int) : Int := if unlikeI xs q = 0 then (if ∀ i, i < xs.length → HasInv (underI q xs at_ i) q then 0 else 5) else unlikeI xs q
noncomputable def wList (q : Int) (xs : List Int) (at_ : Int) : List Int := if wErr q xs at_ = 0 then (List.range xs.length).map (wAt q xs at_) else []
theorem unlikeI_zero {xs : List Int} {q : Int} (h : unlikeI xs q = 0) : mayB q = true ∧ xs.length ≤ 1024 := by
  unfold unlikeI at h
  split at h
  · omega
  · split at h
    · omega
    · exact ⟨by simpa using ‹¬ mayB q = false›, by omega⟩
theorem invI_U64 {a q : Int} (hq : mayB q = true) (h : HasInv a q) : U64 (invI a q) := by
  have := invI_spec h
  simp [mayB] at hq
  exact ⟨this.1, by omega⟩
set_option maxRecDepth 100000 in
set_option maxHeartbeats 1000000 in
theorem weights_any (v : Value) (xs : List Int) (at_ q : Int) (X : Nat → Prop) (w : World) (h : Sl encU X w v xs) (hu : U64 at_) (hq : U64 q) :
    Calls Tryd.prog 45 #[v, .int .u64 at_, .int .u64 q] w (GivesE encU (fun g => w.heap.size ≤ g) w (wList q xs at_) (wErr q xs at_)) := by
  have H := Lib.hid h
  have HA := Lib.hid hu
  have HUN := Lib.hid (unlike_any v xs q X w h hq)
  obtain ⟨A, c, rfl, hc1, hc2⟩ := h.form
  clear h hu
  obtain ⟨we, hwe⟩ : ∃ we, we = wErr q xs at_ := ⟨_, rfl⟩
  obtain ⟨wl, hwl⟩ : ∃ wl, wl = wList q xs at_ := ⟨_, rfl⟩
  rw [← hwe, ← hwl]
  have HWL : Hid ((we = 0 → wl = (List.range xs.length).map (wAt q xs at_)) ∧ (¬ we = 0 → wl = [])) := Lib.hid ⟨fun e => by rw [hwl, wList, ← hwe, if_pos e], fun e => by rw [hwl, wList, ← hwe, if_neg e]⟩
  clear hwl
  by_cases hun : unlikeI xs q = 0
  · obtain ⟨hm, hl⟩ := unlikeI_zero hun
    have HM := Lib.hid hm
    have HWE : Hid (((∀ i, i < xs.length → HasInv (underI q xs at_ i) q) → we = 0) ∧ (∀ i, i < xs.length → ¬ HasInv (underI q xs at_ i) q → we = 5)) := Lib.hid ⟨fun e => by rw [hwe, wErr, if_pos hun, if_pos e], fun i hi e => by rw [hwe, wErr, if_pos hun, if_neg (fun hx => e (hx i hi))]⟩
    rw [hun] at HUN
    have HLN : Hid (xs.length ≤ 1024) := Lib.hid hl
    clear hwe hun hm
    go_enter Tryd.func45, Tryd.ntmps45
    go_wp2_with (refine HUN.out.mono ?_; rintro e w1 ⟨rfl, hg1⟩)
    have HG1 := Lib.hid hg1
    clear hg1 HUN
    go_wp2_with fail
    go_loopg [9, 22] xs.length (fun g s9 s22 wx => ∃ j : Nat, j + g = xs.length ∧ s22 = .int .i64 j ∧ Hid (Acc encU w.heap.size 22 (fun g => w.heap.size ≤ g) wx s9 ((List.range j).map (wAt q xs at_)) ∧ w.grownBy wx none ∧ ∀ i, i < j → HasInv (underI q xs at_ i) q))
    case atStart => exact ⟨0, by omega, rfl, Lib.hid ⟨Acc.nil _ _ _ _ _, HG1.out, fun i hi => absurd hi (by omega)⟩⟩
    case round =>
      obtain ⟨j, hj, rfl, HX⟩ := hrel
      cases gk with
      | zero =>
        obtain rfl : j = xs.length := by omega
        have h0 : we = 0 := HWE.out.1 HX.out.2.2
        subst h0
        have HR : Hid (Sl encU (fun g => w.heap.size ≤ g) wr u9 wl ∧ w.grownBy wr none) := Lib.hid ⟨by have := HX.out.1.sl; rwa [← HWL.out.1 rfl] at this, HX.out.2.1⟩
        clear HX HWL HWE
        go_wp2
        go_ret2
        exact ⟨_, rfl, HR.out.1, HR.out.2⟩
      | succ m =>
        have hjn : (j : Int) < (xs.length : Int) := by omega
        have hjN : j < xs.length := by omega
        have HS := Lib.hid (polyShare_any _ xs j at_ q X wr (H.out.kept HX.out.2.1) hjN HA.out HM.out)
        by_cases hi : HasInv (underI q xs at_ j) q
        · rw [shareV_yes hi] at HS
          have HU1 := Lib.hid (invI_U64 HM.out hi)
          have HU2 : Hid (U64 (overI q xs at_ j)) := Lib.hid (prodI_U64 q HM.out _)
          have HU3 : Hid (U64 (wAt q xs at_ j)) := Lib.hid (by have := mulI_bd (invI (underI q xs at_ j) q) (overI q xs at_ j) q HM.out; have h2 := HM.out; simp [mayB] at h2; exact ⟨this.1, by unfold wAt; omega⟩)
          have HSN : Hid ((List.range (j + 1)).map (wAt q xs at_) = (List.range j).map (wAt q xs at_) ++ [wAt q xs at_ j]) := Lib.hid (by simp [List.range_succ])
          have HI : Hid (∀ i, i < j + 1 → HasInv (underI q xs at_ i) q) := Lib.hid (fun i hi' => by
            rcases Nat.lt_or_ge i j with h' | h'
            · exact HX.out.2.2 i h'
            · obtain rfl : i = j := by omega
              exact hi)
          have HAC := Lib.hid HX.out.1
          have HG := Lib.hid HX.out.2.1
          have HLB : Hid ((((List.range j).map (wAt q xs at_)).length + 1) * 8 ≤ 140737488355328) := Lib.hid (by simp; omega)
          clear hi HX
          have hwv : mulI (invI (underI q xs at_ j) q) (overI q xs at_ j) q = wAt q xs at_ j := rfl
          have HMU := Lib.hid (fun w' => mul_gr (invI (underI q xs at_ j) q) (overI q xs at_ j) q w' HU1.out HU2.out)
          rw [hwv] at HMU
          clear hwv
          generalize xs.length = n at *
          go_wp2_with (go_at_call 73; refine HS.out.mono ?_; rintro e2 w2 ⟨rfl, hg2⟩)
          have HG2 := Lib.hid (HG.out.trans hg2)
          have HA2 := Lib.hid (HAC.out.kept hg2)
          clear hg2 HS
          go_wp2_with fail
          refine (HMU.out _).mono ?_
          rintro e3 w3 ⟨rfl, hg3⟩
          have HG3 := Lib.hid (HG2.out.trans hg3)
          have HA3 := Lib.hid (HA2.out.kept hg3)
          clear hg3 HMU
          go_wp2_with (at_builtin; refine wpList_pushG rfl (.tmp 37) (.tmp 42) rfl (E := encU) el_u64 HG3.out HA3.out (fun _ h => h) ⟨rfl, HU3.out⟩ HLB.out rfl rfl ?_)
          intro v2 w4 hacc2 hg4 hgo
          have HFIN : Hid (Acc encU w.heap.size 22 (fun g => w.heap.size ≤ g) w4 v2 ((List.range (j + 1)).map (wAt q xs at_)) ∧ w.grownBy w4 none ∧ ∀ i, i < j + 1 → HasInv (underI q xs at_ i) q) := Lib.hid ⟨by rw [HSN.out]; simpa using hacc2, hg4, HI.out⟩
          clear hacc2 hg4 hgo
          go_wp2_with fail
          go_roundg m
          case measure => omega
          case rel => exact ⟨j + 1, by omega, by go_num, HFIN⟩
        · rw [shareV_no hi] at HS
          have h5 : we = 5 := HWE.out.2 j hjN hi
          subst h5
          have HG := Lib.hid HX.out.2.1
          have HL0 := Lib.hid (HWL.out.2 (by decide))
          clear hi HX HWL HWE
          go_wp2_with (go_at_call 73; refine HS.out.mono ?_; rintro e2 w2 ⟨rfl, hg2⟩)
          have HG2 := Lib.hid (HG.out.trans hg2)
          clear hg2 HS
          go_wp2_with fail
          go_ret2
          exact ⟨_, rfl, by rw [HL0.out]; exact Sl.nil _ _ _, HG2.out⟩
  · have h0 : we = unlikeI xs q := by rw [hwe, wErr, if_neg hun]
    have HL0 := Lib.hid (HWL.out.2 (by rw [h0]; exact hun))
    clear HWL hwe
    rw [← h0] at HUN hun
    clear h0
    go_enter Tryd.func45, Tryd.ntmps45
    go_wp2_with (refine HUN.out.mono ?_; rintro e w1 ⟨rfl, hg1⟩)
    have HG1 := Lib.hid hg1
    clear hg1 HUN
    go_wp2_with fail
    go_ret2
    exact ⟨_, rfl, by rw [HL0.out]; exact Sl.nil _ _ _, HG1.out⟩
end Go.Proofs.YtonkbmknanpchaaDoor

namespace Go.Proofs.YtonkbmknanpchaaDoor
open Go Go.RowKit Go.Shelf

/-- Whether K and D are within their bounds. -/
def smallB (p : Par) : Bool := decide (0 ≤ p.K ∧ 0 ≤ p.D ∧ p.K ≤ 2 ∧ p.D ≤ 4)
end Go.Proofs.YtonkbmknanpchaaDoor

namespace Go.Proofs.YtonkbmknanpchaaDoor
open Go Go.RowKit Go.Shelf

end Go.Proofs.YtonkbmknanpchaaDoor

namespace Go.Proofs.YtonkbmknanpchaaDoor
open Go Go.RowKit Go.Shelf

/-- What numbers come to. -/
def comeU (P : Int) : List Int → List Int → Int → Int
  | x :: l, k :: ks, a => comeU P l ks (timesI P [a, powI x k P])
  | _, _, a => a
theorem comeU_snoc (P : Int) : ∀ (l ks : List Int) (a : Int) (j : Nat) (h : j < l.length) (h' : j < ks.length), comeU P (l.take (j + 1)) (ks.take (j + 1)) a = timesI P [comeU P (l.take j) (ks.take j) a, powI l[j] ks[j] P]
  | x :: l, k :: ks, a, 0, _, _ => by simp [comeU]
  | x :: l, k :: ks, a, j + 1, h, h' => by
    simp only [List.take_succ_cons, comeU, List.getElem_cons_succ]
    exact comeU_snoc P l ks _ j (by simpa using h) (by simpa using h')
end Go.Proofs.YtonkbmknanpchaaDoor

namespace Go.Proofs.YtonkbmknanpchaaDoor
open Go Go.RowKit Go.Shelf

theorem comeU_U64 (P : Int) (hU : ∀ l, U64 (timesI P l)) : ∀ (l ks : List Int) (a : Int), U64 a → U64 (comeU P l ks a)
  | [], _, _, h => h
  | _ :: _, [], _, h => h
  | _ :: l, _ :: ks, _, _ => comeU_U64 P hU l ks _ (hU _)
theorem comeU_take (P : Int) : ∀ (l ks : List Int) (a : Int), comeU P l (ks.take l.length) a = comeU P l ks a
  | [], _, _ => by simp [comeU]
  | _ :: _, [], _ => by simp [comeU]
  | x :: l, k :: ks, a => by simp only [List.length_cons, List.take_succ_cons, comeU]; exact comeU_take P l ks _
end Go.Proofs.YtonkbmknanpchaaDoor

namespace Go.Proofs.YtonkbmknanpchaaDoor
open Go Go.RowKit

/-- No index. -/
def memBad (i : Int) : Bool := decide (i < 1) || decide (7 < i)
/-- All are indices, and there are some. -/
def membersB (at_ : List Int) : Bool := decide (0 < at_.length) && !at_.any fun i => memBad i
theorem membersB_yes {at_ : List Int} (h : membersB at_ = true) : 0 < at_.length ∧ ∀ i ∈ at_, 1 ≤ i ∧ i ≤ 7 := by
  simp [membersB, memBad] at h
  exact ⟨h.1, fun i hi => h.2 i hi⟩
/-- A list of a column that is too short or too long. -/
def shortB (p : Par) (x : List Int) : Bool := !((x.length : Int) == wrap64 (p.T + 1))
/-- A member's list that is too short or too long. -/
def oddB (p : Par) (x : List (Int × Int)) : Bool := !((x.length : Int) == secretsI p)
end Go.Proofs.YtonkbmknanpchaaDoor

namespace Go.Proofs.YtonkbmknanpchaaDoor
open Go.RowKit

theorem zero_pair (w : World) (n : Nat) : ((w.drewN n).alloc (Obj.cells #[.int .u64 0, .int .u64 0] 44)).cell? ⟨w.heap.size, 0, none⟩ = some (.int .u64 0) ∧ ((w.drewN n).alloc (Obj.cells #[.int .u64 0, .int .u64 0] 44)).cell? ⟨w.heap.size, 1, none⟩ = some (.int .u64 0) ∧
    ((w.drewN n).alloc (Obj.cells #[.int .u64 0, .int .u64 0] 44)).frozen? ⟨w.heap.size, 0, none⟩ = false ∧ ((w.drewN n).alloc (Obj.cells #[.int .u64 0, .int .u64 0] 44)).frozen? ⟨w.heap.size, 1, none⟩ = false :=
  have h : Bk ((w.drewN n).alloc (Obj.cells #[.int .u64 0, .int .u64 0] 44)) w.heap.size 44 #[.int .u64 0, .int .u64 0] := Bk.new (w.drewN n) _ _
  ⟨h.cell 0, h.cell 1, h.free 0, h.free 1⟩
theorem pair_made (w : World) (n : Nat) (a b : Int) : w.grownBy ((((w.drewN n).alloc (Obj.cells #[.int .u64 0, .int .u64 0] 44)).setCell ⟨w.heap.size, 0, none⟩ (.int .u64 a)).setCell ⟨w.heap.size, 1, none⟩ (.int .u64 b)) none ∧
    Bk ((((w.drewN n).alloc (Obj.cells #[.int .u64 0, .int .u64 0] 44)).setCell ⟨w.heap.size, 0, none⟩ (.int .u64 a)).setCell ⟨w.heap.size, 1, none⟩ (.int .u64 b)) w.heap.size 44 #[.int .u64 a, .int .u64 b] := by
  have h0 : Bk ((w.drewN n).alloc (Obj.cells #[.int .u64 0, .int .u64 0] 44)) w.heap.size 44 #[.int .u64 0, .int .u64 0] := Bk.new (w.drewN n) _ _
  have g0 : w.grownBy ((w.drewN n).alloc (Obj.cells #[.int .u64 0, .int .u64 0] 44)) none := (grownBy_drewN (World.grownBy.refl w none) n).trans (World.grownBy_alloc _ _ none)
  refine ⟨?_, (h0.set 0 _).set 1 _⟩
  have g1 := grown_up g0 (grownBy_set (World.grownBy.refl _ (some w.heap.size)) 0 (.int .u64 a)) (by intro g e; injection e with e; omega)
  exact grown_up g1 (grownBy_set (World.grownBy.refl _ (some w.heap.size)) 1 (.int .u64 b)) (by intro g e; injection e with e; omega)
theorem pair_made2 (w : World) (n m : Nat) (a b : Int) : w.grownBy (((((w.drewN n).alloc (Obj.cells #[.int .u64 0, .int .u64 0] 44)).drewN m).setCell ⟨w.heap.size, 0, none⟩ (.int .u64 a)).setCell ⟨w.heap.size, 1, none⟩ (.int .u64 b)) none ∧
    Bk (((((w.drewN n).alloc (Obj.cells #[.int .u64 0, .int .u64 0] 44)).drewN m).setCell ⟨w.heap.size, 0, none⟩ (.int .u64 a)).setCell ⟨w.heap.size, 1, none⟩ (.int .u64 b)) w.heap.size 44 #[.int .u64 a, .int .u64 b] := by
  have h0 : Bk (((w.drewN n).alloc (Obj.cells #[.int .u64 0, .int .u64 0] 44)).drewN m) w.heap.size 44 #[.int .u64 0, .int .u64 0] := (Bk.new (w.drewN n) _ _).drewN m
  have g0 : w.grownBy (((w.drewN n).alloc (Obj.cells #[.int .u64 0, .int .u64 0] 44)).drewN m) none := grownBy_drewN ((grownBy_drewN (World.grownBy.refl w none) n).trans (World.grownBy_alloc _ _ none)) m
  refine ⟨?_, (h0.set 0 _).set 1 _⟩
  have g1 := grown_up g0 (grownBy_set (World.grownBy.refl _ (some w.heap.size)) 0 (.int .u64 a)) (by intro g e; injection e with e; omega)
  exact grown_up g1 (grownBy_set (World.grownBy.refl _ (some w.heap.size)) 1 (.int .u64 b)) (by intro g e; injection e with e; omega)
theorem bkDrawn {w : World} {g : Nat} {t : TypeId} {cs : Array Value} (h : Hid (Bk w g t cs)) (n : Nat) : Hid (Bk (w.drewN n) g t cs) := Lib.hid (h.out.drewN n)
end Go.Proofs.YtonkbmknanpchaaDoor

namespace Go.Proofs.YtonkbmknanpchaaDoor
open Go Go.RowKit

end Go.Proofs.YtonkbmknanpchaaDoor

namespace Go.Proofs.YtonkbmknanpchaaDoor
open Go Go.RowKit

/-- What pairs come to. -/
def comeP (Q : Int) : List (Int × Int) → List Int → Int × Int → Int × Int
  | x :: l, k :: ks, a => comeP Q l ks (addI a.1 (mulI x.1 k Q) Q, addI a.2 (mulI x.2 k Q) Q)
  | _, _, a => a
theorem comeP_snoc (Q : Int) : ∀ (l : List (Int × Int)) (ks : List Int) (a : Int × Int) (j : Nat) (h : j < l.length) (h' : j < ks.length), comeP Q (l.take (j + 1)) (ks.take (j + 1)) a = (addI (comeP Q (l.take j) (ks.take j) a).1 (mulI l[j].1 ks[j] Q) Q, addI (comeP Q (l.take j) (ks.take j) a).2 (mulI l[j].2 ks[j] Q) Q)
  | x :: l, k :: ks, a, 0, _, _ => by simp [comeP]
  | x :: l, k :: ks, a, j + 1, h, h' => by
    simp only [List.take_succ_cons, comeP, List.getElem_cons_succ]
    exact comeP_snoc Q l ks _ j (by simpa using h) (by simpa using h')
theorem comeP_take (Q : Int) : ∀ (l : List (Int × Int)) (ks : List Int) (a : Int × Int), comeP Q l (ks.take l.length) a = comeP Q l ks a
  | [], _, _ => by simp [comeP]
  | _ :: _, [], _ => by simp [comeP]
  | x :: l, k :: ks, a => by simp only [List.length_cons, List.take_succ_cons, comeP]; exact comeP_take Q l ks _
end Go.Proofs.YtonkbmknanpchaaDoor

namespace Go.Proofs.YtonkbmknanpchaaDoor
open Go Go.RowKit

/-- What is wrong with a sum. -/
noncomputable def sumE (p : Par) (at_ : List Int) (l : List (List (Int × Int))) : Int := if smallB p && membersB at_ && at_.length == l.length && !l.any (fun x => oddB p x) then wErr p.Q at_ 0 else 1
/-- What pairs of members come to. -/
noncomputable def sumL (p : Par) (at_ : List Int) (l : List (List (Int × Int))) : List (Int × Int) := if sumE p at_ l = 0 then (List.range (secretsI p).toNat).map fun s => comeP p.Q (l.map fun x => x[s]?.getD (0, 0)) (wList p.Q at_ 0) (0, 0) else []
theorem wrap64_small {n : Int} (h : -9223372036854775808 ≤ n ∧ n ≤ 9223372036854775807) : wrap64 n = n := by unfold wrap64; omega
theorem addI_u64 (a b m : Int) (hm : mayB m = true) : U64 (addI a b m) := by
  unfold addI
  rw [if_pos hm]
  simp [mayB] at hm
  have h1 := Int.emod_nonneg (a % m + b % m) (show m ≠ 0 by omega)
  have h2 := Int.emod_lt_of_pos (a % m + b % m) hm.1
  exact ⟨h1, by omega⟩
theorem comeP_U64 (Q : Int) (h : ∀ x y, U64 (addI x y Q)) : ∀ (l : List (Int × Int)) (ks : List Int) (a : Int × Int), U64 a.1 → U64 a.2 → U64 (comeP Q l ks a).1 ∧ U64 (comeP Q l ks a).2
  | [], _, _, h1, h2 => ⟨h1, h2⟩
  | _ :: _, [], _, h1, h2 => ⟨h1, h2⟩
  | _ :: l, _ :: ks, _, _, _ => comeP_U64 Q h l ks _ (h _ _) (h _ _)
theorem smallB_secrets {p : Par} (h : smallB p = true) : 0 ≤ secretsI p ∧ secretsI p ≤ 10 := by
  simp [smallB] at h
  obtain ⟨h1, h2, h3, h4⟩ := h
  have e1 : wrap64 (p.D + 1) = p.D + 1 := wrap64_small (by omega)
  have h5 : 0 ≤ p.K * (p.D + 1) := Int.mul_nonneg h1 (by omega)
  have h6 : p.K * (p.D + 1) ≤ 2 * 5 := Int.mul_le_mul h3 (by omega) (by omega) (by omega)
  have e2 : secretsI p = p.K * (p.D + 1) := by unfold secretsI; rw [e1]; exact wrap64_small (by omega)
  rw [e2]
  omega
end Go.Proofs.YtonkbmknanpchaaDoor

namespace Go.Proofs.YtonkbmknanpchaaDoor
open Go Go.RowKit

/-- The whole number of a number. -/
def fixI (x q : Int) : Int := if q = 0 then 0 else if addI x 0 q ≤ (q - 1) / 2 then addI x 0 q else addI x 0 q - q
end Go.Proofs.YtonkbmknanpchaaDoor

namespace Go.Proofs.YtonkbmknanpchaaDoor
open Go Go.RowKit

/-- What a dealer dealt: the dealer, and lists of commitments. -/
def encD : Enc (Int × List (List Int)) where
  size := 2
  pos := by decide
  rep := fun X w cs d => ∃ v, cs = [.int .i64 d.1, v] ∧ I64 d.1 ∧ Sl (encS encU) X w v d.2
  len := fun h => by obtain ⟨v, rfl, _⟩ := h; rfl
  ones := fun h u hu => by
    obtain ⟨v, rfl, _, A, c, rfl, _⟩ := h
    simp at hu
    rcases hu with rfl | rfl <;> rfl
  keep := fun h hg hX => by obtain ⟨v, e, i, h⟩ := h; exact ⟨v, e, i, h.keep hg hX⟩
  more := fun h hX => by obtain ⟨v, e, i, h⟩ := h; exact ⟨v, e, i, h.more hX⟩
  keepc := fun h hg hr => by obtain ⟨v, e, i, h⟩ := h; exact ⟨v, e, i, h.keepc hg hr⟩
theorem Sl.atD {X : Nat → Prop} {w : World} {v : Value} {xs : List (Int × List (List Int))} (h : Sl encD X w v xs) {k : Nat} (hk : k < xs.length) :
    ∃ g o c u, v = .slice (some ⟨g, o, none⟩) xs.length c ∧ g < w.heap.size ∧ X g ∧ w.cell? ⟨g, o + k * 2, none⟩ = some (.int .i64 xs[k].1) ∧ w.cell? ⟨g, o + k * 2 + 1, none⟩ = some u ∧ I64 xs[k].1 ∧ Sl (encS encU) X w u xs[k].2 := by
  obtain ⟨g, o, c, cs, e, hg, hX, ⟨u, rfl, hi, hu⟩, hc⟩ := h.at hk
  exact ⟨g, o, c, u, e, hg, hX, hc 0 _ rfl, hc 1 _ rfl, hi, hu⟩
/-- What is wrong with commitments put together. -/
noncomputable def comsE (p : Par) (deals : List (Int × List (List Int))) : Int :=
  if smallB p && decide (0 ≤ p.T ∧ p.T ≤ 2) && !deals.any (fun d => !((d.2.length : Int) == secretsI p) || d.2.any (shortB p)) && membersB (deals.map (·.1)) then wErr p.Q (deals.map (·.1)) 0 else 1
/-- .. and what they come to. -/
noncomputable def comsL (p : Par) (deals : List (Int × List (List Int))) : List (List Int) :=
  if comsE p deals = 0 then (List.range (secretsI p).toNat).map fun s => (List.range (p.T + 1).toNat).map fun j => comeU p.P (deals.map fun d => (d.2[s]?.getD [])[j]?.getD 0) (wList p.Q (deals.map (·.1)) 0) (timesI p.P []) else []
end Go.Proofs.YtonkbmknanpchaaDoor

namespace Go.Proofs.YtonkbmknanpchaaDoor
open Go Go.RowKit

theorem info_int : (Tryd.prog.info? 3).map (fun i => (i.zero, i.size, i.bytes)) = some (some (.int .i64 0), 1, 8) := by kernel_rfl
theorem el_int : ElemOk Tryd.prog 39 3 1 8 := ElemOk.mk' (by decide) Tryd.underlying39 info_int rfl
/-- A dealing that is not as long as it should be. -/
def badB (p : Par) (d : Int × List (List Int)) : Bool := !((d.2.length : Int) == secretsI p) || d.2.any (shortB p)
/-- Two lists built side by side: numbers, and lists of lists that lay there ahead. -/
structure Two (base : Nat) (wx : World) (v6 v7 : Value) (xs : List Int) (cs : List (List (List Int))) : Prop where
  fst : Acc encI base 3 (fun g => base ≤ g ∧ some g ≠ v7.ownBlock) wx v6 xs
  snd : Acc (encS (encS encU)) base 30 (fun g => g < base ∨ some g ≠ v6.ownBlock) wx v7 cs
theorem Two.kept {base : Nat} {wx w' : World} {v6 v7 : Value} {xs : List Int} {cs : List (List (List Int))} (h : Two base wx v6 v7 xs cs) (hg : wx.grownBy w' none) : Two base w' v6 v7 xs cs := ⟨h.fst.kept hg, h.snd.kept hg⟩
theorem Two.one {base : Nat} {wx w' : World} {v6 v7 v6' : Value} {xs xs' : List Int} {cs : List (List (List Int))} (h : Two base wx v6 v7 xs cs) (ha : Acc encI base 3 (fun g => base ≤ g ∧ some g ≠ v7.ownBlock) w' v6' xs') (hg : wx.grownBy w' v6.ownBlock) (hm : Moved wx v6 v6') : Two base w' v6' v7 xs' cs := by
  refine ⟨ha, ?_⟩
  have h1 : Acc (encS (encS encU)) base 30 (fun g => (g < base ∨ some g ≠ v6'.ownBlock) ∧ some g ≠ v6.ownBlock) wx v7 cs := h.snd.more fun g hg hx => by
    rcases hx with hx | hx
    · exact ⟨.inl hx, fun e => by have := (h.fst.lt g e.symm).1; omega⟩
    · exact ⟨.inr fun e => hm.ne hg (fun e' => hx e'.symm) e.symm, hx⟩
  exact (h1.keep hg fun g hx => hx.2).more fun g _ hx => hx.1
theorem Two.two {base : Nat} {wx w' : World} {v6 v7 v7' : Value} {xs : List Int} {cs cs' : List (List (List Int))} (h : Two base wx v6 v7 xs cs) (ha : Acc (encS (encS encU)) base 30 (fun g => g < base ∨ some g ≠ v6.ownBlock) w' v7' cs') (hg : wx.grownBy w' v7.ownBlock) (hm : Moved wx v7 v7') : Two base w' v6 v7' xs cs' := by
  refine ⟨?_, ha⟩
  have h1 : Acc encI base 3 (fun g => (base ≤ g ∧ some g ≠ v7'.ownBlock) ∧ some g ≠ v7.ownBlock) wx v6 xs := h.fst.more fun g hg hx => ⟨⟨hx.1, fun e => hm.ne hg (fun e' => hx.2 e'.symm) e.symm⟩, hx.2⟩
  exact (h1.keep hg fun g hx => hx.2).more fun g _ hx => hx.1
theorem Two.lt6 {base : Nat} {wx : World} {v6 v7 : Value} {xs : List Int} {cs : List (List (List Int))} (h : Two base wx v6 v7 xs cs) : ∀ g, wx.heap.size ≤ g → g < base ∨ some g ≠ v6.ownBlock := fun g hg => .inr fun e => by have := (h.fst.lt g e.symm).2; omega
theorem Two.lt7 {base : Nat} {wx : World} {v6 v7 : Value} {xs : List Int} {cs : List (List (List Int))} (h : Two base wx v6 v7 xs cs) (hb : base ≤ wx.heap.size) : ∀ g, wx.heap.size ≤ g → base ≤ g ∧ some g ≠ v7.ownBlock := fun g hg => ⟨by omega, fun e => by have := (h.snd.lt g e.symm).2; omega⟩
theorem Two.hZ {base : Nat} {wx : World} {v6 v7 : Value} {xs : List Int} {cs : List (List (List Int))} (h : Two base wx v6 v7 xs cs) {w' : World} : ∀ (c : List Value) (y : List (List Int)), (encS (encS encU)).rep (fun g => g < base) w' c y → (encS (encS encU)).rep (fun g => (g < base ∨ some g ≠ v6.ownBlock) ∧ some g ≠ v7.ownBlock) w' c y := fun c y hr => (encS (encS encU)).more hr fun g _ hx => ⟨.inl hx, fun e => by have := (h.snd.lt g e.symm).1; omega⟩
/-- The first j dealings are as long as they should be. -/
def OkTo (p : Par) (deals : List (Int × List (List Int))) (j : Nat) : Prop := ∀ i (h : i < deals.length), i < j → badB p deals[i] = false
theorem OkTo.all {p : Par} {deals : List (Int × List (List Int))} (h : OkTo p deals deals.length) : ∀ d ∈ deals, badB p d = false := fun d hd => by
  obtain ⟨i, hi, rfl⟩ := List.getElem_of_mem hd
  exact h i hi hi
theorem gives_nil {α : Type} {E : Enc α} {Y : Nat → Prop} {w w' : World} {xs : List α} {n k : Int} (h1 : n = k) (h2 : xs = []) (hg : w.grownBy w' none) : GivesE E Y w xs n (.returned (.tuple #[.slice none 0 0, .int .i64 k])) w' := by
  subst h1 h2
  exact ⟨_, rfl, Sl.nil _ _ _, hg⟩
theorem gives_fin {α : Type} {E : Enc α} {Y : Nat → Prop} {w w' : World} {xs : List α} {n k : Int} {v : Value} (hs : Sl E Y w' v xs) (h1 : n = k) (hg : w.grownBy w' none) : GivesE E Y w xs n (.returned (.tuple #[v, .int .i64 k])) w' := by
  subst h1
  exact ⟨_, rfl, hs, hg⟩
theorem grown_two {w : World} {a b : Obj} : w.grownBy ((w.alloc a).alloc b) none := (World.grownBy_alloc w _ none).trans (World.grownBy_alloc _ _ none)
theorem Bk.one {w : World} {b : Nat} {t : TypeId} {u : Value} (h : Bk w b t #[u]) : ∀ j v, [u][j]? = some v → w.cell? ⟨b, j, none⟩ = some v := fun j v hv => by rw [h.cell j]; simpa using hv
section
variable {α : Type} {P : Program} {E : Enc α} {base : Nat} {e : TypeId} {X : Nat → Prop} {w : World} {v : Value} {xs : List α}
/-- append(out, y): the thing y lies in a block that is known. -/
theorem pushAt_core {cs : List Value} {y : α} {t : TypeId} {bytes b c : Nat} (hE : ElemOk P t e E.size bytes) (hacc : Acc E base e X w v xs) (hrep : E.rep (fun g => X g ∧ some g ≠ v.ownBlock) w cs y) (hcell : ∀ j u, cs[j]? = some u → w.cell? ⟨b, j, none⟩ = some u)
    (hlen : (xs.length + 1) * bytes ≤ 140737488355328) (hb : base ≤ w.heap.size) (hN : ∀ g, w.heap.size ≤ g → X g)
    {o : Oper} {a : Act} {K : Act → World → Prop} {Q : Exit → Act → World → Prop} (s x : Operand)
    (ho : o.op = .call { callee := .builtin .append, args := #[s, x], argTypes := #[t, t] }) (hs : a.eval s = v) (hx : a.eval x = .slice (some ⟨b, 0, none⟩) 1 c)
    (h : ∀ v' w', Acc E base e X w' v' (xs ++ [y]) → w.grownBy w' v.ownBlock → Moved w v v' → K (a.put o.dst v') w') : o.wp P a w K Q := by
  obtain ⟨_, css, h1, _, h3⟩ := id hacc
  have hcl := E.len hrep
  refine wp_app s x t ho (size := E.size) hE E.pos hs h3 (some ⟨b, 0, none⟩) 1 c cs hx (by rw [hcl, Nat.one_mul]) (by simp) ?_ (E.ones hrep) hlen hb ?_
  · intro ad e' j u hu
    injection e' with e'
    subst e'
    rw [← hcell j u hu]
    unfold Addr.add
    split
    · rename_i h0
      have : j = 0 := by simpa using h0
      subst this
      rfl
    · simp
  · intro v' w' hown hg hat
    have hat' : Moved w v v' := hat.imp id fun e => ⟨_, Nat.le_refl _, e⟩
    refine h v' w' (hacc.app (cs2 := [cs]) (ys := [y]) rfl (fun i hi hi' => ?_) (fun css' hc' => ?_) hg hat' hN) hg hat'
    · have : i = 0 := by simp at hi; omega
      subst this
      exact hrep
    · have e1 : css' = css.flatten := own_same hc' h3
      rw [e1]
      simpa using hown
theorem step_pushAt {cs : List Value} {y : α} {t : TypeId} {bytes b c : Nat} {ops : Array Oper} {o : Oper} {a : Act} {K : Act → World → Prop} {Q : Exit → Act → World → Prop} {F : Prop} (hgd : o.guard = none) (s x : Operand)
    (ho : o.op = .call { callee := .builtin .append, args := #[s, x], argTypes := #[t, t] }) (hE : ElemOk P t e E.size bytes) (hacc : Acc E base e X w v xs) (hs : a.eval s = v) (hx : a.eval x = .slice (some ⟨b, 0, none⟩) 1 c) (hrep : E.rep (fun g => X g ∧ some g ≠ v.ownBlock) w cs y) (hcell : ∀ j u, cs[j]? = some u → w.cell? ⟨b, j, none⟩ = some u)
    (hlen : (xs.length + 1) * bytes ≤ 140737488355328) (hb : base ≤ w.heap.size) (hN : ∀ g, w.heap.size ≤ g → X g)
    (h : ∀ v' w', Acc E base e X w' v' (xs ++ [y]) → w.grownBy w' v.ownBlock → Moved w v v' → K (a.put o.dst v') w') : if Region.wanted o (yielded ops a.tmps) = true then Oper.wp P o a w K Q else F := by
  have hw : Region.wanted o (yielded ops a.tmps) = true := by simp [Region.wanted, hgd]
  rw [if_pos hw]
  exact pushAt_core hE hacc hrep hcell hlen hb hN s x ho hs hx h
end
end Go.Proofs.YtonkbmknanpchaaDoor

namespace Go.Proofs.YtonkbmknanpchaaDoor
open Go Go.RowKit

/-- A tape in block g: what its k-th draw below q is, and how it lies when k were made; bl: the blocks that it has. -/
structure Tp (g : Nat) (q : Int) (dr : Nat → Int) (TI : Nat → World → Prop) (bl : Nat → Prop) (most : Nat) : Prop where
  own : bl g
  old : ∀ {k w b}, TI k w → bl b → b < w.heap.size
  val : ∀ k, U64 (dr k)
  keep : ∀ {k w w'} {row : Option Nat}, TI k w → w.grownBy w' row → (∀ b, row = some b → ¬ bl b) → TI k w'
  next : ∀ {k w}, k < most → TI k w → Calls Tryd.prog 36 #[.pointer (some ⟨g, 0, none⟩), .int .u64 q] w fun e w' => e = .returned (.int .u64 (dr k)) ∧ TI (k + 1) w' ∧ w.grownBy w' (some g)
def seedS (q s : Int) : Nat → Int
  | 0 => s
  | k + 1 => drawS q (seedS q s k)
theorem seedS_U64 (q s : Int) (hs : U64 s) : ∀ k, U64 (seedS q s k)
  | 0 => hs
  | k + 1 => drawS_U64 q _ (seedS_U64 q s hs k)
/-- A tape of a seed. -/
theorem tp_own (g : Nat) (q s : Int) (hs : U64 s) (hq : U64 q) : Tp g q (fun k => drawX q (seedS q s k)) (fun k w => Bk w g 68 #[.int .u64 (seedS q s k), .slice none 0 0, .int .i64 k]) (fun b => b = g) 1000000 where
  own := rfl
  old := fun h e => by subst e; exact h.lt
  val := fun k => drawX_U64 q _ hq
  keep := fun h hg hr => h.grown hg (fun e => hr g e.symm rfl)
  next := fun {k w} hk h => (next_own g none 0 (seedS q s k) k q w (seedS_U64 q s hs k) hq (by omega) (by omega) h).mono fun _ _ ⟨h1, h2, h3⟩ => ⟨h1, by simpa [seedS] using h2, h3⟩
set_option maxHeartbeats 400000 in
theorem new20_any (s : Int) (w : World) :
    Calls Tryd.prog 8 #[.int .u64 s] w fun e w' => e = .returned (.pointer (some ⟨w.heap.size, 0, none⟩)) ∧ w' = w.alloc (.cells #[.int .u64 s, .slice none 0 0, .int .i64 0] 68) := by
  go_enter Tryd.func8, Tryd.ntmps8
  go_wp2_with fail
  go_ret
  exact ⟨rfl, rfl⟩
theorem dsecrets_any (p : Par) (w : World) :
    Calls Tryd.prog 35 #[p.v] w fun e w' => e = .returned (.int .i64 (secretsI p)) ∧ w.grownBy w' none := by
  go_enter Tryd.func35, Tryd.ntmps35
  go_wp2
  go_ret
  exact ⟨rfl, World.grownBy_alloc w _ none⟩
theorem Acc.made1 (w : World) (e : TypeId) {B : Nat} (hB : B ≤ w.heap.size) (X : Nat → Prop) (hX : X w.heap.size) (z : Int) (hz : U64 z) : Acc encU B e X (w.alloc (.cells #[.int .u64 z] e)) (.slice (some ⟨w.heap.size, 0, none⟩) 1 1) [z] :=
  ⟨fun g hg => by simp [Value.ownBlock] at hg; subst hg; exact hX, [[.int .u64 z]], rfl, fun i hi hi' => by
    obtain rfl : i = 0 := by simp at hi; omega
    exact ⟨rfl, hz⟩, ⟨by simp [encU], .inr ⟨w.heap.size, 1, #[.int .u64 z], rfl, hB, heap_alloc_new w _, Nat.le_refl _, by decide, rfl, by simp [encU]⟩⟩⟩
/-- A number, modulo q, with n draws behind it, the first of them the k-th. -/
def behI (x q : Int) (dr : Nat → Int) (n k : Nat) : List Int := x % q :: (List.range n).map fun j => dr (k + j)
theorem behI_succ (x q : Int) (dr : Nat → Int) (n k : Nat) : behI x q dr (n + 1) k = behI x q dr n k ++ [dr (k + n)] := by
  simp [behI, List.range_succ]
theorem behI_len (x q : Int) (dr : Nat → Int) (n k : Nat) : (behI x q dr n k).length = n + 1 := by simp [behI]
set_option maxHeartbeats 1000000 in
theorem behind_any {g : Nat} {q : Int} {dr : Nat → Int} {TI : Nat → World → Prop} {bl : Nat → Prop} {most : Nat} (hT : Tp g q dr TI bl most) (x : Int) (n k : Nat) (w : World) (hx : U64 x) (hq : U64 q) (hq0 : 0 < q) (hn : n ≤ 1000) (hk : k + n ≤ most) (hI : TI k w) :
    Calls Tryd.prog 37 #[.int .u64 x, .int .i64 n, .int .u64 q, .func (.func 36) #[.pointer (some ⟨g, 0, none⟩)] #[]] w fun e w' => ∃ v, e = .returned v ∧ Sl encU (fun b => w.heap.size ≤ b) w' v (behI x q dr n k) ∧ TI (k + n) w' ∧ w.grownBy w' (some g) := by
  have HT := Lib.hid hT
  obtain ⟨q0, q1⟩ := hq
  obtain ⟨x0, x1⟩ := hx
  have hqz : (q == 0) = false := by simp; omega
  have hqz2 : ¬ q = 0 := by omega
  have hmod : Int.tmod x q = x % q := Int.tmod_eq_emod_of_nonneg x0
  obtain ⟨z, hz⟩ : ∃ y, y = x % q := ⟨_, rfl⟩
  have HZ : Hid (U64 z) := Lib.hid (by rw [hz]; exact ⟨Int.emod_nonneg _ (by omega), Int.lt_trans (Int.emod_lt_of_pos _ hq0) (by omega)⟩)
  have hzw : IntKind.u64.wrap z = z := IntWalk.u64_in _ (by have := HZ.out; obtain ⟨a, b⟩ := this; omega)
  have HGW : Hid (g < w.heap.size) := Lib.hid (hT.old hI hT.own)
  obtain ⟨w1, hw1⟩ : ∃ y, y = w.alloc (Obj.cells #[.int .u64 z] 22) := ⟨_, rfl⟩
  have HG1 : Hid (w.grownBy w1 none) := Lib.hid (by rw [hw1]; exact World.grownBy_alloc w _ none)
  have HA1 : Hid (Acc encU w.heap.size 22 (fun b => w.heap.size ≤ b) w1 (.slice (some ⟨w.heap.size, 0, none⟩) 1 1) (behI x q dr 0 k)) := Lib.hid (by
    rw [hw1, show behI x q dr 0 k = [z] by simp [behI, hz]]
    exact Acc.made1 w _ (Nat.le_refl _) _ (Nat.le_refl _) z HZ.out)
  have HI1 : Hid (TI k w1) := Lib.hid (hT.keep hI HG1.out (by simp))
  have HOB : Hid (∀ b, bl b → b < w.heap.size) := Lib.hid (fun b hb => hT.old hI hb)
  have e1 : x % q = z := hz.symm
  rw [e1] at hmod
  clear hT hI hz
  go_enter Tryd.func37, Tryd.ntmps37
  go_wp2_with fail
  rw [← hw1]
  clear hw1
  go_loopg [9, 15] n (fun gk s9 s15 wx => ∃ j : Nat, j + gk = n ∧ s15 = .int .i64 j ∧ Hid (Acc encU w.heap.size 22 (fun b => w.heap.size ≤ b) wx s9 (behI x q dr j k) ∧ TI (k + j) wx ∧ w.grownBy wx (some g)))
  case atStart => exact ⟨0, by omega, rfl, Lib.hid ⟨HA1.out, HI1.out, HG1.out.but _⟩⟩
  case round =>
    obtain ⟨j, hj, rfl, HX⟩ := hrel
    cases gk with
    | zero =>
      obtain rfl : j = n := by omega
      have HR : Hid (Sl encU (fun b => w.heap.size ≤ b) wr u9 (behI x q dr j k) ∧ TI (k + j) wr ∧ w.grownBy wr (some g)) := Lib.hid ⟨HX.out.1.sl, HX.out.2⟩
      have hno : ¬ ((j : Int) < (j : Int)) := by omega
      clear HX
      go_wp2
      go_ret
      exact ⟨_, rfl, HR.out⟩
    | succ m =>
      have hjn : (j : Int) < (n : Int) := by omega
      have HC := Lib.hid (HT.out.next (by omega) HX.out.2.1)
      have HA := Lib.hid HX.out.1
      have HG := Lib.hid HX.out.2.2
      have HV := Lib.hid (HT.out.val (k + j))
      have HSN := Lib.hid (behI_succ x q dr j k)
      have HLB : Hid (((behI x q dr j k).length + 1) * 8 ≤ 140737488355328) := Lib.hid (by rw [behI_len]; omega)
      obtain ⟨y, hy⟩ : ∃ y, y = dr (k + j) := ⟨_, rfl⟩
      rw [← hy] at HC HV HSN
      clear HX hy
      go_wp2_with fail
      refine HC.out.mono ?_
      rintro e w2 ⟨rfl, hi2, hg2⟩
      have HA2 := Lib.hid (HA.out.keep hg2 (fun b hb e => by injection e with e; have := HGW.out; omega))
      have HI2 := Lib.hid hi2
      have HG2 : Hid (w.grownBy w2 (some g)) := Lib.hid (HG.out.trans hg2)
      have HSZ : Hid (w.heap.size ≤ w2.heap.size) := Lib.hid HG2.out.size
      clear hi2 hg2
      go_wp2_with (at_builtin; refine wpList_push rfl (.tmp 17) (.tmp 21) rfl (E := encU) (y := y) el_u64 HA2.out rfl rfl ⟨rfl, HV.out⟩ HLB.out HSZ.out (fun _ h => Nat.le_trans HSZ.out h) ?_)
      intro v9 w3 ha hg hm
      have HFIN : Hid (Acc encU w.heap.size 22 (fun b => w.heap.size ≤ b) w3 v9 (behI x q dr (j + 1) k) ∧ TI (k + (j + 1)) w3 ∧ w.grownBy w3 (some g)) := Lib.hid ⟨by rw [HSN.out]; exact ha, HT.out.keep HI2.out hg (fun b e hb => by have := (HA2.out.lt b e).1; have := HOB.out b hb; omega), HG2.out.andThen hg (fun b e => .inl (HA2.out.lt b e).1)⟩
      clear ha hg hm
      go_wp2_with fail
      go_roundg m
      case measure => omega
      case rel => exact ⟨j + 1, by omega, by go_num, HFIN⟩
end Go.Proofs.YtonkbmknanpchaaDoor

namespace Go.Proofs.YtonkbmknanpchaaDoor
open Go Go.RowKit Go.Shelf

attribute [local go_sem] Oper.semAt_some
theorem Sl.cap {α : Type} {E : Enc α} {X : Nat → Prop} {w : World} {A : Option Addr} {n c : Nat} {xs : List α} (h : Sl E X w (.slice A n c) xs) (c' : Nat) (h1 : n ≤ c') (h2 : c' ≤ 9223372036854775807) : Sl E X w (.slice A n c') xs := by
  obtain ⟨A', c0, e, _, _, h3⟩ := h
  injection e with e1 e2 _
  subst e1 e2
  exact ⟨_, c', rfl, h1, h2, h3⟩
/-- A piece as it is handed over. -/
abbrev CK (X : Nat → Prop) (w₀ : World) (l : List Int) (n : Nat) := { x : (Option Addr × Nat) × List Int // Sl encU X w₀ (.slice x.1.1 n x.1.2) x.2 ∧ x.2.length = n ∧ ∀ y ∈ x.2, y ∈ l }
end Go.Proofs.YtonkbmknanpchaaDoor

namespace Go.Proofs.YtonkbmknanpchaaDoor
open Go

/-- Where the worlds stand when some late operations are over, these having told values; and what the k-th of them does to what lay there. -/
structure Lt where
  C : List Value → World → Prop
  R : Nat → World → World → Prop
  g : ∀ {vs w w'}, C vs w → w.grownBy w' none → C vs w'
/-- What is known of a value, and stands: as long as nothing is written, and through the late operations from the fr-th on. -/
structure Qv (L : Lt) where
  p : List Value → Value → World → Prop
  fr : Nat
  st : ∀ {vs v w w'}, p vs v w → w.grownBy w' none → p vs v w'
  sr : ∀ {vs u v w w'}, fr ≤ vs.length → L.C vs w → L.R vs.length w w' → p vs v w → p (vs ++ [u]) v w'
def Qv.any {L : Lt} : Qv L := ⟨fun _ _ _ => True, 0, fun _ _ => trivial, fun _ _ _ _ => trivial⟩
def Qv.eq {L : Lt} (u : Value) : Qv L := ⟨fun _ v _ => v = u, 0, fun h _ => h, fun _ _ _ h => h⟩
/-- What the q-th late operation has told. -/
def Qv.slot {L : Lt} (q : Nat) : Qv L := ⟨fun vs v _ => vs[q]? = some v, q + 1, fun h _ => h, fun _ _ _ h => by
  have := (List.getElem?_eq_some_iff.1 h).1
  rw [List.getElem?_append_left this]
  exact h⟩
section
variable {L : Lt} {late : List Nat} {P : Program} {ops : Array Oper} {Q : Exit → Act → World → Prop} {n : Nat} {a0 : Act} {w0 : World}

def ToldL (T : Value → World → Prop) (dst : Option Tmp) (ds : List Deferred) : Exit → Act → World → Prop := fun e a' w' => e = .normal ∧ a'.defers = ds ∧ T (match dst with | some d => a'.eval (.tmp d) | none => undef) w'
def Ask' (P : Program) (ops : Array Oper) (vs : List Value) (Vs : List (Qv L)) (Qt : Exit → Act → World → Prop) (o : Oper) (w : World) : List (Nat × Tmp) → Act → Prop
  | [], a => wpList P ops Qt [o] a w
  | (j, d) :: js, a => ∀ x, (Vs.getD j Qv.any).p vs x w → Ask' P ops vs Vs Qt o w js (a.put (some d) x)
/-- What is asked of one operation. -/
def AskL (L : Lt) (late : List Nat) (P : Program) (ops : Array Oper) (Vs : List (Qv L)) (ds : List Deferred) (i : Nat) (V : Qv L) (o : Oper) (js : List (Nat × Tmp)) (a0 : Act) : Prop :=
  (late.contains i = false ∧ V.fr = 0 ∧ ∀ vs w, L.C vs w → Ask' P ops vs Vs (ToldL (fun v w' => V.p vs v w' ∧ w.grownBy w' none) o.dst ds) o w js a0) ∨
  (∃ q, late[q]? = some i ∧ V = Qv.slot q ∧ ∀ vs w, vs.length = q → L.C vs w → Ask' P ops vs Vs (ToldL (fun v w' => L.R q w w' ∧ L.C (vs ++ [v]) w') o.dst ds) o w js a0)
def LateR (L : Lt) (late : List Nat) (P : Program) (ops : Array Oper) (n : Nat) (a0 : Act) (F : List (Qv L) → Prop) : Nat → List (Qv L) → List Oper → Prop
  | 0, Rs, _ => F Rs.reverse
  | _ + 1, _, [] => False
  | k + 1, Rs, o :: os => ∃ (V : Qv L) (js : List (Nat × Tmp)), (pairB ops Rs.length js && lookB ops n Rs.length js) = true ∧ AskL L late P ops Rs.reverse a0.defers Rs.length V o js a0 ∧ LateR L late P ops n a0 F k (V :: Rs) os
theorem LateR.mono {F : List (Qv L) → Prop} {k : Nat} {Rs : List (Qv L)} {o : Oper} {os : List Oper} (V : Qv L) (js : List (Nat × Tmp)) (hc : (pairB ops Rs.length js && lookB ops n Rs.length js) = true) (hl : late.contains Rs.length = false) (hf : V.fr = 0) (hA : ∀ vs w, L.C vs w → Ask' P ops vs Rs.reverse (ToldL (fun v w' => V.p vs v w' ∧ w.grownBy w' none) o.dst a0.defers) o w js a0) (h : LateR L late P ops n a0 F k (V :: Rs) os) : LateR L late P ops n a0 F (k + 1) Rs (o :: os) := ⟨V, js, hc, .inl ⟨hl, hf, hA⟩, h⟩
theorem LateR.turn {F : List (Qv L) → Prop} {k : Nat} {Rs : List (Qv L)} {o : Oper} {os : List Oper} (q : Nat) (js : List (Nat × Tmp)) (hc : (pairB ops Rs.length js && lookB ops n Rs.length js) = true) (hl : late[q]? = some Rs.length) (hA : ∀ vs w, vs.length = q → L.C vs w → Ask' P ops vs Rs.reverse (ToldL (fun v w' => L.R q w w' ∧ L.C (vs ++ [v]) w') o.dst a0.defers) o w js a0) (h : LateR L late P ops n a0 F k (Qv.slot q :: Rs) os) : LateR L late P ops n a0 F (k + 1) Rs (o :: os) := ⟨Qv.slot q, js, hc, .inr ⟨q, hl, rfl, hA⟩, h⟩
theorem LateR.out {F : List (Qv L) → Prop} : ∀ {k : Nat} {Rs : List (Qv L)} {os : List Oper}, LateR L late P ops n a0 F k Rs os → k ≤ os.length ∧ ∃ Ws : List (Qv L), Ws.length = k ∧ F (Rs.reverse ++ Ws) ∧ ∀ m o, m < k → os[m]? = some o → ∃ V js, Ws[m]? = some V ∧ (pairB ops (Rs.length + m) js && lookB ops n (Rs.length + m) js) = true ∧ AskL L late P ops ((Rs.reverse ++ Ws).take (Rs.length + m)) a0.defers (Rs.length + m) V o js a0
  | 0, Rs, os, h => ⟨Nat.zero_le _, [], rfl, by rw [List.append_nil]; exact h, fun m o hm => by omega⟩
  | _ + 1, _, [], h => h.elim
  | k + 1, Rs, o :: os, ⟨V, js, hb, hA, hM⟩ => by
    obtain ⟨hkl, Ws, hl, hF, hk⟩ := LateR.out hM
    refine ⟨by simpa using hkl, V :: Ws, by simp [hl], by simpa using hF, fun m o' hm ho => ?_⟩
    cases m with
    | zero =>
      obtain rfl : o = o' := by simpa using ho
      refine ⟨V, js, rfl, hb, ?_⟩
      have : (Rs.reverse ++ V :: Ws).take (Rs.length + 0) = Rs.reverse := by
        rw [Nat.add_zero, ← List.length_reverse]
        exact List.take_left
      rw [this]
      exact hA
    | succ m =>
      obtain ⟨V', js', h1, h2, h3⟩ := hk m o' (by omega) (by simpa using ho)
      refine ⟨V', js', by simpa using h1, ?_, ?_⟩
      · simpa [Nat.add_assoc, Nat.add_comm 1 m] using h2
      · simpa [Nat.add_assoc, Nat.add_comm 1 m] using h3
def FinL' (G : Act → World → Prop) (vs : List Value) (w : World) : List (Qv L) → List Oper → Act → Prop
  | V :: Vs, o :: os, a => ∀ x, V.p vs x w → FinL' G vs w Vs os (a.put o.dst x)
  | _, _, a => G a w
theorem FinL'.all {G : Act → World → Prop} {vs : List Value} {w : World} {b : Act} : ∀ {Vs : List (Qv L)} {os : List Oper} {a : Act}, Vs.length = os.length → (∀ (k : Nat) (V : Qv L) (o : Oper), Vs[k]? = some V → os[k]? = some o → V.p vs (match o.dst with | some d => b.eval (.tmp d) | none => undef) w) → FinL' G vs w Vs os a → G (onto b (os.map (·.dst)) a) w
  | [], [], _, _, _, h => h
  | V :: Vs, o :: os, a, hl, hx, h => FinL'.all (Vs := Vs) (os := os) (by simpa using hl) (fun k V o hv ho => hx (k + 1) V o (by simpa using hv) (by simpa using ho)) (h _ (hx 0 V o rfl rfl))
  | [], _ :: _, _, hl, _, _ => by simp at hl
  | _ :: _, [], _, hl, _, _ => by simp at hl
theorem Ask'.all {vs : List Value} {Vs : List (Qv L)} {Qt : Exit → Act → World → Prop} {o : Oper} {w : World} {b : Act} : ∀ {js : List (Nat × Tmp)} {a : Act}, (∀ x : Nat × Tmp, x ∈ js → (Vs.getD x.1 Qv.any).p vs (b.eval (.tmp x.2)) w) → Ask' P ops vs Vs Qt o w js a → wpList P ops Qt [o] (onto b (js.map fun x => some x.2) a) w
  | [], _, _, h => h
  | (j, d) :: js, a, hx, h => Ask'.all (js := js) (fun x hm => hx x (List.mem_cons_of_mem _ hm)) (h _ (hx (j, d) (by simp)))
/-- Which late operations are over: the first k. -/
def Cls (L : Lt) (late : List Nat) (vs : List Value) (D : Array Bool) (w : World) : Prop := vs.length ≤ late.length ∧ L.C vs w ∧ ∀ q i, late[q]? = some i → (D.getD i false = true ↔ q < vs.length)
structure LInv (L : Lt) (late : List Nat) (ops : Array Oper) (n : Nat) (a0 : Act) (Vs : List (Qv L)) (vs : List Value) (D : Array Bool) (a : Act) (w : World) : Prop where
  head : HeadInv .any ops n D
  cls : Cls L late vs D w
  tsize : a.tmps.size = a0.tmps.size
  defers : a.defers = a0.defers
  rest : ∀ t, (∀ j, j < n → D.getD j false = true → dstAt ops j ≠ some t) → a.tmps[t]? = a0.tmps[t]?
  known : ∀ j V, D.getD j false = true → Vs[j]? = some V → V.p vs (valOf (dstAt ops j) a) w
theorem toldL_letsOut {T : Value → World → Prop} {dst : Option Tmp} {ds : List Deferred} : ¬ LetsOut (ToldL T dst ds) := by
  rintro ⟨a, w', e, _⟩
  cases e
def chainB (ops : Array Oper) (late : List Nat) : Bool := (List.range (late.length - 1)).all fun q => Region.waitsFor .any ops (late.getD (q + 1) 0) (late.getD q 0)
def lateB (ops : Array Oper) (n : Nat) (late : List Nat) : Bool := late.all (fun i => decide (i < n)) && decide late.Nodup && chainB ops late
theorem toldL_op {T : Value → World → Prop} {o : Oper} {a b : Act} {w : World} (hs : ∀ cs b, o.op ≠ .select cs b) (hd : ∀ d, o.dst = some d → d < a.tmps.size) (hsz : b.tmps.size = a.tmps.size) (hlook : ∀ t ∈ o.looksAt ops, b.tmps[t]? = a.tmps[t]?) {i : Nat} (hi : ops[i]? = some o)
    (hdf : b.defers = a0.defers) (h : wpList P ops (ToldL T o.dst a0.defers) [o] b w) : wpOp P ops Q i (fun a' w' => ∃ v, a' = a.put o.dst v ∧ T (match o.dst with | some _ => v | none => undef) w') a w := by
  have hex : execOp b.eval o = execOp a.eval o := execOp_congr o hs fun x hx => by
    cases x with
    | tmp t => exact eval_of _ _ _ (hlook t (List.mem_append_left _ (List.mem_filterMap.2 ⟨.tmp t, by simpa using hx, rfl⟩)))
    | _ => rfl
  have hwn : Region.wanted o (yielded ops b.tmps) = Region.wanted o (yielded ops a.tmps) := by
    unfold Region.wanted
    cases hg : o.guard with
    | none => rfl
    | some gw =>
      obtain ⟨g, want⟩ := gw
      have hy : yielded ops b.tmps g = yielded ops a.tmps g := by
        unfold yielded
        cases ht : (ops[g]?).bind (·.dst) with
        | none => rfl
        | some t => simp only [Option.bind_some, hlook t (by simp [Oper.looksAt, hg, ht])]
      simp only [hy]
  have fin : ∀ v w', ToldL T o.dst a0.defers .normal (b.put o.dst v) w' → ∃ v', a.put o.dst v = a.put o.dst v' ∧ T (match o.dst with | some _ => v' | none => undef) w' := by
    rintro v w' ⟨_, _, h1⟩
    refine ⟨v, rfl, ?_⟩
    cases hdd : o.dst with
    | none => rw [hdd] at h1; exact h1
    | some d =>
      rw [hdd] at h1
      have hlt := hd d hdd
      have : (b.put (some d) v).eval (.tmp d) = v := by simp [Act.put, Act.eval, Array.getD_eq_getD_getElem?, hsz, hlt]
      simp only [this] at h1
      exact h1
  unfold wpOp
  simp only [hi]
  simp only [wpList, hwn] at h
  split
  · rename_i hw
    rw [if_pos hw] at h
    rcases h with h | h
    · left
      unfold Oper.wp at h ⊢
      rw [hex] at h
      generalize (execOp a.eval o).run P w = r at *
      cases r with
      | ok x w' =>
        cases x with
        | value v => exact fin v w' h
        | skip => exact fin undef w' h
        | enter f args =>
          refine Calls.mono h fun e w'' he => ?_
          cases e with
          | returned u => exact fin u w'' he
          | panicked c => exact absurd he.1 (by simp)
          | outgrown => exact absurd he toldL_letsOut
        | row row args => exact Rows.mono h fun u w'' he => fin u w'' he
        | defer d =>
          obtain ⟨_, h1, _⟩ := h
          have h1 : (Act.put { b with defers := d :: b.defers } o.dst undef).defers = a0.defers := h1
          rw [put_defers, ← hdf] at h1
          exact absurd (congrArg List.length h1) (by simp)
        | _ => exact h.elim
      | halt x w' =>
        cases x with
        | panic v => exact absurd h.1 (by simp)
        | _ => exact h.elim
    · exact absurd h.2 toldL_letsOut
  · rename_i hw
    rw [if_neg hw] at h
    exact fin undef w h
theorem linv_step {L : Lt} {late : List Nat} {vs vs2 : List Value} {Vs : List (Qv L)} {D : Array Bool} {a a' : Act} {w w' : World} {i : Nat} {o : Oper} {V : Qv L} {v : Value} (inv : LInv L late ops n a0 Vs vs D a w) (hd : distB ops n a0.tmps.size = true) (hi : i ∈ Region.ready .any ops D) (hin : i < n) (ho : ops[i]? = some o) (hV : Vs[i]? = some V) (hnl : Vs.length ≤ n)
    (ha : a' = a.put o.dst v) (hv : V.p vs2 (match o.dst with | some _ => v | none => undef) w') (hg : ∀ (W : Qv L) (j : Nat), D.getD j false = true → Vs[j]? = some W → ∀ {u : Value}, W.p vs u w → W.p vs2 u w') (hcl : Cls L late vs2 (D.setIfInBounds i true) w') : LInv L late ops n a0 Vs vs2 (D.setIfInBounds i true) a' w' := by
  subst ha
  have hdi : dstAt ops i = o.dst := by simp [dstAt, ho]
  have hun : D.getD i true = false := (mem_ready.1 hi).1
  have hlt : i < D.size := by
    rcases Nat.lt_or_ge i D.size with h' | h'
    · exact h'
    · simp [Array.getElem?_eq_none h'] at hun
  refine ⟨inv.head.set hi hin, hcl, (put_size _ _ _).trans inv.tsize, (put_defers _ _ _).trans inv.defers, fun t ht => ?_, fun j W hj hW => ?_⟩
  · have h1 : o.dst ≠ some t := fun e => ht i hin (by simp [hlt]) (hdi.trans e)
    refine Eq.trans ?_ (inv.rest t fun j hj hD => ht j hj (getD_set_true hD))
    cases hdd : o.dst with
    | none => rfl
    | some d => exact put_at _ _ _ _ (fun e => h1 (by rw [hdd, e]))
  · by_cases e : i = j
    · subst e
      obtain rfl : V = W := Option.some.inj (hV.symm.trans hW)
      rw [hdi]
      cases hdd : o.dst with
      | none => rw [hdd] at hv; exact hv
      | some d =>
        rw [hdd] at hv
        have hds := list_all_range hd hin
        rw [hdi, hdd] at hds
        simp only [Bool.and_eq_true, decide_eq_true_eq] at hds
        have : (a.put (some d) v).eval (.tmp d) = v := by simp [Act.put, Act.eval, Array.getD_eq_getD_getElem?, inv.tsize, hds.1]
        show V.p vs2 ((a.put (some d) v).eval (.tmp d)) w'
        rw [this]
        exact hv
    · have hjn : j < n := by have := (List.getElem?_eq_some_iff.1 hW).1; omega
      rw [getD_set_ne false e] at hj
      have h1 := hg W j hj hW (inv.known j W hj hW)
      cases hdj : dstAt ops j with
      | none => rw [hdj] at h1; exact h1
      | some dj =>
        rw [hdj] at h1
        have h1 : W.p vs2 (a.eval (.tmp dj)) w' := h1
        show W.p vs2 ((a.put o.dst v).eval (.tmp dj)) w'
        cases hdd : o.dst with
        | none => exact h1
        | some d =>
          have hds := list_all_range hd hin
          rw [hdi, hdd] at hds
          simp only [Bool.and_eq_true, decide_eq_true_eq] at hds
          have h2 := list_all_range hds.2 hjn
          simp only [Bool.or_eq_true, beq_iff_eq, bne_iff_ne, ne_eq] at h2
          have h3 : d ≠ dj := fun e' => (h2.resolve_left (fun e2 => e e2.symm)) (by rw [hdj, e'])
          rw [eval_of _ a dj (put_at a d dj v h3)]
          exact h1
/-- The law. -/
theorem wpAny_late {l : List Oper} (n : Nat) (hB : monoB l.toArray n a0.tmps.size = true) (hBl : lateB l.toArray n late = true) (hC0 : L.C [] w0)
    (h : LateR L late P l.toArray n a0 (fun Vs => ∀ vs w, vs.length = late.length → L.C vs w → FinL' (fun a w => wpList P l.toArray Q (l.drop n) a w) vs w Vs (l.take n) a0) n [] l) : wpAny P .any l.toArray Q l.toArray.size (Array.replicate l.toArray.size false) a0 w0 := by
  simp only [monoB, Bool.and_eq_true, decide_eq_true_eq] at hB
  obtain ⟨⟨⟨⟨hsel, hn⟩, htail⟩, htopo⟩, hdist⟩ := hB
  simp only [tailB, Bool.and_eq_true] at htail
  obtain ⟨hblk, hseq⟩ := htail
  simp only [lateB, Bool.and_eq_true, decide_eq_true_eq] at hBl
  obtain ⟨⟨hlt0, hnd⟩, hch⟩ := hBl
  have hlate : ∀ i ∈ late, i < n := fun i hi => by simpa using List.all_eq_true.1 hlt0 i hi
  have hchain : ∀ q, q + 1 < late.length → ∀ i, late[q + 1]? = some i → ∀ i', late[q]? = some i' → Region.waitsFor .any l.toArray i i' = true := fun q hq i h1 i' h2 => by
    have := list_all_range hch (show q < late.length - 1 by omega)
    rw [List.getD_eq_getElem?_getD, List.getD_eq_getElem?_getD, h1, h2] at this
    exact this
  obtain ⟨_, Vs, hVl, hF, hO⟩ := LateR.out h
  rw [List.reverse_nil, List.nil_append] at hF
  simp only [List.reverse_nil, List.nil_append, List.length_nil, Nat.zero_add] at hO
  have hnl : n ≤ l.length := by simpa using hn
  have htl : (l.take n).length = n := by simp; omega
  have hVn : Vs.length = n := hVl
  have hfr : ∀ j W, Vs[j]? = some W → (late.contains j = false ∧ W.fr = 0) ∨ ∃ q, late[q]? = some j ∧ W.fr ≤ q + 1 := fun j W hW => by
    have hj : j < n := by have := (List.getElem?_eq_some_iff.1 hW).1; omega
    obtain ⟨V, js, hV, _, hask⟩ := hO j l[j] hj (List.getElem?_eq_getElem (by omega))
    obtain rfl : V = W := Option.some.inj (hV.symm.trans hW)
    rcases hask with ⟨h1, h2, _⟩ | ⟨q, h1, h2, _⟩
    · exact .inl ⟨h1, h2⟩
    · exact .inr ⟨q, h1, by rw [h2]; exact Nat.le_refl _⟩
  have hdl : (l.drop n).length = l.toArray.size - n := by simp
  have hnext : ∀ i o, i < n → l.toArray[i]? = some o → (l.take n)[i]? = some o := fun i o hi ho => by
    rw [List.getElem?_take, if_pos hi]
    simpa using ho
  have key : ∀ m vs D a w, LInv L late l.toArray n a0 Vs vs D a w → cnt D n = m → wpAny P .any l.toArray Q (m + (l.toArray.size - n)) D a w := by
    intro m
    induction m with
    | zero =>
      intro vs D a w inv hc
      have hall := cnt_zero hc
      have hD : D = Array.replicate n true ++ Array.replicate (l.toArray.size - n) false := by
        have hsz := inv.head.size
        refine Array.ext (by simp [hsz]; omega) fun i h1 h2 => ?_
        rw [Array.getElem_append]
        by_cases hi : i < n
        · have := hall i hi
          simp [h1] at this
          simp [hi, this]
        · have := inv.head.tail i (by omega) (by omega)
          simp [h1] at this
          simp [hi, this]
      have hk : ∀ (k : Nat) (V : Qv L) (o : Oper), Vs[k]? = some V → (l.take n)[k]? = some o → V.p vs (match o.dst with | some d => a.eval (.tmp d) | none => undef) w := by
        intro k V o hv ho
        have hkn : k < n := by have := (List.getElem?_eq_some_iff.1 hv).1; omega
        have h1 := inv.known k V (hall k hkn) hv
        have h2 : dstAt l.toArray k = o.dst := by
          have : l[k]? = some o := by rw [List.getElem?_take, if_pos hkn] at ho; exact ho
          simp [dstAt, this]
        rw [h2] at h1
        have h3 : (match o.dst with | some d => a.eval (.tmp d) | none => undef) = valOf o.dst a := by cases o.dst <;> rfl
        rw [h3]
        exact h1
      have hcl : vs.length = late.length ∧ L.C vs w := by
        obtain ⟨hk0, hk1, hk2⟩ := inv.cls
        rcases Nat.lt_or_ge vs.length late.length with h | h
        case inr => exact ⟨by omega, hk1⟩
        · have h1 := (hk2 vs.length late[vs.length] (List.getElem?_eq_getElem h)).1 (hall _ (hlate _ (List.getElem_mem h)))
          omega
      have hfin := FinL'.all (hVl.trans htl.symm) hk (hF vs w hcl.1 hcl.2)
      have hon : onto a ((l.take n).map (·.dst)) a0 = a := by
        refine act_ext (fun t => onto_at a t _ _ inv.tsize.symm ?_) ((onto_defers _ _ _).trans inv.defers.symm)
        by_cases ht : some t ∈ (l.take n).map (·.dst)
        · exact .inl ht
        · refine .inr (inv.rest t fun j hj _ e => ht ?_).symm
          have hjl : j < l.length := by omega
          have : l[j].dst = some t := by simpa [dstAt, hjl] using e
          exact List.mem_map.2 ⟨l[j], List.mem_iff_getElem?.2 ⟨j, by rw [List.getElem?_take, if_pos hj, List.getElem?_eq_getElem hjl]⟩, this⟩
      rw [hon] at hfin
      have := wpAny_of_seq (md := .any) (Q' := Q) (l.drop n) n D a w (fun j => by simp [List.getElem?_drop]) (by rw [hdl, hD]; exact hseq) hfin
      rw [hdl] at this
      rwa [Nat.zero_add]
    | succ m ih =>
      intro vs D a w inv hc
      have hready : ∀ i ∈ Region.ready .any l.toArray D, i < n := by
        intro i hi
        rcases Nat.lt_or_ge i n with h' | h'
        · exact h'
        · obtain ⟨hu, oi, hoi, hall⟩ := mem_ready.1 hi
          have hlt : i < l.toArray.size := (Array.getElem?_eq_some_iff.1 hoi).1
          exfalso
          obtain ⟨k, hk, hkd⟩ : ∃ k, k < n ∧ D.getD k false = false := by
            refine Classical.byContradiction fun hno => ?_
            have : ∀ k, k ≤ n → cnt D k = 0 := by
              intro k
              induction k with
              | zero => intro _; rfl
              | succ k ihk =>
                intro hk
                have h1 : D.getD k false = true := by
                  refine Classical.byContradiction fun hx => hno ⟨k, by omega, by simpa using hx⟩
                simp only [cnt, h1, ihk (by omega)]
                rfl
            rw [this n (Nat.le_refl _)] at hc
            omega
          have hb := list_all_range hblk hlt
          simp only [Bool.or_eq_true, decide_eq_true_eq] at hb
          have hb := list_all_range (hb.resolve_left (by omega)) hk
          simp only [Bool.not_eq_true'] at hb
          have hik : i ≠ k := by omega
          have : av l.toArray k n i = true := by
            have hav := fun f j hj => av_of (ops := l.toArray) inv.head.closed inv.head.size hkd f j hj
            cases hn0 : n with
            | zero => simp [av, hik]
            | succ f =>
              simp only [av, hoi, Option.map_some, Option.getD_some, Bool.and_eq_true, bne_iff_ne]
              refine ⟨hik, ?_⟩
              rw [Array.all_eq_true_iff_forall_mem]
              intro e he
              by_cases hbd : Region.binds .any e = true
              · simp [hbd, hav f e.on (hall e he hbd)]
              · simp [hbd]
          rw [hb] at this
          cases this
      have hne : Region.ready .any l.toArray D ≠ [] := by
        have hex : ∃ k, k < n ∧ D.getD k false = false ∧ ∀ j, j < k → D.getD j false = true := by
          have : ∀ k, k ≤ n → (∃ q, q < k ∧ D.getD q false = false ∧ ∀ j, j < q → D.getD j false = true) ∨ (cnt D k = 0) := by
            intro k
            induction k with
            | zero => intro _; exact .inr rfl
            | succ k ihk =>
              intro hk
              rcases ihk (by omega) with ⟨q, h1, h2⟩ | h0
              · exact .inl ⟨q, by omega, h2⟩
              · cases hq : D.getD k false with
                | true => right; simp only [cnt, hq, h0]; rfl
                | false => exact .inl ⟨k, by omega, hq, cnt_zero h0⟩
          rcases this n (Nat.le_refl _) with ⟨q, h1, h2⟩ | h0
          · exact ⟨q, h1, h2⟩
          · omega
        obtain ⟨k, hk, hkd, hbel⟩ := hex
        have hkl : k < l.toArray.size := by omega
        have ho : l.toArray[k]? = some l.toArray[k] := Array.getElem?_eq_getElem hkl
        have : k ∈ Region.ready .any l.toArray D := by
          refine mem_ready.2 ⟨getD_in (by rw [inv.head.size]; exact hkl) hkd, _, ho, fun e he hb => hbel _ ?_⟩
          have ht := list_all_range htopo hk
          simp only [ho, Option.map_some, Option.getD_some] at ht
          have := Array.all_eq_true_iff_forall_mem.1 ht e he
          simpa [hb] using this
        intro e
        rw [e] at this
        cases this
      rw [show m + 1 + (l.toArray.size - n) = (m + (l.toArray.size - n)) + 1 by omega]
      refine ⟨fun e => absurd e hne, fun i hi => ?_⟩
      have hin := hready i hi
      obtain ⟨hu, o, ho, hall⟩ := mem_ready.1 hi
      obtain ⟨V, js, hV, hchk, hask⟩ := hO i o hin (by simpa using ho)
      simp only [Bool.and_eq_true] at hchk
      obtain ⟨hpair, hlook⟩ := hchk
      have hdst : ∀ d, o.dst = some d → d < a.tmps.size := by
        intro d hd
        have := list_all_range hdist hin
        have h2 : dstAt l.toArray i = some d := by simp only [dstAt, ho]; exact hd
        rw [h2] at this
        simp only [Bool.and_eq_true, decide_eq_true_eq] at this
        rw [inv.tsize]
        exact this.1
      have hjs : ∀ x : Nat × Tmp, x ∈ js → dstAt l.toArray x.1 = some x.2 ∧ D.getD x.1 false = true ∧ x.1 < i := by
        intro x hx
        have := List.all_eq_true.1 hpair x hx
        simp only [Bool.and_eq_true, beq_iff_eq] at this
        obtain ⟨oj, hoj, e, he, hb, hon⟩ := Region.waitsFor_spec this.2
        obtain rfl : o = oj := Option.some.inj (ho.symm.trans hoj)
        have ht := list_all_range htopo hin
        simp only [ho, Option.map_some, Option.getD_some] at ht
        have ht := Array.all_eq_true_iff_forall_mem.1 ht e he
        simp only [hb, Bool.not_true, Bool.false_or, decide_eq_true_eq] at ht
        exact ⟨this.1, by rw [← hon]; exact hall e he hb, by rw [← hon]; exact ht⟩
      have hget : ∀ x : Nat × Tmp, x ∈ js → ((Vs.take i).getD x.1 Qv.any).p vs (a.eval (.tmp x.2)) w := fun x hx => by
        obtain ⟨h1, h2, h3⟩ := hjs x hx
        have hxl : x.1 < Vs.length := by omega
        have h4 : Vs[x.1]? = some Vs[x.1] := List.getElem?_eq_getElem hxl
        have h5 := inv.known x.1 _ h2 h4
        rw [h1] at h5
        have : (Vs.take i).getD x.1 Qv.any = Vs[x.1] := by
          rw [List.getD_eq_getElem?_getD, List.getElem?_take, if_pos h3, h4]
          rfl
        rw [this]
        exact h5
      obtain ⟨hk0, hk1, hk2⟩ := inv.cls
      have hlk : ∀ t ∈ o.looksAt l.toArray, (onto a (js.map fun x => some x.2) a0).tmps[t]? = a.tmps[t]? := fun t ht => by
        refine onto_at a t _ _ inv.tsize.symm ?_
        have h1 : (o.looksAt l.toArray).all (fun t => js.any (·.2 == t) || keptB l.toArray n i t) = true := by
          simpa only [lookB, ho, Option.map_some, Option.getD_some] using hlook
        have h2 := List.all_eq_true.1 h1 t ht
        simp only [Bool.or_eq_true] at h2
        rcases h2 with h2 | h2
        · left
          obtain ⟨x, hx, hxt⟩ := List.any_eq_true.1 h2
          exact List.mem_map.2 ⟨x, hx, by rw [beq_iff_eq.1 hxt]⟩
        · right
          refine (inv.rest t fun j hj hD e => ?_).symm
          have h3 := list_all_range h2 hj
          simp only [Bool.or_eq_true, bne_iff_ne, ne_eq, beq_iff_eq] at h3
          rcases h3 with (h3 | h3) | h3
          · exact h3 e
          · obtain ⟨oj, hoj, e', he', hb', hon⟩ := Region.waitsFor_spec h3
            have := inv.head.closed j oj hoj hD e' he' hb'
            rw [hon, getD_both hu] at this
            cases this
          · subst h3
            rw [getD_both hu] at hD
            cases hD
      obtain ⟨T, hA, hS⟩ : ∃ T : Value → World → Prop, Ask' P l.toArray vs (Vs.take i) (ToldL T o.dst a0.defers) o w js a0 ∧ (∀ v w', T v w' → ∃ vs2, V.p vs2 v w' ∧ (∀ (W : Qv L) (j : Nat), D.getD j false = true → Vs[j]? = some W → ∀ {u : Value}, W.p vs u w → W.p vs2 u w') ∧ Cls L late vs2 (D.setIfInBounds i true) w') := by
        rcases hask with ⟨hnl', _, hA⟩ | ⟨q, hq, hVq, hA⟩
        · have hne : ∀ q i', late[q]? = some i' → i ≠ i' := fun q i' hq e => by
            subst e
            have := List.contains_iff_mem.2 (List.mem_of_getElem? hq)
            rw [hnl'] at this
            cases this
          exact ⟨_, hA vs w hk1, fun v w' hg => ⟨vs, hg.1, fun W j _ _ _ hp => W.st hp hg.2, hk0, L.g hk1 hg.2, fun q i' hq => by rw [getD_set_ne false (hne q i' hq)]; exact hk2 q i' hq⟩⟩
        · have hDi : D.getD i false = false := getD_both hu
          have h1 : ¬ q < vs.length := fun h => by have := (hk2 q i hq).2 h; rw [hDi] at this; cases this
          have h2 : q ≤ vs.length := by
            cases q with
            | zero => omega
            | succ q =>
              have hql : q < late.length := by have := (List.getElem?_eq_some_iff.1 hq).1; omega
              have hw := hchain q (by have := (List.getElem?_eq_some_iff.1 hq).1; omega) i hq late[q] (List.getElem?_eq_getElem hql)
              obtain ⟨oj, hoj, e, he, hb, hon⟩ := Region.waitsFor_spec hw
              obtain rfl : o = oj := Option.some.inj (ho.symm.trans hoj)
              have h3 := hall e he hb
              rw [hon] at h3
              have := (hk2 q _ (List.getElem?_eq_getElem hql)).1 h3
              omega
          obtain rfl : q = vs.length := by omega
          refine ⟨_, hA vs w rfl hk1, fun v w' hg => ⟨vs ++ [v], (by rw [hVq]; show (vs ++ [v])[vs.length]? = some v; simp), fun W j hj hW _ hp => W.sr ?_ hk1 hg.1 hp, by rw [List.length_append]; exact (List.getElem?_eq_some_iff.1 hq).1, hg.2, fun q' i' hq' => ?_⟩⟩
          · rcases hfr j W hW with ⟨_, h4⟩ | ⟨q', hq', h4⟩
            · rw [h4]; exact Nat.zero_le _
            · have := (hk2 q' j hq').1 hj
              omega
          · by_cases e : i = i'
            · subst e
              have hqq : q' = vs.length := by
                have h5 := (List.getElem?_eq_some_iff.1 hq').1
                skip
                exact (List.getElem?_inj h5 hnd).1 (hq'.trans hq.symm)
              have hlt : i < D.size := by
                rw [inv.head.size]
                exact (Array.getElem?_eq_some_iff.1 ho).1
              simp [hlt, hqq]
            · rw [getD_set_ne false e, hk2 q' i' hq']
              have : q' ≠ vs.length := fun e' => e (by rw [e', hq] at hq'; exact Option.some.inj hq')
              simp only [List.length_append, List.length_singleton]
              omega
      have hW := Ask'.all (b := a) hget hA
      have hop := toldL_op (Q := Q) (ops := l.toArray) (a0 := a0) (a := a) (Region.noSelect_spec hsel i o · · ho) hdst ((onto_size _ _ _).trans inv.tsize.symm) hlk ho (onto_defers _ _ _) hW
      refine wpOp_mono (fun a' w' hk => ?_) hop
      obtain ⟨v, ha, hT⟩ := hk
      obtain ⟨vs2, hv, hs, hcl⟩ := hS _ w' hT
      exact ih vs2 _ a' w' (linv_step inv hdist hi hin ho hV (by omega) ha hv hs hcl) (by have := (cnt_set (D := D) (i := i) n).2 hin hu; omega)
  have h0 := key n [] (Array.replicate l.toArray.size false) a0 w0 ⟨⟨by simp, (fun j oj _ hD => by rw [getD_replicate_false] at hD; cases hD), fun t _ ht => by simp only [List.size_toArray] at ht ⊢; simp [ht]⟩, ⟨Nat.zero_le _, hC0, fun q i hq => by rw [getD_replicate_false]; simp⟩, rfl, rfl, fun _ _ => rfl, (fun j V hD => by rw [getD_replicate_false] at hD; cases hD)⟩ (cnt_false _ n)
  rwa [show n + (l.toArray.size - n) = l.toArray.size by omega] at h0
/-- One operation that is carried out .. -/
theorem askl_do {T : Value → World → Prop} {ds : List Deferred} {o : Oper} {a : Act} {w : World} (hw : Region.wanted o (yielded ops a.tmps) = true)
    (h : ∀ K' : Act → World → Prop, (∀ a' w', a'.defers = ds → T (match o.dst with | some d => a'.eval (.tmp d) | none => undef) w' → K' a' w') → o.wp P a w K' (ToldL T o.dst ds)) : wpList P ops (ToldL T o.dst ds) [o] a w := by
  unfold wpList
  rw [if_pos hw]
  exact .inl (h _ fun a' w' h1 h2 => ⟨rfl, h1, h2⟩)
/-- .. or is not. -/
theorem askl_skip {T : Value → World → Prop} {ds : List Deferred} {o : Oper} {a : Act} {w : World} (hw : Region.wanted o (yielded ops a.tmps) = false) (h1 : (a.put o.dst undef).defers = ds) (h2 : T (match o.dst with | some d => (a.put o.dst undef).eval (.tmp d) | none => undef) w) : wpList P ops (ToldL T o.dst ds) [o] a w := by
  unfold wpList
  rw [if_neg (by rw [hw]; simp)]
  exact ⟨rfl, h1, h2⟩
/-- What is behind them. -/
def FinL (P : Program) (ops : Array Oper) (Q : Exit → Act → World → Prop) (vs : List Value) (w : World) : List (Qv L) → List Oper → Act → Prop
  | V :: Vs, o :: os, a => ∀ x, V.p vs x w → FinL P ops Q vs w Vs os (a.put o.dst x)
  | _, os, a => wpList P ops Q os a w
theorem FinL.cut {vs : List Value} {w : World} : ∀ {Vs : List (Qv L)} {os : List Oper} {a : Act}, Vs.length ≤ os.length → FinL P ops Q vs w Vs os a → FinL' (fun a w => wpList P ops Q (os.drop Vs.length) a w) vs w Vs (os.take Vs.length) a
  | [], os, a, _, h => by
    have h : wpList P ops Q os a w := by cases os <;> exact h
    exact h
  | V :: Vs, [], a, hl, _ => by simp at hl
  | V :: Vs, o :: os, a, hl, h => fun x hx => FinL.cut (Vs := Vs) (os := os) (by simpa using hl) (h x hx)
theorem LateR.weak {F G : List (Qv L) → Prop} : ∀ {k : Nat} {Rs : List (Qv L)} {os : List Oper}, LateR L late P ops n a0 F k Rs os → (∀ Ws, Ws.length = Rs.length + k → F Ws → G Ws) → LateR L late P ops n a0 G k Rs os
  | 0, Rs, _, h, hg => hg _ (by simp) h
  | _ + 1, _, [], h, _ => h.elim
  | k + 1, Rs, o :: os, ⟨V, js, hb, hA, hM⟩, hg => ⟨V, js, hb, hA, LateR.weak hM fun Ws hW => hg Ws (by simp at hW ⊢; omega)⟩
theorem wpAny_lateR {l : List Oper} (n : Nat) (hB : monoB l.toArray n a0.tmps.size = true) (hBl : lateB l.toArray n late = true) (hC0 : L.C [] w0)
    (h : LateR L late P l.toArray n a0 (fun Vs => ∀ vs w, vs.length = late.length → L.C vs w → FinL P l.toArray Q vs w Vs l a0) n [] l) : wpAny P .any l.toArray Q l.toArray.size (Array.replicate l.toArray.size false) a0 w0 := by
  refine wpAny_late n hB hBl hC0 (LateR.weak h fun Ws hW hF vs w hvl hw => ?_)
  have hn := (LateR.out h).1
  have hl : Ws.length = n := by simpa using hW
  have := FinL.cut (by rw [hl]; exact hn) (hF vs w hvl hw)
  rwa [hl] at this
theorem wp_region_late {l : List Oper} {id : Nat} (L : Lt) (late : List Nat) (n : Nat) (hm : P.follows .mixedOrders = true) (hB : monoB l.toArray n a0.tmps.size = true) (hBl : lateB l.toArray n late = true) (hC0 : L.C [] w0.drew)
    (h : LateR L late P l.toArray n a0 (fun Vs => ∀ vs w, vs.length = late.length → L.C vs w → FinL P l.toArray Q vs w Vs l a0) n [] l) : (Code.region id l.toArray true).wp P Q a0 w0 :=
  wp_region_any hm (wpAny_lateR n hB hBl hC0 h)
end
end Go.Proofs.YtonkbmknanpchaaDoor

namespace Go.Proofs.YtonkbmknanpchaaDoor
open Go Go.RowKit Go.Shelf

attribute [local go_sem] Oper.semAt_some
theorem info_i64 : (Tryd.prog.info? 2).map (fun i => (i.zero, i.size, i.bytes)) = some (some (.int .i64 0), 1, 8) := by kernel_rfl
/-- Two lists built side by side. -/
structure Side {α β : Type} (E : Enc α) (F : Enc β) (base : Nat) (e f : TypeId) (Z : Nat → Prop) (w : World) (v u : Value) (xs : List α) (ys : List β) : Prop where
  fst : Acc E base e (fun g => Z g ∧ some g ≠ u.ownBlock) w v xs
  snd : Acc F base f (fun g => Z g ∧ some g ≠ v.ownBlock) w u ys
section
variable {α β : Type} {E : Enc α} {F : Enc β} {base : Nat} {e f : TypeId} {Z : Nat → Prop} {w w' : World} {v u v' u' : Value} {xs xs' : List α} {ys ys' : List β}
theorem Side.kept (h : Side E F base e f Z w v u xs ys) (hg : w.grownBy w' none) : Side E F base e f Z w' v u xs ys := ⟨h.fst.kept hg, h.snd.kept hg⟩
theorem Side.swap (h : Side E F base e f Z w v u xs ys) : Side F E base f e Z w u v ys xs := ⟨h.snd, h.fst⟩
theorem Side.one (h : Side E F base e f Z w v u xs ys) (ha : Acc E base e (fun g => Z g ∧ some g ≠ u.ownBlock) w' v' xs') (hg : w.grownBy w' v.ownBlock) (hm : Moved w v v') : Side E F base e f Z w' v' u xs' ys := by
  refine ⟨ha, ?_⟩
  have h1 : Acc F base f (fun g => (Z g ∧ some g ≠ v'.ownBlock) ∧ some g ≠ v.ownBlock) w u ys := h.snd.more fun g hg hx => ⟨⟨hx.1, fun e => hm.ne hg (fun e' => hx.2 e'.symm) e.symm⟩, hx.2⟩
  exact (h1.keep hg fun g hx => hx.2).more fun g _ hx => hx.1
theorem Side.two (h : Side E F base e f Z w v u xs ys) (ha : Acc F base f (fun g => Z g ∧ some g ≠ v.ownBlock) w' u' ys') (hg : w.grownBy w' u.ownBlock) (hm : Moved w u u') : Side E F base e f Z w' v u' xs ys' := (h.swap.one ha hg hm).swap
theorem Side.new1 (h : Side E F base e f Z w v u xs ys) (hZ : ∀ g, w.heap.size ≤ g → Z g) : ∀ g, w.heap.size ≤ g → Z g ∧ some g ≠ u.ownBlock := fun g hg => ⟨hZ g hg, fun e => by have := (h.snd.lt g e.symm).2; omega⟩
theorem Side.new2 (h : Side E F base e f Z w v u xs ys) (hZ : ∀ g, w.heap.size ≤ g → Z g) : ∀ g, w.heap.size ≤ g → Z g ∧ some g ≠ v.ownBlock := fun g hg => ⟨hZ g hg, fun e => by have := (h.fst.lt g e.symm).2; omega⟩
end
/-- A number that is out of range. -/
def outB (p : Par) (x : Int) : Bool := decide (fixI x p.Q < wrap64 (-p.M)) || decide (fixI x p.Q > p.M)
/-- What is wrong with a model's secrets. -/
def modelE (p : Par) (l : List Int) : Int := if smallB p && decide (1 ≤ p.K ∧ 1 ≤ p.D) && (l.length : Int) == secretsI p then if l.any (outB p) then 20 else 0 else 4
def rowW (p : Par) (d : Nat) (r : List Int) : List Int := (r.take d).map fun x => fixI x p.Q
def rowB (p : Par) (d : Nat) (r : List Int) : Int := fixI (r[d]?.getD 0) p.Q
def modelW (p : Par) (l : List Int) : List (List Int) := if modelE p l = 0 then (chk (p.D + 1).toNat l p.K.toNat).map (rowW p p.D.toNat) else []
def modelB (p : Par) (l : List Int) : List Int := if modelE p l = 0 then (chk (p.D + 1).toNat l p.K.toNat).map (rowB p p.D.toNat) else []
/-- A call that told a model, and what is wrong. -/
def GivesM (Y : Nat → Prop) (w : World) (W : List (List Int)) (B : List Int) (n : Int) (e : Ending) (w' : World) : Prop := ∃ v u, e = .returned (.tuple #[.agg #[v, u], .int .i64 n]) ∧ Sl (encW encI) Y w' v W ∧ Sl encI Y w' u B ∧ (B ≠ [] → Wr Y w' u) ∧ w.grownBy w' none
theorem Side.keep {α β : Type} {E : Enc α} {F : Enc β} {base : Nat} {e f : TypeId} {Z : Nat → Prop} {w w' : World} {v u : Value} {xs : List α} {ys : List β} {row : Option Nat} (h : Side E F base e f Z w v u xs ys) (hg : w.grownBy w' row) (hZ : ∀ g, Z g → some g ≠ row) : Side E F base e f Z w' v u xs ys := ⟨h.fst.keep hg fun g hx => hZ g hx.1, h.snd.keep hg fun g hx => hZ g hx.1⟩
theorem Side.keepc {α β : Type} {E : Enc α} {F : Enc β} {base : Nat} {e f : TypeId} {Z : Nat → Prop} {w w' : World} {v u : Value} {xs : List α} {ys : List β} {row : Option Nat} (h : Side E F base e f Z w v u xs ys) (hg : w.grownBy w' row) (hr : ∀ r, row = some r → ∃ o : Obj, w.heap[r]? = some o ∧ o.isCells = false) : Side E F base e f Z w' v u xs ys := ⟨h.fst.keepc hg hr, h.snd.keepc hg hr⟩
theorem Wr.reslice {X : Nat → Prop} {w : World} {A : Option Addr} {n c n' c' : Nat} (h : Wr X w (.slice A n c)) : Wr X w (.slice A n' c') := by
  obtain ⟨g, o, _, _, e, h⟩ := h
  injection e with e1 _ _
  subst e1
  exact ⟨g, o, n', c', rfl, h⟩
theorem cellK {w w' : World} {g o : Nat} {u : Value} {row : Option Nat} (h : w.cell? ⟨g, o, none⟩ = some u) (hg : w.grownBy w' row) (hne : some g ≠ row) : w'.cell? ⟨g, o, none⟩ = some u := (World.cell?_of_block (w := w) (hg.block g (block_lt_of_cell h) hne)).trans h
/-- A slice of one thing in a block made since n. -/
def BlkQ (n : Nat) (t : TypeId) (u v : Value) (w : World) : Prop := ∃ b, v = .slice (some ⟨b, 0, none⟩) 1 1 ∧ n ≤ b ∧ Bk w b t #[u]
section
variable {base : Nat} {W wd w' w3 : World} {vW vB u v3 : Value} {g8 d : Nat} {bv : Int} {xsW : List (List Int)} {xsB : List Int} {yW : List Int}
end
theorem bkNe {W : World} {g : Nat} {t : TypeId} {u : Value} {cs : List Value} (h : Bk W g t (u :: cs).toArray) {row : Option Nat} (hr : ∀ r, row = some r → ∃ o : Obj, W.heap[r]? = some o ∧ o.isCells = false) : some g ≠ row := cell_ne (u := u) (by have := h.cell 0; simpa using this) hr
theorem grownSet (w : World) (g o : Nat) (v : Value) : w.grownBy (w.setCell ⟨g, o, none⟩ v) (some g) := ⟨rfl, rfl, rfl, by simp [World.setCell], fun k _ hne => Below.heap_setCell w ⟨g, o, none⟩ v k (fun e => hne (by rw [e]))⟩
theorem grownSetUp {w w1 : World} (h : w.grownBy w1 none) {g : Nat} (o : Nat) (v : Value) (hg : w.heap.size ≤ g) : w.grownBy (w1.setCell ⟨g, o, none⟩ v) none := grown_up h (grownSet w1 g o v) (fun k e => by injection e with e; omega)
theorem gives_noM {w w' : World} {W : List (List Int)} {B : List Int} {n k : Int} (h : n = k ∧ W = [] ∧ B = []) (hg : w.grownBy w' none) : GivesM (fun g => w.heap.size ≤ g) w W B n (.returned (.tuple #[.agg #[.slice none 0 0, .slice none 0 0], .int .i64 k])) w' := by
  obtain ⟨rfl, rfl, rfl⟩ := h
  exact ⟨_, _, rfl, Sl.nil _ _ _, Sl.nil _ _ _, fun h => absurd rfl h, hg⟩
abbrev noW (w w1 : World) (n : Int) : World := ((w1.setCell ⟨w.heap.size + 1, 0, none⟩ (.slice none 0 0)).setCell ⟨w.heap.size + 1, 1, none⟩ (.slice none 0 0)).setCell ⟨w.heap.size + 1 + 1, 0, none⟩ (.int .i64 n)
theorem noW_5 {w w1 : World} {a : Value} (h : Bk w1 (w.heap.size + 1 + 1) 31 #[a]) (n : Int) : Bk (noW w w1 n) (w.heap.size + 1 + 1) 31 #[.int .i64 n] := ((h.far (by simp) _).far (by simp) _).set 0 _
theorem noW_g {w w1 : World} (h : w.grownBy w1 none) (n : Int) : w.grownBy (noW w w1 n) none := grownSetUp (grownSetUp (grownSetUp h _ _ (by omega)) _ _ (by omega)) _ _ (by omega)
theorem Sl.shape {α : Type} {E : Enc α} {X : Nat → Prop} {w : World} {v : Value} {xs : List α} (h : Sl E X w v xs) : ∃ A n c, v = .slice A n c := by
  obtain ⟨A, c, e, _, _⟩ := h.form
  exact ⟨_, _, _, e⟩
theorem fixI_I64 (x q : Int) (hq : U64 q) : I64 (fixI x q) := by
  unfold fixI
  split
  · exact ⟨by decide, by decide⟩
  · cases hm : mayB q with
    | false =>
      have : addI x 0 q = 0 := by simp [addI, hm]
      rw [this]
      have h1 := hq.1
      split <;> constructor <;> omega
    | true =>
      have h1 := addI_bd x 0 q hm
      simp [mayB] at hm
      split <;> constructor <;> omega
theorem Acc.form0 {α : Type} {E : Enc α} {base : Nat} {e : TypeId} {X : Nat → Prop} {w : World} {v : Value} {xs : List α} (h : Acc E base e X w v xs) (hn : 0 < xs.length) : ∃ g c, v = .slice (some ⟨g, 0, none⟩) xs.length c ∧ base ≤ g ∧ g < w.heap.size ∧ xs.length ≤ c ∧ c ≤ 9223372036854775807 := by
  have hlt := h.lt
  obtain ⟨A, c, e0, hc1, hc2⟩ := h.sl.form
  obtain ⟨hb, css, h1, h2, h3⟩ := h
  rcases h3.2 with ⟨hv, h0⟩ | ⟨g, cap, cur, hv, _, hh, _⟩
  · omega
  · have hg := hlt g (by rw [hv]; rfl)
    rw [hv] at e0
    injection e0 with _ _ e3
    subst e3
    exact ⟨g, cap, hv, hg.1, hg.2, hc1, hc2⟩
def rowsOf {X : Nat → Prop} {w₀ : World} {l : List Int} {m : Nat} (pre : List (CK X w₀ l m)) : List (List Int) := pre.map fun x => x.1.2
theorem chk_flatten {α : Type} (m : Nat) : ∀ (k : Nat) (l : List α), 1 ≤ m → l.length = k * m → (chk m l k).flatten = l
  | 0, l, _, h => by
    have : l = [] := List.eq_nil_of_length_eq_zero (by omega)
    subst this
    rfl
  | k + 1, l, hm, h => by
    rw [chk_succ, List.flatten_append]
    have h1 : chk m l k = chk m (l.take (k * m)) k := by
      unfold chk
      refine List.map_congr_left fun j hj => ?_
      have hjk : j < k := List.mem_range.1 hj
      have h7 : (j + 1) * m ≤ k * m := Nat.mul_le_mul_right m hjk
      rw [Nat.add_mul, Nat.one_mul] at h7
      rw [List.drop_take, List.take_take]
      congr 1
      omega
    rw [Nat.add_mul, Nat.one_mul] at h
    rw [h1, chk_flatten m k (l.take (k * m)) hm (by rw [List.length_take]; omega)]
    simp only [List.flatten_cons, List.flatten_nil, List.append_nil]
    rw [List.take_of_length_le (l := l.drop (k * m)) (by rw [List.length_drop]; omega), List.take_append_drop]
end Go.Proofs.YtonkbmknanpchaaDoor

namespace Go.Proofs.YtonkbmknanpchaaDoor
open Go.RowKit

def Quietly (w : World) (v : Value) (e : Ending) (w' : World) : Prop := e = .returned v ∧ ∃ n, w' = w.drewN n

set_option maxHeartbeats 400000 in
theorem nums_eq (v1 v2 : Value) (xs : List Int) (X Y : Nat → Prop) (w : World) (h1 : Sl encU X w v1 xs) (h2 : Sl encU Y w v2 xs) :
    Calls Tryd.prog 16 #[v1, v2] w (Quietly w (.bool true)) := by
  have H1 := Lib.hid h1
  have H2 := Lib.hid h2
  obtain ⟨A1, c1, rfl, hc1, hc2⟩ := h1.form
  obtain ⟨A2, c2, rfl, _, _⟩ := h2.form
  clear h1 h2
  have HST : Hid (∃ n, w = w.drewN n) := Lib.hid ⟨0, rfl⟩
  go_enter Tryd.func16, Tryd.ntmps16
  go_wp2_with fail
  go_loopg [5] xs.length (fun g s5 wx => ∃ j : Nat, j + g = xs.length ∧ s5 = .int .i64 j ∧ Hid (∃ n, wx = w.drewN n))
  case atStart => exact ⟨0, by omega, rfl, HST⟩
  case round =>
    obtain ⟨j, hj, rfl, HX⟩ := hrel
    obtain ⟨n0, rfl⟩ := HX.out
    cases gk with
    | zero =>
      obtain rfl : j = xs.length := by omega
      clear HX HST
      go_wp2
      go_ret
      exact ⟨rfl, _, rfl⟩
    | succ m =>
      have hjn : (j : Int) < (xs.length : Int) := by omega
      have hj0 : (0 : Int) ≤ (j : Int) := by omega
      have hjN : j < xs.length := by omega
      obtain ⟨g1, o1, c1', e1, _, _, a1, u1⟩ := H1.out.atU hjN
      injection e1 with e11 e12 e13
      subst e11 e13
      obtain ⟨g2, o2, c2', e2, _, _, a2, _⟩ := H2.out.atU hjN
      injection e2 with e21 e22 e23
      subst e21 e23
      clear HX HST e12 e22
      generalize xs[j] = y at *
      go_wp2_with fail
      go_quiet (fail)
      go_wp2_with fail
      go_roundg m
      case measure => omega
      case rel => exact ⟨j + 1, by omega, by go_num, Lib.hid ⟨_, rfl⟩⟩

set_option maxHeartbeats 400000 in
theorem same_eq (v1 v2 : Value) (xs : List (Int × Int)) (X Y : Nat → Prop) (w : World) (h1 : Sl encP X w v1 xs) (h2 : Sl encP Y w v2 xs) :
    Calls Tryd.prog 15 #[v1, v2] w (Quietly w (.bool true)) := by
  have H1 := Lib.hid h1
  have H2 := Lib.hid h2
  obtain ⟨A1, c1, rfl, hc1, hc2⟩ := h1.form
  obtain ⟨A2, c2, rfl, _, _⟩ := h2.form
  clear h1 h2
  have HST : Hid (∃ n, w = w.drewN n) := Lib.hid ⟨0, rfl⟩
  go_enter Tryd.func15, Tryd.ntmps15
  go_wp2_with fail
  go_loopg [5] xs.length (fun g s5 wx => ∃ j : Nat, j + g = xs.length ∧ s5 = .int .i64 j ∧ Hid (∃ n, wx = w.drewN n))
  case atStart => exact ⟨0, by omega, rfl, HST⟩
  case round =>
    obtain ⟨j, hj, rfl, HX⟩ := hrel
    obtain ⟨n0, rfl⟩ := HX.out
    cases gk with
    | zero =>
      obtain rfl : j = xs.length := by omega
      clear HX HST
      go_wp2
      go_ret
      exact ⟨rfl, _, rfl⟩
    | succ m =>
      have hjn : (j : Int) < (xs.length : Int) := by omega
      have hj0 : (0 : Int) ≤ (j : Int) := by omega
      have hjN : j < xs.length := by omega
      obtain ⟨g1, o1, c1', e1, _, _, a1, b1, u1, u2⟩ := H1.out.atP hjN
      injection e1 with e11 e12 e13
      subst e11 e13
      obtain ⟨g2, o2, c2', e2, _, _, a2, b2, _, _⟩ := H2.out.atP hjN
      injection e2 with e21 e22 e23
      subst e21 e23
      clear HX HST e12 e22
      generalize xs[j].1 = y1 at *
      generalize xs[j].2 = y2 at *
      go_wp2_with fail
      go_quiet (fail)
      go_wp2_with fail
      go_roundg m
      case measure => omega
      case rel => exact ⟨j + 1, by omega, by go_num, Lib.hid ⟨_, rfl⟩⟩

end Go.Proofs.YtonkbmknanpchaaDoor

namespace Go.Proofs.YtonkbmknanpchaaDoor
open Go Go.RowKit

end Go.Proofs.YtonkbmknanpchaaDoor

namespace Go.Proofs.YtonkbmknanpchaaDoor
open Go Go.RowKit

def invF (a m : Int) : Option Nat := (List.range m.toNat).find? fun x => (a * (x : Int)) % m == 1 % m
theorem invF_some {a m : Int} {x : Nat} (h : invF a m = some x) : (x : Int) < m ∧ Cg m (a * x) 1 := by
  have h1 := List.find?_some h
  have h2 := List.mem_of_find?_eq_some h
  have h3 := List.mem_range.1 h2
  refine ⟨by omega, ?_⟩
  simp at h1
  exact h1
theorem hasInv_invF {a m : Int} (hm : 0 < m) : HasInv a m ↔ (invF a m).isSome = true := by
  constructor
  · rintro ⟨x, h1, h2, h3⟩
    rw [Option.isSome_iff_ne_none]
    intro hn
    have := List.find?_eq_none.1 hn x.toNat (List.mem_range.2 (by omega))
    rw [Int.toNat_of_nonneg h1] at this
    simp at this
    exact this h3
  · intro h
    obtain ⟨x, hx⟩ := Option.isSome_iff_exists.1 h
    obtain ⟨h1, h2⟩ := invF_some hx
    exact ⟨x, by omega, h1, h2⟩
theorem invI_invF {a m : Int} (hm : 0 < m) : invI a m = ((invF a m).getD 0 : Nat) := by
  cases h : invF a m with
  | none =>
    have : ¬ HasInv a m := by rw [hasInv_invF hm, h]; simp
    simp [invI, this]
  | some x =>
    obtain ⟨h1, h2⟩ := invF_some h
    exact invI_eq (by omega) h1 h2
def wErrC (q : Int) (xs : List Int) (at_ : Int) : Int := if unlikeI xs q = 0 then (if (List.range xs.length).all fun i => (invF (underI q xs at_ i) q).isSome then 0 else 5) else unlikeI xs q
theorem wErr_eq (q : Int) (xs : List Int) (at_ : Int) : wErr q xs at_ = wErrC q xs at_ := by
  unfold wErr wErrC
  split
  · rename_i h
    have hm := (unlikeI_zero h).1
    simp [mayB] at hm
    have : (∀ i, i < xs.length → HasInv (underI q xs at_ i) q) ↔ ((List.range xs.length).all fun i => (invF (underI q xs at_ i) q).isSome) = true := by
      rw [List.all_eq_true]
      exact ⟨fun h i hi => (hasInv_invF hm.1).1 (h i (List.mem_range.1 hi)), fun h i hi => (hasInv_invF hm.1).2 (h i (List.mem_range.2 hi))⟩
    simp only [this]
  · rfl
def wListC (q : Int) (xs : List Int) (at_ : Int) : List Int := if wErrC q xs at_ = 0 then (List.range xs.length).map fun i => mulI ((invF (underI q xs at_ i) q).getD 0 : Nat) (overI q xs at_ i) q else []
theorem wList_eq (q : Int) (xs : List Int) (at_ : Int) : wList q xs at_ = wListC q xs at_ := by
  unfold wList wListC
  rw [wErr_eq]
  split
  · rename_i h
    have hu : unlikeI xs q = 0 := Classical.byContradiction fun hn => by
      unfold wErrC at h
      rw [if_neg hn] at h
      exact hn h
    have hm := (unlikeI_zero hu).1
    simp [mayB] at hm
    refine List.map_congr_left fun i _ => ?_
    rw [wAt, invI_invF hm.1]
  · rfl
def sumEC (p : Par) (at_ : List Int) (l : List (List (Int × Int))) : Int := if smallB p && membersB at_ && at_.length == l.length && !l.any (fun x => oddB p x) then wErrC p.Q at_ 0 else 1
def sumLC (p : Par) (at_ : List Int) (l : List (List (Int × Int))) : List (Int × Int) := if sumEC p at_ l = 0 then (List.range (secretsI p).toNat).map fun s => comeP p.Q (l.map fun x => x[s]?.getD (0, 0)) (wListC p.Q at_ 0) (0, 0) else []
theorem sumE_eq (p : Par) (at_ : List Int) (l : List (List (Int × Int))) : sumE p at_ l = sumEC p at_ l := by unfold sumE sumEC; rw [wErr_eq]
theorem sumL_eq (p : Par) (at_ : List Int) (l : List (List (Int × Int))) : sumL p at_ l = sumLC p at_ l := by unfold sumL sumLC; rw [sumE_eq, wList_eq]
def comsEC (p : Par) (deals : List (Int × List (List Int))) : Int :=
  if smallB p && decide (0 ≤ p.T ∧ p.T ≤ 2) && !deals.any (fun d => !((d.2.length : Int) == secretsI p) || d.2.any (shortB p)) && membersB (deals.map (·.1)) then wErrC p.Q (deals.map (·.1)) 0 else 1
def comsLC (p : Par) (deals : List (Int × List (List Int))) : List (List Int) :=
  if comsEC p deals = 0 then (List.range (secretsI p).toNat).map fun s => (List.range (p.T + 1).toNat).map fun j => comeU p.P (deals.map fun d => (d.2[s]?.getD [])[j]?.getD 0) (wListC p.Q (deals.map (·.1)) 0) (timesI p.P []) else []
theorem comsE_eq (p : Par) (deals : List (Int × List (List Int))) : comsE p deals = comsEC p deals := by unfold comsE comsEC; rw [wErr_eq]
theorem comsL_eq (p : Par) (deals : List (Int × List (List Int))) : comsL p deals = comsLC p deals := by unfold comsL comsLC; rw [comsE_eq, wList_eq]
abbrev ps : Par := ⟨23, 11, 4, 9, 4, 4, 1, 1, 1, 1, 1, 1⟩
theorem ps_ok : ps.ok := ⟨⟨by decide, by decide⟩, ⟨by decide, by decide⟩, ⟨by decide, by decide⟩, ⟨by decide, by decide⟩, ⟨by decide, by decide⟩, ⟨by decide, by decide⟩, ⟨by decide, by decide⟩, ⟨by decide, by decide⟩, ⟨by decide, by decide⟩, ⟨by decide, by decide⟩, ⟨by decide, by decide⟩, ⟨by decide, by decide⟩⟩
theorem ex1 : sumL ps [1, 2] [[(6, 5), (0, 0)], [(7, 8), (4, 6)]] = [(5, 2), (7, 5)] := by rw [sumL_eq]; decide +kernel
theorem ex2 : comsL ps [(1, [[4, 1], [1, 4]]), (2, [[9, 1], [1, 1]])] = [[12, 1], [1, 16]] := by rw [comsL_eq]; decide +kernel
theorem ex3 : modelW ps [1, 10] = [[1]] ∧ modelB ps [1, 10] = [-1] ∧ modelE ps [1, 10] = 0 := by decide +kernel
end Go.Proofs.YtonkbmknanpchaaDoor

namespace Go.Proofs.YtonkbmknanpchaaDoor
open Go.RowKit

def triedL : List Int := [2, 3, 5, 7, 11, 13, 17, 19, 23, 29, 31, 37]
/-- The two tables, where their variables lie. -/
def TabsAt (w : World) : Prop := (∀ j, j < Lib.deBruijn64tab.length → w.cell? ⟨1, j, none⟩ = some (.int .u8 (Lib.deBruijn64tab.getD j 0))) ∧ (∀ j, j < 12 → w.cell? ⟨0, j, none⟩ = some (.int .u64 (triedL.getD j 0)))
theorem TabsAt.drewN {w : World} (h : TabsAt w) (n : Nat) : TabsAt (w.drewN n) := h

set_option maxHeartbeats 400000 in
theorem tz64_core (x k idx : Nat) (w : World) (hx0 : ((x : Int) == 0) = false)
    (key : IntKind.u64.wrap (bits BinOp.and IntKind.u64 (x : Int) (IntKind.u64.wrap (-(x : Int))) * 285870213051353865) / 288230376151711744 = (idx : Int))
    (hi : idx < 64) (hk : k < 64) (hcell : w.cell? ⟨1, idx, none⟩ = some (.int .u8 k)) :
    Calls Tryd.prog 57 #[.int .u64 x] w fun e w' => e = .returned (.int .i64 k) ∧ w' = w := by
  go_enter Tryd.func57, Tryd.ntmps57
  go_wp2_with (simp only [key])
  go_ret
  exact ⟨rfl, rfl⟩

theorem tz64_key (x a : Nat) (hx : x < 18446744073709551616) (hx0 : x ≠ 0) (hlow : x &&& (18446744073709551616 - x) = a) :
    IntKind.u64.wrap (bits BinOp.and IntKind.u64 (x : Int) (IntKind.u64.wrap (-(x : Int))) * 285870213051353865) / 288230376151711744 = ((a * 285870213051353865 % 18446744073709551616 / 288230376151711744 : Nat) : Int) := by
  have e1 : IntKind.u64.wrap (-(x : Int)) = ((18446744073709551616 - x : Nat) : Int) := by rw [IntKind.wrap_u64]; omega
  rw [e1, bits_and_u64_nat x _ hx (by omega), hlow, IntKind.wrap_u64]
  omega

theorem tz64_any (x : Int) (w : World) (h0 : 0 < x) (h1 : x < 18446744073709551616) (hT : TabsAt w) :
    Calls Tryd.prog 57 #[.int .u64 x] w fun e w' => e = .returned (.int .i64 (Lib.ctz 64 x.toNat)) ∧ w' = w := by
  obtain ⟨n, rfl⟩ := Int.eq_ofNat_of_zero_le (show 0 ≤ x by omega)
  rw [Int.toNat_natCast]
  have hx0 : n ≠ 0 := by omega
  have hx : n < 18446744073709551616 := by omega
  obtain ⟨hlow, hk⟩ := Lib.lowest_bit 64 n hx0 hx
  obtain ⟨hi, htab⟩ := Lib.deBruijn64_at _ hk
  have hcell := hT.1 _ hi
  rw [htab] at hcell
  exact tz64_core n _ _ w (by simp; omega) (tz64_key n _ hx hx0 hlow) hi hk hcell

/-- Squares until n - 1 is met. -/
def witB (n : Int) : Nat → Int → Bool
  | 0, _ => false
  | k + 1, x => x == n - 1 || witB n k (mulI x x n)
def passB (n a : Int) (t : Nat) : Bool := powI a ((n - 1) / 2 ^ t) n == 1 || witB n t (powI a ((n - 1) / 2 ^ t) n)
def goB (n : Int) (t : Nat) : List Int → Bool
  | [] => true
  | a :: l => if n % a = 0 then decide (n = a) else if passB n a t then goB n t l else false
def primeB (n : Int) : Bool := if n < 2 ∨ 2305843009213693952 < n then false else goB n (Lib.ctz 64 (n - 1).toNat) triedL

set_option maxHeartbeats 400000 in
theorem prime_out (n : Int) (w : World) (h : n < 2 ∨ 2305843009213693952 < n) :
    Calls Tryd.prog 29 #[.int .u64 n] w fun e w' => e = .returned (.bool false) ∧ ∃ k, w' = w.drewN k := by
  by_cases h2 : n < 2
  · clear h
    have h2' : decide (n < 2) = true := by simpa using h2
    go_enter Tryd.func29, Tryd.ntmps29
    go_wp2
    go_step3
    go_wp2
    (try rw [Exit.noGoto_ret])
    go_ret
    exact ⟨rfl, 0, rfl⟩
  · have h2' : decide (n < 2) = false := by simpa using h2
    have h3 : 2305843009213693952 < n := h.resolve_left h2
    have h3' : decide (2305843009213693952 < n) = true := by simpa using h3
    clear h
    go_enter Tryd.func29, Tryd.ntmps29
    go_wp2
    go_step3
    go_wp2
    (try rw [Exit.noGoto_ret])
    go_ret
    exact ⟨rfl, 0, rfl⟩

theorem powI_U64 (a e m : Int) : U64 (powI a e m) := by
  cases hm : mayB m with
  | false => simp [powI, hm, U64]
  | true =>
    simp only [powI, hm, if_true]
    simp [mayB] at hm
    have := emod_bd (a ^ e.toNat) m hm.1
    unfold U64
    omega
/-- The k-th of the numbers: what it is, and how the walk reads it. -/
theorem tried_at : ∀ k : Nat, k < 12 → ∃ p : Int, triedL.drop k = p :: triedL.drop (k + 1) ∧ 2 ≤ p ∧ p ≤ 37 ∧
    ∀ w, (Instr.index 85 (.agg #[.int .u64 2, .int .u64 3, .int .u64 5, .int .u64 7, .int .u64 11, .int .u64 13, .int .u64 17, .int .u64 19, .int .u64 23, .int .u64 29, .int .u64 31, .int .u64 37]) (.int .i64 k)).run Tryd.prog w = .ok (.int .u64 p) w := by
  intro k hk
  match k, hk with
  | 0, _ => exact ⟨2, rfl, by decide, by decide, fun _ => by kernel_rfl⟩
  | 1, _ => exact ⟨3, rfl, by decide, by decide, fun _ => by kernel_rfl⟩
  | 2, _ => exact ⟨5, rfl, by decide, by decide, fun _ => by kernel_rfl⟩
  | 3, _ => exact ⟨7, rfl, by decide, by decide, fun _ => by kernel_rfl⟩
  | 4, _ => exact ⟨11, rfl, by decide, by decide, fun _ => by kernel_rfl⟩
  | 5, _ => exact ⟨13, rfl, by decide, by decide, fun _ => by kernel_rfl⟩
  | 6, _ => exact ⟨17, rfl, by decide, by decide, fun _ => by kernel_rfl⟩
  | 7, _ => exact ⟨19, rfl, by decide, by decide, fun _ => by kernel_rfl⟩
  | 8, _ => exact ⟨23, rfl, by decide, by decide, fun _ => by kernel_rfl⟩
  | 9, _ => exact ⟨29, rfl, by decide, by decide, fun _ => by kernel_rfl⟩
  | 10, _ => exact ⟨31, rfl, by decide, by decide, fun _ => by kernel_rfl⟩
  | 11, _ => exact ⟨37, rfl, by decide, by decide, fun _ => by kernel_rfl⟩

set_option maxHeartbeats 400000 in
theorem prime_in (n : Int) (w : World) (h2 : 2 ≤ n) (h3 : n ≤ 2305843009213693952) (hT : TabsAt w) :
    Calls Tryd.prog 29 #[.int .u64 n] w fun e w' => e = .returned (.bool (goB n (Lib.ctz 64 (n - 1).toNat) triedL)) ∧ ∃ k, w' = w.drewN k := by
  have h2' : decide (n < 2) = false := by simp; omega
  have h3' : decide (2305843009213693952 < n) = false := by simp; omega
  have HT := Lib.hid hT
  obtain ⟨t, ht⟩ : ∃ t, t = Lib.ctz 64 (n - 1).toNat := ⟨_, rfl⟩
  have ht64 : t < 64 := by rw [ht]; exact (Lib.lowest_bit 64 (n - 1).toNat (by omega) (by omega)).2
  have HZ := Lib.hid (tz64_any (n - 1) w (by omega) (by omega) hT)
  rw [← ht] at HZ ⊢
  clear ht hT
  go_enter Tryd.func29, Tryd.ntmps29
  go_wp2
  go_step3
  go_wp2_with fail
  refine HZ.out.mono ?_
  rintro e w' ⟨rfl, hw'⟩
  rw [hw']
  clear hw'
  go_wp2_with fail
  go_step3
  have k0 : w.cell? ⟨0, 0, none⟩ = some (.int .u64 2) := HT.out.2 0 (by decide)
  have k1 : w.cell? ⟨0, 1, none⟩ = some (.int .u64 3) := HT.out.2 1 (by decide)
  have k2 : w.cell? ⟨0, 2, none⟩ = some (.int .u64 5) := HT.out.2 2 (by decide)
  have k3 : w.cell? ⟨0, 3, none⟩ = some (.int .u64 7) := HT.out.2 3 (by decide)
  have k4 : w.cell? ⟨0, 4, none⟩ = some (.int .u64 11) := HT.out.2 4 (by decide)
  have k5 : w.cell? ⟨0, 5, none⟩ = some (.int .u64 13) := HT.out.2 5 (by decide)
  have k6 : w.cell? ⟨0, 6, none⟩ = some (.int .u64 17) := HT.out.2 6 (by decide)
  have k7 : w.cell? ⟨0, 7, none⟩ = some (.int .u64 19) := HT.out.2 7 (by decide)
  have k8 : w.cell? ⟨0, 8, none⟩ = some (.int .u64 23) := HT.out.2 8 (by decide)
  have k9 : w.cell? ⟨0, 9, none⟩ = some (.int .u64 29) := HT.out.2 9 (by decide)
  have k10 : w.cell? ⟨0, 10, none⟩ = some (.int .u64 31) := HT.out.2 10 (by decide)
  have k11 : w.cell? ⟨0, 11, none⟩ = some (.int .u64 37) := HT.out.2 11 (by decide)
  go_wp2_with fail
  clear k0 k1 k2 k3 k4 k5 k6 k7 k8 k9 k10 k11
  go_loopg [17] 12 (fun g s17 wx => ∃ k : Nat, k + g = 12 ∧ s17 = .int .i64 k ∧ Hid (goB n t (triedL.drop k) = goB n t triedL) ∧ ∃ q, wx = w.drewN q)
  case atStart => exact ⟨0, rfl, rfl, Lib.hid rfl, 0, rfl⟩
  case round =>
    obtain ⟨k, hkg, rfl, HG, q, rfl⟩ := hrel
    cases gk with
    | zero =>
      obtain rfl : k = 12 := by omega
      have HE : Hid (true = goB n t triedL) := Lib.hid HG.out
      go_wp2
      (try rw [Exit.noGoto_ret])
      go_ret
      exact ⟨congrArg Ending.returned (congrArg Value.bool HE.out), _, rfl⟩
    | succ g =>
      have hk : k < 12 := by omega
      obtain ⟨p, hd, hp2, hp37, hidx⟩ := tried_at k hk
      have HG2 : Hid (goB n t (p :: triedL.drop (k + 1)) = goB n t triedL) := Lib.hid (by rw [← hd]; exact HG.out)
      clear HG hd
      by_cases hdv : n % p = 0
      · have HE : Hid ((n == p) = goB n t triedL) := Lib.hid (by rw [← HG2.out]; simp only [goB, hdv, if_true]; rfl)
        go_wp2
        (try rw [Exit.noGoto_ret])
        go_ret
        exact ⟨congrArg Ending.returned (congrArg Value.bool HE.out), _, rfl⟩
      · have hdv' : (n % p == 0) = false := by simpa using hdv
        have e0 : 0 ≤ (n - 1) / 2 ^ t := Int.ediv_nonneg (by omega) (Int.le_of_lt (Int.pow_pos (by decide)))
        have e1 : (n - 1) / 2 ^ t ≤ n - 1 := Int.ediv_le_self _ (by omega)
        have HP := Lib.hid (fun w => pow_any p ((n - 1) / 2 ^ t) n w ⟨by omega, by omega⟩ ⟨e0, by omega⟩)
        have hG3 := HG2.out
        simp only [goB, hdv, if_false] at hG3
        have HX := powI_U64 p ((n - 1) / 2 ^ t) n
        unfold passB at hG3
        generalize powI p ((n - 1) / 2 ^ t) n = x0 at HP hG3 HX
        have HU := Lib.hid HX
        clear HX hdv HG2
        by_cases hx1 : x0 = 1
        · have HN : Hid (goB n t (triedL.drop (k + 1)) = goB n t triedL) := Lib.hid (by rw [← hG3]; simp [hx1])
          clear hG3
          have hx1' : (x0 == 1) = true := by simpa using hx1
          clear hx1
          go_wp2_with fail
          refine (HP.out _).mono ?_
          rintro e w' ⟨rfl, n1, rfl⟩
          go_wp2
          go_roundg g
          case measure => omega
          case rel => exact ⟨k + 1, by omega, by go_num, HN, _, rfl⟩
        · have hx1' : (x0 == 1) = false := by simpa using hx1
          have HN : Hid ((if witB n t x0 then goB n t (triedL.drop (k + 1)) else false) = goB n t triedL) := Lib.hid (by rw [← hG3]; simp [hx1'])
          clear hG3 hx1
          go_wp2_with fail
          refine (HP.out _).mono ?_
          rintro e w' ⟨rfl, n1, rfl⟩
          go_wp2_with fail
          clear hidx
          go_loopg [6, 37] t (fun h s6 s37 wx => ∃ (x : Int) (j : Nat), j + h = t ∧ s6 = .int .u64 x ∧ Hid (U64 x) ∧ s37 = .int .i64 j ∧ Hid (witB n h x = witB n t x0) ∧ ∃ q, wx = w.drewN q)
          case atStart => exact ⟨x0, 0, by omega, rfl, HU, rfl, Lib.hid rfl, _, rfl⟩
          case round =>
            obtain ⟨x, j, hj, rfl, hx, rfl, hW, q2, rfl⟩ := hrel
            cases gk with
            | zero =>
              obtain rfl : j = t := by omega
              have HE : Hid (false = goB n j triedL) := Lib.hid (by
                have := HN.out
                rw [← hW.out] at this
                simpa [witB] using this)
              go_wp2
              (try rw [Exit.noGoto_ret])
              go_ret
              exact ⟨congrArg Ending.returned (congrArg Value.bool HE.out), _, rfl⟩
            | succ h =>
              have hjt : (j : Int) < (t : Int) := by omega
              by_cases hxn : x = n - 1
              · have HE : Hid (goB n t (triedL.drop (k + 1)) = goB n t triedL) := Lib.hid (by
                  have := HN.out
                  rw [← hW.out] at this
                  simpa [witB, hxn] using this)
                have hxn' : (x == n - 1) = true := by simpa using hxn
                clear hxn hx1'
                go_wp2
                go_roundg g
                case measure => omega
                case rel => exact ⟨k + 1, by omega, by go_num, HE, _, rfl⟩
              · have hxn' : (x == n - 1) = false := by simpa using hxn
                have HW2 : Hid (witB n h (mulI x x n) = witB n t x0) := Lib.hid (by
                  have := hW.out
                  simpa [witB, hxn'] using this)
                have HX2 := Lib.hid (mulI_U64 x x n)
                clear hxn
                go_wp2_with fail
                refine (mul_any x x n _ hx.out hx.out).mono ?_
                rintro e w' ⟨rfl, n2, rfl⟩
                go_wp2
                go_roundg h
                case measure => omega
                case rel => exact ⟨mulI x x n, j + 1, by omega, rfl, HX2, by go_num, HW2, _, rfl⟩

theorem prime_any (n : Int) (w : World) (hT : TabsAt w) :
    Calls Tryd.prog 29 #[.int .u64 n] w fun e w' => e = .returned (.bool (primeB n)) ∧ ∃ k, w' = w.drewN k := by
  by_cases h : n < 2 ∨ 2305843009213693952 < n
  · rw [show primeB n = false by simp only [primeB, if_pos h]]
    exact prime_out n w h
  · rw [show primeB n = goB n (Lib.ctz 64 (n - 1).toNat) triedL by simp only [primeB, if_neg h]]
    exact prime_in n w (by omega) (by omega) hT
end Go.Proofs.YtonkbmknanpchaaDoor

namespace Go.Proofs.YtonkbmknanpchaaDoor
open Go.ChangeShapes Go.WideShapes Go.RowKit

theorem u64_wf {a : Int} (h : (Lit.int .u64 a).wf = true) : U64 a := by
  have := bounds_u64 h
  unfold U64
  omega
theorem i64_wf {a : Int} (h : (Lit.int .i64 a).wf = true) : I64 a := by
  have := bounds_i64 h
  unfold I64
  omega
/-- Whatever is read at this type reads so. -/
def Reads {α : Type} (E : Enc α) (t : TypeId) : Prop :=
  ∀ {H : Type} {enc : TypeId × Value → H} {w : World} {base : Nat} {spare : Nat → Bool} {held : Bool} {fuel : Nat} {cs : List Value} {x : DataW H × List MemPlace},
    DataW.trod enc Tryd.prog w base spare held fuel t cs = some x → ∃ a, E.rep (fun _ => True) w cs a
theorem reads_u64 {t : TypeId} (ht : Tryd.prog.underlying t = some (.int .u64)) : Reads encU t := by
  intro H enc w base spare held fuel cs x h
  obtain ⟨n, rfl, _, hw⟩ := DataW.trod_int ht h
  exact ⟨n, rfl, u64_wf hw⟩
theorem reads_i64 {t : TypeId} (ht : Tryd.prog.underlying t = some (.int .i64)) : Reads encI t := by
  intro H enc w base spare held fuel cs x h
  obtain ⟨n, rfl, _, hw⟩ := DataW.trod_int ht h
  exact ⟨n, rfl, i64_wf hw⟩
theorem reads_pair {t u : TypeId} {f0 f1 : Field} (ht : Tryd.prog.underlying t = some (.struct #[f0, f1])) (h0 : f0.type = u ∧ f0.offset = 0) (h1 : f1.type = u ∧ f1.offset = 1)
    (hu : Tryd.prog.underlying u = some (.int .u64)) (hc : Tryd.prog.cellsOf t = 2) (hcu : Tryd.prog.cellsOf u = 1) : Reads encP t := by
  intro H enc w base spare held fuel cs x h
  obtain ⟨y0, y1, n, _, hl, e0, e1⟩ := trod_struct2 ht h
  rw [h0.1, h0.2, hcu] at e0
  rw [h1.1, h1.2, hcu] at e1
  obtain ⟨a, ea, _, wa⟩ := DataW.trod_int hu e0
  obtain ⟨b, eb, _, wb⟩ := DataW.trod_int hu e1
  rw [hc] at hl
  match cs, hl with
  | [c0, c1], _ =>
    simp at ea eb
    subst ea eb
    exact ⟨(a, b), rfl, u64_wf wa, u64_wf wb⟩
theorem reads_sl {α : Type} {E : Enc α} {t e : TypeId} (ht : Tryd.prog.underlying t = some (.slice e)) (hE : Reads E e) (hc : Tryd.prog.cellsOf e = E.size) : Reads (encS E) t := by
  intro H enc w base spare held fuel cs x h
  rcases Go.Deep.open_slice ht h with ⟨rfl, _⟩ | ⟨a, len, cap, m, n, D, Pl, rfl, _, hl, hm, hmm, _, hi⟩
  · exact ⟨[], _, rfl, Sl.nil _ _ _⟩
  · have hlm : len ≤ m := by rw [hmm]; split <;> omega
    have key : ∀ i, i < len → ∃ y, ∃ cs', E.rep (fun _ => True) w cs' y ∧ ∀ j, j < E.size → w.cell? (a.add (i * E.size + j)) = cs'[j]? := by
      intro i hil
      obtain ⟨cs', hcell, htr⟩ := hi i (by omega)
      obtain ⟨y, hy⟩ := hE htr
      obtain ⟨_, hlen, hat⟩ := World.cells?_some hcell
      rw [hc] at hat
      refine ⟨y, cs', hy, fun j hj => ?_⟩
      rw [← hat j hj, Go.Deep.add_add]
    have hcz : ∃ f : Fin len → α, ∀ i : Fin len, ∃ cs', E.rep (fun _ => True) w cs' (f i) ∧ ∀ j, j < E.size → w.cell? (a.add (i.1 * E.size + j)) = cs'[j]? :=
      ⟨fun i => Classical.choose (key i.1 i.2), fun i => Classical.choose_spec (key i.1 i.2)⟩
    obtain ⟨f, hf⟩ := hcz
    have hlen : (List.ofFn f).length = len := List.length_ofFn
    refine ⟨List.ofFn f, _, rfl, some a, cap, by rw [hlen], by omega, by unfold maxLen at hm; omega, fun hn => ?_⟩
    have hpos : 0 < len := by rw [← hlen]; exact List.length_pos_iff.2 hn
    obtain ⟨cs0, hr0, hc0⟩ := hf ⟨0, hpos⟩
    have h00 := hc0 0 E.pos
    have hl0 := E.len hr0
    rw [List.getElem?_eq_getElem (by rw [hl0]; exact E.pos)] at h00
    obtain ⟨g, o, sp⟩ := a
    have hsp : sp = none := by simpa [Addr.add] using World.cell?_spot h00
    subst hsp
    have h00' : w.cell? ⟨g, o, none⟩ = some (cs0[0]'(by rw [hl0]; exact E.pos)) := by simpa [Addr.add] using h00
    have hgl : g < w.heap.size := by
      rcases Nat.lt_or_ge g w.heap.size with hlt | hge
      · exact hlt
      · simp [World.cell?, Array.getElem?_eq_none hge] at h00'
    refine ⟨g, o, rfl, hgl, trivial, fun i hi' => ?_⟩
    obtain ⟨cs', hr', hc'⟩ := hf ⟨i, by omega⟩
    refine ⟨cs', by simpa using hr', fun j u hu => ?_⟩
    have hj : j < E.size := by
      rw [← E.len hr']
      exact (List.getElem?_eq_some_iff.1 hu).1
    rw [← hu, ← hc' j hj]
    have : (⟨g, o, none⟩ : Addr).add (i * E.size + j) = ⟨g, o + i * E.size + j, none⟩ := by
      unfold Addr.add
      split
      · rename_i h0
        have : i * E.size + j = 0 := by simpa using h0
        rw [show o + i * E.size + j = o by omega]
      · rw [Nat.add_assoc]
    rw [this]
/-- A slice that came in as an argument. -/
theorem open_sl {α : Type} {E : Enc α} {t : TypeId} (hR : Reads (encS E) t) {H : Type} {enc : TypeId × Value → H} {w : World} {base : Nat} {spare : Nat → Bool} {held : Bool} {a : Option Addr} {len cap : Nat} {d : DataW H} {p : List MemPlace}
    (h : DataW.Trod enc Tryd.prog w base spare held t (.slice a len cap) d p) : ∃ xs, Sl E (fun _ => True) w (.slice a len cap) xs := by
  obtain ⟨fuel, hf⟩ := h
  obtain ⟨xs, v, e, hs⟩ := hR hf
  simp [Value.cells] at e
  exact ⟨xs, by rw [e]; exact hs⟩
end Go.Proofs.YtonkbmknanpchaaDoor

namespace Go.Proofs.YtonkbmknanpchaaDoor
open Go.RowKit

def withinB (x lo hi : Int) : Bool := decide (lo ≤ x) && decide (x ≤ hi)
theorem withinB_iff (x lo hi : Int) : withinB x lo hi = true ↔ lo ≤ x ∧ x ≤ hi := by simp [withinB]
set_option maxHeartbeats 400000 in
theorem within_eq (x lo hi : Int) (b : Bool) (h : withinB x lo hi = b) (w : World) :
    Calls Tryd.prog 21 #[.int .i64 x, .int .i64 lo, .int .i64 hi] w fun e w' => e = .returned (.bool b) ∧ w' = w := by
  subst h
  by_cases h1 : lo ≤ x
  · by_cases h2 : x ≤ hi
    · have HE : Hid (withinB x lo hi = true) := Lib.hid (by simp [withinB, h1, h2])
      go_enter Tryd.func21, Tryd.ntmps21
      go_wp2
      go_ret
      exact ⟨ret_bool HE.out.symm, rfl⟩
    · have HE : Hid (withinB x lo hi = false) := Lib.hid (by simp [withinB, h2])
      have h2' : decide (x ≤ hi) = false := by simpa using h2
      clear h2
      go_enter Tryd.func21, Tryd.ntmps21
      go_wp2
      go_ret
      exact ⟨ret_bool HE.out.symm, rfl⟩
  · have HE : Hid (withinB x lo hi = false) := Lib.hid (by simp [withinB, h1])
    have h1' : decide (lo ≤ x) = false := by simpa using h1
    clear h1
    go_enter Tryd.func21, Tryd.ntmps21
    go_wp2
    go_ret
    exact ⟨ret_bool HE.out.symm, rfl⟩

def m1 (p : Par) : Bool := decide (2 ≤ p.P) && decide (p.P ≤ 2305843009213693952) && decide (2 ≤ p.Q) && ((p.P - 1) % p.Q == 0)
def m2 (p : Par) : Bool := withinB p.T 1 2
def m3 (p : Par) : Bool := withinB p.N (3 * p.T + 1) 7 && decide (p.N < p.Q)
def m4 (p : Par) : Bool := withinB p.Nodes p.N 8
def m5 (p : Par) : Bool := withinB p.K 1 2 && withinB p.D 1 4
def m6 (p : Par) : Bool := withinB p.R 1 p.D
def m7 (p : Par) : Bool := withinB p.M 1 1048576 && withinB p.X 1 1048576
def m8 (p : Par) : Bool := decide (2 * (p.D * p.M * p.X + p.M) < p.Q)
def m9 (p : Par) : Bool := primeB p.Q && primeB p.P
def m10 (p : Par) : Bool := decide (p.G ≠ 1) && isB p p.G && decide (p.H ≠ 1) && isB p p.H
def mayP (p : Par) : Bool := m1 p && m2 p && m3 p && m4 p && m5 p && m6 p && m7 p && m8 p && m9 p && m10 p

set_option maxHeartbeats 400000 in
theorem may_1 (p : Par) (g : Nat) (w : World) (hp : p.ok) (hb : Bk w g 24 p.cells) :
    Calls Tryd.prog 19 #[.pointer (some ⟨g, 0, none⟩)] w fun e w' => e = .returned (.bool (m1 p)) ∧ w.grownBy w' none := by
  have hc := hb.prule
  obtain ⟨p0, p1⟩ := hp.P
  obtain ⟨q0, q1⟩ := hp.Q
  clear hb hp
  by_cases h1 : 2 ≤ p.P
  · by_cases h2 : p.P ≤ 2305843009213693952
    · by_cases h3 : 2 ≤ p.Q
      · have HE : Hid (m1 p = ((p.P - 1) % p.Q == 0)) := Lib.hid (by simp [m1, h1, h2, h3])
        go_enter Tryd.func19, Tryd.ntmps19
        go_wp2
        go_ret
        exact ⟨ret_bool HE.out.symm, World.grownBy.refl w none⟩
      · have HE : Hid (m1 p = false) := Lib.hid (by simp [m1, h3])
        have h3' : decide (2 ≤ p.Q) = false := by simpa using h3
        clear h3
        go_enter Tryd.func19, Tryd.ntmps19
        go_wp2
        go_ret
        exact ⟨ret_bool HE.out.symm, World.grownBy.refl w none⟩
    · have HE : Hid (m1 p = false) := Lib.hid (by simp [m1, h2])
      have h2' : decide (p.P ≤ 2305843009213693952) = false := by simpa using h2
      clear h2
      go_enter Tryd.func19, Tryd.ntmps19
      go_wp2
      go_ret
      exact ⟨ret_bool HE.out.symm, World.grownBy.refl w none⟩
  · have HE : Hid (m1 p = false) := Lib.hid (by simp [m1, h1])
    have h1' : decide (2 ≤ p.P) = false := by simpa using h1
    clear h1
    go_enter Tryd.func19, Tryd.ntmps19
    go_wp2
    go_ret
    exact ⟨ret_bool HE.out.symm, World.grownBy.refl w none⟩
set_option maxHeartbeats 400000 in
theorem may_2 (p : Par) (g : Nat) (w : World) (hb : Bk w g 24 p.cells) :
    Calls Tryd.prog 20 #[.pointer (some ⟨g, 0, none⟩)] w fun e w' => e = .returned (.bool (m2 p)) ∧ w.grownBy w' none := by
  have hc := hb.prule
  have HW := Lib.hid (fun w => within_eq p.T 1 2 _ rfl w)
  clear hb
  go_enter Tryd.func20, Tryd.ntmps20
  go_wp2_with fail
  refine (HW.out _).mono ?_
  rintro e w' ⟨rfl, rfl⟩
  go_wp2
  go_ret
  exact ⟨rfl, World.grownBy.refl _ none⟩
set_option maxHeartbeats 400000 in
theorem may_3 (p : Par) (g : Nat) (w : World) (hp : p.ok) (hb : Bk w g 24 p.cells) (h2 : m2 p = true) :
    Calls Tryd.prog 22 #[.pointer (some ⟨g, 0, none⟩)] w fun e w' => e = .returned (.bool (m3 p)) ∧ w.grownBy w' none := by
  have hc := hb.prule
  obtain ⟨t0, t1⟩ := (withinB_iff _ _ _).1 h2
  obtain ⟨q0, q1⟩ := hp.Q
  clear hb hp h2
  cases hN : withinB p.N (3 * p.T + 1) 7 with
  | true =>
    obtain ⟨n0, n1⟩ := (withinB_iff _ _ _).1 hN
    have HW := Lib.hid (fun w => within_eq p.N (3 * p.T + 1) 7 _ hN w)
    have HE : Hid (m3 p = decide (p.N < p.Q)) := Lib.hid (by simp [m3, hN])
    clear hN
    go_enter Tryd.func22, Tryd.ntmps22
    go_wp2_with fail
    refine (HW.out _).mono ?_
    rintro e w' ⟨rfl, rfl⟩
    go_wp2
    go_ret
    exact ⟨ret_bool HE.out.symm, World.grownBy.refl _ none⟩
  | false =>
    have HW := Lib.hid (fun w => within_eq p.N (3 * p.T + 1) 7 _ hN w)
    have HE : Hid (m3 p = false) := Lib.hid (by simp [m3, hN])
    clear hN
    go_enter Tryd.func22, Tryd.ntmps22
    go_wp2_with fail
    refine (HW.out _).mono ?_
    rintro e w' ⟨rfl, rfl⟩
    go_wp2
    go_ret
    exact ⟨ret_bool HE.out.symm, World.grownBy.refl _ none⟩
set_option maxHeartbeats 400000 in
theorem may_4 (p : Par) (g : Nat) (w : World) (hb : Bk w g 24 p.cells) :
    Calls Tryd.prog 23 #[.pointer (some ⟨g, 0, none⟩)] w fun e w' => e = .returned (.bool (m4 p)) ∧ w.grownBy w' none := by
  have hc := hb.prule
  have HW := Lib.hid (fun w => within_eq p.Nodes p.N 8 _ rfl w)
  clear hb
  go_enter Tryd.func23, Tryd.ntmps23
  go_wp2_with fail
  refine (HW.out _).mono ?_
  rintro e w' ⟨rfl, rfl⟩
  go_wp2
  go_ret
  exact ⟨rfl, World.grownBy.refl _ none⟩
set_option maxHeartbeats 400000 in
theorem may_5 (p : Par) (g : Nat) (w : World) (hb : Bk w g 24 p.cells) :
    Calls Tryd.prog 24 #[.pointer (some ⟨g, 0, none⟩)] w fun e w' => e = .returned (.bool (m5 p)) ∧ w.grownBy w' none := by
  have hc := hb.prule
  clear hb
  cases hN : withinB p.K 1 2 with
  | true =>
    have HW := Lib.hid (fun w => within_eq p.K 1 2 _ hN w)
    have HV := Lib.hid (fun w => within_eq p.D 1 4 _ rfl w)
    have HE : Hid (m5 p = withinB p.D 1 4) := Lib.hid (by simp [m5, hN])
    clear hN
    go_enter Tryd.func24, Tryd.ntmps24
    go_wp2_with fail
    refine (HW.out _).mono ?_
    rintro e w' ⟨rfl, rfl⟩
    go_wp2_with fail
    refine (HV.out _).mono ?_
    rintro e w' ⟨rfl, rfl⟩
    go_wp2
    go_ret
    exact ⟨ret_bool HE.out.symm, World.grownBy.refl _ none⟩
  | false =>
    have HW := Lib.hid (fun w => within_eq p.K 1 2 _ hN w)
    have HE : Hid (m5 p = false) := Lib.hid (by simp [m5, hN])
    clear hN
    go_enter Tryd.func24, Tryd.ntmps24
    go_wp2_with fail
    refine (HW.out _).mono ?_
    rintro e w' ⟨rfl, rfl⟩
    go_wp2
    go_ret
    exact ⟨ret_bool HE.out.symm, World.grownBy.refl _ none⟩
set_option maxHeartbeats 400000 in
theorem may_6 (p : Par) (g : Nat) (w : World) (hb : Bk w g 24 p.cells) :
    Calls Tryd.prog 25 #[.pointer (some ⟨g, 0, none⟩)] w fun e w' => e = .returned (.bool (m6 p)) ∧ w.grownBy w' none := by
  have hc := hb.prule
  have HW := Lib.hid (fun w => within_eq p.R 1 p.D _ rfl w)
  clear hb
  go_enter Tryd.func25, Tryd.ntmps25
  go_wp2_with fail
  refine (HW.out _).mono ?_
  rintro e w' ⟨rfl, rfl⟩
  go_wp2
  go_ret
  exact ⟨rfl, World.grownBy.refl _ none⟩
set_option maxHeartbeats 400000 in
theorem may_7 (p : Par) (g : Nat) (w : World) (hb : Bk w g 24 p.cells) :
    Calls Tryd.prog 26 #[.pointer (some ⟨g, 0, none⟩)] w fun e w' => e = .returned (.bool (m7 p)) ∧ w.grownBy w' none := by
  have hc := hb.prule
  clear hb
  cases hN : withinB p.M 1 1048576 with
  | true =>
    have HW := Lib.hid (fun w => within_eq p.M 1 1048576 _ hN w)
    have HV := Lib.hid (fun w => within_eq p.X 1 1048576 _ rfl w)
    have HE : Hid (m7 p = withinB p.X 1 1048576) := Lib.hid (by simp [m7, hN])
    clear hN
    go_enter Tryd.func26, Tryd.ntmps26
    go_wp2_with fail
    refine (HW.out _).mono ?_
    rintro e w' ⟨rfl, rfl⟩
    go_wp2_with fail
    refine (HV.out _).mono ?_
    rintro e w' ⟨rfl, rfl⟩
    go_wp2
    go_ret
    exact ⟨ret_bool HE.out.symm, World.grownBy.refl _ none⟩
  | false =>
    have HW := Lib.hid (fun w => within_eq p.M 1 1048576 _ hN w)
    have HE : Hid (m7 p = false) := Lib.hid (by simp [m7, hN])
    clear hN
    go_enter Tryd.func26, Tryd.ntmps26
    go_wp2_with fail
    refine (HW.out _).mono ?_
    rintro e w' ⟨rfl, rfl⟩
    go_wp2
    go_ret
    exact ⟨ret_bool HE.out.symm, World.grownBy.refl _ none⟩
theorem mul_bd (a b x y : Int) (ha0 : 0 ≤ a) (ha : a ≤ x) (hb0 : 0 ≤ b) (hb : b ≤ y) : 0 ≤ a * b ∧ a * b ≤ x * y :=
  ⟨Int.mul_nonneg ha0 hb0, Int.mul_le_mul ha hb hb0 (by omega)⟩
set_option maxHeartbeats 400000 in
theorem may_8 (p : Par) (g : Nat) (w : World) (hp : p.ok) (hb : Bk w g 24 p.cells) (h5 : m5 p = true) (h7 : m7 p = true) :
    Calls Tryd.prog 27 #[.pointer (some ⟨g, 0, none⟩)] w fun e w' => e = .returned (.bool (m8 p)) ∧ w.grownBy w' none := by
  have hc := hb.prule
  simp only [m5, m7, Bool.and_eq_true, withinB_iff] at h5 h7
  obtain ⟨_, d0, d1⟩ := h5
  obtain ⟨⟨a0, a1⟩, x0, x1⟩ := h7
  obtain ⟨q0, q1⟩ := hp.Q
  obtain ⟨e0, e1⟩ := mul_bd p.D p.M 4 1048576 (by omega) d1 (by omega) a1
  obtain ⟨f0, f1⟩ := mul_bd (p.D * p.M) p.X (4 * 1048576) 1048576 e0 e1 (by omega) x1
  have HE : Hid (m8 p = decide (2 * (p.D * p.M * p.X + p.M) < p.Q)) := Lib.hid rfl
  clear hb hp
  go_enter Tryd.func27, Tryd.ntmps27
  go_wp2
  go_ret
  exact ⟨ret_bool HE.out.symm, World.grownBy.refl _ none⟩
end Go.Proofs.YtonkbmknanpchaaDoor

namespace Go.Proofs.YtonkbmknanpchaaDoor
open Go.RowKit

theorem cell_lt {w : World} {g o : Nat} {v : Value} (h : w.cell? ⟨g, o, none⟩ = some v) : g < w.heap.size := by
  rcases Nat.lt_or_ge g w.heap.size with hlt | hge
  · exact hlt
  · simp [World.cell?, Array.getElem?_eq_none hge] at h
theorem TabsAt.kept {w w' : World} (h : TabsAt w) (hg : w.grownBy w' none) : TabsAt w' :=
  ⟨fun j hj => by have := h.1 j hj; rw [World.cell?_of_block (w := w) (hg.block _ (cell_lt this) (by simp))]; exact this,
   fun j hj => by have := h.2 j hj; rw [World.cell?_of_block (w := w) (hg.block _ (cell_lt this) (by simp))]; exact this⟩
set_option maxHeartbeats 400000 in
theorem may_9 (p : Par) (g : Nat) (w : World) (hT : TabsAt w) (hb : Bk w g 24 p.cells) :
    Calls Tryd.prog 28 #[.pointer (some ⟨g, 0, none⟩)] w fun e w' => e = .returned (.bool (m9 p)) ∧ w.grownBy w' none := by
  have hc := hb.prule
  have HQ := prime_any p.Q w hT
  have HP := Lib.hid (fun k => prime_any p.P (w.drewN k) (hT.drewN k))
  clear hb hT
  cases hQ : primeB p.Q with
  | true =>
    rw [hQ] at HQ
    have HQ2 := Lib.hid HQ
    have HE : Hid (m9 p = primeB p.P) := Lib.hid (by simp [m9, hQ])
    clear hQ HQ
    go_enter Tryd.func28, Tryd.ntmps28
    go_wp2_with fail
    refine HQ2.out.mono ?_
    rintro e w' ⟨rfl, k, rfl⟩
    go_wp2_with fail
    refine (HP.out k).mono ?_
    rintro e w' ⟨rfl, k2, rfl⟩
    go_wp2
    go_ret
    exact ⟨ret_bool HE.out.symm, grownBy_drewN (World.grownBy.refl w none) _⟩
  | false =>
    rw [hQ] at HQ
    have HQ2 := Lib.hid HQ
    have HE : Hid (m9 p = false) := Lib.hid (by simp [m9, hQ])
    clear hQ HQ
    go_enter Tryd.func28, Tryd.ntmps28
    go_wp2_with fail
    refine HQ2.out.mono ?_
    rintro e w' ⟨rfl, k, rfl⟩
    go_wp2
    go_ret
    exact ⟨ret_bool HE.out.symm, grownBy_drewN (World.grownBy.refl w none) _⟩
theorem is_eq (p : Par) (x : Int) (b : Bool) (h : isB p x = b) (w : World) (hp : p.ok) (h1 : U64 x) :
    Calls Tryd.prog 31 #[p.v, .int .u64 x] w fun e' w' => e' = .returned (.bool b) ∧ w.grownBy w' none := h ▸ is_any p x w hp h1
set_option maxHeartbeats 400000 in
theorem may_10 (p : Par) (g : Nat) (w : World) (hp : p.ok) (hb : Bk w g 24 p.cells) :
    Calls Tryd.prog 30 #[.pointer (some ⟨g, 0, none⟩)] w fun e w' => e = .returned (.bool (m10 p)) ∧ w.grownBy w' none := by
  have hc := hb.prule
  have HB := Lib.hid hb
  by_cases h1 : p.G = 1
  · have h1' : (p.G != 1) = false := by simpa using h1
    have HE : Hid (m10 p = false) := Lib.hid (by simp [m10, h1])
    clear h1 hp hb
    go_enter Tryd.func30, Tryd.ntmps30
    go_wp2
    go_ret
    exact ⟨ret_bool HE.out.symm, World.grownBy.refl w none⟩
  · have h1' : (p.G != 1) = true := by simpa using h1
    cases hG : isB p p.G with
    | false =>
      have HI := Lib.hid (fun w => is_eq p p.G _ hG w hp hp.G)
      have HE : Hid (m10 p = false) := Lib.hid (by simp [m10, hG])
      clear h1 hp hb hG
      go_enter Tryd.func30, Tryd.ntmps30
      go_wp2_with fail
      refine (HI.out _).mono ?_
      rintro e w1 ⟨rfl, hg⟩
      have HG := Lib.hid hg
      clear hg
      go_wp2
      go_ret
      exact ⟨ret_bool HE.out.symm, HG.out⟩
    | true =>
      have HI := Lib.hid (fun w => is_eq p p.G _ hG w hp hp.G)
      by_cases h2 : p.H = 1
      · have h2' : (p.H != 1) = false := by simpa using h2
        have HE : Hid (m10 p = false) := Lib.hid (by simp [m10, h2])
        clear h1 h2 hp hb hG
        go_enter Tryd.func30, Tryd.ntmps30
        go_wp2_with fail
        refine (HI.out _).mono ?_
        rintro e w1 ⟨rfl, hg⟩
        have HG := Lib.hid hg
        have hc1 := (HB.out.grown hg (by simp)).prule
        clear hg
        go_wp2
        go_ret
        exact ⟨ret_bool HE.out.symm, HG.out⟩
      · have h2' : (p.H != 1) = true := by simpa using h2
        have HJ := Lib.hid (fun w => is_any p p.H w hp hp.H)
        have HE : Hid (m10 p = isB p p.H) := Lib.hid (by simp [m10, hG, h1, h2])
        clear h1 h2 hp hb hG
        go_enter Tryd.func30, Tryd.ntmps30
        go_wp2_with fail
        refine (HI.out _).mono ?_
        rintro e w1 ⟨rfl, hg⟩
        have HG := Lib.hid hg
        have hc1 := (HB.out.grown hg (by simp)).prule
        clear hg
        go_wp2_with fail
        refine (HJ.out _).mono ?_
        rintro e w2 ⟨rfl, hg⟩
        have HG2 := Lib.hid (HG.out.trans hg)
        clear hg
        go_wp2
        go_ret
        exact ⟨ret_bool HE.out.symm, HG2.out⟩
def ms (p : Par) : List Bool := [m1 p, m2 p, m3 p, m4 p, m5 p, m6 p, m7 p, m8 p, m9 p, m10 p]
def fvs (g : Nat) : List Value := [.func (.func 19) #[] #[.pointer (some ⟨g, 0, none⟩)], .func (.func 20) #[] #[.pointer (some ⟨g, 0, none⟩)], .func (.func 22) #[] #[.pointer (some ⟨g, 0, none⟩)], .func (.func 23) #[] #[.pointer (some ⟨g, 0, none⟩)], .func (.func 24) #[] #[.pointer (some ⟨g, 0, none⟩)], .func (.func 25) #[] #[.pointer (some ⟨g, 0, none⟩)], .func (.func 26) #[] #[.pointer (some ⟨g, 0, none⟩)], .func (.func 27) #[] #[.pointer (some ⟨g, 0, none⟩)], .func (.func 28) #[] #[.pointer (some ⟨g, 0, none⟩)], .func (.func 30) #[] #[.pointer (some ⟨g, 0, none⟩)]]

set_option maxHeartbeats 400000 in
theorem ask_1 (p : Par) (g : Nat) (w : World) (hp : p.ok) (_hT : TabsAt w) (hb : Bk w g 24 p.cells)  :
    Calls Tryd.prog 33 #[.func (.func 19) #[] #[.pointer (some ⟨g, 0, none⟩)]] w fun e w' => e = .returned (.bool (!m1 p)) ∧ w.grownBy w' none := by
  have HM := Lib.hid (may_1 p g w hp hb)
  clear hp _hT hb
  go_enter Tryd.func33, Tryd.ntmps33
  go_wp2_with fail
  refine HM.out.mono ?_
  rintro e w1 ⟨rfl, hg⟩
  have HG := Lib.hid hg
  clear hg
  go_wp2
  go_ret
  exact ⟨rfl, HG.out⟩
set_option maxHeartbeats 400000 in
theorem ask_2 (p : Par) (g : Nat) (w : World) (_hp : p.ok) (_hT : TabsAt w) (hb : Bk w g 24 p.cells)  :
    Calls Tryd.prog 33 #[.func (.func 20) #[] #[.pointer (some ⟨g, 0, none⟩)]] w fun e w' => e = .returned (.bool (!m2 p)) ∧ w.grownBy w' none := by
  have HM := Lib.hid (may_2 p g w hb)
  clear _hp _hT hb
  go_enter Tryd.func33, Tryd.ntmps33
  go_wp2_with fail
  refine HM.out.mono ?_
  rintro e w1 ⟨rfl, hg⟩
  have HG := Lib.hid hg
  clear hg
  go_wp2
  go_ret
  exact ⟨rfl, HG.out⟩
set_option maxHeartbeats 400000 in
theorem ask_3 (p : Par) (g : Nat) (w : World) (hp : p.ok) (_hT : TabsAt w) (hb : Bk w g 24 p.cells) (h2 : m2 p = true) :
    Calls Tryd.prog 33 #[.func (.func 22) #[] #[.pointer (some ⟨g, 0, none⟩)]] w fun e w' => e = .returned (.bool (!m3 p)) ∧ w.grownBy w' none := by
  have HM := Lib.hid (may_3 p g w hp hb h2)
  clear hp _hT hb h2
  go_enter Tryd.func33, Tryd.ntmps33
  go_wp2_with fail
  refine HM.out.mono ?_
  rintro e w1 ⟨rfl, hg⟩
  have HG := Lib.hid hg
  clear hg
  go_wp2
  go_ret
  exact ⟨rfl, HG.out⟩
set_option maxHeartbeats 400000 in
theorem ask_4 (p : Par) (g : Nat) (w : World) (_hp : p.ok) (_hT : TabsAt w) (hb : Bk w g 24 p.cells)  :
    Calls Tryd.prog 33 #[.func (.func 23) #[] #[.pointer (some ⟨g, 0, none⟩)]] w fun e w' => e = .returned (.bool (!m4 p)) ∧ w.grownBy w' none := by
  have HM := Lib.hid (may_4 p g w hb)
  clear _hp _hT hb
  go_enter Tryd.func33, Tryd.ntmps33
  go_wp2_with fail
  refine HM.out.mono ?_
  rintro e w1 ⟨rfl, hg⟩
  have HG := Lib.hid hg
  clear hg
  go_wp2
  go_ret
  exact ⟨rfl, HG.out⟩
set_option maxHeartbeats 400000 in
theorem ask_5 (p : Par) (g : Nat) (w : World) (_hp : p.ok) (_hT : TabsAt w) (hb : Bk w g 24 p.cells)  :
    Calls Tryd.prog 33 #[.func (.func 24) #[] #[.pointer (some ⟨g, 0, none⟩)]] w fun e w' => e = .returned (.bool (!m5 p)) ∧ w.grownBy w' none := by
  have HM := Lib.hid (may_5 p g w hb)
  clear _hp _hT hb
  go_enter Tryd.func33, Tryd.ntmps33
  go_wp2_with fail
  refine HM.out.mono ?_
  rintro e w1 ⟨rfl, hg⟩
  have HG := Lib.hid hg
  clear hg
  go_wp2
  go_ret
  exact ⟨rfl, HG.out⟩
set_option maxHeartbeats 400000 in
theorem ask_6 (p : Par) (g : Nat) (w : World) (_hp : p.ok) (_hT : TabsAt w) (hb : Bk w g 24 p.cells)  :
    Calls Tryd.prog 33 #[.func (.func 25) #[] #[.pointer (some ⟨g, 0, none⟩)]] w fun e w' => e = .returned (.bool (!m6 p)) ∧ w.grownBy w' none := by
  have HM := Lib.hid (may_6 p g w hb)
  clear _hp _hT hb
  go_enter Tryd.func33, Tryd.ntmps33
  go_wp2_with fail
  refine HM.out.mono ?_
  rintro e w1 ⟨rfl, hg⟩
  have HG := Lib.hid hg
  clear hg
  go_wp2
  go_ret
  exact ⟨rfl, HG.out⟩
set_option maxHeartbeats 400000 in
theorem ask_7 (p : Par) (g : Nat) (w : World) (_hp : p.ok) (_hT : TabsAt w) (hb : Bk w g 24 p.cells)  :
    Calls Tryd.prog 33 #[.func (.func 26) #[] #[.pointer (some ⟨g, 0, none⟩)]] w fun e w' => e = .returned (.bool (!m7 p)) ∧ w.grownBy w' none := by
  have HM := Lib.hid (may_7 p g w hb)
  clear _hp _hT hb
  go_enter Tryd.func33, Tryd.ntmps33
  go_wp2_with fail
  refine HM.out.mono ?_
  rintro e w1 ⟨rfl, hg⟩
  have HG := Lib.hid hg
  clear hg
  go_wp2
  go_ret
  exact ⟨rfl, HG.out⟩
set_option maxHeartbeats 400000 in
theorem ask_8 (p : Par) (g : Nat) (w : World) (hp : p.ok) (_hT : TabsAt w) (hb : Bk w g 24 p.cells) (h5 : m5 p = true) (h7 : m7 p = true) :
    Calls Tryd.prog 33 #[.func (.func 27) #[] #[.pointer (some ⟨g, 0, none⟩)]] w fun e w' => e = .returned (.bool (!m8 p)) ∧ w.grownBy w' none := by
  have HM := Lib.hid (may_8 p g w hp hb h5 h7)
  clear hp _hT hb h5 h7
  go_enter Tryd.func33, Tryd.ntmps33
  go_wp2_with fail
  refine HM.out.mono ?_
  rintro e w1 ⟨rfl, hg⟩
  have HG := Lib.hid hg
  clear hg
  go_wp2
  go_ret
  exact ⟨rfl, HG.out⟩
set_option maxHeartbeats 400000 in
theorem ask_9 (p : Par) (g : Nat) (w : World) (_hp : p.ok) (hT : TabsAt w) (hb : Bk w g 24 p.cells)  :
    Calls Tryd.prog 33 #[.func (.func 28) #[] #[.pointer (some ⟨g, 0, none⟩)]] w fun e w' => e = .returned (.bool (!m9 p)) ∧ w.grownBy w' none := by
  have HM := Lib.hid (may_9 p g w hT hb)
  clear _hp hT hb
  go_enter Tryd.func33, Tryd.ntmps33
  go_wp2_with fail
  refine HM.out.mono ?_
  rintro e w1 ⟨rfl, hg⟩
  have HG := Lib.hid hg
  clear hg
  go_wp2
  go_ret
  exact ⟨rfl, HG.out⟩
set_option maxHeartbeats 400000 in
theorem ask_10 (p : Par) (g : Nat) (w : World) (hp : p.ok) (_hT : TabsAt w) (hb : Bk w g 24 p.cells)  :
    Calls Tryd.prog 33 #[.func (.func 30) #[] #[.pointer (some ⟨g, 0, none⟩)]] w fun e w' => e = .returned (.bool (!m10 p)) ∧ w.grownBy w' none := by
  have HM := Lib.hid (may_10 p g w hp hb)
  clear hp _hT hb
  go_enter Tryd.func33, Tryd.ntmps33
  go_wp2_with fail
  refine HM.out.mono ?_
  rintro e w1 ⟨rfl, hg⟩
  have HG := Lib.hid hg
  clear hg
  go_wp2
  go_ret
  exact ⟨rfl, HG.out⟩
theorem ask_any (p : Par) (g : Nat) (w : World) (hp : p.ok) (hT : TabsAt w) (hb : Bk w g 24 p.cells) : ∀ (j : Nat) (_h : j < (fvs g).length) (h' : j < (ms p).length), (∀ i (hi : i < j), (ms p)[i]'(by omega) = true) →
    Calls Tryd.prog 33 #[(fvs g)[j]] w fun e w' => e = .returned (.bool (!(ms p)[j])) ∧ w.grownBy w' none
  | 0, _, _, _ => ask_1 p g w hp hT hb
  | 1, _, _, _ => ask_2 p g w hp hT hb
  | 2, _, _, hh => ask_3 p g w hp hT hb (hh 1 (by omega))
  | 3, _, _, _ => ask_4 p g w hp hT hb
  | 4, _, _, _ => ask_5 p g w hp hT hb
  | 5, _, _, _ => ask_6 p g w hp hT hb
  | 6, _, _, _ => ask_7 p g w hp hT hb
  | 7, _, _, hh => ask_8 p g w hp hT hb (hh 4 (by omega)) (hh 6 (by omega))
  | 8, _, _, _ => ask_9 p g w hp hT hb
  | 9, _, _, _ => ask_10 p g w hp hT hb
  | n + 10, h, _, _ => absurd h (by simp [fvs])
theorem mayP_all (p : Par) : mayP p = (ms p).all id := by simp [mayP, ms, Bool.and_assoc]
/-- What IndexFunc tells of the asks. -/
def Found (p : Par) (w : World) (e : Ending) (w' : World) : Prop := ∃ n : Int, e = .returned (.int .i64 n) ∧ decide (0 ≤ n) = !mayP p ∧ w.grownBy w' none
set_option maxHeartbeats 400000 in
theorem index_any (p : Par) (g ga : Nat) (t : TypeId) (w : World) (hp : p.ok) (hT : TabsAt w) (hb : Bk w g 24 p.cells) (ha : Bk w ga t (fvs g).toArray) :
    Calls Tryd.prog 60 #[.slice (some ⟨ga, 0, none⟩) 10 10, .func (.func 33) #[] #[]] w (Found p w) := by
  have HP := Lib.hid hp
  have HT := Lib.hid hT
  have HB := Lib.hid hb
  have HA := Lib.hid ha
  clear hp hT hb ha
  go_enter Tryd.func60, Tryd.ntmps60
  go_wp2_with fail
  go_loopg [8] 10 (fun n s8 wx => ∃ j : Nat, j + n = 10 ∧ s8 = .int .i64 j ∧ Hid (w.grownBy wx none ∧ ∀ i (_ : i < j) (h : i < (ms p).length), (ms p)[i] = true))
  case atStart => exact ⟨0, by omega, rfl, Lib.hid ⟨World.grownBy.refl w none, fun i hi => absurd hi (by omega)⟩⟩
  case round =>
    obtain ⟨j, hj, rfl, HX⟩ := hrel
    cases gk with
    | zero =>
      obtain rfl : j = 10 := by omega
      have HE : Hid (Found p w (.returned (.int .i64 (-1))) wr) := Lib.hid ⟨-1, rfl, by
        have : mayP p = true := by
          rw [mayP_all, List.all_eq_true]
          intro b hb
          obtain ⟨i, hi, rfl⟩ := List.getElem_of_mem hb
          exact HX.out.2 i (by simp [ms] at hi; omega) hi
        rw [this]
        rfl, HX.out.1⟩
      clear HX
      go_wp2
      go_ret
      exact HE.out
    | succ k =>
      have hjn : (j : Int) < 10 := by omega
      have hj1 : j < (fvs g).length := by simp [fvs]; omega
      have hj2 : j < (ms p).length := by simp [ms]; omega
      have hcell : wr.cell? ⟨ga, j, none⟩ = some (fvs g)[j] := by
        rw [(HA.out.grown HX.out.1 (by simp)).cell j, List.getElem?_toArray]
        exact List.getElem?_eq_getElem hj1
      have HC := Lib.hid (ask_any p g wr HP.out (HT.out.kept HX.out.1) (HB.out.grown HX.out.1 (by simp)) j hj1 hj2 (fun i hi => HX.out.2 i hi (by omega)))
      have HV : Hid ((ms p)[j] = true ∨ (ms p)[j] = false) := Lib.hid (by cases (ms p)[j] <;> simp)
      have HR : Hid ((ms p)[j] = true → ∀ i (_ : i < j + 1) (h : i < (ms p).length), (ms p)[i] = true) := Lib.hid (fun h i hi hl => by
        rcases Nat.lt_or_ge i j with h1 | h1
        · exact HX.out.2 i h1 hl
        · obtain rfl : i = j := by omega
          exact h)
      have HN : Hid ((ms p)[j] = false → mayP p = false) := Lib.hid (fun h => by
        rw [mayP_all, Bool.eq_false_iff]
        intro hall
        rw [List.all_eq_true] at hall
        have := hall _ (List.getElem_mem hj2)
        simp [h] at this)
      have HG := Lib.hid HX.out.1
      generalize (fvs g)[j] = fv at *
      generalize (ms p)[j] = b at *
      clear HX hj1 hj2
      rcases HV.out with rfl | rfl
      · go_wp2_with fail
        refine HC.out.mono ?_
        rintro e w1 ⟨rfl, hg⟩
        have HG1 := Lib.hid (HG.out.trans hg)
        clear hg
        go_wp2
        go_roundg k
        case measure => omega
        case rel => exact ⟨j + 1, by omega, by go_num, Lib.hid ⟨HG1.out, HR.out (by simp)⟩⟩
      · have HE : Hid (∀ w1, w.grownBy w1 none → Found p w (.returned (.int .i64 j)) w1) := Lib.hid (fun w1 hg => ⟨j, rfl, by rw [HN.out rfl]; simp, hg⟩)
        go_wp2_with fail
        refine HC.out.mono ?_
        rintro e w1 ⟨rfl, hg⟩
        have HG1 := Lib.hid (HG.out.trans hg)
        clear hg
        go_wp2
        go_ret
        exact HE.out _ HG1.out
set_option maxHeartbeats 400000 in
theorem contains_any (p : Par) (g ga : Nat) (t : TypeId) (w : World) (hp : p.ok) (hT : TabsAt w) (hb : Bk w g 24 p.cells) (ha : Bk w ga t (fvs g).toArray) :
    Calls Tryd.prog 32 #[.slice (some ⟨ga, 0, none⟩) 10 10, .func (.func 33) #[] #[]] w fun e w' => e = .returned (.bool (!mayP p)) ∧ w.grownBy w' none := by
  have HI := Lib.hid (index_any p g ga t w hp hT hb ha)
  clear hp hT hb ha
  go_enter Tryd.func32, Tryd.ntmps32
  go_wp2_with fail
  refine HI.out.mono ?_
  rintro e w1 ⟨n, rfl, hn, hg⟩
  have HN := Lib.hid hn
  have HG := Lib.hid hg
  clear hn hg
  go_wp2
  go_ret
  exact ⟨ret_bool HN.out, HG.out⟩
set_option maxHeartbeats 400000 in
theorem may_any (p : Par) (w : World) (hp : p.ok) (hT : TabsAt w) :
    Calls Tryd.prog 5 #[p.v] w fun e w' => e = .returned (.bool (mayP p)) ∧ w.grownBy w' none := by
  have hg1 : w.grownBy (w.alloc (Obj.cells p.cells 24)) none := World.grownBy_alloc w _ none
  have hg2 := World.grownBy_alloc (w.alloc (Obj.cells p.cells 24)) (Obj.cells (fvs w.heap.size).toArray 26) none
  have HC := Lib.hid (contains_any p w.heap.size (w.heap.size + 1) 26 ((w.alloc (Obj.cells p.cells 24)).alloc (Obj.cells (fvs w.heap.size).toArray 26)) hp (hT.kept (hg1.trans hg2)) ((Bk.new w _ _).alloc _)
    (by have := Bk.new (w.alloc (Obj.cells p.cells 24)) 26 (fvs w.heap.size).toArray; rwa [World.size_alloc] at this))
  have HGR := Lib.hid (hg1.trans hg2)
  clear hp hT hg1 hg2
  unfold fvs at HC HGR
  go_enter Tryd.func5, Tryd.ntmps5
  go_wp2_with fail
  refine HC.out.mono ?_
  rintro e w1 ⟨rfl, hg⟩
  have HG := Lib.hid (HGR.out.trans hg)
  clear hg
  go_wp2
  go_ret
  exact ⟨ret_bool (by simp), HG.out⟩
end Go.Proofs.YtonkbmknanpchaaDoor

namespace Go.Proofs.YtonkbmknanpchaaDoor
open Go.RowKit

theorem m_may (P : Int) (h1 : 1 ≤ P) (h2 : P ≤ 2305843009213693952) : mayB P = true := by simp [mayB]; omega
theorem may_bds {m : Int} (h : mayB m = true) : 0 < m ∧ m ≤ 2305843009213693952 := by simpa [mayB] using h
theorem times_nil_eq (P : Int) (hm : mayB P = true) : timesI P [] = 1 % P := by
  show mulI 1 1 P = _
  rw [mulI_yes _ _ _ hm, Int.mul_one]
theorem times_two_eq (P a b : Int) (hm : mayB P = true) : timesI P [a, b] = a * b % P := by
  show mulI (mulI (mulI 1 1 P) a P) b P = _
  rw [mulI_yes _ _ _ hm, mulI_yes _ _ _ hm, mulI_yes _ _ _ hm, Int.mul_one]
  exact ((Cg.mod P _).trans ((Cg.mod P 1).mul_right a |>.trans (Cg.of_eq (Int.one_mul a)))).mul_right b
theorem times_two_cg (P a b : Int) (hm : mayB P = true) : Cg P (timesI P [a, b]) (a * b) := by
  rw [times_two_eq _ _ _ hm]
  exact Cg.mod _ _
theorem powI_yes (a e P : Int) (hm : mayB P = true) : powI a e P = a ^ e.toNat % P := by simp [powI, hm]
theorem powI_cg (a e P : Int) (hm : mayB P = true) : Cg P (powI a e P) (a ^ e.toNat) := by
  rw [powI_yes _ _ _ hm]
  exact Cg.mod _ _
theorem powI_base {a b e P : Int} (hm : mayB P = true) (h : Cg P a b) : powI a e P = powI b e P := by
  rw [powI_yes _ _ _ hm, powI_yes _ _ _ hm]
  exact h.pow _
/-- What two things are that are the same modulo P and are told modulo P. -/
theorem pow_unit {P x : Int} {n : Nat} (h : Cg P (x ^ n) 1) (k : Nat) : Cg P (x ^ k) (x ^ (k % n)) := by
  have e : x ^ k = (x ^ n) ^ (k / n) * x ^ (k % n) := by
    rw [← Int.pow_mul, ← Int.pow_add, Nat.div_add_mod]
  rw [e]
  refine ((h.pow (k / n)).mul_right _).trans (Cg.of_eq ?_)
  rw [Int.one_pow, Int.one_mul]
theorem toNat_mod (e Q : Int) (he : 0 ≤ e) (hQ : 0 < Q) : (e % Q).toNat = e.toNat % Q.toNat := by
  obtain ⟨a, rfl⟩ := Int.eq_ofNat_of_zero_le he
  obtain ⟨b, rfl⟩ := Int.eq_ofNat_of_zero_le (Int.le_of_lt hQ)
  have e : ((a : Int) % (b : Int)) = ((a % b : Nat) : Int) := by simp
  rw [e, Int.toNat_natCast, Int.toNat_natCast, Int.toNat_natCast]
theorem pow_mod {P x Q e : Int} (h : Cg P (x ^ Q.toNat) 1) (he : 0 ≤ e) (hQ : 0 < Q) : Cg P (x ^ (e % Q).toNat) (x ^ e.toNat) := by
  rw [toNat_mod e Q he hQ]
  exact (pow_unit h _).symm
/-- A power by a sum modulo Q. -/
theorem pow_addQ {P x Q e f : Int} (h : Cg P (x ^ Q.toNat) 1) (he : 0 ≤ e) (hf : 0 ≤ f) (hQ : mayB Q = true) : Cg P (x ^ (addI e f Q).toNat) (x ^ e.toNat * x ^ f.toNat) := by
  rw [addI_yes _ _ _ hQ]
  refine (pow_mod h (by omega) (may_bds hQ).1).trans (Cg.of_eq ?_)
  rw [← Int.pow_add, Int.toNat_add he hf]
theorem pow_mulQ {P x Q e f : Int} (h : Cg P (x ^ Q.toNat) 1) (he : 0 ≤ e) (hf : 0 ≤ f) (hQ : mayB Q = true) : Cg P (x ^ (mulI e f Q).toNat) ((x ^ e.toNat) ^ f.toNat) := by
  rw [mulI_yes _ _ _ hQ]
  refine (pow_mod h (Int.mul_nonneg he hf) (may_bds hQ).1).trans (Cg.of_eq ?_)
  rw [← Int.pow_mul, Int.toNat_mul he hf]

/-- What params that may be give. -/
structure Good (p : Par) : Prop where
  P : mayB p.P = true
  Q : mayB p.Q = true
  P2 : 2 ≤ p.P
  Q2 : 2 ≤ p.Q
  G : Cg p.P (p.G ^ p.Q.toNat) 1
  H : Cg p.P (p.H ^ p.Q.toNat) 1
  T : 1 ≤ p.T ∧ p.T ≤ 2
  N : 3 * p.T + 1 ≤ p.N ∧ p.N ≤ 7 ∧ p.N < p.Q
  K : 1 ≤ p.K ∧ p.K ≤ 2
  D : 1 ≤ p.D ∧ p.D ≤ 4
  prime : primeB p.Q = true ∧ primeB p.P = true
  M : 1 ≤ p.M ∧ p.M ≤ 1048576
  X : 1 ≤ p.X ∧ p.X ≤ 1048576
  big : 2 * (p.D * p.M * p.X + p.M) < p.Q
theorem is_cg {p : Par} {x : Int} (hP : mayB p.P = true) (h2 : 2 ≤ p.P) (h : isB p x = true) : Cg p.P (x ^ p.Q.toNat) 1 := by
  simp only [isB, Bool.and_eq_true, beq_iff_eq] at h
  have e := h.2
  rw [powI_yes _ _ _ hP] at e
  unfold Cg
  rw [e, Int.emod_eq_of_lt (by decide) (by omega)]
theorem good_of {p : Par} (h : mayP p = true) : Good p := by
  simp only [mayP, m1, m2, m3, m4, m5, m6, m7, m8, m9, m10, Bool.and_eq_true, withinB_iff, decide_eq_true_eq, beq_iff_eq] at h
  obtain ⟨⟨⟨⟨⟨⟨⟨⟨⟨⟨⟨⟨a1, a2⟩, a3⟩, a4⟩, b1, b2⟩, ⟨c1, c2⟩, c3⟩, d1⟩, ⟨e1, e2⟩, f1, f2⟩, g1⟩, ⟨i1, i2⟩, j1, j2⟩, k1⟩, l1, l2⟩, ⟨⟨n1, n2⟩, n3⟩, n4⟩ := h
  have hP := m_may p.P (by omega) a2
  have hd : p.Q ∣ p.P - 1 := Int.dvd_of_emod_eq_zero a4
  have hQ : p.Q ≤ p.P - 1 := Int.le_of_dvd (by omega) hd
  exact ⟨hP, m_may p.Q (by omega) (by omega), a1, a3, is_cg hP a1 n2, is_cg hP a1 n4, ⟨b1, b2⟩, ⟨c1, c2, c3⟩, ⟨e1, e2⟩, ⟨f1, f2⟩, ⟨l1, l2⟩, ⟨i1, i2⟩, ⟨j1, j2⟩, k1⟩

theorem pow_group {P g Q a : Int} (hm : mayB P = true) (h : Cg P (g ^ Q.toNat) 1) : Cg P ((powI g a P) ^ Q.toNat) 1 := by
  refine ((powI_cg g a P hm).pow _).trans ?_
  rw [← Int.pow_mul, Nat.mul_comm, Int.pow_mul]
  exact (h.pow _).trans (Cg.of_eq Int.one_pow)
/-- GroupPowers's three. -/
theorem powers_1 {P x Q e f : Int} (hm : mayB P = true) (hQ : mayB Q = true) (h : Cg P (x ^ Q.toNat) 1) (he : 0 ≤ e) (hf : 0 ≤ f) : timesI P [powI x e P, powI x f P] = powI x (addI e f Q) P := by
  rw [times_two_eq _ _ _ hm, powI_yes _ _ _ hm, powI_yes _ _ _ hm, powI_yes _ _ _ hm]
  exact (((Cg.mod P _).mul (Cg.mod P _)).trans (pow_addQ h he hf hQ).symm)
theorem powers_2 {P x Q e : Int} (hm : mayB P = true) (hQ : mayB Q = true) (h : Cg P (x ^ Q.toNat) 1) (he : 0 ≤ e) : powI x e P = powI x (e % Q) P := by
  rw [powI_yes _ _ _ hm, powI_yes _ _ _ hm]
  exact (pow_mod h he (may_bds hQ).1).symm
theorem powers_3 {P x Q e f : Int} (hm : mayB P = true) (hQ : mayB Q = true) (h : Cg P (x ^ Q.toNat) 1) (he : 0 ≤ e) (hf : 0 ≤ f) : powI (powI x e P) f P = powI x (mulI e f Q) P := by
  rw [powI_base hm (powI_cg x e P hm), powI_yes _ _ _ hm, powI_yes _ _ _ hm]
  exact (pow_mulQ h he hf hQ).symm

theorem commit_eq (p : Par) (x : Int × Int) (hm : mayB p.P = true) : commitI p x = p.G ^ x.1.toNat * p.H ^ x.2.toNat % p.P := by
  unfold commitI
  rw [times_two_eq _ _ _ hm]
  exact (powI_cg _ _ _ hm).mul (powI_cg _ _ _ hm)
theorem commit_cg (p : Par) (x : Int × Int) (hm : mayB p.P = true) : Cg p.P (commitI p x) (p.G ^ x.1.toNat * p.H ^ x.2.toNat) := by
  rw [commit_eq _ _ hm]
  exact Cg.mod _ _
theorem mul4 (a b c d : Int) : a * b * (c * d) = a * c * (b * d) := by
  rw [Int.mul_assoc, Int.mul_assoc, ← Int.mul_assoc b c d, Int.mul_comm b c, Int.mul_assoc c b d]
/-- The product of commitments is the one to the sums. -/
theorem sums_1 {p : Par} (h : Good p) (x y : Int × Int) (x1 : 0 ≤ x.1) (x2 : 0 ≤ x.2) (y1 : 0 ≤ y.1) (y2 : 0 ≤ y.2) : timesI p.P [commitI p x, commitI p y] = commitI p (addI x.1 y.1 p.Q, addI x.2 y.2 p.Q) := by
  rw [times_two_eq _ _ _ h.P, commit_eq p (addI x.1 y.1 p.Q, addI x.2 y.2 p.Q) h.P]
  refine ((commit_cg _ _ h.P).mul (commit_cg _ _ h.P)).trans ?_
  rw [mul4]
  exact ((pow_addQ h.G x1 y1 h.Q).mul (pow_addQ h.H x2 y2 h.Q)).symm
/-- A power of a commitment is the one to the multiples. -/
theorem sums_2 {p : Par} (h : Good p) (x : Int × Int) (k : Int) (x1 : 0 ≤ x.1) (x2 : 0 ≤ x.2) (hk : 0 ≤ k) : powI (commitI p x) k p.P = commitI p (mulI x.1 k p.Q, mulI x.2 k p.Q) := by
  rw [powI_yes _ _ _ h.P, commit_eq p (mulI x.1 k p.Q, mulI x.2 k p.Q) h.P]
  refine ((commit_cg _ _ h.P).pow _).trans ?_
  rw [Int.mul_pow]
  exact ((pow_mulQ h.G x1 hk h.Q).mul (pow_mulQ h.H x2 hk h.Q)).symm

/-- The values of polynomials, as the law reckons them. -/
def valGo (Q i : Int) : List (Int × Int) → Int × Int → Int → Int × Int
  | [], v, _ => v
  | y :: l, v, e => valGo Q i l (addI v.1 (mulI y.1 e Q) Q, addI v.2 (mulI y.2 e Q) Q) (mulI e i Q)
theorem commit_zero {p : Par} (h : Good p) : commitI p (0, 0) = timesI p.P [] := by
  rw [commit_eq _ _ h.P, times_nil_eq _ h.P]
  simp
theorem at_val {p : Par} (h : Good p) (i : Int) (hi : 0 ≤ i) : ∀ (l : List (Int × Int)) (v : Int × Int) (e : Int), (∀ y ∈ l, 0 ≤ y.1 ∧ 0 ≤ y.2) → 0 ≤ v.1 → 0 ≤ v.2 → 0 ≤ e →
    atGo p i (l.map (commitI p)) (commitI p v) e = commitI p (valGo p.Q i l v e)
  | [], v, e, _, _, _, _ => rfl
  | y :: l, v, e, hl, h1, h2, he => by
    obtain ⟨y1, y2⟩ := hl y (by simp)
    have k1 := mulI_U64 y.1 e p.Q
    have k2 := mulI_U64 y.2 e p.Q
    have k3 := mulI_U64 e i p.Q
    have k4 := addI_U64 v.1 (mulI y.1 e p.Q) p.Q
    have k5 := addI_U64 v.2 (mulI y.2 e p.Q) p.Q
    show atGo p i (l.map (commitI p)) (timesI p.P [commitI p v, powI (commitI p y) e p.P]) (mulI e i p.Q) = _
    rw [sums_2 h y e y1 y2 he, sums_1 h v _ h1 h2 k1.1 k2.1]
    exact at_val h i hi l _ _ (fun z hz => hl z (by simp [hz])) k4.1 k5.1 k3.1
theorem at_commits {p : Par} (h : Good p) (i : Int) (hi : 0 ≤ i) (l : List (Int × Int)) (hl : ∀ y ∈ l, 0 ≤ y.1 ∧ 0 ≤ y.2) : atI p (l.map (commitI p)) i = commitI p (valGo p.Q i l (0, 0) 1) := by
  unfold atI
  rw [← commit_zero h, show mulI 1 1 p.Q = 1 by rw [mulI_yes _ _ _ h.Q]; exact Int.emod_eq_of_lt (by decide) (by have := h.Q2; omega)]
  exact at_val h i hi l _ _ hl (by decide) (by decide) (by decide)
theorem mulI_modr (e i Q : Int) : mulI e (i % Q) Q = mulI e i Q := by
  simp only [mulI]
  rw [show i % Q % Q = i % Q from Cg.mod Q i]
theorem atGo_mod (p : Par) (i : Int) : ∀ (l : List Int) (x e : Int), atGo p (i % p.Q) l x e = atGo p i l x e
  | [], _, _ => rfl
  | y :: l, x, e => by
    show atGo p (i % p.Q) l _ (mulI e (i % p.Q) p.Q) = atGo p i l _ (mulI e i p.Q)
    rw [mulI_modr]
    exact atGo_mod p i l _ _
theorem at_mod (p : Par) (l : List Int) (i : Int) : atI p l (i % p.Q) = atI p l i := atGo_mod p i l _ _
end Go.Proofs.YtonkbmknanpchaaDoor

namespace Go.Proofs.YtonkbmknanpchaaDoor
open Go.RowKit

theorem hasInv_of {a m x : Int} (hm : 0 < m) (h : Cg m (a * x) 1) : HasInv a m :=
  ⟨x % m, Int.emod_nonneg _ (by omega), Int.emod_lt_of_pos _ hm, ((Cg.mod m x).mul_left a).trans h⟩
theorem hasInv_cg {a b m : Int} (h : HasInv a m) (k : Cg m b a) : HasInv b m := by
  obtain ⟨x, h0, h1, hx⟩ := h
  exact ⟨x, h0, h1, (k.mul_right x).trans hx⟩
theorem hasInv_mul {a b m : Int} (hm : 0 < m) (h : HasInv a m) (k : HasInv b m) : HasInv (a * b) m := by
  obtain ⟨x, _, _, hx⟩ := h
  obtain ⟨y, _, _, hy⟩ := k
  refine hasInv_of hm (x := x * y) ((Cg.of_eq ?_).trans (hx.mul hy))
  rw [Int.mul_assoc, Int.mul_assoc, ← Int.mul_assoc b, Int.mul_comm b x, Int.mul_assoc]
theorem hasInv_neg {a m : Int} (hm : 0 < m) (h : HasInv a m) : HasInv (-a) m := by
  obtain ⟨x, _, _, hx⟩ := h
  exact hasInv_of hm (x := -x) ((Cg.of_eq (Int.neg_mul_neg a x)).trans hx)
theorem hasInv_lin {a q k x : Int} (hq : 0 < q) (h : a * x = k * q + 1) : HasInv a q := hasInv_of hq (x := x) (Cg.of_dvd ⟨k, by rw [h, Int.mul_comm]; omega⟩)
theorem hasInv_two {q : Int} (hq : 0 < q) (h : q % 2 ≠ 0) : HasInv 2 q := hasInv_lin hq (k := 1) (x := (q + 1) / 2) (by omega)
theorem hasInv_three {q : Int} (hq : 0 < q) (h : q % 3 ≠ 0) : HasInv 3 q := by
  have h3 : q % 3 = 1 ∨ q % 3 = 2 := by omega
  rcases h3 with h3 | h3
  · exact hasInv_lin hq (k := 2) (x := (2 * q + 1) / 3) (by omega)
  · exact hasInv_lin hq (k := 1) (x := (q + 1) / 3) (by omega)
theorem hasInv_five {q : Int} (hq : 0 < q) (h : q % 5 ≠ 0) : HasInv 5 q := by
  have h5 : q % 5 = 1 ∨ q % 5 = 2 ∨ q % 5 = 3 ∨ q % 5 = 4 := by omega
  rcases h5 with h5 | h5 | h5 | h5
  · exact hasInv_lin hq (k := 4) (x := (4 * q + 1) / 5) (by omega)
  · exact hasInv_lin hq (k := 2) (x := (2 * q + 1) / 5) (by omega)
  · exact hasInv_lin hq (k := 3) (x := (3 * q + 1) / 5) (by omega)
  · exact hasInv_lin hq (k := 1) (x := (q + 1) / 5) (by omega)
/-- Numbers from 1 to below n have inverses. -/
def Apart (q : Int) (n : Int) : Prop := ∀ d, 1 ≤ d → d < n → HasInv d q
theorem prime_small {q : Int} (h : primeB q = true) : (q % 2 = 0 → q = 2) ∧ (q % 3 = 0 → q = 3 ∨ q % 2 = 0) ∧ (q % 5 = 0 → q = 5 ∨ q % 2 = 0 ∨ q % 3 = 0) := by
  unfold primeB at h
  split at h
  · cases h
  · unfold triedL at h
    refine ⟨fun h2 => ?_, fun h3 => ?_, fun h5 => ?_⟩
    · simp only [goB, h2, if_true] at h
      simpa using h
    · by_cases h2 : q % 2 = 0
      · exact .inr h2
      · simp only [goB, h2, if_false, h3, if_true] at h
        left
        split at h
        · simpa using h
        · cases h
    · by_cases h2 : q % 2 = 0
      · exact .inr (.inl h2)
      · by_cases h3 : q % 3 = 0
        · exact .inr (.inr h3)
        · simp only [goB, h2, if_false, h3, h5, if_true] at h
          left
          split at h
          · split at h
            · simpa using h
            · cases h
          · cases h
theorem may_apart {p : Par} (h : mayP p = true) : mayB p.Q = true ∧ mayB p.P = true ∧ Apart p.Q p.N ∧ 4 ≤ p.N ∧ p.N ≤ 7 ∧ p.N < p.Q ∧ 1 ≤ p.T ∧ p.T ≤ 2 ∧ 3 * p.T + 1 ≤ p.N ∧ smallB p = true ∧ 1 ≤ p.K ∧ 1 ≤ p.D := by
  simp only [mayP, m1, m2, m3, m5, m9, Bool.and_eq_true, withinB_iff, decide_eq_true_eq] at h
  obtain ⟨⟨⟨⟨⟨⟨⟨⟨⟨a1, a2⟩, a3⟩, _⟩, a5⟩, _⟩, _⟩, _⟩, a9⟩, _⟩ := h
  obtain ⟨⟨⟨p1, p2⟩, q1⟩, pq⟩ := a1
  obtain ⟨t1, t2⟩ := a2
  obtain ⟨⟨n1, n2⟩, n3⟩ := a3
  obtain ⟨⟨k1, k2⟩, d1, d2⟩ := a5
  obtain ⟨hq, hp⟩ := a9
  have hQ : p.Q ≤ 2305843009213693952 := by
    unfold primeB at hq
    split at hq
    · cases hq
    · omega
  obtain ⟨s2, s3, s5⟩ := prime_small hq
  have hq0 : 0 < p.Q := by omega
  have i2 : HasInv 2 p.Q := hasInv_two hq0 fun e => by have := s2 e; omega
  have i3 : HasInv 3 p.Q := hasInv_three hq0 fun e => by
    rcases s3 e with e | e
    · omega
    · have := s2 e; omega
  have i1 : HasInv 1 p.Q := hasInv_lin hq0 (k := 0) (x := 1) (by omega)
  refine ⟨by simp [mayB]; omega, by simp [mayB]; omega, fun d e1 e2 => ?_, by omega, n2, n3, t1, t2, n1, by simp [smallB]; omega, k1, d1⟩
  have hd : d = 1 ∨ d = 2 ∨ d = 3 ∨ d = 4 ∨ d = 5 ∨ d = 6 := by omega
  rcases hd with rfl | rfl | rfl | rfl | rfl | rfl
  · exact i1
  · exact i2
  · exact i3
  · exact hasInv_mul hq0 i2 i2
  · refine hasInv_five hq0 fun e => ?_
    rcases s5 e with e | e | e
    · omega
    · have := s2 e; omega
    · rcases s3 e with e | e
      · omega
      · have := s2 e; omega
  · exact hasInv_mul hq0 i2 i3
def prodZ (l : List Int) : Int := l.foldr (· * ·) 1
theorem prodZ_append (a b : List Int) : prodZ (a ++ b) = prodZ a * prodZ b := by
  induction a with
  | nil => simp [prodZ]
  | cons x a ih =>
    show x * prodZ (a ++ b) = x * prodZ a * prodZ b
    rw [ih, Int.mul_assoc]
theorem prodZ_reverse (l : List Int) : prodZ l.reverse = prodZ l := by
  induction l with
  | nil => rfl
  | cons x l ih =>
    rw [List.reverse_cons, prodZ_append, ih]
    show prodZ l * (x * 1) = x * prodZ l
    rw [Int.mul_one, Int.mul_comm]
theorem foldl_mul_cg (q : Int) (hq : mayB q = true) : ∀ (l : List Int) (s : Int), Cg q (l.foldl (fun s y => mulI s y q) s) (s * prodZ l)
  | [], s => Cg.of_eq (Int.mul_one s).symm
  | y :: l, s => by
    refine (foldl_mul_cg q hq l (mulI s y q)).trans ?_
    show Cg q _ (s * (y * prodZ l))
    rw [← Int.mul_assoc]
    refine Cg.mul_right ?_ _
    rw [mulI_yes _ _ _ hq]
    exact Cg.mod _ _
theorem foldl_mul_bd (q : Int) (hq : mayB q = true) : ∀ (l : List Int) (s : Int), 0 ≤ s → s < q → 0 ≤ l.foldl (fun s y => mulI s y q) s ∧ l.foldl (fun s y => mulI s y q) s < q
  | [], _, h1, h2 => ⟨h1, h2⟩
  | y :: l, s, _, _ => foldl_mul_bd q hq l _ (mulI_bd s y q hq).1 (mulI_bd s y q hq).2
theorem mayB_pos {q : Int} (hq : mayB q = true) : 0 < q := by simp [mayB] at hq; exact hq.1
theorem prodI_eq (q : Int) (hq : mayB q = true) (l : List Int) : prodI q l = prodZ l % q := by
  have h0 := mayB_pos hq
  have h1 := foldl_mul_cg q hq l (1 % q)
  have h2 := foldl_mul_bd q hq l (1 % q) (Int.emod_nonneg _ (by omega)) (Int.emod_lt_of_pos _ h0)
  have h3 : Cg q (prodI q l) (prodZ l) := h1.trans (((Cg.mod q 1).mul_right _).trans (Cg.of_eq (Int.one_mul _)))
  unfold Cg at h3
  rw [← h3]
  exact (Int.emod_eq_of_lt h2.1 h2.2).symm
theorem hasInv_prod {q : Int} (hq : 0 < q) : ∀ (l : List Int), (∀ x ∈ l, HasInv x q) → HasInv (prodZ l) q
  | [], _ => hasInv_lin hq (k := 0) (x := 1) (by show (1 : Int) * 1 = _; omega)
  | x :: l, h => hasInv_mul hq (h x (by simp)) (hasInv_prod hq l fun y hy => h y (by simp [hy]))
theorem subI_cg (x y q : Int) (hq : mayB q = true) : Cg q (subI x y q) (x - y) := by
  rw [subI_yes _ _ _ hq]
  exact Cg.mod _ _
/-- Places from 1 to n, each once. -/
def Places (n : Int) (xs : List Int) : Prop := (∀ x ∈ xs, 1 ≤ x ∧ x ≤ n) ∧ xs.Nodup
theorem Places.rev {n : Int} {xs : List Int} (h : Places n xs) : Places n xs.reverse := ⟨fun x hx => h.1 x (List.mem_reverse.1 hx), (List.pairwise_reverse (R := (· ≠ ·))).2 (List.Pairwise.imp Ne.symm h.2)⟩
theorem under_inv {q n : Int} {xs : List Int} (hq : mayB q = true) (ha : Apart q n) (hp : Places n xs) (at_ : Int) (i : Nat) (hi : i < xs.length) : HasInv (underI q xs at_ i) q := by
  have h0 := mayB_pos hq
  unfold underI
  rw [prodI_eq _ hq]
  refine hasInv_cg (hasInv_prod h0 _ fun x hx => ?_) (Cg.mod _ _)
  obtain ⟨⟨a, b⟩, hab, rfl⟩ := List.mem_map.1 hx
  simp only [othersI, othersUp, List.mem_map, List.mem_filter, List.mem_range, bne_iff_ne] at hab
  obtain ⟨j, ⟨hj, hne⟩, he⟩ := hab
  have he1 : a = subI (xs[i]?.getD 0) (xs[j]?.getD 0) q := (congrArg Prod.fst he).symm
  show HasInv a q
  rw [he1]
  refine hasInv_cg ?_ (subI_cg _ _ _ hq)
  rw [List.getElem?_eq_getElem hi, List.getElem?_eq_getElem hj, Option.getD_some, Option.getD_some]
  have hx1 := hp.1 _ (List.getElem_mem hi)
  have hx2 := hp.1 _ (List.getElem_mem hj)
  have hne' : xs[i] ≠ xs[j] := fun e => hne ((List.getElem?_inj hi hp.2).1 (by rw [List.getElem?_eq_getElem hi, List.getElem?_eq_getElem hj, e])).symm
  rcases Int.lt_or_gt_of_ne hne' with h | h
  · have := hasInv_neg h0 (ha (xs[j] - xs[i]) (by omega) (by omega))
    rwa [show -(xs[j] - xs[i]) = xs[i] - xs[j] by omega] at this
  · exact ha (xs[i] - xs[j]) (by omega) (by omega)
theorem seenL_nodup : ∀ (l : List Int), l.Nodup → seenL l = l := by
  intro l
  have key : ∀ (n : Nat) (l : List Int), l.length = n → l.Nodup → seenL l = l := by
    intro n
    induction n with
    | zero => intro l h _; rw [List.eq_nil_of_length_eq_zero h]; rfl
    | succ n ih =>
      intro l h hn
      rcases List.eq_nil_or_concat l with rfl | ⟨l', x, rfl⟩
      · simp at h
      · rw [List.concat_eq_append] at h hn ⊢
        have hl : l'.length = n := by simpa using h
        obtain ⟨h1, _, h3⟩ := List.nodup_append.1 hn
        rw [seenL_snoc, ih l' hl h1]
        have : l'.contains x = false := by
          rw [Bool.eq_false_iff]
          intro hc
          exact h3 x (List.contains_iff_mem.1 hc) x (by simp) rfl
        rw [this]
        rfl
  exact key l.length l rfl
theorem werr_zero {q n : Int} {xs : List Int} (hq : mayB q = true) (ha : Apart q n) (hn : n < q) (hp : Places n xs) (hl : xs.length ≤ 1024) (at_ : Int) : wErr q xs at_ = 0 := by
  have hm : xs.map (· % q) = xs := by
    refine (List.map_congr_left fun x hx => ?_).trans (List.map_id' xs)
    have := hp.1 x hx
    exact Int.emod_eq_of_lt (by omega) (by omega)
  have hu : unlikeI xs q = 0 := by
    unfold unlikeI
    rw [hm, seenL_nodup xs hp.2, if_neg (by rw [hq]; simp), if_neg (by omega), if_neg (by omega)]
  unfold wErr
  rw [if_pos hu, if_pos fun i hi => under_inv hq ha hp at_ i hi]
end Go.Proofs.YtonkbmknanpchaaDoor

namespace Go.Proofs.YtonkbmknanpchaaDoor
open Go.RowKit

theorem filter_ne_reverse (n i : Nat) (hi : i < n) : ((List.range n).filter fun j => j != n - 1 - i).map (fun j => n - 1 - j) = ((List.range n).filter fun j => j != i).reverse := by
  have h1 : (List.range n).reverse = (List.range n).map fun j => n - 1 - j := by
    refine List.ext_getElem (by simp) fun k h1 h2 => ?_
    simp
  rw [← List.filter_reverse, h1, List.filter_map]
  refine congrArg (List.map _) (List.filter_congr fun j hj => ?_)
  have := List.mem_range.1 hj
  simp only [Function.comp]
  rw [Bool.eq_iff_iff]
  simp only [bne_iff_ne]
  omega
theorem others_reverse (q : Int) (xs : List Int) (at_ : Int) (i : Nat) (hi : i < xs.length) : othersI q xs.reverse (xs.length - 1 - i) at_ = (othersI q xs i at_).reverse := by
  unfold othersI othersUp
  rw [List.length_reverse, ← List.map_reverse, ← filter_ne_reverse _ _ hi, List.map_map]
  refine List.map_congr_left fun j hj => ?_
  have hj' := List.mem_range.1 (List.mem_filter.1 hj).1
  have e1 : xs.reverse[xs.length - 1 - i]? = xs[i]? := by
    rw [List.getElem?_reverse (by omega)]
    congr 1
    omega
  have e2 : xs.reverse[j]? = xs[xs.length - 1 - j]? := List.getElem?_reverse hj'
  simp only [Function.comp, e1, e2]
theorem under_reverse (q : Int) (hq : mayB q = true) (xs : List Int) (at_ : Int) (i : Nat) (hi : i < xs.length) : underI q xs.reverse at_ (xs.length - 1 - i) = underI q xs at_ i := by
  unfold underI
  rw [others_reverse q xs at_ i hi, List.map_reverse, prodI_eq _ hq, prodI_eq _ hq, prodZ_reverse]
theorem over_reverse (q : Int) (hq : mayB q = true) (xs : List Int) (at_ : Int) (i : Nat) (hi : i < xs.length) : overI q xs.reverse at_ (xs.length - 1 - i) = overI q xs at_ i := by
  unfold overI
  rw [others_reverse q xs at_ i hi, List.map_reverse, prodI_eq _ hq, prodI_eq _ hq, prodZ_reverse]
theorem wlist_reverse {q n : Int} {xs : List Int} (hq : mayB q = true) (ha : Apart q n) (hn : n < q) (hp : Places n xs) (hl : xs.length ≤ 1024) (at_ : Int) : wList q xs.reverse at_ = (wList q xs at_).reverse := by
  unfold wList
  rw [if_pos (werr_zero hq ha hn hp hl at_), if_pos (werr_zero hq ha hn hp.rev (by rw [List.length_reverse]; exact hl) at_)]
  refine List.ext_getElem (by simp) fun k h1 h2 => ?_
  simp only [List.length_map, List.length_range, List.length_reverse] at h1
  rw [List.getElem_map, List.getElem_range, List.getElem_reverse, List.getElem_map, List.getElem_range]
  simp only [List.length_map, List.length_range]
  have h3 := under_reverse q hq xs at_ (xs.length - 1 - k) (by omega)
  have h4 := over_reverse q hq xs at_ (xs.length - 1 - k) (by omega)
  rw [show xs.length - 1 - (xs.length - 1 - k) = k by omega] at h3 h4
  unfold wAt
  rw [h3, h4]
theorem wlist_length {q n : Int} {xs : List Int} (hq : mayB q = true) (ha : Apart q n) (hn : n < q) (hp : Places n xs) (hl : xs.length ≤ 1024) (at_ : Int) : (wList q xs at_).length = xs.length := by
  unfold wList
  rw [if_pos (werr_zero hq ha hn hp hl at_)]
  simp
def dotZ : List Int → List Int → Int
  | x :: l, k :: ks => x * k + dotZ l ks
  | _, _ => 0
theorem dotZ_append : ∀ (l ks l2 ks2 : List Int), l.length = ks.length → dotZ (l ++ l2) (ks ++ ks2) = dotZ l ks + dotZ l2 ks2
  | [], [], _, _, _ => by simp [dotZ]
  | x :: l, k :: ks, l2, ks2, h => by
    show x * k + dotZ (l ++ l2) (ks ++ ks2) = x * k + dotZ l ks + dotZ l2 ks2
    rw [dotZ_append l ks l2 ks2 (by simpa using h)]
    omega
theorem dotZ_reverse : ∀ (l ks : List Int), l.length = ks.length → dotZ l.reverse ks.reverse = dotZ l ks
  | [], [], _ => rfl
  | x :: l, k :: ks, h => by
    rw [List.reverse_cons, List.reverse_cons, dotZ_append _ _ _ _ (by simpa using h), dotZ_reverse l ks (by simpa using h)]
    show dotZ l ks + (x * k + 0) = x * k + dotZ l ks
    omega
theorem comeP_eq (q : Int) (hq : mayB q = true) : ∀ (l : List (Int × Int)) (ks : List Int) (a : Int × Int), l.length = ks.length → 0 ≤ a.1 → a.1 < q → 0 ≤ a.2 → a.2 < q → comeP q l ks a = ((a.1 + dotZ (l.map (·.1)) ks) % q, (a.2 + dotZ (l.map (·.2)) ks) % q)
  | [], [], a, _, h1, h2, h3, h4 => by
    show a = ((a.1 + 0) % q, (a.2 + 0) % q)
    rw [Int.add_zero, Int.add_zero, Int.emod_eq_of_lt h1 h2, Int.emod_eq_of_lt h3 h4]
  | x :: l, k :: ks, a, h, _, _, _, _ => by
    show comeP q l ks _ = _
    rw [comeP_eq q hq l ks _ (by simpa using h) (addI_bd _ _ _ hq).1 (addI_bd _ _ _ hq).2 (addI_bd _ _ _ hq).1 (addI_bd _ _ _ hq).2]
    have key : ∀ (s y d : Int), (addI s (mulI y k q) q + d) % q = (s + (y * k + d)) % q := fun s y d => by
      rw [addI_yes _ _ _ hq, mulI_yes _ _ _ hq]
      have h1 : Cg q ((s + y * k % q) % q + d) (s + (y * k + d)) := by
        refine (Cg.add ((Cg.mod q _).trans (Cg.add (Cg.refl q s) (Cg.mod q _))) (Cg.refl q d)).trans (Cg.of_eq ?_)
        omega
      exact h1
    rw [key, key]
    rfl
theorem comeP_reverse (q : Int) (hq : mayB q = true) (l : List (Int × Int)) (ks : List Int) (h : l.length = ks.length) : comeP q l.reverse ks.reverse (0, 0) = comeP q l ks (0, 0) := by
  have h0 := mayB_pos hq
  rw [comeP_eq q hq _ _ _ (by simpa using h) (Int.le_refl 0) h0 (Int.le_refl 0) h0, comeP_eq q hq _ _ _ h (Int.le_refl 0) h0 (Int.le_refl 0) h0, List.map_reverse, List.map_reverse, dotZ_reverse _ _ (by simpa using h), dotZ_reverse _ _ (by simpa using h)]
def powZ : List Int → List Int → Int
  | x :: l, k :: ks => x ^ k.toNat * powZ l ks
  | _, _ => 1
theorem powZ_append : ∀ (l ks l2 ks2 : List Int), l.length = ks.length → powZ (l ++ l2) (ks ++ ks2) = powZ l ks * powZ l2 ks2
  | [], [], _, _, _ => by simp [powZ]
  | x :: l, k :: ks, l2, ks2, h => by
    show x ^ k.toNat * powZ (l ++ l2) (ks ++ ks2) = x ^ k.toNat * powZ l ks * powZ l2 ks2
    rw [powZ_append l ks l2 ks2 (by simpa using h), Int.mul_assoc]
theorem powZ_reverse : ∀ (l ks : List Int), l.length = ks.length → powZ l.reverse ks.reverse = powZ l ks
  | [], [], _ => rfl
  | x :: l, k :: ks, h => by
    rw [List.reverse_cons, List.reverse_cons, powZ_append _ _ _ _ (by simpa using h), powZ_reverse l ks (by simpa using h)]
    show powZ l ks * (x ^ k.toNat * 1) = x ^ k.toNat * powZ l ks
    rw [Int.mul_one, Int.mul_comm]
theorem comeU_eq (P : Int) (hP : mayB P = true) : ∀ (l ks : List Int) (a : Int), l.length = ks.length → 0 ≤ a → a < P → comeU P l ks a = a * powZ l ks % P
  | [], [], a, _, h1, h2 => by
    show a = a * 1 % P
    rw [Int.mul_one, Int.emod_eq_of_lt h1 h2]
  | x :: l, k :: ks, a, h, _, _ => by
    have h0 := mayB_pos hP
    show comeU P l ks (timesI P [a, powI x k P]) = _
    have e : timesI P [a, powI x k P] = a * powI x k P % P := times_two_eq P _ _ hP
    rw [comeU_eq P hP l ks _ (by simpa using h) (by rw [e]; exact Int.emod_nonneg _ (by omega)) (by rw [e]; exact Int.emod_lt_of_pos _ h0), e]
    have h1 : Cg P (a * powI x k P % P * powZ l ks) (a * (x ^ k.toNat * powZ l ks)) := by
      refine (((Cg.mod P _).trans (Cg.mul_left (by unfold powI; rw [if_pos hP]; exact Cg.mod P _) a)).mul_right _).trans (Cg.of_eq ?_)
      rw [Int.mul_assoc]
    exact h1
theorem comeU_reverse (P : Int) (hP : mayB P = true) (l ks : List Int) (a : Int) (h : l.length = ks.length) (h1 : 0 ≤ a) (h2 : a < P) : comeU P l.reverse ks.reverse a = comeU P l ks a := by
  rw [comeU_eq P hP _ _ _ (by simpa using h) h1 h2, comeU_eq P hP _ _ _ h h1 h2, powZ_reverse _ _ h]
theorem times_nil_bd (P : Int) (hP : mayB P = true) : 0 ≤ timesI P [] ∧ timesI P [] < P := by
  rw [times_nil_eq P hP]
  exact ⟨Int.emod_nonneg _ (by have := mayB_pos hP; omega), Int.emod_lt_of_pos _ (mayB_pos hP)⟩
/-- The weight of a place alone. -/
theorem wlist_one {q n : Int} (hq : mayB q = true) (hq1 : 1 < q) (ha : Apart q n) (hn : n < q) (x : Int) (hx : 1 ≤ x ∧ x ≤ n) (at_ : Int) : wList q [x] at_ = [1] := by
  have hp : Places n [x] := ⟨fun y hy => by rw [List.mem_singleton.1 hy]; exact hx, by simp⟩
  unfold wList
  rw [if_pos (werr_zero hq ha hn hp (by simp) at_)]
  have h1 : (1 : Int) % q = 1 := Int.emod_eq_of_lt (by omega) hq1
  have hu : underI q [x] at_ 0 = 1 := by unfold underI; rw [prodI_eq _ hq]; exact h1
  have ho : overI q [x] at_ 0 = 1 := by unfold overI; rw [prodI_eq _ hq]; exact h1
  have hi : invI 1 q = 1 := invI_eq (by omega) hq1 (Cg.of_eq (by decide))
  show [wAt q [x] at_ 0] = [1]
  unfold wAt
  rw [hu, ho, hi, mulI_yes _ _ _ hq]
  exact congrArg (fun z => [z]) h1
end Go.Proofs.YtonkbmknanpchaaDoor

namespace Go.Proofs.YtonkbmknanpchaaDoor
open Go.RowKit

/-- Params, and members with their pairs, as a statement has them. -/
structure MemOk (p : Par) (at_ : List Int) (l : List (List (Int × Int))) : Prop where
  may : mayP p = true
  places : Places p.N at_
  some : 0 < at_.length
  len : at_.length = l.length
  rows : ∀ x ∈ l, (x.length : Int) = secretsI p
theorem nodup_le : ∀ (l s : List Int), l.Nodup → (∀ x ∈ l, x ∈ s) → l.length ≤ s.length
  | [], _, _, _ => Nat.zero_le _
  | x :: l, s, hn, hs => by
    obtain ⟨h1, h2⟩ := List.nodup_cons.1 hn
    have hx := hs x (by simp)
    have := nodup_le l (s.erase x) h2 fun y hy => (List.mem_erase_of_ne (fun e => h1 (by rw [← e]; exact hy))).2 (hs y (by simp [hy]))
    rw [List.length_erase_of_mem hx] at this
    have h3 := List.length_pos_of_mem hx
    simp only [List.length_cons]
    omega
theorem Places.len {n : Int} {xs : List Int} (h : Places n xs) (hn : n ≤ 7) : xs.length ≤ 7 := by
  refine nodup_le xs [1, 2, 3, 4, 5, 6, 7] h.2 fun x hx => ?_
  · skip
    have := h.1 x hx
    have : x = 1 ∨ x = 2 ∨ x = 3 ∨ x = 4 ∨ x = 5 ∨ x = 6 ∨ x = 7 := by omega
    rcases this with rfl | rfl | rfl | rfl | rfl | rfl | rfl <;> simp
theorem members_of {n : Int} {xs : List Int} (h : Places n xs) (hn : n ≤ 7) (h0 : 0 < xs.length) : membersB xs = true := by
  simp only [membersB, Bool.and_eq_true, decide_eq_true_eq, Bool.not_eq_true']
  refine ⟨h0, List.any_eq_false.2 fun x hx => ?_⟩
  have := h.1 x hx
  simp [memBad]
  omega
theorem sum_good {p : Par} {at_ : List Int} {l : List (List (Int × Int))} (h : MemOk p at_ l) : sumE p at_ l = 0 := by
  obtain ⟨hq, hP, ha, n1, n2, n3, t1, t2, t3, hs, k1, d1⟩ := may_apart h.may
  unfold sumE
  have ho : l.any (fun x => oddB p x) = false := List.any_eq_false.2 fun x hx => by simp [oddB, h.rows x hx]
  rw [hs, members_of h.places n2 h.some, ho, if_pos (by simp [h.len])]
  exact werr_zero hq ha n3 h.places (by have := h.places.len n2; omega) 0
theorem sum_reverse {p : Par} {at_ : List Int} {l : List (List (Int × Int))} (h : MemOk p at_ l) : sumE p at_.reverse l.reverse = 0 ∧ sumL p at_.reverse l.reverse = sumL p at_ l := by
  obtain ⟨hq, hP, ha, n1, n2, n3, t1, t2, t3, hs, k1, d1⟩ := may_apart h.may
  have hr : MemOk p at_.reverse l.reverse := ⟨h.may, h.places.rev, by simpa using h.some, by simpa using h.len, fun x hx => h.rows x (List.mem_reverse.1 hx)⟩
  refine ⟨sum_good hr, ?_⟩
  unfold sumL
  rw [if_pos (sum_good h), if_pos (sum_good hr)]
  refine List.map_congr_left fun s _ => ?_
  rw [wlist_reverse hq ha n3 h.places (by have := h.places.len n2; omega) 0, List.map_reverse]
  refine comeP_reverse _ hq _ _ ?_
  rw [List.length_map, wlist_length hq ha n3 h.places (by have := h.places.len n2; omega) 0, h.len]
theorem sum_one {p : Par} (hm : mayP p = true) (x : Int) (hx : 1 ≤ x ∧ x ≤ p.N) (th : List (Int × Int)) (ht : (th.length : Int) = secretsI p) : sumE p [x] [th] = 0 ∧ sumL p [x] [th] = th.map fun y => (y.1 % p.Q, y.2 % p.Q) := by
  obtain ⟨hq, hP, ha, n1, n2, n3, t1, t2, t3, hs, k1, d1⟩ := may_apart hm
  have h : MemOk p [x] [th] := ⟨hm, ⟨fun y hy => by rw [List.mem_singleton.1 hy]; exact hx, by simp⟩, by simp, rfl, fun y hy => by rw [List.mem_singleton.1 hy]; exact ht⟩
  have h0 := mayB_pos hq
  refine ⟨sum_good h, ?_⟩
  unfold sumL
  rw [if_pos (sum_good h), wlist_one hq (by omega) ha n3 x hx 0]
  refine List.ext_getElem (by simp; omega) fun k k1 k2 => ?_
  simp only [List.length_map, List.length_range] at k1
  have hk : k < th.length := by omega
  rw [List.getElem_map, List.getElem_range, List.getElem_map]
  show comeP p.Q [th[k]?.getD (0, 0)] [1] (0, 0) = _
  rw [List.getElem?_eq_getElem hk, Option.getD_some, comeP_eq _ hq _ _ _ rfl (Int.le_refl 0) h0 (Int.le_refl 0) h0]
  simp [dotZ]
/-- Dealers and what they dealt, as a statement has them. -/
structure Deals (p : Par) (ds : List (Int × List (List Int))) : Prop where
  may : mayP p = true
  places : Places p.N (ds.map (·.1))
  some : 0 < ds.length
  cols : ∀ d ∈ ds, (d.2.length : Int) = secretsI p ∧ ∀ c ∈ d.2, (c.length : Int) = p.T + 1
theorem coms_good {p : Par} {ds : List (Int × List (List Int))} (h : Deals p ds) : comsE p ds = 0 := by
  obtain ⟨hq, hP, ha, n1, n2, n3, t1, t2, t3, hs, k1, d1⟩ := may_apart h.may
  have hw : wrap64 (p.T + 1) = p.T + 1 := wrap64_small (by omega)
  have ho : ds.any (fun d => !((d.2.length : Int) == secretsI p) || d.2.any (shortB p)) = false := List.any_eq_false.2 fun d hd => by
    obtain ⟨c1, c2⟩ := h.cols d hd
    have : d.2.any (shortB p) = false := List.any_eq_false.2 fun c hc => by simp [shortB, hw, c2 c hc]
    simp [c1, this]
  unfold comsE
  rw [hs, ho, members_of h.places n2 (by simpa using h.some), if_pos (by simp; omega)]
  exact werr_zero hq ha n3 h.places (by have := h.places.len n2; omega) 0
theorem Deals.rev {p : Par} {ds : List (Int × List (List Int))} (h : Deals p ds) : Deals p ds.reverse := ⟨h.may, by rw [List.map_reverse]; exact h.places.rev, by simpa using h.some, fun d hd => h.cols d (List.mem_reverse.1 hd)⟩
theorem coms_reverse {p : Par} {ds : List (Int × List (List Int))} (h : Deals p ds) : comsE p ds.reverse = 0 ∧ comsL p ds.reverse = comsL p ds := by
  obtain ⟨hq, hP, ha, n1, n2, n3, t1, t2, t3, hs, k1, d1⟩ := may_apart h.may
  refine ⟨coms_good h.rev, ?_⟩
  have hl : (ds.map (·.1)).length ≤ 1024 := by have := h.places.len n2; omega
  unfold comsL
  rw [if_pos (coms_good h), if_pos (coms_good h.rev)]
  refine List.map_congr_left fun s _ => List.map_congr_left fun j _ => ?_
  rw [List.map_reverse, List.map_reverse, wlist_reverse hq ha n3 h.places hl 0]
  refine comeU_reverse _ hP _ _ _ ?_ (times_nil_bd _ hP).1 (times_nil_bd _ hP).2
  rw [List.length_map, wlist_length hq ha n3 h.places hl 0, List.length_map]
theorem coms_one {p : Par} (x : Int) (col : List (List Int)) (h : Deals p [(x, col)]) (hb : ∀ c ∈ col, ∀ y ∈ c, 0 ≤ y ∧ y < p.P) : comsE p [(x, col)] = 0 ∧ comsL p [(x, col)] = col := by
  obtain ⟨hq, hP, ha, n1, n2, n3, t1, t2, t3, hs, k1, d1⟩ := may_apart h.may
  refine ⟨coms_good h, ?_⟩
  obtain ⟨c1, c2⟩ := h.cols _ (List.mem_singleton.2 rfl)
  have hx := h.places.1 x (by simp)
  unfold comsL
  rw [if_pos (coms_good h)]
  show (List.range (secretsI p).toNat).map (fun s => (List.range (p.T + 1).toNat).map fun j => comeU p.P [(col[s]?.getD [])[j]?.getD 0] (wList p.Q [x] 0) (timesI p.P [])) = col
  rw [wlist_one hq (by omega) ha n3 x hx 0]
  refine List.ext_getElem (by simp at c1 ⊢; omega) fun s s1 s2 => ?_
  rw [List.getElem_map, List.getElem_range, List.getElem?_eq_getElem s2, Option.getD_some]
  have hc := c2 _ (List.getElem_mem s2)
  refine List.ext_getElem (by simp at hc ⊢; omega) fun j j1 j2 => ?_
  rw [List.getElem_map, List.getElem_range, List.getElem?_eq_getElem j2, Option.getD_some, comeU_eq _ hP [col[s][j]] [1] _ rfl (times_nil_bd _ hP).1 (times_nil_bd _ hP).2, times_nil_eq _ hP]
  obtain ⟨b1, b2⟩ := hb _ (List.getElem_mem s2) _ (List.getElem_mem j2)
  show 1 % p.P * (col[s][j] ^ 1 * 1) % p.P = col[s][j]
  rw [Int.pow_succ, Int.pow_zero, Int.one_mul, Int.mul_one]
  have : Cg p.P (1 % p.P * col[s][j]) col[s][j] := ((Cg.mod p.P 1).mul_right _).trans (Cg.of_eq (Int.one_mul _))
  unfold Cg at this
  rw [this]
  exact Int.emod_eq_of_lt b1 b2
end Go.Proofs.YtonkbmknanpchaaDoor

namespace Go.Proofs.YtonkbmknanpchaaDoor

/-- The value of a polynomial at i. -/
def evZ (i : Int) : List Int → Int
  | [] => 0
  | x :: l => x + i * evZ i l
theorem valGo_ev {Q i : Int} (hQ : mayB Q = true) : ∀ (l : List (Int × Int)) (v : Int × Int) (e : Int), 0 ≤ v.1 → v.1 < Q → 0 ≤ v.2 → v.2 < Q → valGo Q i l v e = ((v.1 + e * evZ i (l.map (·.1))) % Q, (v.2 + e * evZ i (l.map (·.2))) % Q)
  | [], v, e, h1, h2, h3, h4 => by
    show v = ((v.1 + e * 0) % Q, (v.2 + e * 0) % Q)
    rw [Int.mul_zero, Int.add_zero, Int.add_zero, Int.emod_eq_of_lt h1 h2, Int.emod_eq_of_lt h3 h4]
  | y :: l, v, e, _, _, _, _ => by
    show valGo Q i l (addI v.1 (mulI y.1 e Q) Q, addI v.2 (mulI y.2 e Q) Q) (mulI e i Q) = ((v.1 + e * (y.1 + i * evZ i (l.map (·.1)))) % Q, (v.2 + e * (y.2 + i * evZ i (l.map (·.2)))) % Q)
    rw [valGo_ev hQ l _ _ (addI_bd _ _ _ hQ).1 (addI_bd _ _ _ hQ).2 (addI_bd _ _ _ hQ).1 (addI_bd _ _ _ hQ).2]
    have key : ∀ (s z d : Int), (addI s (mulI z e Q) Q + mulI e i Q * d) % Q = (s + e * (z + i * d)) % Q := fun s z d => by
      rw [addI_yes _ _ _ hQ, mulI_yes _ _ _ hQ, mulI_yes _ _ _ hQ]
      have h1 : Cg Q ((s + z * e % Q) % Q + e * i % Q * d) (s + e * (z + i * d)) := by
        refine (Cg.add ((Cg.mod Q _).trans (Cg.add (Cg.refl Q s) (Cg.mod Q _))) ((Cg.mod Q _).mul_right d)).trans (Cg.of_eq ?_)
        rw [Int.mul_add, Int.mul_comm z e, Int.mul_assoc, Int.add_assoc]
      exact h1
    rw [key, key]
theorem dotZ_lin {α : Type} (i : Int) (f g : α → Int) : ∀ (M : List α) (ks : List Int), dotZ (M.map fun r => f r + i * g r) ks = dotZ (M.map f) ks + i * dotZ (M.map g) ks
  | [], _ => by simp [dotZ]
  | _ :: _, [] => by simp [dotZ]
  | r :: M, k :: ks => by
    show (f r + i * g r) * k + dotZ (M.map fun r => f r + i * g r) ks = f r * k + dotZ (M.map f) ks + i * (g r * k + dotZ (M.map g) ks)
    rw [dotZ_lin i f g M ks, Int.add_mul, Int.mul_add, Int.mul_assoc]
    omega
theorem dotZ_zero {α : Type} : ∀ (M : List α) (ks : List Int), dotZ (M.map fun _ => (0 : Int)) ks = 0
  | [], _ => by simp [dotZ]
  | _ :: _, [] => by simp [dotZ]
  | r :: M, k :: ks => by
    show 0 * k + dotZ (M.map fun _ => (0 : Int)) ks = 0
    rw [dotZ_zero M ks]
    omega
theorem dotZ_cg {α : Type} {Q : Int} (f g : α → Int) (h : ∀ r, Cg Q (f r) (g r)) : ∀ (M : List α) (ks : List Int), Cg Q (dotZ (M.map f) ks) (dotZ (M.map g) ks)
  | [], _ => Cg.refl _ _
  | _ :: _, [] => Cg.refl _ _
  | r :: M, k :: ks => ((h r).mul_right k).add (dotZ_cg f g h M ks)
theorem evZ_cg {Q i : Int} {α : Type} (f g : α → Int) (h : ∀ r, Cg Q (f r) (g r)) : ∀ M : List α, Cg Q (evZ i (M.map f)) (evZ i (M.map g))
  | [] => Cg.refl _ _
  | r :: M => (h r).add ((evZ_cg f g h M).mul_left i)
/-- A sum of polynomials' values is the value of their sum. -/
theorem lin (i : Int) : ∀ (t : Nat) (M : List (List Int)) (ks : List Int), (∀ r ∈ M, r.length = t) → dotZ (M.map (evZ i)) ks = evZ i ((List.range t).map fun j => dotZ (M.map fun r => r[j]?.getD 0) ks)
  | 0, M, ks, h => by
    have e : M.map (evZ i) = M.map fun _ => (0 : Int) := List.map_congr_left fun r hr => by
      have := List.eq_nil_of_length_eq_zero (h r hr)
      subst this
      rfl
    rw [e, dotZ_zero]
    rfl
  | t + 1, M, ks, h => by
    have e1 : M.map (evZ i) = M.map fun r => r[0]?.getD 0 + i * evZ i r.tail := List.map_congr_left fun r hr => by
      cases r with
      | nil => have := h _ hr; simp at this
      | cons x r => rfl
    have e2 : (M.map fun r => evZ i r.tail) = (M.map List.tail).map (evZ i) := by rw [List.map_map]; rfl
    have e3 : ∀ j : Nat, (M.map fun r => r[j + 1]?.getD 0) = (M.map List.tail).map fun r => r[j]?.getD 0 := fun j => by
      rw [List.map_map]
      refine List.map_congr_left fun r hr => ?_
      cases r with
      | nil => have := h _ hr; simp at this
      | cons x r => rfl
    rw [List.range_succ_eq_map, List.map_cons, List.map_map, e1, dotZ_lin i (fun r : List Int => r[0]?.getD 0) (fun r => evZ i r.tail), e2, lin i t (M.map List.tail) ks (fun r hr => by
      obtain ⟨r', hr', rfl⟩ := List.mem_map.1 hr
      have := h r' hr'
      simp
      omega)]
    show _ = dotZ (M.map fun r => r[0]?.getD 0) ks + i * evZ i ((List.range t).map ((fun j => dotZ (M.map fun r => r[j]?.getD 0) ks) ∘ Nat.succ))
    congr 2
    congr 1
    refine List.map_congr_left fun j _ => ?_
    show _ = dotZ (M.map fun r => r[j + 1]?.getD 0) ks
    rw [e3]
/-- What commitments come to. -/
theorem come_commits {p : Par} (h : Good p) : ∀ (l : List (Int × Int)) (ks : List Int) (a : Int × Int), (∀ y ∈ l, 0 ≤ y.1 ∧ 0 ≤ y.2) → (∀ k ∈ ks, 0 ≤ k) → 0 ≤ a.1 → 0 ≤ a.2 → comeU p.P (l.map (commitI p)) ks (commitI p a) = commitI p (comeP p.Q l ks a)
  | [], _, _, _, _, _, _ => by simp [comeU, comeP]
  | _ :: _, [], _, _, _, _, _ => by simp [comeU, comeP]
  | y :: l, k :: ks, a, hl, hk, a1, a2 => by
    obtain ⟨y1, y2⟩ := hl y (by simp)
    have k0 := hk k (by simp)
    have m1 := (mulI_bd y.1 k p.Q h.Q).1
    have m2 := (mulI_bd y.2 k p.Q h.Q).1
    show comeU p.P (l.map (commitI p)) ks (timesI p.P [commitI p a, powI (commitI p y) k p.P]) = commitI p (comeP p.Q l ks (addI a.1 (mulI y.1 k p.Q) p.Q, addI a.2 (mulI y.2 k p.Q) p.Q))
    rw [sums_2 h y k y1 y2 k0, sums_1 h a (mulI y.1 k p.Q, mulI y.2 k p.Q) a1 a2 m1 m2]
    exact come_commits h l ks _ (fun z hz => hl z (List.mem_cons_of_mem _ hz)) (fun z hz => hk z (List.mem_cons_of_mem _ hz)) (addI_bd _ _ _ h.Q).1 (addI_bd _ _ _ h.Q).1
/-- One secret: the pair that shares come to, and the numbers that commitments come to. -/
theorem fit_one {p : Par} (h : Good p) {i : Int} (hi : 0 ≤ i) {t : Nat} {M : List (List (Int × Int))} {ks : List Int} (hM : ∀ l ∈ M, l.length = t ∧ ∀ y ∈ l, 0 ≤ y.1 ∧ 0 ≤ y.2) (hk : ∀ k ∈ ks, 0 ≤ k) (hlen : M.length = ks.length) :
    atI p ((List.range t).map fun j => comeU p.P (M.map fun l => commitI p (l[j]?.getD (0, 0))) ks (timesI p.P [])) i = commitI p (comeP p.Q (M.map fun l => valGo p.Q i l (0, 0) 1) ks (0, 0)) := by
  have h0 := mayB_pos h.Q
  have e1 : ((List.range t).map fun j => comeU p.P (M.map fun l => commitI p (l[j]?.getD (0, 0))) ks (timesI p.P [])) = ((List.range t).map fun j => comeP p.Q (M.map fun l => l[j]?.getD (0, 0)) ks (0, 0)).map (commitI p) := by
    rw [List.map_map]
    refine List.map_congr_left fun j hj => ?_
    show _ = commitI p (comeP p.Q (M.map fun l => l[j]?.getD (0, 0)) ks (0, 0))
    rw [← come_commits h _ ks (0, 0) (fun y hy => by
      obtain ⟨l, hl, rfl⟩ := List.mem_map.1 hy
      have hj' := List.mem_range.1 hj
      have hj2 : j < l.length := by rw [(hM l hl).1]; exact hj'
      rw [List.getElem?_eq_getElem hj2]
      exact (hM l hl).2 _ (List.getElem_mem hj2)) hk (Int.le_refl 0) (Int.le_refl 0), commit_zero h, List.map_map]
    rfl
  have e2 : ∀ (l : List (List (Int × Int))) (f : List (Int × Int) → Int × Int), l.length = ks.length → comeP p.Q (l.map f) ks (0, 0) = (dotZ (l.map fun x => (f x).1) ks % p.Q, dotZ (l.map fun x => (f x).2) ks % p.Q) := fun l f hl => by
    rw [comeP_eq p.Q h.Q _ ks (0, 0) (by simpa using hl) (Int.le_refl 0) h0 (Int.le_refl 0) h0, List.map_map, List.map_map, Int.zero_add, Int.zero_add]
    rfl
  rw [e1, at_commits h i hi _ (fun y hy => by
    obtain ⟨j, _, rfl⟩ := List.mem_map.1 hy
    rw [e2 M _ hlen]
    exact ⟨Int.emod_nonneg _ (by omega), Int.emod_nonneg _ (by omega)⟩)]
  congr 1
  rw [valGo_ev h.Q _ (0, 0) 1 (Int.le_refl 0) h0 (Int.le_refl 0) h0, e2 M _ hlen, List.map_map, List.map_map, Int.zero_add, Int.one_mul, Int.zero_add, Int.one_mul]
  have half : ∀ (g : Int × Int → Int) (hg : g (0, 0) = 0) (f : List (Int × Int) → Int) (hf : ∀ l, Cg p.Q (f l) (evZ i (l.map g))) (c : Nat → Int) (hc : ∀ j, Cg p.Q (c j) (dotZ (M.map fun l => g (l[j]?.getD (0, 0))) ks)), evZ i ((List.range t).map c) % p.Q = dotZ (M.map f) ks % p.Q := fun g hg f hf c hc => by
    have a1 : Cg p.Q (evZ i ((List.range t).map c)) (evZ i ((List.range t).map fun j => dotZ (M.map fun l => g (l[j]?.getD (0, 0))) ks)) := evZ_cg c _ hc _
    have a2 : Cg p.Q (dotZ (M.map f) ks) (dotZ (M.map fun l => evZ i (l.map g)) ks) := dotZ_cg f _ hf M ks
    have a3 := lin i t (M.map fun l => l.map g) ks (fun r hr => by
      obtain ⟨l, hl, rfl⟩ := List.mem_map.1 hr
      rw [List.length_map]
      exact (hM l hl).1)
    rw [List.map_map] at a3
    have a4 : ((List.range t).map fun j => dotZ ((M.map fun l => l.map g).map fun r => r[j]?.getD 0) ks) = (List.range t).map fun j => dotZ (M.map fun l => g (l[j]?.getD (0, 0))) ks := List.map_congr_left fun j _ => by
      rw [List.map_map]
      congr 1
      refine List.map_congr_left fun l _ => ?_
      show ((l.map g)[j]?).getD 0 = g (l[j]?.getD (0, 0))
      rw [List.getElem?_map]
      cases l[j]? with
      | none => exact hg.symm
      | some y => rfl
    rw [a4] at a3
    exact a1.trans ((Cg.of_eq a3.symm).trans a2.symm)
  have v1 : ∀ l : List (Int × Int), Cg p.Q (valGo p.Q i l (0, 0) 1).1 (evZ i (l.map (·.1))) := fun l => by
    rw [valGo_ev h.Q l (0, 0) 1 (Int.le_refl 0) h0 (Int.le_refl 0) h0, Int.zero_add, Int.one_mul]
    exact Cg.mod _ _
  have v2 : ∀ l : List (Int × Int), Cg p.Q (valGo p.Q i l (0, 0) 1).2 (evZ i (l.map (·.2))) := fun l => by
    rw [valGo_ev h.Q l (0, 0) 1 (Int.le_refl 0) h0 (Int.le_refl 0) h0, Int.zero_add, Int.zero_add, Int.one_mul, Int.one_mul]
    exact Cg.mod _ _
  refine Prod.ext ?_ ?_
  · exact half (·.1) rfl _ v1 _ (fun j => by
      show Cg p.Q (comeP p.Q (M.map fun l => l[j]?.getD (0, 0)) ks (0, 0)).1 _
      rw [e2 M _ hlen]
      exact Cg.mod _ _)
  · exact half (·.2) rfl _ v2 _ (fun j => by
      show Cg p.Q (comeP p.Q (M.map fun l => l[j]?.getD (0, 0)) ks (0, 0)).2 _
      rw [e2 M _ hlen]
      exact Cg.mod _ _)
end Go.Proofs.YtonkbmknanpchaaDoor

namespace Go.Proofs.YtonkbmknanpchaaDoor

theorem wAt_cg {q : Int} {xs : List Int} {at_ : Int} {i : Nat} (hq : mayB q = true) (h : HasInv (underI q xs at_ i) q) : Cg q (underI q xs at_ i * wAt q xs at_ i) (overI q xs at_ i) := by
  obtain ⟨_, _, h1⟩ := invI_spec h
  refine ((mulI_cg (invI (underI q xs at_ i) q) (overI q xs at_ i) q hq).mul_left _).trans ?_
  rw [← Int.mul_assoc]
  exact (h1.mul_right _).trans (Cg.of_eq (Int.one_mul _))
theorem cg_cancel {q d s a : Int} (h : HasInv d q) (k : Cg q (d * s) (d * a)) : Cg q s a := by
  obtain ⟨x, _, _, hx⟩ := h
  have key : ∀ s : Int, Cg q (x * (d * s)) s := fun s => by
    rw [← Int.mul_assoc, Int.mul_comm x d]
    exact (hx.mul_right s).trans (Cg.of_eq (Int.one_mul s))
  exact (key s).symm.trans ((k.mul_left x).trans (key a))
theorem diff_inv {q n x y : Int} (hq : mayB q = true) (ha : Apart q n) (hx : 1 ≤ x ∧ x ≤ n) (hy : 1 ≤ y ∧ y ≤ n) (hne : x ≠ y) : HasInv (x - y) q := by
  have h0 := mayB_pos hq
  rcases Int.lt_or_gt_of_ne hne with h | h
  · have := hasInv_neg h0 (ha (y - x) (by omega) (by omega))
    rwa [show -(y - x) = x - y by omega] at this
  · exact ha (x - y) (by omega) (by omega)
theorem under2 {q : Int} (hq : mayB q = true) (x y : Int) : Cg q (underI q [x, y] 0 0) (x - y) ∧ Cg q (underI q [x, y] 0 1) (y - x) ∧ Cg q (overI q [x, y] 0 0) (0 - y) ∧ Cg q (overI q [x, y] 0 1) (0 - x) := by
  have one : ∀ a b : Int, Cg q (mulI (1 % q) (subI a b q) q) (a - b) := fun a b => by
    refine (mulI_cg _ _ _ hq).trans (((Cg.mod q 1).mul (subI_cg _ _ _ hq)).trans (Cg.of_eq (Int.one_mul _)))
  have e1 : underI q [x, y] 0 0 = mulI (1 % q) (subI x y q) q := by simp [underI, othersI, othersUp, List.range_succ, prodI]
  have e2 : underI q [x, y] 0 1 = mulI (1 % q) (subI y x q) q := by simp [underI, othersI, othersUp, List.range_succ, prodI]
  have e3 : overI q [x, y] 0 0 = mulI (1 % q) (subI 0 y q) q := by simp [overI, othersI, othersUp, List.range_succ, prodI]
  have e4 : overI q [x, y] 0 1 = mulI (1 % q) (subI 0 x q) q := by simp [overI, othersI, othersUp, List.range_succ, prodI]
  rw [e1, e2, e3, e4]
  exact ⟨one _ _, one _ _, one _ _, one _ _⟩
theorem under3 {q : Int} (hq : mayB q = true) (x y z : Int) :
    Cg q (underI q [x, y, z] 0 0) ((x - y) * (x - z)) ∧ Cg q (underI q [x, y, z] 0 1) ((y - x) * (y - z)) ∧ Cg q (underI q [x, y, z] 0 2) ((z - x) * (z - y)) ∧ Cg q (overI q [x, y, z] 0 0) ((0 - y) * (0 - z)) ∧ Cg q (overI q [x, y, z] 0 1) ((0 - x) * (0 - z)) ∧ Cg q (overI q [x, y, z] 0 2) ((0 - x) * (0 - y)) := by
  have two : ∀ a b c d : Int, Cg q (mulI (mulI (1 % q) (subI a b q) q) (subI c d q) q) ((a - b) * (c - d)) := fun a b c d => by
    refine (mulI_cg _ _ _ hq).trans (Cg.mul ?_ (subI_cg _ _ _ hq))
    exact (mulI_cg _ _ _ hq).trans (((Cg.mod q 1).mul (subI_cg _ _ _ hq)).trans (Cg.of_eq (Int.one_mul _)))
  have e1 : underI q [x, y, z] 0 0 = mulI (mulI (1 % q) (subI x y q) q) (subI x z q) q := by simp [underI, othersI, othersUp, List.range_succ, prodI]
  have e2 : underI q [x, y, z] 0 1 = mulI (mulI (1 % q) (subI y x q) q) (subI y z q) q := by simp [underI, othersI, othersUp, List.range_succ, prodI]
  have e3 : underI q [x, y, z] 0 2 = mulI (mulI (1 % q) (subI z x q) q) (subI z y q) q := by simp [underI, othersI, othersUp, List.range_succ, prodI]
  have e4 : overI q [x, y, z] 0 0 = mulI (mulI (1 % q) (subI 0 y q) q) (subI 0 z q) q := by simp [overI, othersI, othersUp, List.range_succ, prodI]
  have e5 : overI q [x, y, z] 0 1 = mulI (mulI (1 % q) (subI 0 x q) q) (subI 0 z q) q := by simp [overI, othersI, othersUp, List.range_succ, prodI]
  have e6 : overI q [x, y, z] 0 2 = mulI (mulI (1 % q) (subI 0 x q) q) (subI 0 y q) q := by simp [overI, othersI, othersUp, List.range_succ, prodI]
  rw [e1, e2, e3, e4, e5, e6]
  exact ⟨two _ _ _ _, two _ _ _ _, two _ _ _ _, two _ _ _ _, two _ _ _ _, two _ _ _ _⟩
theorem lag2 {q n x y : Int} (hq : mayB q = true) (ha : Apart q n) (hp : Places n [x, y]) (a b : Int) : Cg q ((a + x * (b + x * 0)) * wAt q [x, y] 0 0 + ((a + y * (b + y * 0)) * wAt q [x, y] 0 1 + 0)) a := by
  have i0 := under_inv hq ha hp 0 0 (by simp)
  have i1 := under_inv hq ha hp 0 1 (by simp)
  obtain ⟨u0, u1, o0, o1⟩ := under2 hq x y
  have k0 := (u0.symm.mul_right _).trans ((wAt_cg hq i0).trans o0)
  have k1 := (u1.symm.mul_right _).trans ((wAt_cg hq i1).trans o1)
  have hx := hp.1 x (by simp)
  have hy := hp.1 y (by simp)
  have hne : x ≠ y := by have := hp.2; simp at this; exact this
  generalize wAt q [x, y] 0 0 = w0 at *
  generalize wAt q [x, y] 0 1 = w1 at *
  refine cg_cancel (diff_inv hq ha hx hy hne) ?_
  have e : (x - y) * ((a + x * (b + x * 0)) * w0 + ((a + y * (b + y * 0)) * w1 + 0)) = (x - y) * w0 * (a + x * b) - (y - x) * w1 * (a + y * b) := by grind
  rw [e]
  refine ((k0.mul_right _).sub (k1.mul_right _)).trans (Cg.of_eq ?_)
  grind
theorem lag3 {q n x y z : Int} (hq : mayB q = true) (ha : Apart q n) (hp : Places n [x, y, z]) (a b c : Int) : Cg q ((a + x * (b + x * (c + x * 0))) * wAt q [x, y, z] 0 0 + ((a + y * (b + y * (c + y * 0))) * wAt q [x, y, z] 0 1 + ((a + z * (b + z * (c + z * 0))) * wAt q [x, y, z] 0 2 + 0))) a := by
  have i0 := under_inv hq ha hp 0 0 (by simp)
  have i1 := under_inv hq ha hp 0 1 (by simp)
  have i2 := under_inv hq ha hp 0 2 (by simp)
  obtain ⟨u0, u1, u2, o0, o1, o2⟩ := under3 hq x y z
  have k0 := (u0.symm.mul_right _).trans ((wAt_cg hq i0).trans o0)
  have k1 := (u1.symm.mul_right _).trans ((wAt_cg hq i1).trans o1)
  have k2 := (u2.symm.mul_right _).trans ((wAt_cg hq i2).trans o2)
  have hx := hp.1 x (by simp)
  have hy := hp.1 y (by simp)
  have hz := hp.1 z (by simp)
  have hne : x ≠ y ∧ x ≠ z ∧ y ≠ z := by have := hp.2; simp at this; exact ⟨this.1.1, this.1.2, this.2⟩
  generalize wAt q [x, y, z] 0 0 = w0 at *
  generalize wAt q [x, y, z] 0 1 = w1 at *
  generalize wAt q [x, y, z] 0 2 = w2 at *
  refine cg_cancel (diff_inv hq ha hx hy hne.1) (cg_cancel (diff_inv hq ha hx hz hne.2.1) (cg_cancel (diff_inv hq ha hy hz hne.2.2) ?_))
  have e : (y - z) * ((x - z) * ((x - y) * ((a + x * (b + x * (c + x * 0))) * w0 + ((a + y * (b + y * (c + y * 0))) * w1 + ((a + z * (b + z * (c + z * 0))) * w2 + 0))))) = (x - y) * (x - z) * w0 * ((y - z) * (a + x * (b + x * c))) - (y - x) * (y - z) * w1 * ((x - z) * (a + y * (b + y * c))) + (z - x) * (z - y) * w2 * ((x - y) * (a + z * (b + z * c))) := by grind
  rw [e]
  refine (((k0.mul_right _).sub (k1.mul_right _)).add (k2.mul_right _)).trans (Cg.of_eq ?_)
  grind
theorem len_two : ∀ {l : List Int}, l.length = 2 → ∃ x y, l = [x, y]
  | [x, y], _ => ⟨x, y, rfl⟩
theorem len_three : ∀ {l : List Int}, l.length = 3 → ∃ x y z, l = [x, y, z]
  | [x, y, z], _ => ⟨x, y, z, rfl⟩
/-- As many points as a polynomial has numbers tell its first. -/
theorem lag {q n : Int} (hq : mayB q = true) (ha : Apart q n) (hn : n < q) {xs l : List Int} (hp : Places n xs) (h : xs.length = 2 ∨ xs.length = 3) (hl : l.length = xs.length) : Cg q (dotZ (xs.map fun x => evZ x l) (wList q xs 0)) (l[0]?.getD 0) := by
  have hw : wList q xs 0 = (List.range xs.length).map (wAt q xs 0) := if_pos (werr_zero hq ha hn hp (by omega) 0)
  rw [hw]
  rcases h with h | h
  · obtain ⟨x, y, rfl⟩ : ∃ x y, xs = [x, y] := len_two h
    obtain ⟨a, b, rfl⟩ : ∃ a b, l = [a, b] := len_two hl
    exact lag2 hq ha hp a b
  · obtain ⟨x, y, z, rfl⟩ : ∃ x y z, xs = [x, y, z] := len_three h
    obtain ⟨a, b, c, rfl⟩ : ∃ a b c, l = [a, b, c] := len_three hl
    exact lag3 hq ha hp a b c
end Go.Proofs.YtonkbmknanpchaaDoor

namespace Go.Proofs.YtonkbmknanpchaaDoor
open Go Go.RowKit

theorem ret_i64 {a b : Int} (h : a = b) : Ending.returned (.int .i64 a) = .returned (.int .i64 b) := by rw [h]
/-- The value of a list of coefficients, the highest one first. -/
def evalGo (q x : Int) (l : List Int) (o : Int) : Int := l.foldl (fun o y => addI (mulI o x q) y q) o
def evalI (q : Int) (c : List Int) (x : Int) : Int := evalGo q x c.reverse 0
theorem evalGo_U64 (q x : Int) : ∀ (l : List Int) (o : Int), U64 o → U64 (evalGo q x l o)
  | [], _, h => h
  | y :: l, _, _ => evalGo_U64 q x l _ (addI_U64 _ _ _)
theorem evalI_U64 (q : Int) (c : List Int) (x : Int) : U64 (evalI q c x) := evalGo_U64 q x _ _ ⟨by decide, by decide⟩
theorem evalGo_snoc (q x : Int) (l : List Int) (j : Nat) (h : j < l.length) (o : Int) : evalGo q x (l.take (j + 1)) o = addI (mulI (evalGo q x (l.take j) o) x q) l[j] q := by
  unfold evalGo
  rw [List.take_succ_eq_append_getElem h, List.foldl_append]
  rfl
theorem reverse_at (l : List Int) (j : Nat) (h : j < l.length) : l.reverse[j]'(by simpa using h) = l[l.length - 1 - j]'(by omega) := by simp
set_option maxRecDepth 100000 in
set_option maxHeartbeats 2000000 in
theorem eval_any (v : Value) (l : List Int) (x q : Int) (X : Nat → Prop) (w : World) (h : Sl encU X w v l) (hx : U64 x) :
    Calls Tryd.prog 38 #[v, .int .u64 x, .int .u64 q] w fun e w' => e = .returned (.int .u64 (evalI q l x)) ∧ w.grownBy w' none := by
  have H := Lib.hid h
  have HX := Lib.hid hx
  obtain ⟨A, c, rfl, hc1, hc2⟩ := h.form
  have HST : Hid (w.grownBy w none ∧ U64 0 ∧ (0 : Int) = evalGo q x (l.reverse.take 0) 0) := Lib.hid ⟨World.grownBy.refl w none, ⟨by decide, by decide⟩, rfl⟩
  clear h hx
  obtain ⟨n, hn⟩ : ∃ n, n = l.length := ⟨_, rfl⟩
  have HN := Lib.hid hn
  rw [← hn] at hc1 ⊢
  have hn9 : (n : Int) ≤ 9223372036854775807 := by omega
  clear hn
  go_enter Tryd.func38, Tryd.ntmps38
  go_wp2_with fail
  go_loopg [7, 11] n (fun g s7 s11 wx => ∃ (j : Nat) (o : Int), j + g = n ∧ s11 = .int .i64 j ∧ s7 = .int .u64 o ∧ Hid (w.grownBy wx none ∧ U64 o ∧ o = evalGo q x (l.reverse.take j) 0))
  case atStart => exact ⟨0, 0, by omega, rfl, rfl, HST⟩
  case round =>
    obtain ⟨j, o, hj, rfl, rfl, HR⟩ := hrel
    cases gk with
    | zero =>
      obtain rfl : j = n := by omega
      have HE : Hid (o = evalI q l x) := Lib.hid (by rw [HR.out.2.2, HN.out, evalI, List.take_of_length_le (by simp)])
      have HG := Lib.hid HR.out.1
      clear HR HST
      go_wp2
      go_ret
      exact ⟨ret_u64 HE.out, HG.out⟩
    | succ m =>
      have hjn : (j : Int) < (n : Int) := by omega
      have hjN : j < l.length := by rw [← HN.out]; omega
      obtain ⟨r, hr⟩ : ∃ r, r + j + 1 = n := ⟨m, by omega⟩
      have hrl : r < l.length := by rw [← HN.out]; omega
      obtain ⟨g, of, c', e, _, _, hcu, hu⟩ := (H.out.kept HR.out.1).atU hrl
      injection e with e1 e2 e3
      subst e1 e3
      have HGd : Hid (w.grownBy wr.drew none) := Lib.hid (grownBy_drewN HR.out.1 1)
      have HC0 := Lib.hid (fun (w' : World) (hw : wr.drew.grownBy w' none) => (H.out.kept (HGd.out.trans hw)).atU hrl)
      have HC : Hid (∀ w', wr.drew.grownBy w' none → w'.cell? ⟨g, of + r, none⟩ = some (.int .u64 l[r])) := Lib.hid (fun w' hw => by
        obtain ⟨g2, of2, c2, e2, _, _, h3, _⟩ := HC0.out w' hw
        injection e2 with e21 e22 e23
        injection e21 with e21
        injection e21 with e24 e25
        subst e24 e25
        exact h3)
      have HY := Lib.hid hu
      have HO := Lib.hid HR.out.2.1
      have HSN : Hid (addI (mulI o x q) l[r] q = evalGo q x (l.reverse.take (j + 1)) 0) := Lib.hid (by
        rw [evalGo_snoc q x l.reverse j (by simpa using hjN), reverse_at l j hjN, ← HR.out.2.2]
        congr 2
        have := HN.out
        omega)
      have e4 : IntKind.i64.wrap ((n : Int) - 1) = (n : Int) - 1 := IntWalk.i64_in _ (by omega)
      have e5 : IntKind.i64.wrap ((n : Int) - 1 - (j : Int)) = (r : Int) := by rw [IntWalk.i64_in _ (by omega)]; omega
      have hr0 : (0 : Int) ≤ (r : Int) := by omega
      have hrn : (r : Int) < (n : Int) := by omega
      clear hcu hu HC0 HR HST e2
      generalize l[r] = y at *
      go_wp2_with fail
      refine wp_region_mono 15 (by kernel_rfl) (by kernel_rfl) ?_
      -- op 0 (slot 14): move
      refine MonoR.step (Pv.eq (.int .u64 o)) [] (by kernel_rfl) (fun w' hw' => ?_) ?_
      · refine ask_do rfl fun K hK => ?_
        go_simp
        exact hK _ _ rfl rfl (World.grownBy.refl _ none)
      -- op 1 (slot 15): move
      refine MonoR.step (Pv.eq (.int .u64 x)) [] (by kernel_rfl) (fun w' hw' => ?_) ?_
      · refine ask_do rfl fun K hK => ?_
        go_simp
        exact hK _ _ rfl rfl (World.grownBy.refl _ none)
      -- op 2 (slot 16): move
      refine MonoR.step (Pv.eq (.int .u64 q)) [] (by kernel_rfl) (fun w' hw' => ?_) ?_
      · refine ask_do rfl fun K hK => ?_
        go_simp
        exact hK _ _ rfl rfl (World.grownBy.refl _ none)
      -- op 3 (slot 17): call
      refine MonoR.step (Pv.eq (.int .u64 (mulI o x q))) [(0, 14), (1, 15), (2, 16)] (by kernel_rfl) (fun w' hw' => ?_) ?_
      · rintro _ rfl
        rintro _ rfl
        rintro _ rfl
        refine ask_do rfl fun K hK => ?_
        go_simp
        refine (mul_gr o x q w' HO.out HX.out).mono ?_
        rintro e w3 ⟨rfl, hg⟩
        exact hK _ _ rfl rfl hg
      -- op 4 (slot 18): move
      refine MonoR.step (Pv.eq (.slice (some ⟨g, of, none⟩) n c)) [] (by kernel_rfl) (fun w' hw' => ?_) ?_
      · refine ask_do rfl fun K hK => ?_
        go_simp
        exact hK _ _ rfl rfl (World.grownBy.refl _ none)
      -- op 5 (slot 19): move
      refine MonoR.step (Pv.eq (.slice (some ⟨g, of, none⟩) n c)) [] (by kernel_rfl) (fun w' hw' => ?_) ?_
      · refine ask_do rfl fun K hK => ?_
        go_simp
        exact hK _ _ rfl rfl (World.grownBy.refl _ none)
      -- op 6 (slot 20): call
      refine MonoR.step (Pv.eq (.int .i64 (n : Int))) [(5, 19)] (by kernel_rfl) (fun w' hw' => ?_) ?_
      · rintro _ rfl
        refine ask_do rfl fun K hK => ?_
        go_simp
        exact hK _ _ rfl rfl (World.grownBy.refl _ none)
      -- op 7 (slot 21): binOp
      refine MonoR.step (Pv.eq (.int .i64 ((n : Int) - 1))) [(6, 20)] (by kernel_rfl) (fun w' hw' => ?_) ?_
      · rintro _ rfl
        refine ask_do rfl fun K hK => ?_
        go_simp
        exact hK _ _ rfl rfl (World.grownBy.refl _ none)
      -- op 8 (slot 22): move
      refine MonoR.step (Pv.eq (.int .i64 (j : Int))) [] (by kernel_rfl) (fun w' hw' => ?_) ?_
      · refine ask_do rfl fun K hK => ?_
        go_simp
        exact hK _ _ rfl rfl (World.grownBy.refl _ none)
      -- op 9 (slot 23): binOp
      refine MonoR.step (Pv.eq (.int .i64 (r : Int))) [(7, 21), (8, 22)] (by kernel_rfl) (fun w' hw' => ?_) ?_
      · rintro _ rfl
        rintro _ rfl
        refine ask_do rfl fun K hK => ?_
        go_simp
        exact hK _ _ rfl rfl (World.grownBy.refl _ none)
      -- op 10 (slot 24): indexAddr
      refine MonoR.step (Pv.eq (.pointer (some ⟨g, of + r, none⟩))) [(4, 18), (9, 23)] (by kernel_rfl) (fun w' hw' => ?_) ?_
      · rintro _ rfl
        rintro _ rfl
        refine ask_do rfl fun K hK => ?_
        go_simp
        exact hK _ _ rfl rfl (World.grownBy.refl _ none)
      -- op 11 (slot 25): load
      refine MonoR.step (Pv.eq (.int .u64 y)) [(10, 24)] (by kernel_rfl) (fun w' hw' => ?_) ?_
      · rintro _ rfl
        refine ask_do rfl fun K hK => ?_
        have hc := HC.out w' hw'
        go_simp
        exact hK _ _ rfl rfl (World.grownBy.refl _ none)
      -- op 12 (slot 26): move
      refine MonoR.step (Pv.eq (.int .u64 q)) [] (by kernel_rfl) (fun w' hw' => ?_) ?_
      · refine ask_do rfl fun K hK => ?_
        go_simp
        exact hK _ _ rfl rfl (World.grownBy.refl _ none)
      -- op 13 (slot 27): call
      refine MonoR.step (Pv.eq (.int .u64 (addI (mulI o x q) y q))) [(3, 17), (11, 25), (12, 26)] (by kernel_rfl) (fun w' hw' => ?_) ?_
      · rintro _ rfl
        rintro _ rfl
        rintro _ rfl
        refine ask_do rfl fun K hK => ?_
        go_simp
        refine (add_gr (mulI o x q) y q w' (mulI_U64 _ _ _) HY.out).mono ?_
        rintro e w3 ⟨rfl, hg⟩
        exact hK _ _ rfl rfl hg
      -- op 14 (slot 7): assign
      refine MonoR.step (Pv.eq (.int .u64 (addI (mulI o x q) y q))) [(13, 27)] (by kernel_rfl) (fun w' hw' => ?_) ?_
      · rintro _ rfl
        refine ask_do rfl fun K hK => ?_
        go_simp
        exact hK _ _ rfl rfl (World.grownBy.refl _ none)
      intro w3 hw3
      iterate 14 (intro _ _)
      rintro _ rfl
      have HE : Hid (w.grownBy w3 none ∧ U64 (addI (mulI o x q) y q) ∧ addI (mulI o x q) y q = evalGo q x (l.reverse.take (j + 1)) 0) := Lib.hid ⟨HGd.out.trans hw3, addI_U64 _ _ _, HSN.out⟩
      clear hw3 e4 e5
      refine wpList_nil ?_
      simp only [Act.put, List.setIfInBounds_toArray, List.set_cons_zero, List.set_cons_succ]
      go_wp2_with fail
      go_roundg m
      case measure => omega
      case rel => exact ⟨j + 1, _, by omega, by go_num, rfl, HE⟩
end Go.Proofs.YtonkbmknanpchaaDoor
