/- consistorylaw18.DealModel: true for every input: the row's statement, and its tied card, out of the law's contract. -/
import Derived.Test.YtonkbmknanpchaaDoorZ4
import Derived.Deep.RegionHeld3
import Derived.Deep.DeepCutAuto
import Derived.Deep.Quiet
import Derived.Deep.QuietTactic
import Derived.BigQuiet
import Derived.StillTail
import Derived.ProofKit
import Derived.Test.YtonkbmknanpchaaDoorCards
import Derived.Test.YtonkbmknanpchaaDoorTie
import Derived.WalkKit
import Derived.OpenShut
import Derived.ChangeOld
import Derived.Below
import Derived.Deep.DeepHandedRow
import Derived.Lib.LaidTab
import Derived.Stop.LaidErr
namespace Go.Proofs.YtonkbmknanpchaaDoor
open Go.RowKit

theorem turnedI_length (p : Par) (l : List (List Int)) : (turnedI p l).length = wideI l := by simp [turnedI]
theorem turnedI_cols (p : Par) (l : List (List Int)) : ∀ c ∈ turnedI p l, c.length = l.length := by
  intro c hc
  obtain ⟨j, _, rfl⟩ := List.mem_map.1 hc
  simp [colI]
theorem shareI_length (p : Par) (l : List (List Int)) (x : Int) : (shareI p l x).length = l.length := by simp [shareI]
set_option maxRecDepth 100000 in
set_option maxHeartbeats 400000 in
theorem sequal_any (v1 v2 : Value) (xs ys : List Int) (X Y : Nat → Prop) (w : World) (h1 : Sl encU X w v1 xs) (h2 : Sl encU Y w v2 ys) :
    Calls Tryd.prog 43 #[v1, v2] w fun e w' => e = .returned (.bool (decide (xs = ys))) ∧ w.grownBy w' none := by
  have H1 := Lib.hid h1
  have H2 := Lib.hid h2
  obtain ⟨A1, c1, rfl, hc1, hc2⟩ := h1.form
  obtain ⟨A2, c2, rfl, hc3, hc4⟩ := h2.form
  clear h1 h2
  by_cases hl : xs.length = ys.length
  · have HLN := Lib.hid hl
    have HST : Hid ((∃ n, w = w.drewN n) ∧ xs.take 0 = ys.take 0) := Lib.hid ⟨⟨0, rfl⟩, rfl⟩
    rw [hl] at H1 hc1 ⊢
    clear hl
    go_enter Tryd.func43, Tryd.ntmps43
    go_wp2_with fail
    go_loopg [13] ys.length (fun g s13 wx => ∃ j : Nat, j + g = ys.length ∧ s13 = .int .i64 j ∧ Hid ((∃ n, wx = w.drewN n) ∧ xs.take j = ys.take j))
    case atStart => exact ⟨0, by omega, rfl, HST⟩
    case round =>
      obtain ⟨j, hj, rfl, HX⟩ := hrel
      obtain ⟨⟨n0, rfl⟩, htk⟩ := HX.out
      cases gk with
      | zero =>
        obtain rfl : j = ys.length := by omega
        have HE : Hid (decide (xs = ys) = true) := Lib.hid (by
          rw [List.take_length, ← HLN.out, List.take_length] at htk
          simpa using htk)
        clear HX HST htk
        go_wp2
        go_ret
        exact ⟨ret_bool HE.out.symm, grown_drewN' w _⟩
      | succ m =>
        have hjn : (j : Int) < (ys.length : Int) := by omega
        have hj0 : (0 : Int) ≤ (j : Int) := by omega
        have hjN : j < ys.length := by omega
        have hjX : j < xs.length := by rw [HLN.out]; exact hjN
        obtain ⟨g1, o1, c1', e1, _, _, a1, u1⟩ := (HLN.out ▸ H1.out : Sl encU X w (.slice A1 xs.length c1) xs).atU hjX
        injection e1 with e11 e12 e13
        subst e11 e13
        obtain ⟨g2, o2, c2', e2, _, _, a2, _⟩ := H2.out.atU hjN
        injection e2 with e21 e22 e23
        subst e21 e23
        have HSX := Lib.hid (List.take_succ_eq_append_getElem hjX)
        have HSY := Lib.hid (List.take_succ_eq_append_getElem hjN)
        have HTK := Lib.hid htk
        by_cases hxy : xs[j] = ys[j]
        · have HNX : Hid (xs.take (j + 1) = ys.take (j + 1)) := Lib.hid (by rw [HSX.out, HSY.out, hxy, HTK.out])
          rw [hxy] at a1
          clear HX HST e12 e22 htk hxy HSX HSY
          generalize ys[j] = y at *
          go_wp2_with fail
          go_quiet (fail)
          go_wp2_with fail
          go_roundg m
          case measure => omega
          case rel => exact ⟨j + 1, by omega, by go_num, Lib.hid ⟨⟨_, rfl⟩, HNX.out⟩⟩
        · have HE : Hid (decide (xs = ys) = false) := Lib.hid (by simp only [decide_eq_false_iff_not]; intro e; apply hxy; subst e; rfl)
          have hd : (xs[j] != ys[j]) = true := by simpa using hxy
          clear HX HST e12 e22 htk hxy HSX HSY
          generalize ys[j] = y at *
          generalize xs[j] = x at *
          go_wp2_with fail
          go_quiet (fail)
          go_wp2
          go_ret
          exact ⟨ret_bool HE.out.symm, (grown_drewN' w _).trans (grown_drewN' _ _)⟩
  · have hd : ((xs.length : Int) != (ys.length : Int)) = true := by simp; omega
    have HE : Hid (decide (xs = ys) = false) := Lib.hid (by simp only [decide_eq_false_iff_not]; intro e; exact hl (by rw [e]))
    clear hl
    go_enter Tryd.func43, Tryd.ntmps43
    go_wp2
    go_ret
    exact ⟨ret_bool HE.out.symm, World.grownBy.refl w none⟩
theorem commit_U64' (p : Par) (x : Int × Int) : U64 (commitI p x) := timesI_U64 _ _
def fitsI (p : Par) (coms : List (List Int)) (i : Int) (l : List (Int × Int)) : Bool := decide (l.map (commitI p) = shareI p coms i)
set_option maxRecDepth 100000 in
set_option maxHeartbeats 1000000 in
theorem fits_any (p : Par) (v1 : Value) (coms : List (List Int)) (i : Int) (v2 : Value) (l : List (Int × Int)) (X Y : Nat → Prop) (w : World) (hp : p.ok) (h1 : Sl (encS encU) X w v1 coms) (hi : U64 i) (h2 : Sl encP Y w v2 l) (hb : coms.length ≤ 100000) (hb2 : l.length ≤ 100000) :
    Calls Tryd.prog 10 #[p.v, v1, .int .u64 i, v2] w fun e w' => e = .returned (.bool (fitsI p coms i l)) ∧ w.grownBy w' none := by
  have HP := Lib.hid hp
  have HSH := Lib.hid (fun (w' : World) (hw : w.grownBy w' none) => share_any p v1 coms i X w' (h1.kept hw) hi hb)
  have H := Lib.hid h2
  obtain ⟨A, c, rfl, hc1, hc2⟩ := h2.form
  have HST : Hid (Acc encU w.heap.size 22 (fun g => w.heap.size ≤ g) (w.alloc (Obj.cells p.cells 24)) (.slice none 0 0) ((l.take 0).map (commitI p)) ∧ w.grownBy (w.alloc (Obj.cells p.cells 24)) none ∧ Bk (w.alloc (Obj.cells p.cells 24)) w.heap.size 24 p.cells) := Lib.hid ⟨Acc.nil _ _ _ _ _, World.grownBy_alloc w _ none, Bk.new w _ _⟩
  clear h1 h2 hi hp hb
  go_enter Tryd.func10, Tryd.ntmps10
  go_wp2_with fail
  go_loopg [9, 14] l.length (fun g s9 s14 wx => ∃ j : Nat, j + g = l.length ∧ s14 = .int .i64 j ∧ Hid (Acc encU w.heap.size 22 (fun g => w.heap.size ≤ g) wx s9 ((l.take j).map (commitI p)) ∧ w.grownBy wx none ∧ Bk wx w.heap.size 24 p.cells))
  case atStart => exact ⟨0, by omega, rfl, HST⟩
  case round =>
    obtain ⟨j, hj, rfl, HX⟩ := hrel
    cases gk with
    | zero =>
      obtain rfl : j = l.length := by omega
      have HS9 : Hid (Sl encU (fun g => w.heap.size ≤ g) wr u9 (l.map (commitI p))) := Lib.hid (by have := HX.out.1.sl; rwa [List.take_length] at this)
      have HG := Lib.hid HX.out.2.1
      have hp := HX.out.2.2.prule
      clear HX HST
      go_wp2_with fail
      refine (HSH.out _ HG.out).mono ?_
      rintro e' w1 ⟨u1, rfl, hs1, hg1⟩
      have HEQ := Lib.hid (sequal_any u9 u1 _ _ _ _ w1 (HS9.out.kept hg1) hs1)
      have HG1 := Lib.hid (HG.out.trans hg1)
      clear hs1 hg1 hp
      go_wp2_with fail
      refine HEQ.out.mono ?_
      rintro e' w2 ⟨rfl, hg2⟩
      have HG2 := Lib.hid (HG1.out.trans hg2)
      clear hg2
      go_wp2
      go_ret
      exact ⟨rfl, HG2.out⟩
    | succ m =>
      have hjn : (j : Int) < (l.length : Int) := by omega
      have hjN : j < l.length := by omega
      obtain ⟨hacc, hg, hbp⟩ := HX.out
      obtain ⟨g, o, c', e, hgl, _, hcu1, hcu2, hu1, hu2⟩ := (H.out.kept hg).atP hjN
      injection e with e1 e2 e3
      subst e1 e3
      have HSN := Lib.hid (map_take_snoc' (commitI p) l j hjN)
      have HU := Lib.hid (commit_U64' p l[j])
      have HF := Lib.hid (fun (w' : World) => commit_any p l[j] w' HP.out hu1 hu2)
      generalize hy : l[j] = y at HSN HU HF hcu1 hcu2 hu1 hu2
      clear hy
      have HG1 : Hid (wr.grownBy (wr.alloc (Obj.cells #[.int .u64 y.1, .int .u64 y.2] 44)) none) := Lib.hid (World.grownBy_alloc wr _ none)
      have HAC := Lib.hid (hacc.kept HG1.out)
      have HG := Lib.hid (hg.trans HG1.out)
      have HBp := Lib.hid (hbp.grown HG1.out (by simp))
      have hp := hbp.prule
      have hlp := hbp.lt
      have HLB : Hid ((((l.take j).map (commitI p)).length + 1) * 8 ≤ 140737488355328) := Lib.hid (by simp; omega)
      clear hacc hg hbp e2 HX HST hu1 hu2
      go_wp2_with fail
      refine (HF.out _).mono ?_
      rintro e' w1 ⟨rfl, hg1⟩
      have HG2 := Lib.hid (HG.out.trans hg1)
      have HA1 := Lib.hid (HAC.out.kept hg1)
      have HBp1 := Lib.hid (HBp.out.grown hg1 (by simp))
      clear hg1 hp
      go_wp2_with (at_builtin; refine wpList_pushG rfl (.tmp 18) (.tmp 22) rfl (E := encU) el_u64 HG2.out HA1.out (fun _ h => h) ⟨rfl, HU.out⟩ HLB.out rfl rfl ?_)
      intro v2 w2 hacc2 hg2 hgo
      have HFIN : Hid (Acc encU w.heap.size 22 (fun g => w.heap.size ≤ g) w2 v2 ((l.take (j + 1)).map (commitI p)) ∧ w.grownBy w2 none ∧ Bk w2 w.heap.size 24 p.cells) := Lib.hid ⟨by rw [HSN.out]; simpa using hacc2, hg2, HBp1.out.grown hgo (fun e => HA1.out.ne_bk HBp1.out (by decide) e.symm)⟩
      clear hacc2 hg2 hgo
      go_wp2_with fail
      go_roundg m
      case measure => omega
      case rel => exact ⟨j + 1, by omega, by go_num, HFIN⟩
end Go.Proofs.YtonkbmknanpchaaDoor

namespace Go.Proofs.YtonkbmknanpchaaDoor
open Go Go.RowKit

theorem is_commit' {p : Par} (h : Good p) (x : Int × Int) (_ : 0 ≤ x.1) (_ : 0 ≤ x.2) : isB p (commitI p x) = true := by
  have hP := may_bds h.P
  have hP2 := h.P2
  have e := commit_eq p x h.P
  have h0 : 0 ≤ commitI p x := by rw [e]; exact Int.emod_nonneg _ (by omega)
  have h1 : commitI p x < p.P := by rw [e]; exact Int.emod_lt_of_pos _ (by omega)
  have hc : Cg p.P (commitI p x ^ p.Q.toNat) 1 := by
    refine ((commit_cg p x h.P).pow _).trans ?_
    rw [Int.mul_pow, ← Int.pow_mul, ← Int.pow_mul, Nat.mul_comm x.1.toNat, Nat.mul_comm x.2.toNat, Int.pow_mul, Int.pow_mul]
    exact ((h.G.pow _).mul (h.H.pow _)).trans (Cg.of_eq (by rw [Int.one_pow, Int.one_pow]; rfl))
  have hp : powI (commitI p x) p.Q p.P = 1 := by
    rw [powI_yes _ _ _ h.P]
    unfold Cg at hc
    rw [hc, Int.emod_eq_of_lt (by decide) (by omega)]
  have hne : commitI p x ≠ 0 := by
    intro e0
    rw [e0] at hc
    have hQ : p.Q.toNat ≠ 0 := by have := h.Q2; omega
    rw [Int.zero_pow hQ] at hc
    unfold Cg at hc
    rw [Int.emod_eq_of_lt (a := 1) (by decide) (by omega)] at hc
    simp at hc
  simp only [isB, hp, Bool.and_eq_true, decide_eq_true_eq, beq_self_eq_true, and_true]
  omega
theorem wlist_pos {q : Int} (hq : mayB q = true) (xs : List Int) (at_ : Int) : ∀ k ∈ wList q xs at_, 0 ≤ k := by
  intro k hk
  unfold wList at hk
  split at hk
  · obtain ⟨i, _, rfl⟩ := List.mem_map.1 hk
    exact (mulI_bd _ _ _ hq).1
  · simp at hk
def dealersI (many : Nat) : List Int := (List.range many).map fun k => ((k + 1 : Nat) : Int)
def gotI (p : Par) (i : Int) (poly : Nat → Nat → List (Int × Int)) (nn many : Nat) : List (List (Int × Int)) := (List.range many).map fun k => (List.range nn).map fun s => valGo p.Q i (poly k s) (0, 0) 1
def fitD (p : Par) (poly : Nat → Nat → List (Int × Int)) (nn many : Nat) : List (Int × List (List Int)) := (List.range many).map fun k => (((k + 1 : Nat) : Int), (List.range nn).map fun s => (poly k s).map (commitI p))
theorem fitD_fst (p : Par) (poly : Nat → Nat → List (Int × Int)) (nn many : Nat) : (fitD p poly nn many).map (·.1) = dealersI many := by
  unfold fitD dealersI
  rw [List.map_map]
  rfl
theorem dealers_places {n : Int} {many : Nat} (h : (many : Int) ≤ n) : Places n (dealersI many) := by
  refine ⟨fun x hx => ?_, ?_⟩
  · obtain ⟨k, hk, rfl⟩ := List.mem_map.1 hx
    have := List.mem_range.1 hk
    omega
  · refine List.pairwise_map.2 (List.Pairwise.imp (R := (· < ·)) (fun {a b} hab => ?_) List.pairwise_lt_range)
    intro e
    have : (a : Int) + 1 = (b : Int) + 1 := by simpa using e
    omega
theorem getD_range {α : Type} (f : Nat → α) (d : α) {s n : Nat} (h : s < n) : ((List.range n).map f)[s]?.getD d = f s := by simp [h]
theorem fits_law {p : Par} (hm : mayP p = true) {many nn t : Nat} (h1 : 1 ≤ many) (h2 : (many : Int) ≤ p.N) (hn : (nn : Int) = secretsI p) (ht : (t : Int) = p.T + 1) {i : Int} (hi : 0 ≤ i) {poly : Nat → Nat → List (Int × Int)}
    (hp : ∀ k s, (poly k s).length = t ∧ ∀ y ∈ poly k s, 0 ≤ y.1 ∧ 0 ≤ y.2) :
    sumE p (dealersI many) (gotI p i poly nn many) = 0 ∧ comsE p (fitD p poly nn many) = 0 ∧ formedB p (comsL p (fitD p poly nn many)) = true ∧ fitsI p (comsL p (fitD p poly nn many)) i (sumL p (dealersI many) (gotI p i poly nn many)) = true := by
  have hg := good_of hm
  obtain ⟨hq, hP, ha, n1, n2, n3, t1, t2, t3, hs, k1, d1⟩ := may_apart hm
  have hpl : Places p.N (dealersI many) := dealers_places h2
  have hdl : (dealersI many).length = many := by simp [dealersI]
  have hM : MemOk p (dealersI many) (gotI p i poly nn many) := ⟨hm, hpl, by omega, by rw [hdl]; simp [gotI], fun x hx => by
    obtain ⟨k, _, rfl⟩ := List.mem_map.1 hx
    rw [← hn]
    simp⟩
  have hD : Deals p (fitD p poly nn many) := ⟨hm, by rw [fitD_fst]; exact hpl, by simp [fitD]; omega, fun d hd => by
    obtain ⟨k, _, rfl⟩ := List.mem_map.1 hd
    refine ⟨by rw [← hn]; simp, fun c hc => ?_⟩
    obtain ⟨s, _, rfl⟩ := List.mem_map.1 (show c ∈ (List.range nn).map fun s => (poly k s).map (commitI p) from hc)
    rw [← ht, List.length_map, (hp k s).1]⟩
  have e1 := sum_good hM
  have e2 := coms_good hD
  have hk : ∀ k ∈ wList p.Q (dealersI many) 0, 0 ≤ k := wlist_pos hq _ _
  have hkl : (wList p.Q (dealersI many) 0).length = many := by rw [wlist_length hq ha n3 hpl (by omega) 0, hdl]
  have hc : comsL p (fitD p poly nn many) = (List.range nn).map fun s => (List.range t).map fun j => comeU p.P (((List.range many).map fun k => poly k s).map fun l => commitI p (l[j]?.getD (0, 0))) (wList p.Q (dealersI many) 0) (timesI p.P []) := by
    unfold comsL
    rw [if_pos e2, ← hn, ← ht, Int.toNat_natCast, Int.toNat_natCast, fitD_fst]
    refine List.map_congr_left fun s hs => List.map_congr_left fun j hj => ?_
    congr 1
    unfold fitD
    rw [List.map_map, List.map_map]
    refine List.map_congr_left fun k _ => ?_
    show ((((List.range nn).map fun s => (poly k s).map (commitI p))[s]?.getD [])[j]?).getD 0 = commitI p ((poly k s)[j]?.getD (0, 0))
    have hj' : j < (poly k s).length := by rw [(hp k s).1]; exact List.mem_range.1 hj
    rw [getD_range _ _ (List.mem_range.1 hs), List.getElem?_map, List.getElem?_eq_getElem hj']
    rfl
  have hx : sumL p (dealersI many) (gotI p i poly nn many) = (List.range nn).map fun s => comeP p.Q (((List.range many).map fun k => poly k s).map fun l => valGo p.Q i l (0, 0) 1) (wList p.Q (dealersI many) 0) (0, 0) := by
    unfold sumL
    rw [if_pos e1, ← hn, Int.toNat_natCast]
    refine List.map_congr_left fun s hs => ?_
    congr 1
    unfold gotI
    rw [List.map_map, List.map_map]
    refine List.map_congr_left fun k _ => ?_
    show (((List.range nn).map fun s => valGo p.Q i (poly k s) (0, 0) 1)[s]?).getD (0, 0) = valGo p.Q i (poly k s) (0, 0) 1
    rw [getD_range _ _ (List.mem_range.1 hs)]
  have hMs : ∀ s, ∀ l ∈ (List.range many).map fun k => poly k s, l.length = t ∧ ∀ y ∈ l, 0 ≤ y.1 ∧ 0 ≤ y.2 := fun s l hl => by
    obtain ⟨k, _, rfl⟩ := List.mem_map.1 hl
    exact hp k s
  have h0 := mayB_pos hq
  have hz : ∀ a b : Int, isB p (commitI p (a % p.Q, b % p.Q)) = true := fun a b => is_commit' hg _ (Int.emod_nonneg _ (by omega)) (Int.emod_nonneg _ (by omega))
  refine ⟨e1, e2, ?_, ?_⟩
  · have hw : IntKind.i64.wrap (p.T + 1) = (t : Int) := by rw [← ht]; exact IntWalk.i64_in _ (by omega)
    unfold formedB allB
    rw [hc, hw, ← hn]
    simp only [List.length_map, List.length_range, decide_true, Bool.true_and, Bool.not_eq_true', List.any_eq_false]
    intro r hr
    obtain ⟨s, _, rfl⟩ := List.mem_map.1 hr
    simp only [rowBad, List.length_map, List.length_range, Bool.or_eq_true, decide_eq_true_eq, List.any_eq_true, not_or, not_exists, not_and]
    refine ⟨by simp, fun x hx => ?_⟩
    obtain ⟨j, hj, rfl⟩ := List.mem_map.1 hx
    have hb := List.mem_range.1 hj
    have e3 : ((List.range many).map fun k => poly k s).map (fun l => commitI p (l[j]?.getD (0, 0))) = (((List.range many).map fun k => poly k s).map fun l => l[j]?.getD (0, 0)).map (commitI p) := by
      rw [List.map_map, List.map_map, List.map_map]
      rfl
    have hy : ∀ y ∈ ((List.range many).map fun k => poly k s).map (fun l => l[j]?.getD (0, 0)), 0 ≤ y.1 ∧ 0 ≤ y.2 := fun y hy => by
      obtain ⟨l, hl, rfl⟩ := List.mem_map.1 hy
      have hj2 : j < l.length := by rw [(hMs s l hl).1]; exact hb
      rw [List.getElem?_eq_getElem hj2]
      exact (hMs s l hl).2 _ (List.getElem_mem hj2)
    rw [e3, ← commit_zero hg, come_commits hg _ _ (0, 0) hy hk (Int.le_refl 0) (Int.le_refl 0)]
    rw [comeP_eq p.Q hq _ _ (0, 0) (by simp [hkl]) (Int.le_refl 0) h0 (Int.le_refl 0) h0]
    simp [hz]
  · unfold fitsI shareI
    rw [hc, hx, List.map_map, List.map_map]
    refine decide_eq_true (List.map_congr_left fun s _ => ?_)
    exact (fit_one hg hi (hMs s) hk (by simp [hkl])).symm
end Go.Proofs.YtonkbmknanpchaaDoor

namespace Go.Proofs.YtonkbmknanpchaaDoor
open Go Go.RowKit

/-- Lists of t numbers, none below 0. -/
def Rect (t : Nat) (F : List (List Int)) : Prop := ∀ r ∈ F, r.length = t ∧ ∀ y ∈ r, 0 ≤ y
def pairsOf (t : Nat) (a b : List Int) : List (Int × Int) := (List.range t).map fun j => (a[j]?.getD 0, b[j]?.getD 0)
theorem pairsOf_fst {t : Nat} {a b : List Int} (h : a.length = t) : (pairsOf t a b).map (·.1) = a := by
  subst h
  refine List.ext_getElem (by simp [pairsOf]) fun j h1 h2 => ?_
  simp [pairsOf, List.getElem?_eq_getElem h2]
theorem pairsOf_snd {t : Nat} {a b : List Int} (h : b.length = t) : (pairsOf t a b).map (·.2) = b := by
  subst h
  refine List.ext_getElem (by simp [pairsOf]) fun j h1 h2 => ?_
  simp [pairsOf, List.getElem?_eq_getElem h2]
theorem pairsOf_pos {t : Nat} {a b : List Int} (ha : ∀ y ∈ a, 0 ≤ y) (hb : ∀ y ∈ b, 0 ≤ y) : ∀ y ∈ pairsOf t a b, 0 ≤ y.1 ∧ 0 ≤ y.2 := by
  have key : ∀ (l : List Int), (∀ y ∈ l, 0 ≤ y) → ∀ j : Nat, (0 : Int) ≤ l[j]?.getD 0 := fun l hl j => by
    rcases Nat.lt_or_ge j l.length with h | h
    · rw [List.getElem?_eq_getElem h]
      exact hl _ (List.getElem_mem h)
    · rw [List.getElem?_eq_none h]
      exact Int.le_refl 0
  intro y hy
  obtain ⟨j, _, rfl⟩ := List.mem_map.1 hy
  exact ⟨key a ha j, key b hb j⟩
theorem comI_pairs (p : Par) {t : Nat} {a b : List Int} (ha : a.length = t) (hb : b.length = t) : comI p (a, b) = (pairsOf t a b).map (commitI p) := by
  simp [comI, zipU, pairsOf, ha, hb, Function.comp_def]
theorem comsI_pairs (p : Par) {F R : List (List Int)} (h : F.length = R.length) : comsI p F R = (List.range F.length).map fun s => comI p (F[s]?.getD [], R[s]?.getD []) := by
  simp [comsI, zipS, h, Function.comp_def]
theorem eval_ev {q : Int} (hq : mayB q = true) (x : Int) (c : List Int) : evZ x c % q = evalI q c x := by
  have h0 := mayB_pos hq
  have hb : 0 ≤ evalI q c x ∧ evalI q c x < q := by
    cases c with
    | nil => exact ⟨Int.le_refl _, h0⟩
    | cons y c =>
      rw [evalI_cons', addI_yes _ _ _ hq]
      exact ⟨Int.emod_nonneg _ (by omega), Int.emod_lt_of_pos _ h0⟩
  have h := (evalI_cg' hq x c).symm
  unfold Cg at h
  rw [h, Int.emod_eq_of_lt hb.1 hb.2]
theorem at_getD {t : Nat} {F : List (List Int)} (h : Rect t F) {s : Nat} (hs : s < F.length) : ∃ r, F[s]? = some r ∧ r.length = t ∧ ∀ y ∈ r, 0 ≤ y := ⟨F[s], List.getElem?_eq_getElem hs, h _ (List.getElem_mem hs)⟩
theorem deal_fits {p : Par} (hm : mayP p = true) {t : Nat} {F R : List (List Int)} (hl : F.length = R.length) (hF : Rect t F) (hR : Rect t R) {i : Int} (hi : 0 ≤ i) : fitsI p (comsI p F R) i (dealtI p F R i) = true := by
  have hg := good_of hm
  have h0 := mayB_pos hg.Q
  unfold fitsI shareI dealtI
  rw [comsI_pairs p hl, List.map_map, List.map_map]
  refine decide_eq_true (List.map_congr_left fun s hs => ?_)
  have hs1 := List.mem_range.1 hs
  obtain ⟨a, ea, la, pa⟩ := at_getD hF hs1
  obtain ⟨b, eb, lb, pb⟩ := at_getD hR (hl ▸ hs1)
  show commitI p (evalI p.Q (F[s]?.getD []) i, evalI p.Q (R[s]?.getD []) i) = atI p (comI p (F[s]?.getD [], R[s]?.getD [])) i
  rw [ea, eb, Option.getD_some, Option.getD_some, comI_pairs p la lb, at_commits hg i hi _ (pairsOf_pos pa pb), valGo_ev hg.Q _ (0, 0) 1 (Int.le_refl 0) h0 (Int.le_refl 0) h0, pairsOf_fst la, pairsOf_snd lb]
  simp only [Int.zero_add, Int.one_mul]
  rw [eval_ev hg.Q, eval_ev hg.Q]
theorem deal_formed {p : Par} (hm : mayP p = true) {t : Nat} (ht : (t : Int) = p.T + 1) {F R : List (List Int)} (hn : (F.length : Int) = secretsI p) (hl : F.length = R.length) (hF : Rect t F) (hR : Rect t R) : formedB p (comsI p F R) = true := by
  have hg := good_of hm
  obtain ⟨_, _, _, _, _, _, t1, t2, _, _, _, _⟩ := may_apart hm
  have hw : IntKind.i64.wrap (p.T + 1) = (t : Int) := by rw [← ht]; exact IntWalk.i64_in _ (by omega)
  unfold formedB allB
  rw [comsI_pairs p hl, hw, ← hn]
  simp only [List.length_map, List.length_range, decide_true, Bool.true_and, Bool.not_eq_true', List.any_eq_false]
  intro r hr
  obtain ⟨s, hs, rfl⟩ := List.mem_map.1 hr
  have hs1 := List.mem_range.1 hs
  obtain ⟨a, ea, la, pa⟩ := at_getD hF hs1
  obtain ⟨b, eb, lb, pb⟩ := at_getD hR (hl ▸ hs1)
  rw [ea, eb, Option.getD_some, Option.getD_some, comI_pairs p la lb]
  simp only [rowBad, List.length_map, Bool.or_eq_true, decide_eq_true_eq, List.any_eq_true, not_or, not_exists, not_and]
  refine ⟨by simp [pairsOf], fun x hx => ?_⟩
  obtain ⟨y, hy, rfl⟩ := List.mem_map.1 hx
  obtain ⟨y1, y2⟩ := pairsOf_pos pa pb y hy
  simp [is_commit' hg y y1 y2]
end Go.Proofs.YtonkbmknanpchaaDoor

namespace Go.Proofs.YtonkbmknanpchaaDoor
open Go Go.RowKit

/-- What n numbers come to, by weights. -/
def wS (q : Int) (x w : Nat → Int) : Nat → Int
  | 0 => 0
  | n + 1 => addI (wS q x w n) (mulI (w n) (x n) q) q
theorem wS_U64 (q : Int) (x w : Nat → Int) : ∀ n, U64 (wS q x w n)
  | 0 => ⟨Int.le_refl 0, by show (0 : Int) < 18446744073709551616; decide⟩
  | _ + 1 => addI_U64 _ _ _
theorem wS_dot {q : Int} (hq : mayB q = true) (x w : Nat → Int) : ∀ n, wS q x w n = dotZ ((List.range n).map x) ((List.range n).map w) % q
  | 0 => (Int.zero_emod q).symm
  | n + 1 => by
    show addI (wS q x w n) (mulI (w n) (x n) q) q = _
    rw [List.range_succ, List.map_append, List.map_append, dotZ_append _ _ _ _ (by simp), wS_dot hq x w n, addI_yes _ _ _ hq, mulI_yes _ _ _ hq]
    show _ = (dotZ ((List.range n).map x) ((List.range n).map w) + (x n * w n + 0)) % q
    have h : Cg q (dotZ ((List.range n).map x) ((List.range n).map w) % q + w n * x n % q) (dotZ ((List.range n).map x) ((List.range n).map w) + (x n * w n + 0)) := ((Cg.mod q _).add (Cg.mod q _)).trans (Cg.of_eq (by rw [Int.mul_comm (w n), Int.add_zero]))
    exact h
theorem range_get (l : List Int) : (List.range l.length).map (fun i => l[i]?.getD 0) = l := by
  refine List.ext_getElem (by simp) fun i h1 h2 => ?_
  simp [List.getElem?_eq_getElem h2]
theorem sum18_law {p : Par} (hm : mayP p = true) {t : Nat} (ht : (t : Int) = p.T + 1) {at_ f : List Int} (hpl : Places p.N at_) (hat : at_.length = t) (hf : f.length = t) : wS p.Q (fun i => evalI p.Q f (at_[i]?.getD 0)) (fun i => (wList p.Q at_ 0)[i]?.getD 0) t = f[0]?.getD 0 % p.Q := by
  obtain ⟨hq, hP, ha, n1, n2, n3, t1, t2, t3, hs, k1, d1⟩ := may_apart hm
  have hw := wlist_length hq ha n3 hpl (by omega) 0
  rw [wS_dot hq]
  have e1 : (List.range t).map (fun i => evalI p.Q f (at_[i]?.getD 0)) = at_.map fun i => evalI p.Q f i := by
    have := congrArg (List.map fun i => evalI p.Q f i) (range_get at_)
    rw [List.map_map, hat] at this
    exact this
  have e2 : (List.range t).map (fun i => (wList p.Q at_ 0)[i]?.getD 0) = wList p.Q at_ 0 := by
    have := range_get (wList p.Q at_ 0)
    rw [hw, hat] at this
    exact this
  rw [e1, e2]
  have h1 := dotZ_cg (fun i => evalI p.Q f i) (fun i => evZ i f) (fun i => evalI_cg' hq i f) at_ (wList p.Q at_ 0)
  exact h1.trans (lag hq ha n3 hpl (by omega) (by rw [hat, hf]))
/-- The members that the statement takes. -/
def some18I (n which : Int) (t : Nat) : List Int := (List.range t).map fun i : Nat => 1 + (which % 18446744073709551616 % n + (i : Int) * (1 + which % 18446744073709551616 / 7 % 2)) % n
theorem some18_in {n which : Int} (hn : 0 < n) {t : Nat} : ∀ x ∈ some18I n which t, 1 ≤ x ∧ x ≤ n := by
  intro x hx
  obtain ⟨i, _, rfl⟩ := List.mem_map.1 hx
  have h1 := Int.emod_nonneg (which % 18446744073709551616 % n + (i : Int) * (1 + which % 18446744073709551616 / 7 % 2)) (show n ≠ 0 by omega)
  have h2 := Int.emod_lt_of_pos (which % 18446744073709551616 % n + (i : Int) * (1 + which % 18446744073709551616 / 7 % 2)) hn
  omega
theorem some18_places {n which : Int} {t : Nat} (h : (t = 2 ∧ 4 ≤ n ∧ n ≤ 7) ∨ (t = 3 ∧ n = 7)) : Places n (some18I n which t) := by
  refine ⟨some18_in (by omega), ?_⟩
  unfold some18I
  obtain ⟨k, hk⟩ : ∃ k, k = which % 18446744073709551616 % n := ⟨_, rfl⟩
  obtain ⟨d, hd⟩ : ∃ d, d = 1 + which % 18446744073709551616 / 7 % 2 := ⟨_, rfl⟩
  have hd2 : d = 1 ∨ d = 2 := by omega
  rw [← hk, ← hd]
  clear hk hd
  rcases h with ⟨rfl, h4, h7⟩ | ⟨rfl, rfl⟩
  · have hn : n = 4 ∨ n = 5 ∨ n = 6 ∨ n = 7 := by omega
    rcases hn with rfl | rfl | rfl | rfl <;> rcases hd2 with rfl | rfl <;> simp [List.range_succ] <;> omega
  · rcases hd2 with rfl | rfl <;> simp [List.range_succ] <;> omega
end Go.Proofs.YtonkbmknanpchaaDoor

namespace Go.Proofs.YtonkbmknanpchaaDoor
open Go Go.RowKit

/-- The secrets that the statement takes. -/
def own18 (l : List Int) (s : Nat) : Int := if 0 < l.length then l[s % l.length]?.getD 0 else (s : Int)
def sec18 (l : List Int) (n : Nat) : List Int := (List.range n).map (own18 l)
theorem own18_U64 {l : List Int} {X : Nat → Prop} {w : World} {v : Value} (h : Sl encU X w v l) {a : Nat} (ha : a ≤ 100000) : U64 (own18 l a) := by
  unfold own18
  split
  · rename_i h0
    have hk : a % l.length < l.length := Nat.mod_lt _ h0
    obtain ⟨_, _, _, _, _, _, _, u⟩ := h.atU hk
    rw [List.getElem?_eq_getElem hk]
    exact u
  · exact ⟨by omega, by omega⟩
theorem m18_snoc {α : Type} (f : Nat → α) (n : Nat) : (List.range (n + 1)).map f = (List.range n).map f ++ [f n] := by simp [List.range_succ]
set_option maxHeartbeats 1000000 in
theorem secrets18_any (p : Par) (v : Value) (l : List Int) (X : Nat → Prop) (w : World) (nn : Nat) (hn : (nn : Int) = secretsI p) (hn10 : nn ≤ 10) (h : Sl encU X w v l) :
    Calls Tryd.prog 6 #[p.v, v] w (Gives encU (fun g => w.heap.size ≤ g) w (sec18 l nn)) := by
  have HB0 : Hid (Bk (w.alloc (Obj.cells p.cells 24)) w.heap.size 24 p.cells) := Lib.hid (Bk.new w _ _)
  obtain ⟨w0, hw0⟩ : ∃ y, y = w.alloc (Obj.cells p.cells 24) := ⟨_, rfl⟩
  have HG0 : Hid (w.grownBy w0 none) := Lib.hid (by rw [hw0]; exact World.grownBy_alloc w _ none)
  rw [← hw0] at HB0
  have H := Lib.hid (h.kept HG0.out)
  have HSEC := Lib.hid (secrets20_any p)
  rw [← hn] at HSEC
  obtain ⟨A, c, rfl, hc1, hc2⟩ := h.form
  clear h hn
  go_enter Tryd.func6, Tryd.ntmps6
  go_wp2_with fail
  rw [← hw0]
  clear hw0
  go_loopg [5, 6] nn (fun g s5 s6 wx => ∃ j : Nat, j + g = nn ∧ s6 = .int .i64 j ∧ Hid (Acc encU w0.heap.size 22 (fun g => w0.heap.size ≤ g) wx s5 (sec18 l j) ∧ w0.grownBy wx none))
  case atStart => exact ⟨0, by omega, rfl, Lib.hid ⟨Acc.nil _ _ _ _ _, World.grownBy.refl _ none⟩⟩
  case round =>
    obtain ⟨j, hj, rfl, HX⟩ := hrel
    have HG := Lib.hid HX.out.2
    have HA := Lib.hid HX.out.1
    have hp := (HB0.out.grown HG.out (by simp)).prule
    clear HX
    cases gk with
    | zero =>
      obtain rfl : j = nn := by omega
      have hno : ¬ ((j : Int) < (j : Int)) := by omega
      go_wp2_with fail
      refine (HSEC.out _).mono ?_
      rintro e w1 ⟨rfl, hg⟩
      have HR : Hid (Sl encU (fun g => w.heap.size ≤ g) w1 u5 (sec18 l j) ∧ w.grownBy w1 none) := Lib.hid ⟨(HA.out.sl.kept hg).more fun g _ h => Nat.le_trans HG0.out.size h, HG0.out.trans (HG.out.trans hg)⟩
      clear hg hp
      go_wp2
      go_ret
      exact ⟨_, rfl, HR.out.1, HR.out.2⟩
    | succ m =>
      have hjn : (j : Int) < (nn : Int) := by omega
      have HSN : Hid (sec18 l (j + 1) = sec18 l j ++ [own18 l j]) := Lib.hid (m18_snoc _ _)
      have HU : Hid (U64 (own18 l j)) := Lib.hid (own18_U64 H.out (by omega))
      have HLB : Hid (((sec18 l j).length + 1) * 8 ≤ 140737488355328) := Lib.hid (by simp [sec18]; omega)
      have hcv : IntKind.u64.wrap (j : Int) = (j : Int) := IntWalk.u64_in _ (by omega)
      go_wp2_with fail
      refine (HSEC.out _).mono ?_
      rintro e w1 ⟨rfl, hg⟩
      have HG1 : Hid (w0.grownBy w1 none) := Lib.hid (HG.out.trans hg)
      have HA1 := Lib.hid (HA.out.kept hg)
      clear hg hp
      by_cases h0 : 0 < l.length
      · have hI : (0 : Int) < (l.length : Int) := by omega
        have hk : j % l.length < l.length := Nat.mod_lt _ h0
        obtain ⟨kq, hkq⟩ : ∃ q, q = j % l.length := ⟨_, rfl⟩
        have hkI : (kq : Int) < (l.length : Int) := by rw [hkq]; omega
        have d1 : Int.tmod (j : Int) (l.length : Int) = (kq : Int) := by rw [Int.tmod_eq_emod_of_nonneg (by omega), hkq]; exact (Int.natCast_emod j l.length).symm
        have d2 : (j : Int) % (l.length : Int) = (kq : Int) := by rw [hkq]; exact (Int.natCast_emod j l.length).symm
        have hnz : ¬ (l.length : Int) = 0 := by omega
        obtain ⟨g, o, c', e, _, _, hcu, _⟩ := (H.out.kept HG1.out).atU hk
        injection e with e1 e2 e3
        subst e1 e3
        have hov : own18 l j = l[j % l.length] := by rw [own18, if_pos h0, List.getElem?_eq_getElem hk]; rfl
        rw [hov] at HSN HU
        generalize l[j % l.length] = x at *
        rw [← hkq] at hcu
        clear hk hkq hov h0 e2
        go_wp2_with (at_builtin; refine wpList_pushG rfl (.tmp 26) (.tmp 28) rfl (E := encU) (y := x) el_u64 HG1.out HA1.out (fun _ h => h) ⟨rfl, HU.out⟩ HLB.out rfl rfl ?_)
        intro v2 w2 hacc2 hg2 hgo
        have HFIN : Hid (Acc encU w0.heap.size 22 (fun g => w0.heap.size ≤ g) w2 v2 (sec18 l (j + 1)) ∧ w0.grownBy w2 none) := Lib.hid ⟨by rw [HSN.out]; exact hacc2, hg2⟩
        clear hacc2 hg2 hgo
        go_wp2_with fail
        go_roundg m
        case measure => omega
        case rel => exact ⟨j + 1, by omega, by go_num, HFIN⟩
      · have hI : ¬ (l.length : Int) > 0 := by omega
        have hov : own18 l j = (j : Int) := by rw [own18, if_neg h0]
        rw [hov] at HSN HU
        clear hov h0
        go_wp2_with (at_builtin; refine wpList_pushG rfl (.tmp 26) (.tmp 28) rfl (E := encU) (y := (j : Int)) el_u64 HG1.out HA1.out (fun _ h => h) ⟨rfl, HU.out⟩ HLB.out rfl rfl ?_)
        intro v2 w2 hacc2 hg2 hgo
        have HFIN : Hid (Acc encU w0.heap.size 22 (fun g => w0.heap.size ≤ g) w2 v2 (sec18 l (j + 1)) ∧ w0.grownBy w2 none) := Lib.hid ⟨by rw [HSN.out]; exact hacc2, hg2⟩
        clear hacc2 hg2 hgo
        go_wp2_with fail
        go_roundg m
        case measure => omega
        case rel => exact ⟨j + 1, by omega, by go_num, HFIN⟩
set_option maxRecDepth 100000 in
set_option maxHeartbeats 2000000 in
theorem some18_any (p : Par) (n which : Int) (t : Nat) (w : World) (ht : (t : Int) = p.T + 1) (h : (t = 2 ∧ 4 ≤ n ∧ n ≤ 7) ∨ (t = 3 ∧ n = 7)) (hw : I64 which) :
    Calls Tryd.prog 11 #[p.v, .int .i64 n, .int .i64 which] w (Gives encI (fun g => w.heap.size ≤ g) w (some18I n which t)) := by
  have hn4 : 4 ≤ n ∧ n ≤ 7 := by omega
  have ht3 : t ≤ 3 := by omega
  obtain ⟨hn1, hn2⟩ := hn4
  have HPL := Lib.hid (some18_places (which := which) h)
  have HTT := Lib.hid ht
  have HB0 : Hid (Bk (w.alloc (Obj.cells p.cells 24)) w.heap.size 24 p.cells) := Lib.hid (Bk.new w _ _)
  obtain ⟨w0, hw0⟩ : ∃ y, y = w.alloc (Obj.cells p.cells 24) := ⟨_, rfl⟩
  have HG0 : Hid (w.grownBy w0 none) := Lib.hid (by rw [hw0]; exact World.grownBy_alloc w _ none)
  rw [← hw0] at HB0
  obtain ⟨r, hr⟩ : ∃ r, r = (which % 18446744073709551616) % n := ⟨_, rfl⟩
  obtain ⟨d, hd⟩ : ∃ d, d = which % 18446744073709551616 / 7 % 2 := ⟨_, rfl⟩
  have hr1 : 0 ≤ r := by rw [hr]; exact Int.emod_nonneg _ (by omega)
  have hr2 : r < n := by rw [hr]; exact Int.emod_lt_of_pos _ (by omega)
  have hd1 : 0 ≤ d := by omega
  have hd2 : d < 2 := by omega
  have HS : Hid (some18I n which t = (List.range t).map fun i : Nat => 1 + (r + (i : Int) * (1 + d)) % n) := Lib.hid (by rw [hr, hd]; rfl)
  have e1 : IntKind.u64.wrap which = which % 18446744073709551616 := rfl
  have e2 : IntKind.u64.wrap n = n := IntWalk.u64_in _ (by omega)
  have e3 : Int.tmod (which % 18446744073709551616) n = r := by rw [hr]; exact Int.tmod_eq_emod_of_nonneg (by omega)
  have e3' : which % 18446744073709551616 % n = r := hr.symm
  have e4 : IntKind.i64.wrap r = r := IntWalk.i64_in _ (by omega)
  have e5 : Int.tdiv (which % 18446744073709551616) 7 = which % 18446744073709551616 / 7 := Int.tdiv_eq_ediv_of_nonneg (by omega)
  have e6 : Int.tmod (which % 18446744073709551616 / 7) 2 = d := by rw [hd]; exact Int.tmod_eq_emod_of_nonneg (by omega)
  have e6' : which % 18446744073709551616 / 7 % 2 = d := hd.symm
  have e7 : IntKind.i64.wrap d = d := IntWalk.i64_in _ (by omega)
  have hnz : (n == 0) = false := by simp; omega
  clear hr hd ht h
  go_enter Tryd.func11, Tryd.ntmps11
  go_wp2_with fail
  rw [← hw0]
  clear hw0
  obtain ⟨L, hL⟩ : ∃ y, y = some18I n which t := ⟨_, rfl⟩
  have HLE := Lib.hid hL
  rw [← hL] at HPL HS
  clear hL
  go_loopg [7, 9] t (fun g s7 s9 wx => ∃ j : Nat, j + g = t ∧ s9 = .int .i64 j ∧ Hid (Acc encI w0.heap.size 3 (fun g => w0.heap.size ≤ g) wx s7 ((List.range j).map fun i : Nat => 1 + (r + (i : Int) * (1 + d)) % n) ∧ w0.grownBy wx none))
  case atStart => exact ⟨0, by omega, rfl, Lib.hid ⟨Acc.nil _ _ _ _ _, World.grownBy.refl _ none⟩⟩
  case round =>
    obtain ⟨j, hj, rfl, HX⟩ := hrel
    have HA := Lib.hid HX.out.1
    have HG := Lib.hid HX.out.2
    have hp := (HB0.out.grown HG.out (by simp)).prule
    clear HX
    cases gk with
    | zero =>
      obtain rfl : j = t := by omega
      have hno : ¬ ((j : Int) ≤ p.T) := by have := HTT.out; omega
      have HO : Hid (Sl encI (fun g => w0.heap.size ≤ g) wr u7 L) := Lib.hid (by rw [HS.out]; exact HA.out.sl)
      have hLl : L.length = j := by rw [HS.out]; simp
      obtain ⟨A, c, e, _, _⟩ := HO.out.form
      rw [hLl] at e
      subst e
      have HLL := Lib.hid hLl
      clear hLl HA
      go_wp2_with fail
      go_loopg [7, 10] j (fun g s7 s10 wx => ∃ i : Nat, i + g = j ∧ s10 = .int .i64 i ∧ s7 = .slice A j c ∧ Hid (wr.grownBy wx none))
      case atStart => exact ⟨0, by omega, rfl, rfl, Lib.hid (World.grownBy.refl _ none)⟩
      case round =>
        rename World => wa
        obtain ⟨i, hi, rfl, rfl, HY⟩ := hrel
        cases gk with
        | zero =>
          obtain rfl : i = j := by omega
          have hno2 : ¬ ((i : Int) < (i : Int)) := by omega
          have HR : Hid (Sl encI (fun g => w.heap.size ≤ g) wa (.slice A i c) L ∧ w.grownBy wa none) := Lib.hid ⟨(HO.out.kept HY.out).more fun g _ h => Nat.le_trans HG0.out.size h, HG0.out.trans (HG.out.trans HY.out)⟩
          clear HY hp
          go_wp2
          go_ret
          exact ⟨_, rfl, by rw [← HLE.out]; exact HR.out.1, HR.out.2⟩
        | succ m =>
          have hiI : (i : Int) < (j : Int) := by omega
          go_wp2_with fail
          go_loopg [7, 11] i (fun g s7 s11 wx => ∃ k : Nat, k + g = i ∧ s11 = .int .i64 k ∧ s7 = .slice A j c ∧ Hid (wr.grownBy wx none))
          case atStart => exact ⟨0, by omega, rfl, rfl, HY⟩
          case round =>
            rename World => wb
            obtain ⟨k, hk, rfl, rfl, HZ⟩ := hrel
            cases gk with
            | zero =>
              obtain rfl : k = i := by omega
              have hno3 : ¬ ((k : Int) < (k : Int)) := by omega
              go_wp2_with fail
              go_roundg m
              case measure => omega
              case rel => exact ⟨k + 1, by omega, by go_num, rfl, HZ⟩
            | succ q =>
              have hkI : (k : Int) < (i : Int) := by omega
              have hkJ : (k : Int) < (j : Int) := by omega
              have hiL : i < L.length := by rw [HLL.out]; omega
              have hkL : k < L.length := by rw [HLL.out]; omega
              obtain ⟨g1, o1, c1, e1, _, _, hc1, _⟩ := (HO.out.kept HZ.out).atI hiL
              injection e1 with e11 e12 e13
              subst e11 e13
              obtain ⟨g2, o2, c2, e2, _, _, hc2, _⟩ := (HO.out.kept HZ.out).atI hkL
              injection e2 with e21 e22 e23
              injection e21 with e21
              injection e21 with e24 e25 _
              subst e24 e25
              have hne : (L[i] == L[k]) = false := by
                rw [beq_eq_false_iff_ne]
                intro e
                have := (List.getElem?_inj (i := i) (j := k) hiL HPL.out.2).1 (by rw [List.getElem?_eq_getElem hiL, List.getElem?_eq_getElem hkL, e])
                omega
              have hk0 : (0 : Int) ≤ (k : Int) := Int.natCast_nonneg k
              have hi0 : (0 : Int) ≤ (i : Int) := Int.natCast_nonneg i
              have HZG : Hid (∀ nq, wr.grownBy (wb.drewN nq) none) := Lib.hid (fun nq => HZ.out.trans (grown_drewN' _ nq))
              generalize L[i] = xi at *
              generalize L[k] = xk at *
              clear hiL hkL e12 e22 e23
              go_wp2_with fail
              go_quiet (fail)
              go_wp2_with fail
              go_roundg q
              case measure => omega
              case rel => exact ⟨k + 1, by omega, by go_num, rfl, Lib.hid (HZG.out _)⟩
    | succ m =>
      have hin : (j : Int) ≤ p.T := by have := HTT.out; omega
      have hj3 : (j : Int) ≤ 3 := by omega
      obtain ⟨md, hmd⟩ : ∃ y, y = (j : Int) * (1 + d) := ⟨_, rfl⟩
      have hmd' : (j : Int) * (1 + d) = md := hmd.symm
      have hdd : d = 0 ∨ d = 1 := by omega
      have hmb : 0 ≤ md ∧ md ≤ 6 := by rcases hdd with h | h <;> rw [hmd, h] <;> omega
      obtain ⟨hmb1, hmb2⟩ := hmb
      have HSN : Hid (((List.range (j + 1)).map fun i : Nat => 1 + (r + (i : Int) * (1 + d)) % n) = ((List.range j).map fun i : Nat => 1 + (r + (i : Int) * (1 + d)) % n) ++ [1 + (r + md) % n]) := Lib.hid (by rw [hmd]; exact m18_snoc _ _)
      have HLB : Hid ((((List.range j).map fun i : Nat => 1 + (r + (i : Int) * (1 + d)) % n).length + 1) * 8 ≤ 140737488355328) := Lib.hid (by simp; omega)
      have q1 := Int.emod_nonneg (r + md) (show n ≠ 0 by omega)
      have q2 := Int.emod_lt_of_pos (r + md) (show 0 < n by omega)
      have q3 : Int.tmod (r + md) n = (r + md) % n := Int.tmod_eq_emod_of_nonneg (by omega)
      obtain ⟨z, hz⟩ : ∃ y, y = (r + md) % n := ⟨_, rfl⟩
      rw [← hz] at HSN q1 q2 q3
      have hz' : (r + md) % n = z := hz.symm
      have HI : Hid (I64 (1 + z)) := Lib.hid ⟨by omega, by omega⟩
      have w1 : IntKind.i64.wrap md = md := IntWalk.i64_in _ (by omega)
      have w2 : IntKind.i64.wrap (r + md) = r + md := IntWalk.i64_in _ (by omega)
      clear hmd hdd hz
      go_wp2_with (at_builtin; refine wpList_pushG rfl (.tmp 25) (.tmp 39) rfl (E := encI) (y := 1 + z) el_int HG.out HA.out (fun _ h => h) ⟨rfl, HI.out⟩ HLB.out rfl rfl ?_)
      intro v2 w2' hacc2 hg2 hgo
      have HFIN : Hid (Acc encI w0.heap.size 3 (fun g => w0.heap.size ≤ g) w2' v2 ((List.range (j + 1)).map fun i : Nat => 1 + (r + (i : Int) * (1 + d)) % n) ∧ w0.grownBy w2' none) := Lib.hid ⟨by rw [HSN.out]; simpa using hacc2, hg2⟩
      clear hacc2 hg2 hgo
      go_wp2_with fail
      go_roundg m
      case measure => omega
      case rel => exact ⟨j + 1, by omega, by go_num, HFIN⟩
end Go.Proofs.YtonkbmknanpchaaDoor

namespace Go.Proofs.YtonkbmknanpchaaDoor
open Go

section
variable {P : Program} {ops : Array Oper} {md : Region.Mode} {C : World → Prop} {n : Nat}

/-- Whatever row those below n are taken in; behind f of them, Q. -/
def AnyRow (P : Program) (md : Region.Mode) (ops : Array Oper) (C : World → Prop) (n : Nat) (Q : Array Bool → Act → Prop) : Nat → Array Bool → Act → Prop
  | 0, done, a => Q done a
  | f + 1, done, a => Region.ready md ops done ≠ [] ∧ ∀ i ∈ Region.ready md ops done, i < n ∧ qOp P ops C i (AnyRow P md ops C n Q f (done.setIfInBounds i true)) a

theorem AnyRow.run {Q : Array Bool → Act → Prop} {R : Exit → Act → World → Prop} {g : Nat} (hQ : ∀ done a w, C w → Q done a → wpAny P md ops R g done a w) :
    ∀ (f : Nat) (done : Array Bool) (a : Act) (w : World), C w → AnyRow P md ops C n Q f done a → wpAny P md ops R (f + g) done a w := by
  intro f
  induction f with
  | zero => intro done a w hw h; rw [Nat.zero_add]; exact hQ _ _ _ hw h
  | succ f ih =>
    intro done a w hw h
    rw [show f + 1 + g = (f + g) + 1 by omega]
    exact ⟨fun e => absurd e h.1, fun i hi => wpOp_of_qOp hw (fun a' w' hw' k => ih _ a' w' hw' k) (h.2 i hi).2⟩

/-- The operation n waits for each one ahead of it, and none stands behind it. -/
def waitsAll (md : Region.Mode) (ops : Array Oper) (n : Nat) : Bool := decide (ops.size = n + 1) && (List.range n).all fun i => Region.waitsFor md ops n i

theorem ready_below (h : waitsAll md ops n = true) {done : Array Bool} {i : Nat} (hi : i < n) (hu : done.getD i true = false) {t : Nat} (ht : t ∈ Region.ready md ops done) : t < n := by
  simp only [waitsAll, Bool.and_eq_true, decide_eq_true_eq] at h
  obtain ⟨_, o, ho, hall⟩ := mem_ready.1 ht
  have hlt : t < ops.size := (Array.getElem?_eq_some_iff.1 ho).1
  rcases Nat.lt_or_ge t n with h1 | h1
  · exact h1
  · have htn : t = n := by omega
    subst htn
    obtain ⟨o', ho', e, he, hb, hon⟩ := Region.waitsFor_spec (List.all_eq_true.1 h.2 i (List.mem_range.2 hi))
    have hoo : o' = o := Option.some.inj (ho'.symm.trans ho)
    subst hoo
    have := hall e he hb
    rw [hon, getD_both hu] at this
    cases this

/-- What may come first may as well come later. -/
theorem AnyRow.first {i : Nat} {oi : Oper} {v : Value} {Q : Array Bool → Act → Prop} (hi : ops[i]? = some oi) (hsel : ∀ (j : Nat) (o : Oper) cs b, ops[j]? = some o → o.op ≠ .select cs b) (hW : waitsAll md ops n = true) (hin : i < n)
    (hend : ∀ done a, Q done a → ∀ j ∈ Region.ready md ops done, n ≤ j) :
    ∀ (f : Nat) (done : Array Bool) (a : Act),
      (∀ j oj, ops[j]? = some oj → j ≠ i → done.getD j true = false → (∀ e ∈ oj.after, Region.binds md e = true → e.on ≠ i) → oi.apart ops oj = true) →
      i ∈ Region.ready md ops done → YieldsIn P ops C oi v a → AnyRow P md ops C n Q f (done.setIfInBounds i true) (a.put oi.dst v) → AnyRow P md ops C n Q (f + 1) done a := by
  intro f
  induction f with
  | zero =>
    intro done a _ hr hy H
    refine ⟨fun e => by rw [e] at hr; exact absurd hr (by simp), fun j hj => ⟨ready_below hW hin (mem_ready.1 hr).1 hj, ?_⟩⟩
    rcases Decidable.em (j = i) with e | e
    · subst e; exact hy.qOp hi H
    · have h1 := hend _ _ H j (ready_mono hj e)
      have h2 := ready_below hW hin (mem_ready.1 hr).1 hj
      omega
  | succ f ih =>
    intro done a hfree hr hy H
    refine ⟨fun e => by rw [e] at hr; exact absurd hr (by simp), fun j hj => ⟨ready_below hW hin (mem_ready.1 hr).1 hj, ?_⟩⟩
    rcases Decidable.em (j = i) with e | e
    · subst e; exact hy.qOp hi H
    · obtain ⟨hju, oj, hoj, hall⟩ := mem_ready.1 hj
      have hno : ∀ e ∈ oj.after, Region.binds md e = true → e.on ≠ i := fun e' he hb hx => by
        have := hall e' he hb
        rw [hx, getD_both (mem_ready.1 hr).1] at this
        cases this
      have step := qOp_put hoj (hfree j oj hoj e hju hno) (fun cs b => hsel i oi cs b hi) (fun cs b => hsel j oj cs b hoj) hy (H.2 j (ready_mono hj e)).2
      refine qOp_mono (fun a' k => ih (done.setIfInBounds j true) a' (fun m om hm hmi hmu hmn => hfree m om hm hmi ?_ hmn) (ready_mono hr (Ne.symm e)) k.1 ?_) step
      · rcases Decidable.em (j = m) with e' | e'
        · subst e'; exact hju
        · rwa [getD_set_ne true e'] at hmu
      · rw [Array.setIfInBounds_comm _ _ e]
        exact k.2

theorem AnyRow.lex {g : Nat} {Q : Act → Prop} (hsel : Region.noSelect ops = true) (hW : waitsAll md ops n = true) :
    ∀ (l : List Oper) (k : Nat) (done : Array Bool) (a : Act), (∀ j, j < l.length → l[j]? = ops[k + j]?) → k + l.length = n → Region.lexHead md ops g l.length k done = true → wpQuiet P ops C Q l a →
      AnyRow P md ops C n (fun done' a' => Region.seqB md ops g n done' = true ∧ Q a') l.length done a := by
  intro l
  induction l with
  | nil =>
    intro k done a _ hk hB h
    obtain rfl : k = n := by simpa using hk
    exact ⟨by simpa [Region.lexHead] using hB, h⟩
  | cons o l ih =>
    intro k done a hl hk hB h
    have h0 : ops[k]? = some o := by simpa using (hl 0 (by simp)).symm
    simp only [List.length_cons, Region.lexHead, Bool.and_eq_true] at hB
    simp only [List.length_cons] at hk
    have hq : qOp P ops C k (wpQuiet P ops C Q l) a := by unfold qOp; simp only [h0]; exact h
    obtain ⟨v, hy, hK⟩ := yieldsIn_of_qOp h0 hq
    exact AnyRow.first h0 (Region.noSelect_spec hsel) hW (by omega) (fun _ _ hd => seqB_ready hd.1) l.length done a (Region.free_spec h0 hB.1.2) (by simpa using hB.1.1) hy
      (ih (k + 1) _ _ (fun j hj => by have := hl (j + 1) (by simp; omega); simpa [Nat.add_assoc, Nat.add_comm 1 j] using this) (by omega) hB.2 hK)

def lastB (md : Region.Mode) (ops : Array Oper) (n : Nat) : Bool := Region.noSelect ops && waitsAll md ops n && Region.lexHead md ops 1 n 0 (Array.replicate ops.size false)
/-- The law, whatever the class of worlds. -/
theorem wp_region_last {C : World → Prop} {id : Nat} {Q : Exit → Act → World → Prop} {a : Act} {w : World} {l : List Oper} (n : Nat) (hm : P.follows .mixedOrders = true) (hB : lastB .any l.toArray n = true) (hC : C (w.drewN 1))
    (h : wpQuiet P l.toArray C (fun a' => ∀ w', C w' → wpList P l.toArray Q (l.drop n) a' w') (l.take n) a) : (Code.region id l.toArray true).wp P Q a w := by
  simp only [lastB, Bool.and_eq_true] at hB
  obtain ⟨⟨hsel, hW⟩, hlex⟩ := hB
  have hsz : l.toArray.size = n + 1 := by
    have := hW
    simp only [waitsAll, Bool.and_eq_true, decide_eq_true_eq] at this
    exact this.1
  have hsz' : l.length = n + 1 := by simpa using hsz
  have htl : (l.take n).length = n := by simp; omega
  have hdl : (l.drop n).length = 1 := by simp; omega
  have H := AnyRow.lex (C := C) (md := .any) (g := 1) hsel hW (l.take n) 0 _ a (fun j hj => by
    have hj' : j < n := by rw [htl] at hj; exact hj
    simp [hj']) (by simpa using htl) (by rw [htl]; exact hlex) h
  refine wp_region_any hm ?_
  have := AnyRow.run (R := Q) (g := 1) (fun done a' w' hw' hd => by
    have := wpAny_of_seq (md := .any) (Q' := Q) (l.drop n) n done a' w' (fun j => by simp [List.getElem?_drop]) (by rw [hdl]; exact hd.1) (hd.2 w' hw')
    rwa [hdl] at this) _ _ _ _ hC H
  rw [htl, ← hsz] at this
  exact this
/-- One operation of such a region: it yields v in every world of the class. -/
theorem wpQuiet_val {C : World → Prop} {Q : Act → Prop} {o : Oper} {rest : List Oper} {a : Act} (hgd : o.guard = none) (v : Value) (hv : ∀ w, C w → o.quietAt P a C w v) (h : wpQuiet P ops C Q rest (a.put o.dst v)) : wpQuiet P ops C Q (o :: rest) a := by
  refine wpQuiet_step fun K hK => ?_
  rw [if_pos (by simp [Region.wanted, hgd])]
  exact ⟨v, hv, hK _ h⟩
/-- The law. -/
theorem wp_region_quiet_last {id : Nat} {Q : Exit → Act → World → Prop} {a : Act} {w : World} {l : List Oper} (n : Nat) (hm : P.follows .mixedOrders = true) (hB : lastB .any l.toArray n = true)
    (h : wpQuiet P l.toArray (fun w' => ∃ k, w' = w.drewN k) (fun a' => ∀ w', (∃ k, w' = w.drewN k) → wpList P l.toArray Q (l.drop n) a' w') (l.take n) a) : (Code.region id l.toArray true).wp P Q a w := by
  simp only [lastB, Bool.and_eq_true] at hB
  obtain ⟨⟨hsel, hW⟩, hlex⟩ := hB
  have hsz : l.toArray.size = n + 1 := by
    have := hW
    simp only [waitsAll, Bool.and_eq_true, decide_eq_true_eq] at this
    exact this.1
  have hsz' : l.length = n + 1 := by simpa using hsz
  have htl : (l.take n).length = n := by simp; omega
  have hdl : (l.drop n).length = 1 := by simp; omega
  have H := AnyRow.lex (C := fun w' => ∃ k, w' = w.drewN k) (md := .any) (g := 1) hsel hW (l.take n) 0 _ a (fun j hj => by
    have hj' : j < n := by rw [htl] at hj; exact hj
    simp [hj']) (by simpa using htl) (by rw [htl]; exact hlex) h
  refine wp_region_any hm ?_
  have := AnyRow.run (R := Q) (g := 1) (fun done a' w' hw' hd => by
    have := wpAny_of_seq (md := .any) (Q' := Q) (l.drop n) n done a' w' (fun j => by simp [List.getElem?_drop]) (by rw [hdl]; exact hd.1) (hd.2 w' hw')
    rwa [hdl] at this) _ _ _ _ ⟨1, rfl⟩ H
  rw [htl, ← hsz] at this
  exact this
end
end Go.Proofs.YtonkbmknanpchaaDoor

namespace Go.Proofs.YtonkbmknanpchaaDoor
open Go Go.RowKit

/-- Pairs, cell by cell. -/
def pcs (l : List (Int × Int)) : List Value := l.flatMap fun x => [.int .u64 x.1, .int .u64 x.2]
theorem pcs_cons (x : Int × Int) (l : List (Int × Int)) : pcs (x :: l) = .int .u64 x.1 :: .int .u64 x.2 :: pcs l := rfl
theorem pcs_get0 : ∀ (l : List (Int × Int)) (k : Nat) (h : k < l.length), (pcs l)[k * 2]? = some (.int .u64 l[k].1)
  | x :: l, 0, _ => rfl
  | x :: l, k + 1, h => by
    rw [pcs_cons, show (k + 1) * 2 = k * 2 + 1 + 1 by omega, List.getElem?_cons_succ, List.getElem?_cons_succ]
    exact pcs_get0 l k (by simpa using h)
theorem pcs_get1 : ∀ (l : List (Int × Int)) (k : Nat) (h : k < l.length), (pcs l)[k * 2 + 1]? = some (.int .u64 l[k].2)
  | x :: l, 0, _ => rfl
  | x :: l, k + 1, h => by
    rw [pcs_cons, show (k + 1) * 2 + 1 = k * 2 + 1 + 1 + 1 by omega, List.getElem?_cons_succ, List.getElem?_cons_succ]
    exact pcs_get1 l k (by simpa using h)
theorem pcs_set0 (a : Int) : ∀ (l : List (Int × Int)) (k : Nat) (h : k < l.length), (pcs l).set (k * 2) (.int .u64 a) = pcs (l.set k (a, l[k].2))
  | x :: l, 0, _ => rfl
  | x :: l, k + 1, h => by
    rw [pcs_cons, show (k + 1) * 2 = k * 2 + 1 + 1 by omega, List.set_cons_succ, List.set_cons_succ, pcs_set0 a l k (by simpa using h)]
    rfl
theorem pcs_set1 (a : Int) : ∀ (l : List (Int × Int)) (k : Nat) (h : k < l.length), (pcs l).set (k * 2 + 1) (.int .u64 a) = pcs (l.set k (l[k].1, a))
  | x :: l, 0, _ => rfl
  | x :: l, k + 1, h => by
    rw [pcs_cons, show (k + 1) * 2 + 1 = k * 2 + 1 + 1 + 1 by omega, List.set_cons_succ, List.set_cons_succ, pcs_set1 a l k (by simpa using h)]
    rfl
theorem pcs_rep : ∀ n : Nat, pcs (List.replicate n (0, 0)) = List.replicate (n * 2) (.int .u64 0)
  | 0 => rfl
  | n + 1 => by
    rw [List.replicate_succ, pcs_cons, pcs_rep n, show (n + 1) * 2 = n * 2 + 1 + 1 by omega, List.replicate_succ, List.replicate_succ]
theorem made_pairs (n : Nat) : (madeCells #[.int .u64 0, .int .u64 0] (n * 2)).toList = pcs (List.replicate n (0, 0)) := by
  rw [pcs_rep]
  refine List.ext_getElem (by simp [size_madeCells]) fun j h1 h2 => ?_
  have hj : j < n * 2 := by simpa using h2
  simp only [madeCells, Array.toList_map, List.getElem_map, List.getElem_replicate]
  simp
  have : j % 2 = 0 ∨ j % 2 = 1 := by omega
  rcases this with h | h <;> simp [h]
/-- What the pairs of secrets have come to, behind i rows, and s numbers of the next. -/
def aS (q : Int) (ls : List (List (Int × Int))) (W : List Int) (k i : Nat) : Int × Int := (wS q (fun i => ((ls[i]?.getD [])[k]?.getD (0, 0)).1) (fun i => W[i]?.getD 0) i, wS q (fun i => ((ls[i]?.getD [])[k]?.getD (0, 0)).2) (fun i => W[i]?.getD 0) i)
def aL (q : Int) (ls : List (List (Int × Int))) (W : List Int) (nn i s : Nat) : List (Int × Int) := (List.range nn).map fun k => if k < s then aS q ls W k (i + 1) else aS q ls W k i
theorem aL_len (q : Int) (ls : List (List (Int × Int))) (W : List Int) (nn i s : Nat) : (aL q ls W nn i s).length = nn := by simp [aL]
theorem aL_zero (q : Int) (ls : List (List (Int × Int))) (W : List Int) (nn : Nat) : aL q ls W nn 0 0 = List.replicate nn (0, 0) := by
  refine List.ext_getElem (by simp [aL]) fun j h1 h2 => ?_
  simp [aL, aS, wS]
theorem aL_all (q : Int) (ls : List (List (Int × Int))) (W : List Int) (nn i : Nat) : aL q ls W nn i nn = aL q ls W nn (i + 1) 0 := by
  refine List.map_congr_left fun k hk => ?_
  have := List.mem_range.1 hk
  rw [if_pos this, if_neg (by omega)]
theorem aL_at (q : Int) (ls : List (List (Int × Int))) (W : List Int) (nn i s : Nat) (h : s < (aL q ls W nn i s).length) : (aL q ls W nn i s)[s] = aS q ls W s i := by simp [aL]
theorem aL_set (q : Int) (ls : List (List (Int × Int))) (W : List Int) (nn i s : Nat) : (aL q ls W nn i s).set s (aS q ls W s (i + 1)) = aL q ls W nn i (s + 1) := by
  refine List.ext_getElem (by simp [aL]) fun j h1 h2 => ?_
  rw [List.getElem_set]
  simp only [aL, List.getElem_map, List.getElem_range]
  split
  · rename_i e
    subst e
    rw [if_pos (by omega)]
  · rename_i e
    by_cases h : j < s
    · rw [if_pos h, if_pos (by omega)]
    · rw [if_neg h, if_neg (by omega)]
theorem aS_U64 (q : Int) (ls : List (List (Int × Int))) (W : List Int) (k i : Nat) : U64 (aS q ls W k i).1 ∧ U64 (aS q ls W k i).2 := ⟨wS_U64 _ _ _ _, wS_U64 _ _ _ _⟩
theorem sl_pcs {w : World} {g : Nat} {l : List (Int × Int)} (h : Bk w g 44 (pcs l).toArray) (hu : ∀ x ∈ l, U64 x.1 ∧ U64 x.2) (hb : l.length ≤ 100000) : Sl encP TT w (.slice (some ⟨g, 0, none⟩) l.length l.length) l := by
  refine Sl.block h trivial (l.map fun x => [.int .u64 x.1, .int .u64 x.2]) (by simp) (fun i hi hi' => ?_) ?_ (Nat.le_refl _) (by omega)
  · simp only [List.getElem_map]
    exact ⟨rfl, hu _ (List.getElem_mem hi)⟩
  · simp [pcs, List.flatMap]
set_option maxRecDepth 100000 in
set_option maxHeartbeats 4000000 in
theorem sum18_any (p : Par) (va vl : Value) (at_ : List Int) (ls : List (List (Int × Int))) (X Y : Nat → Prop) (w : World) (t nn : Nat) (hm : mayP p = true) (hp : p.ok) (ha : Sl encI X w va at_) (hl : Sl (encS encP) Y w vl ls) (hpl : Places p.N at_) (hat : at_.length = t) (hlt : ls.length = t) (ht : 1 ≤ t ∧ t ≤ 3) (hr : ∀ x ∈ ls, x.length = nn) (hn : nn ≤ 10) :
    Calls Tryd.prog 12 #[p.v, va, vl] w fun e w' => ∃ v, e = .returned (.tuple #[v, .bool true]) ∧ Sl encP TT w' v ((List.range nn).map fun s => aS p.Q ls (wList p.Q at_ 0) s t) ∧ w.grownBy w' none := by
  obtain ⟨hq, hP, hap, n1, n2, n3, t1, t2, t3, hs, k1, d1⟩ := may_apart hm
  obtain ⟨ht1, ht3⟩ := ht
  have hwe := werr_zero hq hap n3 hpl (by omega) 0
  have hwl := wlist_length hq hap n3 hpl (by omega) 0
  have HQU : Hid (U64 p.Q) := Lib.hid hp.Q
  have HWL : Hid ((wList p.Q at_ 0).length = t) := Lib.hid (by rw [hwl, hat])
  have HIN : Hid (∀ i ∈ at_, 1 ≤ i ∧ i ≤ 7) := Lib.hid (fun i hi => by have := hpl.1 i hi; omega)
  obtain ⟨w0, hw0⟩ : ∃ y, y = w.alloc (Obj.cells p.cells 24) := ⟨_, rfl⟩
  have HG0 : Hid (w.grownBy w0 none) := Lib.hid (by rw [hw0]; exact World.grownBy_alloc w _ none)
  have HB0 : Hid (Bk w0 w.heap.size 24 p.cells) := Lib.hid (by rw [hw0]; exact Bk.new w _ _)
  have HA := Lib.hid (ha.kept HG0.out)
  have HL := Lib.hid ((hl.bounded.kept HG0.out).more fun _ _ h => h.2)
  have HRL := Lib.hid hr
  have HWT := Lib.hid (fun (u : Value) (Z : Nat → Prop) (w' : World) (h : Sl encU Z w' u at_) => weights_any u at_ 0 p.Q Z w' h ⟨by decide, by decide⟩ HQU.out)
  rw [hwe] at HWT
  obtain ⟨WL, hWL⟩ : ∃ y, y = wList p.Q at_ 0 := ⟨_, rfl⟩
  rw [← hWL] at HWT HWL ⊢
  obtain ⟨Aa, ca, rfl, _, _⟩ := ha.form
  obtain ⟨Al, cl, rfl, _, _⟩ := hl.form
  rw [hat] at HA ⊢
  rw [hlt] at HL ⊢
  have HAT := Lib.hid hat
  have HLT := Lib.hid hlt
  clear ha hl hpl hr hm hp hq hP hap n1 n2 n3 t1 t2 t3 hs k1 d1 hwe hwl hWL hat hlt
  go_enter Tryd.func12, Tryd.ntmps12
  go_wp2_with fail
  rw [← hw0]
  clear hw0
  go_loopg [8, 9] t (fun g s8 s9 wx => ∃ j : Nat, j + g = t ∧ s9 = .int .i64 j ∧ Hid (Acc encU w0.heap.size 22 (fun g => w0.heap.size ≤ g) wx s8 (at_.take j) ∧ w0.grownBy wx none))
  case atStart => exact ⟨0, by omega, rfl, Lib.hid ⟨Acc.nil _ _ _ _ _, World.grownBy.refl _ none⟩⟩
  case round =>
    obtain ⟨j, hj, rfl, HX⟩ := hrel
    have HAC := Lib.hid HX.out.1
    have HG := Lib.hid HX.out.2
    clear HX
    cases gk with
    | zero =>
      obtain rfl : j = t := by omega
      have hno : ¬ ((j : Int) < (j : Int)) := by omega
      have HXS : Hid (Sl encU (fun g => w0.heap.size ≤ g) wr u8 at_) := Lib.hid (by have := HAC.out.sl; rwa [← HAT.out, List.take_length] at this)
      have hp0 := (HB0.out.grown HG.out (by simp)).prule
      have HWC := Lib.hid (HWT.out u8 _ wr HXS.out)
      go_wp2_with fail
      refine HWC.out.mono ?_
      rintro e w1 ⟨v29, rfl, hs1, hg1⟩
      have HG1 : Hid (w0.grownBy w1 none) := Lib.hid (HG.out.trans hg1)
      obtain ⟨Aw, cw, ew, _, _⟩ := hs1.form
      rw [HWL.out] at ew
      subst ew
      have HW1 := Lib.hid hs1
      have h0j : 0 < ls.length := by rw [HLT.out]; omega
      obtain ⟨g0, o0, c0', u0, e0, _, _, hc0, hs0⟩ := (HL.out.kept HG1.out).atS h0j
      injection e0 with e01 e02 e03
      obtain ⟨A00, c00, e00, _, _⟩ := hs0.form
      rw [HRL.out _ (List.getElem_mem h0j)] at e00
      subst e00
      rw [Nat.add_zero] at hc0
      have hjpos : (0 : Int) < (j : Int) := by omega
      have hmk : ∀ w', (Instr.makeSlice 38 (.int .i64 (nn : Int)) (.int .i64 (nn : Int))).run Tryd.prog w' = .ok (.slice (some ⟨w'.heap.size, 0, none⟩) nn nn) (w'.alloc (.cells (madeCells #[.int .u64 0, .int .u64 0] (nn * 2)) 44)) := fun w' => by
        obtain ⟨i, hi, hz⟩ := Option.map_eq_some_iff.1 info_pair
        simp only [Prod.mk.injEq] at hz
        obtain ⟨hz1, hz2, hz3⟩ := hz
        have hr := run_make (P := Tryd.prog) w' 38 44 i _ Tryd.underlying38 hi hz1 .i64 .i64 (nn : Int) (nn : Int) (by omega) (Int.le_refl _) (by rw [hz3]; omega) (by omega)
        rw [hz2, Int.toNat_natCast] at hr
        exact hr
      have hmk1 := hmk w1
      obtain ⟨D0, hD0⟩ : ∃ y, y = w1.alloc (.cells (madeCells #[.int .u64 0, .int .u64 0] (nn * 2)) 44) := ⟨_, rfl⟩
      obtain ⟨Bo, hBo⟩ : ∃ y, y = w1.heap.size := ⟨_, rfl⟩
      have HGD : Hid (w1.grownBy D0 none) := Lib.hid (by rw [hD0]; exact World.grownBy_alloc _ _ none)
      have HBO : Hid (Bk D0 Bo 44 (pcs (aL p.Q ls WL nn 0 0)).toArray) := Lib.hid (by
        rw [hD0, hBo, aL_zero, ← made_pairs]
        exact Bk.new w1 _ _)
      have HBB : Hid (w.heap.size < Bo) := Lib.hid (by rw [hBo]; exact Nat.lt_of_lt_of_le HB0.out.lt HG1.out.size)
      have HPD : Hid (∀ wx, D0.grownBy wx (some Bo) → Bk wx w.heap.size 24 p.cells) := Lib.hid (fun wx hg => (HB0.out.grown (HG1.out.trans HGD.out) (by simp)).grown hg (fun e => by injection e with e; have := HBB.out; omega))
      have HWD : Hid (∀ wx, D0.grownBy wx (some Bo) → Sl encU (fun b => b < Bo) wx (.slice Aw j cw) WL) := Lib.hid (fun wx hg => ((HW1.out.bounded.kept HGD.out).more (Y := fun b => b < Bo) fun b _ hb => by rw [hBo]; exact hb.2).keep hg (fun b hb e => by injection e with e; omega))
      have HLD : Hid (∀ wx, D0.grownBy wx (some Bo) → Sl (encS encP) (fun b => b < w.heap.size) wx (.slice Al j cl) ls) := Lib.hid (fun wx hg => (HL.out.kept (HG1.out.trans HGD.out)).keep hg (fun b hb e => by injection e with e; have := HBB.out; omega))
      have HGW : Hid (w.grownBy D0 none) := Lib.hid (HG0.out.trans (HG1.out.trans HGD.out))
      have HBZ : Hid (w.heap.size ≤ Bo) := Lib.hid (by have := HBB.out; omega)
      subst e01
      clear hs1 hg1 hs0 hp0 e02 e03 hmk
      go_upto_region 11 with (fail)
      rw [← hD0, ← hBo]
      clear hD0 hBo hmk1 hc0
      go_loopg [13] j (fun g s13 wx => ∃ i : Nat, i + g = j ∧ s13 = .int .i64 i ∧ Hid (Bk wx Bo 44 (pcs (aL p.Q ls WL nn i 0)).toArray ∧ D0.grownBy wx (some Bo)))
      case atStart => exact ⟨0, by omega, rfl, Lib.hid ⟨HBO.out, World.grownBy.refl _ _⟩⟩
      case round =>
        rename World => wj
        obtain ⟨i, hi, rfl, HY⟩ := hrel
        cases gk with
        | zero =>
          obtain rfl : i = j := by omega
          have hno2 : ¬ ((i : Int) < (i : Int)) := by omega
          have HR : Hid (Sl encP TT wj (.slice (some ⟨Bo, 0, none⟩) nn nn) ((List.range nn).map fun s => aS p.Q ls WL s i) ∧ w.grownBy wj none) := Lib.hid ⟨by
            have hsl := sl_pcs HY.out.1 (fun x hx => by
              obtain ⟨k, _, rfl⟩ := List.mem_map.1 hx
              split
              · exact aS_U64 _ _ _ _ _
              · exact aS_U64 _ _ _ _ _) (by rw [aL_len]; omega)
            rw [aL_len] at hsl
            have he : aL p.Q ls WL nn i 0 = (List.range nn).map fun s => aS p.Q ls WL s i := List.map_congr_left fun k _ => if_neg (Nat.not_lt_zero k)
            rw [he] at hsl
            exact hsl, grown_up HGW.out HY.out.2 (fun b e => by injection e with e; have := HBZ.out; omega)⟩
          clear HY
          go_wp2
          go_ret2
          exact ⟨_, rfl, HR.out⟩
        | succ m =>
          have hiI : (i : Int) < (j : Int) := by omega
          go_wp2_with fail
          go_loopg [14] nn (fun g s14 wx => ∃ s : Nat, s + g = nn ∧ s14 = .int .i64 s ∧ Hid (Bk wx Bo 44 (pcs (aL p.Q ls WL nn i s)).toArray ∧ D0.grownBy wx (some Bo)))
          case atStart => exact ⟨0, by omega, rfl, HY⟩
          case round =>
            rename World => wi
            obtain ⟨s, hs, rfl, HZ⟩ := hrel
            cases gk with
            | zero =>
              obtain rfl : s = nn := by omega
              have hno3 : ¬ ((s : Int) < (s : Int)) := by omega
              have HFIN : Hid (Bk wi Bo 44 (pcs (aL p.Q ls WL s (i + 1) 0)).toArray ∧ D0.grownBy wi (some Bo)) := Lib.hid (by rw [← aL_all]; exact HZ.out)
              clear HZ HY
              go_wp2_with fail
              go_roundg m
              case measure => omega
              case rel => exact ⟨i + 1, by omega, by go_num, HFIN⟩
            | succ q =>
              have hsI : (s : Int) < (nn : Int) := by omega
              have hsA : s < (aL p.Q ls WL nn i s).length := by rw [aL_len]; omega
              have hiW : i < WL.length := by rw [HWL.out]; omega
              have hiL : i < ls.length := by rw [HLT.out]; omega
              have hs0 : (0 : Int) ≤ (s : Int) := Int.natCast_nonneg s
              have hi0 : (0 : Int) ≤ (i : Int) := Int.natCast_nonneg i
              obtain ⟨hbo, hgd⟩ := HZ.out
              have hbp := HPD.out _ hgd
              obtain ⟨gw, ow, cw', eW, hgw1, hgw, hcw, huw⟩ := (HWD.out _ hgd).atU hiW
              injection eW with eW1 eW2 eW3
              subst eW1 eW3
              obtain ⟨gl, ol, cl', ul, eL, _, hgl, hcl, hsl⟩ := (HLD.out _ hgd).atS hiL
              injection eL with eL1 eL2 eL3
              injection eL1 with eL1
              injection eL1 with eLa eLb _
              subst eLa eLb eL3
              have hlr := HRL.out _ (List.getElem_mem hiL)
              have hsr : s < ls[i].length := by rw [hlr]; omega
              obtain ⟨gr, orr, cr', eR, _, hgr, hcr1, hcr2, hur1, hur2⟩ := hsl.atP hsr
              subst eR
              obtain ⟨wv, hwv⟩ : ∃ y, y = WL[i] := ⟨_, rfl⟩
              obtain ⟨xs, hxs⟩ : ∃ y, y = ls[i][s] := ⟨_, rfl⟩
              rw [← hwv] at hcw huw
              rw [← hxs] at hcr1 hcr2 hur1 hur2
              have HN1 : Hid ((aS p.Q ls WL s (i + 1)).1 = addI (aS p.Q ls WL s i).1 (mulI wv xs.1 p.Q) p.Q ∧ (aS p.Q ls WL s (i + 1)).2 = addI (aS p.Q ls WL s i).2 (mulI wv xs.2 p.Q) p.Q) := Lib.hid (by
                rw [hwv, hxs]
                simp [aS, wS, List.getElem?_eq_getElem hiW, List.getElem?_eq_getElem hiL, List.getElem?_eq_getElem hsr])
              have HST : Hid ((aL p.Q ls WL nn i s)[s] = aS p.Q ls WL s i) := Lib.hid (aL_at _ _ _ _ _ _ hsA)
              have q0 : wi.cell? ⟨Bo, s * 2, none⟩ = some (.int .u64 (aS p.Q ls WL s i).1) := by
                rw [hbo.cell]
                have := pcs_get0 _ s hsA
                rw [HST.out] at this
                simpa using this
              have q1 : wi.cell? ⟨Bo, s * 2 + 1, none⟩ = some (.int .u64 (aS p.Q ls WL s i).2) := by
                rw [hbo.cell]
                have := pcs_get1 _ s hsA
                rw [HST.out] at this
                simpa using this
              have HU1 := Lib.hid (aS_U64 p.Q ls WL s i)
              have HUW := Lib.hid huw
              have HUX := Lib.hid (And.intro hur1 hur2)
              have HAS : Hid ((((pcs (aL p.Q ls WL nn i s)).set (s * 2) (.int .u64 (aS p.Q ls WL s (i + 1)).1)).set (s * 2 + 1) (.int .u64 (aS p.Q ls WL s (i + 1)).2)) = pcs (aL p.Q ls WL nn i (s + 1))) := Lib.hid (by
                rw [pcs_set0 _ _ s hsA, pcs_set1 _ _ s (by simpa using hsA), List.set_set, ← aL_set]
                simp)
              have hc1p : wi.cell? ⟨w.heap.size, 1, none⟩ = some (.int .u64 p.Q) := hbp.cell 1
              have HBO2 := Lib.hid hbo
              have HGD2 := Lib.hid hgd
              have HNB : Hid (gr ≠ Bo ∧ gw ≠ Bo ∧ w.heap.size ≠ Bo) := Lib.hid (by have := HBB.out; omega)
              obtain ⟨a1, ha1⟩ : ∃ y, y = (aS p.Q ls WL s i).1 := ⟨_, rfl⟩
              obtain ⟨a2, ha2⟩ : ∃ y, y = (aS p.Q ls WL s i).2 := ⟨_, rfl⟩
              rw [← ha1] at q0 HN1 HU1
              rw [← ha2] at q1 HN1 HU1
              clear ha1 ha2
              obtain ⟨x1, x2⟩ := xs
              obtain ⟨nr, hnr⟩ : ∃ y, y = ls[i].length := ⟨_, rfl⟩
              have hsrI : (s : Int) < (nr : Int) := by rw [hnr]; omega
              rw [← hnr] at hcl
              simp only at hcr1 hcr2 HN1 HUX
              have HM1 := Lib.hid (mulI_U64 wv x1 p.Q)
              have HM2 := Lib.hid (mulI_U64 wv x2 p.Q)
              have HKF : Hid (∀ W, wi.grownBy W (some Bo) → W.cell? ⟨w.heap.size, 1, none⟩ = some (.int .u64 p.Q) ∧ W.cell? ⟨gw, ow + i, none⟩ = some (.int .u64 wv) ∧ W.cell? ⟨g0, o0 + i, none⟩ = some (.slice (some ⟨gr, orr, none⟩) nr cr') ∧ W.cell? ⟨gr, orr + s * 2, none⟩ = some (.int .u64 x1) ∧ W.cell? ⟨gr, orr + s * 2 + 1, none⟩ = some (.int .u64 x2)) := Lib.hid (fun W hg => by
                have hb := HBB.out
                exact ⟨cellK hc1p hg (fun e => by injection e with e; omega), cellK hcw hg (fun e => by injection e with e; omega), cellK hcl hg (fun e => by injection e with e; omega), cellK hcr1 hg (fun e => by injection e with e; omega), cellK hcr2 hg (fun e => by injection e with e; omega)⟩)
              have HDR : Hid (wi.grownBy wi.drew none) := Lib.hid (grown_drewN' _ 1)
              have HQ0 : Hid ((pcs (aL p.Q ls WL nn i s)).toArray[s * 2]? = some (.int .u64 a1) ∧ (pcs (aL p.Q ls WL nn i s)).toArray[s * 2 + 1]? = some (.int .u64 a2)) := Lib.hid ⟨by rw [← hbo.cell]; exact q0, by rw [← hbo.cell]; exact q1⟩
              have HLF0 : Hid (∀ W, wi.drew.grownBy W none → W.cell? ⟨w.heap.size, 1, none⟩ = some (.int .u64 p.Q) ∧ W.cell? ⟨gw, ow + i, none⟩ = some (.int .u64 wv) ∧ W.cell? ⟨g0, o0 + i, none⟩ = some (.slice (some ⟨gr, orr, none⟩) nr cr') ∧ W.cell? ⟨gr, orr + s * 2, none⟩ = some (.int .u64 x1) ∧ W.cell? ⟨gr, orr + s * 2 + 1, none⟩ = some (.int .u64 x2) ∧ W.cell? ⟨Bo, s * 2, none⟩ = some (.int .u64 a1)) := Lib.hid (fun W hg => by
                have h := HDR.out.trans hg
                obtain ⟨k1, k2, k3, k4, k5⟩ := HKF.out W (h.but _)
                exact ⟨k1, k2, k3, k4, k5, by rw [(HBO2.out.grown h (by simp)).cell]; exact HQ0.out.1⟩)
              clear hbo hgd hbp hsl hlr hsr hwv hxs hur1 hur2 huw HST hsA hiW hiL hgw1 hgw hgl hgr hnr eW2 eL2 HZ HY hc1p hcw hcl hcr1 hcr2 q0 q1
              go_upto_region 16 with (fail)
              refine wp_region_mono 27 (by kernel_rfl) (by kernel_rfl) ?_
              -- op 0 (slot 55): move
              refine MonoR.step (Pv.eq (.slice (some ⟨Bo, 0, none⟩) nn nn)) [] (by kernel_rfl) (fun w' hw' => ?_) ?_
              · refine ask_do rfl fun K hK => ?_
                go_simp
                exact hK _ _ rfl rfl (World.grownBy.refl _ none)
              -- op 1 (slot 56): move
              refine MonoR.step (Pv.eq (.int .i64 (s : Int))) [] (by kernel_rfl) (fun w' hw' => ?_) ?_
              · refine ask_do rfl fun K hK => ?_
                go_simp
                exact hK _ _ rfl rfl (World.grownBy.refl _ none)
              -- op 2 (slot 57): move
              refine MonoR.step (Pv.eq (.slice (some ⟨Bo, 0, none⟩) nn nn)) [] (by kernel_rfl) (fun w' hw' => ?_) ?_
              · refine ask_do rfl fun K hK => ?_
                go_simp
                exact hK _ _ rfl rfl (World.grownBy.refl _ none)
              -- op 3 (slot 58): move
              refine MonoR.step (Pv.eq (.int .i64 (s : Int))) [] (by kernel_rfl) (fun w' hw' => ?_) ?_
              · refine ask_do rfl fun K hK => ?_
                go_simp
                exact hK _ _ rfl rfl (World.grownBy.refl _ none)
              -- op 4 (slot 59): indexAddr
              refine MonoR.step (Pv.eq (.pointer (some ⟨Bo, s * 2, none⟩))) [(2, 57), (3, 58)] (by kernel_rfl) (fun w' hw' => ?_) ?_
              · rintro _ rfl
                rintro _ rfl
                refine ask_do rfl fun K hK => ?_
                go_simp
                exact hK _ _ rfl rfl (World.grownBy.refl _ none)
              -- op 5 (slot 60): fieldAddr
              refine MonoR.step (Pv.eq (.pointer (some ⟨Bo, s * 2, none⟩))) [(4, 59)] (by kernel_rfl) (fun w' hw' => ?_) ?_
              · rintro _ rfl
                refine ask_do rfl fun K hK => ?_
                go_simp
                exact hK _ _ rfl rfl (World.grownBy.refl _ none)
              -- op 6 (slot 61): load
              refine MonoR.step (Pv.eq (.int .u64 a1)) [(5, 60)] (by kernel_rfl) (fun w' hw' => ?_) ?_
              · rintro _ rfl
                refine ask_do rfl fun K hK => ?_
                obtain ⟨q0, q1, q2, q3, q4, q5⟩ := HLF0.out w' hw'
                go_simp
                exact hK _ _ rfl rfl (World.grownBy.refl _ none)
              -- op 7 (slot 62): move
              refine MonoR.step (Pv.eq (.slice (some ⟨gw, ow, none⟩) j cw)) [] (by kernel_rfl) (fun w' hw' => ?_) ?_
              · refine ask_do rfl fun K hK => ?_
                go_simp
                exact hK _ _ rfl rfl (World.grownBy.refl _ none)
              -- op 8 (slot 63): move
              refine MonoR.step (Pv.eq (.int .i64 (i : Int))) [] (by kernel_rfl) (fun w' hw' => ?_) ?_
              · refine ask_do rfl fun K hK => ?_
                go_simp
                exact hK _ _ rfl rfl (World.grownBy.refl _ none)
              -- op 9 (slot 64): indexAddr
              refine MonoR.step (Pv.eq (.pointer (some ⟨gw, ow + i, none⟩))) [(7, 62), (8, 63)] (by kernel_rfl) (fun w' hw' => ?_) ?_
              · rintro _ rfl
                rintro _ rfl
                refine ask_do rfl fun K hK => ?_
                go_simp
                exact hK _ _ rfl rfl (World.grownBy.refl _ none)
              -- op 10 (slot 65): load
              refine MonoR.step (Pv.eq (.int .u64 wv)) [(9, 64)] (by kernel_rfl) (fun w' hw' => ?_) ?_
              · rintro _ rfl
                refine ask_do rfl fun K hK => ?_
                obtain ⟨q0, q1, q2, q3, q4, q5⟩ := HLF0.out w' hw'
                go_simp
                exact hK _ _ rfl rfl (World.grownBy.refl _ none)
              -- op 11 (slot 66): move
              refine MonoR.step (Pv.eq (.slice (some ⟨g0, o0, none⟩) j cl)) [] (by kernel_rfl) (fun w' hw' => ?_) ?_
              · refine ask_do rfl fun K hK => ?_
                go_simp
                exact hK _ _ rfl rfl (World.grownBy.refl _ none)
              -- op 12 (slot 67): move
              refine MonoR.step (Pv.eq (.int .i64 (i : Int))) [] (by kernel_rfl) (fun w' hw' => ?_) ?_
              · refine ask_do rfl fun K hK => ?_
                go_simp
                exact hK _ _ rfl rfl (World.grownBy.refl _ none)
              -- op 13 (slot 68): indexAddr
              refine MonoR.step (Pv.eq (.pointer (some ⟨g0, o0 + i, none⟩))) [(11, 66), (12, 67)] (by kernel_rfl) (fun w' hw' => ?_) ?_
              · rintro _ rfl
                rintro _ rfl
                refine ask_do rfl fun K hK => ?_
                go_simp
                exact hK _ _ rfl rfl (World.grownBy.refl _ none)
              -- op 14 (slot 69): load
              refine MonoR.step (Pv.eq (.slice (some ⟨gr, orr, none⟩) nr cr')) [(13, 68)] (by kernel_rfl) (fun w' hw' => ?_) ?_
              · rintro _ rfl
                refine ask_do rfl fun K hK => ?_
                obtain ⟨q0, q1, q2, q3, q4, q5⟩ := HLF0.out w' hw'
                go_simp
                exact hK _ _ rfl rfl (World.grownBy.refl _ none)
              -- op 15 (slot 70): move
              refine MonoR.step (Pv.eq (.int .i64 (s : Int))) [] (by kernel_rfl) (fun w' hw' => ?_) ?_
              · refine ask_do rfl fun K hK => ?_
                go_simp
                exact hK _ _ rfl rfl (World.grownBy.refl _ none)
              -- op 16 (slot 71): indexAddr
              refine MonoR.step (Pv.eq (.pointer (some ⟨gr, orr + s * 2, none⟩))) [(14, 69), (15, 70)] (by kernel_rfl) (fun w' hw' => ?_) ?_
              · rintro _ rfl
                rintro _ rfl
                refine ask_do rfl fun K hK => ?_
                go_simp
                exact hK _ _ rfl rfl (World.grownBy.refl _ none)
              -- op 17 (slot 72): fieldAddr
              refine MonoR.step (Pv.eq (.pointer (some ⟨gr, orr + s * 2, none⟩))) [(16, 71)] (by kernel_rfl) (fun w' hw' => ?_) ?_
              · rintro _ rfl
                refine ask_do rfl fun K hK => ?_
                go_simp
                exact hK _ _ rfl rfl (World.grownBy.refl _ none)
              -- op 18 (slot 73): load
              refine MonoR.step (Pv.eq (.int .u64 x1)) [(17, 72)] (by kernel_rfl) (fun w' hw' => ?_) ?_
              · rintro _ rfl
                refine ask_do rfl fun K hK => ?_
                obtain ⟨q0, q1, q2, q3, q4, q5⟩ := HLF0.out w' hw'
                go_simp
                exact hK _ _ rfl rfl (World.grownBy.refl _ none)
              -- op 19 (slot 74): fieldAddr
              refine MonoR.step (Pv.eq (.pointer (some ⟨w.heap.size, 1, none⟩))) [] (by kernel_rfl) (fun w' hw' => ?_) ?_
              · refine ask_do rfl fun K hK => ?_
                go_simp
                exact hK _ _ rfl rfl (World.grownBy.refl _ none)
              -- op 20 (slot 75): load
              refine MonoR.step (Pv.eq (.int .u64 p.Q)) [(19, 74)] (by kernel_rfl) (fun w' hw' => ?_) ?_
              · rintro _ rfl
                refine ask_do rfl fun K hK => ?_
                obtain ⟨q0, q1, q2, q3, q4, q5⟩ := HLF0.out w' hw'
                go_simp
                exact hK _ _ rfl rfl (World.grownBy.refl _ none)
              -- op 21 (slot 76): call
              refine MonoR.step (Pv.eq (.int .u64 (mulI wv x1 p.Q))) [(10, 65), (18, 73), (20, 75)] (by kernel_rfl) (fun w' hw' => ?_) ?_
              · rintro _ rfl
                rintro _ rfl
                rintro _ rfl
                refine ask_do rfl fun K hK => ?_
                go_simp
                refine (mul_gr wv x1 p.Q w' HUW.out HUX.out.1).mono ?_
                rintro e w3 ⟨rfl, hg⟩
                exact hK _ _ rfl rfl hg
              -- op 22 (slot 77): fieldAddr
              refine MonoR.step (Pv.eq (.pointer (some ⟨w.heap.size, 1, none⟩))) [] (by kernel_rfl) (fun w' hw' => ?_) ?_
              · refine ask_do rfl fun K hK => ?_
                go_simp
                exact hK _ _ rfl rfl (World.grownBy.refl _ none)
              -- op 23 (slot 78): load
              refine MonoR.step (Pv.eq (.int .u64 p.Q)) [(22, 77)] (by kernel_rfl) (fun w' hw' => ?_) ?_
              · rintro _ rfl
                refine ask_do rfl fun K hK => ?_
                obtain ⟨q0, q1, q2, q3, q4, q5⟩ := HLF0.out w' hw'
                go_simp
                exact hK _ _ rfl rfl (World.grownBy.refl _ none)
              -- op 24 (slot 79): call
              refine MonoR.step (Pv.eq (.int .u64 (addI a1 (mulI wv x1 p.Q) p.Q))) [(6, 61), (21, 76), (23, 78)] (by kernel_rfl) (fun w' hw' => ?_) ?_
              · rintro _ rfl
                rintro _ rfl
                rintro _ rfl
                refine ask_do rfl fun K hK => ?_
                go_simp
                refine (add_gr a1 (mulI wv x1 p.Q) p.Q w' HU1.out.1 HM1.out).mono ?_
                rintro e w3 ⟨rfl, hg⟩
                exact hK _ _ rfl rfl hg
              -- op 25 (slot 80): indexAddr
              refine MonoR.step (Pv.eq (.pointer (some ⟨Bo, s * 2, none⟩))) [(0, 55), (1, 56)] (by kernel_rfl) (fun w' hw' => ?_) ?_
              · rintro _ rfl
                rintro _ rfl
                refine ask_do rfl fun K hK => ?_
                go_simp
                exact hK _ _ rfl rfl (World.grownBy.refl _ none)
              -- op 26 (slot 81): fieldAddr
              refine MonoR.step (Pv.eq (.pointer (some ⟨Bo, s * 2, none⟩))) [(25, 80)] (by kernel_rfl) (fun w' hw' => ?_) ?_
              · rintro _ rfl
                refine ask_do rfl fun K hK => ?_
                go_simp
                exact hK _ _ rfl rfl (World.grownBy.refl _ none)
              
              intro w3 hw3
              intro y0 k0 y1 k1 y2 k2 y3 k3 y4 k4 y5 k5 y6 k6 y7 k7 y8 k8 y9 k9 y10 k10 y11 k11 y12 k12 y13 k13 y14 k14 y15 k15 y16 k16 y17 k17 y18 k18 y19 k19 y20 k20 y21 k21 y22 k22 y23 k23 y24 k24 y25 k25 y26 k26
              show wpList Tryd.prog _ _ _ _ w3
              simp only [Act.put, List.setIfInBounds_toArray, List.set_cons_zero, List.set_cons_succ]
              have e24 : y24 = .int .u64 (addI a1 (mulI wv x1 p.Q) p.Q) := k24
              have e26 : y26 = .pointer (some ⟨Bo, s * 2, none⟩) := k26
              subst e24 e26
              have HB3 : Hid (Bk w3 Bo 44 (pcs (aL p.Q ls WL nn i s)).toArray) := Lib.hid (HBO2.out.grown (HDR.out.trans hw3) (by simp))
              have HG3 : Hid (wi.grownBy w3 (some Bo)) := Lib.hid ((HDR.out.trans hw3).but _)
              have c3 : w3.cell? ⟨Bo, s * 2, none⟩ = some (.int .u64 a1) := by rw [HB3.out.cell]; exact HQ0.out.1
              have f3 := HB3.out.free
              clear hw3 k0 k1 k2 k3 k4 k5 k6 k7 k8 k9 k10 k11 k12 k13 k14 k15 k16 k17 k18 k19 k20 k21 k22 k23 k24 k25 k26
              go_upto_region 17 with (fail)
              obtain ⟨w4, hw4⟩ : ∃ y, y = w3.setCell ⟨Bo, s * 2, none⟩ (.int .u64 (addI a1 (mulI wv x1 p.Q) p.Q)) := ⟨_, rfl⟩
              rw [← hw4]
              have HB4 : Hid (Bk w4 Bo 44 ((pcs (aL p.Q ls WL nn i s)).toArray.setIfInBounds (s * 2) (.int .u64 (addI a1 (mulI wv x1 p.Q) p.Q)))) := Lib.hid (by rw [hw4]; exact HB3.out.set _ _)
              have HG4 : Hid (wi.grownBy w4 (some Bo)) := Lib.hid (by rw [hw4]; exact HG3.out.trans (grownSet w3 Bo _ _))
              clear hw4 c3 f3 HB3 HLF0
              have HDR4 : Hid (w4.grownBy w4.drew none) := Lib.hid (grown_drewN' _ 1)
              have HQ4 : Hid (((pcs (aL p.Q ls WL nn i s)).toArray.setIfInBounds (s * 2) (.int .u64 (addI a1 (mulI wv x1 p.Q) p.Q)))[s * 2 + 1]? = some (.int .u64 a2)) := Lib.hid (by rw [Array.getElem?_setIfInBounds_ne (by omega)]; exact HQ0.out.2)
              have HLF1 : Hid (∀ W, w4.drew.grownBy W none → W.cell? ⟨w.heap.size, 1, none⟩ = some (.int .u64 p.Q) ∧ W.cell? ⟨gw, ow + i, none⟩ = some (.int .u64 wv) ∧ W.cell? ⟨g0, o0 + i, none⟩ = some (.slice (some ⟨gr, orr, none⟩) nr cr') ∧ W.cell? ⟨gr, orr + s * 2, none⟩ = some (.int .u64 x1) ∧ W.cell? ⟨gr, orr + s * 2 + 1, none⟩ = some (.int .u64 x2) ∧ W.cell? ⟨Bo, s * 2 + 1, none⟩ = some (.int .u64 a2)) := Lib.hid (fun W hg => by
                have h := HDR4.out.trans hg
                obtain ⟨k1, k2, k3, k4, k5⟩ := HKF.out W (HG4.out.trans (h.but _))
                exact ⟨k1, k2, k3, k4, k5, by rw [(HB4.out.grown h (by simp)).cell]; exact HQ4.out⟩)
              refine wp_region_mono 27 (by kernel_rfl) (by kernel_rfl) ?_
              -- op 0 (slot 82): move
              refine MonoR.step (Pv.eq (.slice (some ⟨Bo, 0, none⟩) nn nn)) [] (by kernel_rfl) (fun w' hw' => ?_) ?_
              · refine ask_do rfl fun K hK => ?_
                go_simp
                exact hK _ _ rfl rfl (World.grownBy.refl _ none)
              -- op 1 (slot 83): move
              refine MonoR.step (Pv.eq (.int .i64 (s : Int))) [] (by kernel_rfl) (fun w' hw' => ?_) ?_
              · refine ask_do rfl fun K hK => ?_
                go_simp
                exact hK _ _ rfl rfl (World.grownBy.refl _ none)
              -- op 2 (slot 84): move
              refine MonoR.step (Pv.eq (.slice (some ⟨Bo, 0, none⟩) nn nn)) [] (by kernel_rfl) (fun w' hw' => ?_) ?_
              · refine ask_do rfl fun K hK => ?_
                go_simp
                exact hK _ _ rfl rfl (World.grownBy.refl _ none)
              -- op 3 (slot 85): move
              refine MonoR.step (Pv.eq (.int .i64 (s : Int))) [] (by kernel_rfl) (fun w' hw' => ?_) ?_
              · refine ask_do rfl fun K hK => ?_
                go_simp
                exact hK _ _ rfl rfl (World.grownBy.refl _ none)
              -- op 4 (slot 86): indexAddr
              refine MonoR.step (Pv.eq (.pointer (some ⟨Bo, s * 2, none⟩))) [(2, 84), (3, 85)] (by kernel_rfl) (fun w' hw' => ?_) ?_
              · rintro _ rfl
                rintro _ rfl
                refine ask_do rfl fun K hK => ?_
                go_simp
                exact hK _ _ rfl rfl (World.grownBy.refl _ none)
              -- op 5 (slot 87): fieldAddr
              refine MonoR.step (Pv.eq (.pointer (some ⟨Bo, s * 2 + 1, none⟩))) [(4, 86)] (by kernel_rfl) (fun w' hw' => ?_) ?_
              · rintro _ rfl
                refine ask_do rfl fun K hK => ?_
                go_simp
                exact hK _ _ rfl rfl (World.grownBy.refl _ none)
              -- op 6 (slot 88): load
              refine MonoR.step (Pv.eq (.int .u64 a2)) [(5, 87)] (by kernel_rfl) (fun w' hw' => ?_) ?_
              · rintro _ rfl
                refine ask_do rfl fun K hK => ?_
                obtain ⟨q0, q1, q2, q3, q4, q5⟩ := HLF1.out w' hw'
                go_simp
                exact hK _ _ rfl rfl (World.grownBy.refl _ none)
              -- op 7 (slot 89): move
              refine MonoR.step (Pv.eq (.slice (some ⟨gw, ow, none⟩) j cw)) [] (by kernel_rfl) (fun w' hw' => ?_) ?_
              · refine ask_do rfl fun K hK => ?_
                go_simp
                exact hK _ _ rfl rfl (World.grownBy.refl _ none)
              -- op 8 (slot 90): move
              refine MonoR.step (Pv.eq (.int .i64 (i : Int))) [] (by kernel_rfl) (fun w' hw' => ?_) ?_
              · refine ask_do rfl fun K hK => ?_
                go_simp
                exact hK _ _ rfl rfl (World.grownBy.refl _ none)
              -- op 9 (slot 91): indexAddr
              refine MonoR.step (Pv.eq (.pointer (some ⟨gw, ow + i, none⟩))) [(7, 89), (8, 90)] (by kernel_rfl) (fun w' hw' => ?_) ?_
              · rintro _ rfl
                rintro _ rfl
                refine ask_do rfl fun K hK => ?_
                go_simp
                exact hK _ _ rfl rfl (World.grownBy.refl _ none)
              -- op 10 (slot 92): load
              refine MonoR.step (Pv.eq (.int .u64 wv)) [(9, 91)] (by kernel_rfl) (fun w' hw' => ?_) ?_
              · rintro _ rfl
                refine ask_do rfl fun K hK => ?_
                obtain ⟨q0, q1, q2, q3, q4, q5⟩ := HLF1.out w' hw'
                go_simp
                exact hK _ _ rfl rfl (World.grownBy.refl _ none)
              -- op 11 (slot 93): move
              refine MonoR.step (Pv.eq (.slice (some ⟨g0, o0, none⟩) j cl)) [] (by kernel_rfl) (fun w' hw' => ?_) ?_
              · refine ask_do rfl fun K hK => ?_
                go_simp
                exact hK _ _ rfl rfl (World.grownBy.refl _ none)
              -- op 12 (slot 94): move
              refine MonoR.step (Pv.eq (.int .i64 (i : Int))) [] (by kernel_rfl) (fun w' hw' => ?_) ?_
              · refine ask_do rfl fun K hK => ?_
                go_simp
                exact hK _ _ rfl rfl (World.grownBy.refl _ none)
              -- op 13 (slot 95): indexAddr
              refine MonoR.step (Pv.eq (.pointer (some ⟨g0, o0 + i, none⟩))) [(11, 93), (12, 94)] (by kernel_rfl) (fun w' hw' => ?_) ?_
              · rintro _ rfl
                rintro _ rfl
                refine ask_do rfl fun K hK => ?_
                go_simp
                exact hK _ _ rfl rfl (World.grownBy.refl _ none)
              -- op 14 (slot 96): load
              refine MonoR.step (Pv.eq (.slice (some ⟨gr, orr, none⟩) nr cr')) [(13, 95)] (by kernel_rfl) (fun w' hw' => ?_) ?_
              · rintro _ rfl
                refine ask_do rfl fun K hK => ?_
                obtain ⟨q0, q1, q2, q3, q4, q5⟩ := HLF1.out w' hw'
                go_simp
                exact hK _ _ rfl rfl (World.grownBy.refl _ none)
              -- op 15 (slot 97): move
              refine MonoR.step (Pv.eq (.int .i64 (s : Int))) [] (by kernel_rfl) (fun w' hw' => ?_) ?_
              · refine ask_do rfl fun K hK => ?_
                go_simp
                exact hK _ _ rfl rfl (World.grownBy.refl _ none)
              -- op 16 (slot 98): indexAddr
              refine MonoR.step (Pv.eq (.pointer (some ⟨gr, orr + s * 2, none⟩))) [(14, 96), (15, 97)] (by kernel_rfl) (fun w' hw' => ?_) ?_
              · rintro _ rfl
                rintro _ rfl
                refine ask_do rfl fun K hK => ?_
                go_simp
                exact hK _ _ rfl rfl (World.grownBy.refl _ none)
              -- op 17 (slot 99): fieldAddr
              refine MonoR.step (Pv.eq (.pointer (some ⟨gr, orr + s * 2 + 1, none⟩))) [(16, 98)] (by kernel_rfl) (fun w' hw' => ?_) ?_
              · rintro _ rfl
                refine ask_do rfl fun K hK => ?_
                go_simp
                exact hK _ _ rfl rfl (World.grownBy.refl _ none)
              -- op 18 (slot 100): load
              refine MonoR.step (Pv.eq (.int .u64 x2)) [(17, 99)] (by kernel_rfl) (fun w' hw' => ?_) ?_
              · rintro _ rfl
                refine ask_do rfl fun K hK => ?_
                obtain ⟨q0, q1, q2, q3, q4, q5⟩ := HLF1.out w' hw'
                go_simp
                exact hK _ _ rfl rfl (World.grownBy.refl _ none)
              -- op 19 (slot 101): fieldAddr
              refine MonoR.step (Pv.eq (.pointer (some ⟨w.heap.size, 1, none⟩))) [] (by kernel_rfl) (fun w' hw' => ?_) ?_
              · refine ask_do rfl fun K hK => ?_
                go_simp
                exact hK _ _ rfl rfl (World.grownBy.refl _ none)
              -- op 20 (slot 102): load
              refine MonoR.step (Pv.eq (.int .u64 p.Q)) [(19, 101)] (by kernel_rfl) (fun w' hw' => ?_) ?_
              · rintro _ rfl
                refine ask_do rfl fun K hK => ?_
                obtain ⟨q0, q1, q2, q3, q4, q5⟩ := HLF1.out w' hw'
                go_simp
                exact hK _ _ rfl rfl (World.grownBy.refl _ none)
              -- op 21 (slot 103): call
              refine MonoR.step (Pv.eq (.int .u64 (mulI wv x2 p.Q))) [(10, 92), (18, 100), (20, 102)] (by kernel_rfl) (fun w' hw' => ?_) ?_
              · rintro _ rfl
                rintro _ rfl
                rintro _ rfl
                refine ask_do rfl fun K hK => ?_
                go_simp
                refine (mul_gr wv x2 p.Q w' HUW.out HUX.out.2).mono ?_
                rintro e w3 ⟨rfl, hg⟩
                exact hK _ _ rfl rfl hg
              -- op 22 (slot 104): fieldAddr
              refine MonoR.step (Pv.eq (.pointer (some ⟨w.heap.size, 1, none⟩))) [] (by kernel_rfl) (fun w' hw' => ?_) ?_
              · refine ask_do rfl fun K hK => ?_
                go_simp
                exact hK _ _ rfl rfl (World.grownBy.refl _ none)
              -- op 23 (slot 105): load
              refine MonoR.step (Pv.eq (.int .u64 p.Q)) [(22, 104)] (by kernel_rfl) (fun w' hw' => ?_) ?_
              · rintro _ rfl
                refine ask_do rfl fun K hK => ?_
                obtain ⟨q0, q1, q2, q3, q4, q5⟩ := HLF1.out w' hw'
                go_simp
                exact hK _ _ rfl rfl (World.grownBy.refl _ none)
              -- op 24 (slot 106): call
              refine MonoR.step (Pv.eq (.int .u64 (addI a2 (mulI wv x2 p.Q) p.Q))) [(6, 88), (21, 103), (23, 105)] (by kernel_rfl) (fun w' hw' => ?_) ?_
              · rintro _ rfl
                rintro _ rfl
                rintro _ rfl
                refine ask_do rfl fun K hK => ?_
                go_simp
                refine (add_gr a2 (mulI wv x2 p.Q) p.Q w' HU1.out.2 HM2.out).mono ?_
                rintro e w3 ⟨rfl, hg⟩
                exact hK _ _ rfl rfl hg
              -- op 25 (slot 107): indexAddr
              refine MonoR.step (Pv.eq (.pointer (some ⟨Bo, s * 2, none⟩))) [(0, 82), (1, 83)] (by kernel_rfl) (fun w' hw' => ?_) ?_
              · rintro _ rfl
                rintro _ rfl
                refine ask_do rfl fun K hK => ?_
                go_simp
                exact hK _ _ rfl rfl (World.grownBy.refl _ none)
              -- op 26 (slot 108): fieldAddr
              refine MonoR.step (Pv.eq (.pointer (some ⟨Bo, s * 2 + 1, none⟩))) [(25, 107)] (by kernel_rfl) (fun w' hw' => ?_) ?_
              · rintro _ rfl
                refine ask_do rfl fun K hK => ?_
                go_simp
                exact hK _ _ rfl rfl (World.grownBy.refl _ none)
              
              intro w5 hw5
              intro y0 k0 y1 k1 y2 k2 y3 k3 y4 k4 y5 k5 y6 k6 y7 k7 y8 k8 y9 k9 y10 k10 y11 k11 y12 k12 y13 k13 y14 k14 y15 k15 y16 k16 y17 k17 y18 k18 y19 k19 y20 k20 y21 k21 y22 k22 y23 k23 y24 k24 y25 k25 y26 k26
              show wpList Tryd.prog _ _ _ _ w5
              simp only [Act.put, List.setIfInBounds_toArray, List.set_cons_zero, List.set_cons_succ]
              have e24 : y24 = .int .u64 (addI a2 (mulI wv x2 p.Q) p.Q) := k24
              have e26 : y26 = .pointer (some ⟨Bo, s * 2 + 1, none⟩) := k26
              subst e24 e26
              have hb5 : Bk w5 Bo 44 ((pcs (aL p.Q ls WL nn i s)).toArray.setIfInBounds (s * 2) (.int .u64 (addI a1 (mulI wv x1 p.Q) p.Q))) := HB4.out.grown (HDR4.out.trans hw5) (by simp)
              have hg5 : wi.grownBy w5 (some Bo) := HG4.out.trans ((HDR4.out.trans hw5).but _)
              have c5 : w5.cell? ⟨Bo, s * 2 + 1, none⟩ = some (.int .u64 a2) := by rw [hb5.cell]; exact HQ4.out
              have f5 := hb5.free
              have HFIN : Hid (Bk (w5.setCell ⟨Bo, s * 2 + 1, none⟩ (.int .u64 (addI a2 (mulI wv x2 p.Q) p.Q))) Bo 44 (pcs (aL p.Q ls WL nn i (s + 1))).toArray ∧ D0.grownBy (w5.setCell ⟨Bo, s * 2 + 1, none⟩ (.int .u64 (addI a2 (mulI wv x2 p.Q) p.Q))) (some Bo)) := Lib.hid ⟨(hb5.set (s * 2 + 1) (.int .u64 (addI a2 (mulI wv x2 p.Q) p.Q))).of_eq (by
                rw [← HAS.out, HN1.out.1, HN1.out.2]
                simp), (HGD2.out.trans hg5).trans (grownSet w5 Bo _ _)⟩
              clear hw5 hb5 hg5 k0 k1 k2 k3 k4 k5 k6 k7 k8 k9 k10 k11 k12 k13 k14 k15 k16 k17 k18 k19 k20 k21 k22 k23 k24 k25 k26 HLF1
              go_wp2_with fail
              go_roundg q
              case measure => omega
              case rel => exact ⟨s + 1, by omega, by go_num, HFIN⟩
    | succ m =>
      have hjn : (j : Int) < (t : Int) := by omega
      have hjN : j < at_.length := by rw [HAT.out]; omega
      obtain ⟨g, o, c', e, _, _, hcu, _⟩ := (HA.out.kept HG.out).atI hjN
      injection e with e1 e2 e3
      subst e1 e3
      have hi := HIN.out _ (List.getElem_mem hjN)
      have HSN : Hid (at_.take (j + 1) = at_.take j ++ [at_[j]]) := Lib.hid (List.take_succ_eq_append_getElem hjN)
      have HU : Hid (U64 at_[j]) := Lib.hid ⟨by omega, by omega⟩
      have HLB : Hid (((at_.take j).length + 1) * 8 ≤ 140737488355328) := Lib.hid (by simp; omega)
      obtain ⟨hi1, hi2⟩ := hi
      generalize at_[j] = y at *
      have hcv : IntKind.u64.wrap y = y := IntWalk.u64_in _ (by omega)
      clear e2
      go_wp2_with (at_builtin; refine wpList_pushG rfl (.tmp 21) (.tmp 27) rfl (E := encU) el_u64 HG.out HAC.out (fun _ h => h) ⟨rfl, HU.out⟩ HLB.out rfl rfl ?_)
      intro v2 w2 hacc2 hg2 hgo
      have HFIN : Hid (Acc encU w0.heap.size 22 (fun g => w0.heap.size ≤ g) w2 v2 (at_.take (j + 1)) ∧ w0.grownBy w2 none) := Lib.hid ⟨by rw [HSN.out]; simpa using hacc2, hg2⟩
      clear hacc2 hg2 hgo
      go_wp2_with fail
      go_roundg m
      case measure => omega
      case rel => exact ⟨j + 1, by omega, by go_num, HFIN⟩
end Go.Proofs.YtonkbmknanpchaaDoor

namespace Go.Proofs.YtonkbmknanpchaaDoor
open Go Go.RowKit

/-- Where the worlds stand while a model is dealt. -/
def m4Lt (D : World) (seed : Int) (SH : List (List (Int × Int))) (CM : List (List Int)) : Lt where
  C vs W := D.grownBy W none ∧ match vs with
    | [] => True
    | [u] => ∃ g, u = .pointer (some ⟨g, 0, none⟩) ∧ D.heap.size ≤ g ∧ Bk W g 68 #[.int .u64 seed, .slice none 0 0, .int .i64 0]
    | [_, x] => ∃ a b, x = .tuple #[a, b, .int .i64 0] ∧ Sl (encS encP) TT W a SH ∧ Sl (encS encU) TT W b CM
    | _ => False
  R _ _ _ := True
  g := fun {vs X Y} ⟨h1, h2⟩ hg => ⟨h1.trans hg, by
    match vs, h2 with
    | [], h2 => exact h2
    | [_], ⟨g, a, b, c⟩ => exact ⟨g, a, b, c.grown hg (by simp)⟩
    | [_, _], ⟨a, b, c, d, e⟩ => exact ⟨a, b, c, d.kept hg, e.kept hg⟩⟩
theorem m4_at {D : World} {seed : Int} {SH : List (List (Int × Int))} {CM : List (List Int)} {vs : List Value} {W : World} {x : Value} (hC : (m4Lt D seed SH CM).C vs W) (h : vs[1]? = some x) : ∃ a b, x = .tuple #[a, b, .int .i64 0] := by
  obtain ⟨_, h2⟩ := hC
  match vs, h, h2 with
  | [_, y], h, ⟨a, b, c, _⟩ =>
    have h : some y = some x := h
    injection h with h
    exact ⟨a, b, h ▸ c⟩
def m4X {D : World} {seed : Int} {SH : List (List (Int × Int))} {CM : List (List Int)} : Qv (m4Lt D seed SH CM) where
  p vs v _ := vs[1]? = some v
  fr := 0
  st := fun h _ => h
  sr := fun {vs u v w w'} _ _ _ h => by
    have := (List.getElem?_eq_some_iff.1 h).1
    rw [List.getElem?_append_left this]
    exact h
def m4E {D : World} {seed : Int} {SH : List (List (Int × Int))} {CM : List (List Int)} : Qv (m4Lt D seed SH CM) where
  p vs v _ := ∃ b, vs[1]? = some (.tuple #[v, b, .int .i64 0])
  fr := 0
  st := fun {vs v w w'} ⟨b, h⟩ _ => ⟨b, h⟩
  sr := fun {vs u v w w'} _ _ _ ⟨b, h⟩ => ⟨b, by
    have := (List.getElem?_eq_some_iff.1 h).1
    rw [List.getElem?_append_left this]
    exact h⟩
def m4F {D : World} {seed : Int} {SH : List (List (Int × Int))} {CM : List (List Int)} : Qv (m4Lt D seed SH CM) where
  p vs v _ := ∃ a, vs[1]? = some (.tuple #[a, v, .int .i64 0])
  fr := 0
  st := fun {vs v w w'} ⟨b, h⟩ _ => ⟨b, h⟩
  sr := fun {vs u v w w'} _ _ _ ⟨b, h⟩ => ⟨b, by
    have := (List.getElem?_eq_some_iff.1 h).1
    rw [List.getElem?_append_left this]
    exact h⟩
theorem wS_congr {q : Int} {x y w : Nat → Int} : ∀ n : Nat, (∀ i, i < n → x i = y i) → wS q x w n = wS q y w n
  | 0, _ => rfl
  | n + 1, h => by
    show addI (wS q x w n) (mulI (w n) (x n) q) q = addI (wS q y w n) (mulI (w n) (y n) q) q
    rw [wS_congr n (fun i hi => h i (by omega)), h n (by omega)]
theorem pick18 {p : Par} {F R : List (List Int)} {N : Nat} {i : Int} (h : 1 ≤ i ∧ i ≤ (N : Int)) : ((List.range N).map fun i : Nat => dealtI p F R ((i : Int) + 1))[(i - 1).toNat]?.getD [] = dealtI p F R i := by
  rw [List.getElem?_map, List.getElem?_range (by omega)]
  show dealtI p F R (((i - 1).toNat : Int) + 1) = _
  rw [show (((i - 1).toNat : Int) + 1) = i by omega]
/-- What the members' shares of one secret come to. -/
theorem own_back {p : Par} (hm : mayP p = true) {t s : Nat} (ht : (t : Int) = p.T + 1) {at_ : List Int} (hpl : Places p.N at_) (hat : at_.length = t) {F R : List (List Int)} (hs : s < F.length) (hl : ∀ f ∈ F, f.length = t) : (aS p.Q (at_.map (dealtI p F R)) (wList p.Q at_ 0) s t).1 = (F[s]'hs)[0]?.getD 0 % p.Q := by
  rw [← sum18_law hm ht hpl hat (hl _ (List.getElem_mem hs))]
  refine wS_congr t fun i hi => ?_
  have hi' : i < at_.length := by omega
  show (((at_.map (dealtI p F R))[i]?.getD [])[s]?.getD (0, 0)).1 = evalI p.Q F[s] (at_[i]?.getD 0)
  simp [dealtI, hi', hs]
set_option maxRecDepth 100000 in
set_option maxHeartbeats 8000000 in
theorem dmodel18_any (p : Par) (v : Value) (l : List Int) (seed which : Int) (w : World) (hp : p.ok) (h : Sl encU (fun _ => True) w v l) (hsd : U64 seed) (hwh : I64 which) (hT : TabsAt w) :
    Calls Tryd.prog 3 #[p.v, v, .int .u64 seed, .int .i64 which] w fun e w' => e = .returned (.bool true) ∧ w.grownBy w' none := by
  have HP := Lib.hid hp
  have HL := Lib.hid h
  obtain ⟨A, c, rfl, hl1, hl2⟩ := h.form
  have HM := Lib.hid (fun (w' : World) (hg : w.grownBy w' none) => may_any p w' hp (hT.kept hg))
  have HTB := Lib.hid hT
  have HWK := Lib.hid (fun (w' : World) (hg : w.grownBy w' none) => works18_any w' (hT.kept hg))
  clear h hp hT
  obtain ⟨n, hnl⟩ : ∃ n, n = l.length := ⟨_, rfl⟩
  have HNL := Lib.hid hnl
  rw [← hnl] at hl1 HL ⊢
  obtain ⟨w0, hw0⟩ : ∃ y, y = w.alloc (Obj.cells p.cells 24) := ⟨_, rfl⟩
  have HB0 : Hid (Bk w0 w.heap.size 24 p.cells) := Lib.hid (by rw [hw0]; exact Bk.new w _ _)
  have HG0 : Hid (w.grownBy w0 none) := Lib.hid (by rw [hw0]; exact World.grownBy_alloc w _ none)
  cases hm : mayP p with
  | false =>
    rw [hm] at HM
    clear hm hnl
    go_enter Tryd.func3, Tryd.ntmps3
    go_wp2_with fail
    rw [← hw0]
    clear hw0
    refine (HWK.out _ HG0.out).mono ?_
    rintro e w1 ⟨rfl, hg⟩
    have HG1 := hidTrans hg HG0
    have hp1 := (bkGrown hg HB0).out.prule
    clear hg
    go_wp2_with fail
    refine (HM.out _ HG1.out).mono ?_
    rintro e w2 ⟨rfl, hg⟩
    have HG2 := hidTrans hg HG1
    clear hg
    go_wp2_with fail
    refine (HWK.out _ HG2.out).mono ?_
    rintro e w3 ⟨rfl, hg⟩
    have HG3 := hidTrans hg HG2
    clear hg hp1
    go_wp2
    go_ret
    exact ⟨rfl, HG3.out⟩
  | true =>
    rw [hm] at HM
    by_cases hbig : n > 100
    · have hbI : (n : Int) > 100 := by omega
      clear hm hbig hnl
      go_enter Tryd.func3, Tryd.ntmps3
      go_wp2_with fail
      rw [← hw0]
      clear hw0
      refine (HWK.out _ HG0.out).mono ?_
      rintro e w1 ⟨rfl, hg⟩
      have HG1 := hidTrans hg HG0
      have hp1 := (bkGrown hg HB0).out.prule
      clear hg
      go_wp2_with fail
      refine (HM.out _ HG1.out).mono ?_
      rintro e w2 ⟨rfl, hg⟩
      have HG2 := hidTrans hg HG1
      clear hg
      go_wp2_with fail
      refine (HWK.out _ HG2.out).mono ?_
      rintro e w3 ⟨rfl, hg⟩
      have HG3 := hidTrans hg HG2
      clear hg hp1
      go_wp2
      go_ret
      exact ⟨rfl, HG3.out⟩
    · have hbI : (n : Int) ≤ 100 := by omega
      have HMAY := Lib.hid hm
      have HSD := Lib.hid hsd
      have HWH := Lib.hid hwh
      obtain ⟨hq, hP, ha, n1, n2, n3, t1, t2, t3, hs, k1, d1⟩ := may_apart hm
      have HQP : Hid (0 < p.Q ∧ U64 p.Q) := Lib.hid ⟨mayB_pos hq, HP.out.Q⟩
      have hsec := secretsI_eq hm
      obtain ⟨sk1, sk2, sd1, sd2, _, _, _, _, _, _⟩ := may_sizes hm
      obtain ⟨nn, hnn⟩ : ∃ y, y = p.K.toNat * (p.D.toNat + 1) := ⟨_, rfl⟩
      rw [← hnn] at hsec
      have hn10 : nn ≤ 10 ∧ 2 ≤ nn := by
        have h1 : p.K.toNat * (p.D.toNat + 1) ≤ 2 * 5 := Nat.mul_le_mul (by omega) (by omega)
        have h2 : 1 * 2 ≤ p.K.toNat * (p.D.toNat + 1) := Nat.mul_le_mul (by omega) (by omega)
        omega
      obtain ⟨T, hTT⟩ : ∃ k : Nat, (k : Int) = p.T := ⟨p.T.toNat, by omega⟩
      obtain ⟨N, hNN⟩ : ∃ k : Nat, (k : Int) = p.N := ⟨p.N.toNat, by omega⟩
      have HTN : Hid ((T : Int) = p.T ∧ (N : Int) = p.N ∧ p.N.toNat = N ∧ T ≤ 2 ∧ T + 1 ≤ N ∧ N ≤ 7 ∧ 1 ≤ T) := Lib.hid (by omega)
      obtain ⟨S, hS⟩ : ∃ y, y = sec18 l nn := ⟨_, rfl⟩
      have hSl : S.length = nn := by rw [hS]; simp [sec18]
      have HSL : Hid (S.length = nn ∧ (S.length : Int) = secretsI p ∧ nn ≤ 10 ∧ 2 ≤ nn) := Lib.hid ⟨hSl, by rw [hSl, hsec], hn10.1, hn10.2⟩
      have HSU : Hid (∀ x ∈ S, U64 x) := Lib.hid (fun x hx => by
        rw [hS] at hx
        obtain ⟨a, ha, rfl⟩ := List.mem_map.1 hx
        have := List.mem_range.1 ha
        exact own18_U64 HL.out (by omega))
      obtain ⟨DR, hDR⟩ : ∃ y : Nat → Int, y = fun k => drawX p.Q (seedS p.Q seed k) := ⟨_, rfl⟩
      have HTP : Hid (∀ g, Tp g p.Q DR (fun k w => Bk w g 68 #[.int .u64 (seedS p.Q seed k), .slice none 0 0, .int .i64 k]) (fun b => b = g) 1000000) := Lib.hid (fun g => by rw [hDR]; exact tp_own g p.Q seed HSD.out HQP.out.2)
      have HDU : Hid (∀ k, 0 ≤ DR k) := Lib.hid (fun k => ((HTP.out 0).val k).1)
      obtain ⟨FF, hFF⟩ : ∃ y, y = dealFs S p.Q DR T 0 S.length := ⟨_, rfl⟩
      obtain ⟨RR, hRR⟩ : ∃ y, y = dealRs p.Q DR T 0 S.length := ⟨_, rfl⟩
      obtain ⟨SH, hSH⟩ : ∃ y, y = (List.range N).map fun i : Nat => dealtI p FF RR ((i : Int) + 1) := ⟨_, rfl⟩
      obtain ⟨CM, hCM⟩ : ∃ y, y = comsI p FF RR := ⟨_, rfl⟩
      obtain ⟨AT, hAT⟩ : ∃ y, y = some18I p.N which (T + 1) := ⟨_, rfl⟩
      obtain ⟨PK, hPK⟩ : ∃ y, y = AT.map (dealtI p FF RR) := ⟨_, rfl⟩
      have hbeh : ∀ (x : Int) (k : Nat), (behI x p.Q DR T k).length = T + 1 ∧ ∀ y ∈ behI x p.Q DR T k, 0 ≤ y := fun x k => ⟨behI_len _ _ _ _ _, fun y hy => by
        simp only [behI, List.mem_cons, List.mem_map] at hy
        rcases hy with rfl | ⟨j, _, rfl⟩
        · have := HQP.out.1
          exact Int.emod_nonneg _ (by omega)
        · exact HDU.out _⟩
      have HFR : Hid (FF.length = nn ∧ RR.length = nn ∧ Rect (T + 1) FF ∧ Rect (T + 1) RR) := Lib.hid ⟨by rw [hFF]; simp [dealFs, hSl], by rw [hRR]; simp [dealRs, hSl], fun r hr => by
        rw [hFF] at hr
        obtain ⟨i, _, rfl⟩ := List.mem_map.1 hr
        exact hbeh _ _, fun r hr => by
        rw [hRR] at hr
        obtain ⟨i, _, rfl⟩ := List.mem_map.1 hr
        exact hbeh _ _⟩
      have hFl : FF.length = RR.length := by rw [HFR.out.1, HFR.out.2.1]
      have HFO : Hid (formedB p CM = true) := Lib.hid (by rw [hCM]; exact deal_formed hm (t := T + 1) (by omega) (by rw [HFR.out.1, hsec]) hFl HFR.out.2.2.1 HFR.out.2.2.2)
      have HFT : Hid (∀ i : Nat, fitsI p CM ((i : Int) + 1) (dealtI p FF RR ((i : Int) + 1)) = true) := Lib.hid (fun i => by rw [hCM]; exact deal_fits hm hFl HFR.out.2.2.1 HFR.out.2.2.2 (by omega))
      have hplc : Places p.N AT := by rw [hAT]; exact some18_places (by omega)
      have hatl : AT.length = T + 1 := by rw [hAT]; simp [some18I]
      have HPL : Hid (Places p.N AT ∧ AT.length = T + 1) := Lib.hid ⟨hplc, hatl⟩
      have HPK : Hid (∀ i ∈ AT, SH[(i - 1).toNat]?.getD [] = dealtI p FF RR i) := Lib.hid (fun i hi => by rw [hSH]; exact pick18 (by have := hplc.1 i hi; omega))
      have HPL2 : Hid (PK.length = T + 1 ∧ ∀ x ∈ PK, x.length = nn) := Lib.hid ⟨by rw [hPK, List.length_map, hatl], fun x hx => by
        rw [hPK] at hx
        obtain ⟨i, _, rfl⟩ := List.mem_map.1 hx
        simp [dealtI, HFR.out.1]⟩
      have HBK : Hid (∀ s (hs : s < S.length), (aS p.Q PK (wList p.Q AT 0) s (T + 1)).1 = S[s] % p.Q) := Lib.hid (fun s hs => by
        have hs2 : s < FF.length := by rw [HFR.out.1, ← hSl]; exact hs
        rw [hPK, own_back hm (t := T + 1) (by omega) hplc hatl hs2 (fun f hf => (HFR.out.2.2.1 f hf).1)]
        have e : FF[s] = behI S[s] p.Q DR T (0 + s * (2 * T + 1)) := by
          simp only [hFF, dealFs, List.getElem_map, List.getElem_range, dealF]
          rw [List.getElem?_eq_getElem hs]
          rfl
        rw [e]
        simp only [behI, List.getElem?_cons_zero, Option.getD_some]
        exact Cg.mod p.Q _)
      have HSHL : Hid (SH.length = N ∧ ∀ i (hi : i < SH.length), SH[i] = dealtI p FF RR ((i : Int) + 1)) := Lib.hid (by rw [hSH]; exact ⟨by simp, fun i hi => by simp⟩)
      have HDL : Hid (∀ i : Nat, (dealtI p FF RR ((i : Int) + 1)).length ≤ 100000) := Lib.hid (fun i => by simp [dealtI]; rw [HFR.out.1]; omega)
      have HCL : Hid (CM.length ≤ 100000) := Lib.hid (by rw [hCM, comsI_pairs p hFl]; simp; rw [HFR.out.1]; omega)
      have HSHE := Lib.hid hSH
      have HCME := Lib.hid hCM
      have HFE := Lib.hid hFF
      have HRE := Lib.hid hRR
      have HAE := Lib.hid hAT
      have HSE := Lib.hid hS
      have HSEC := Lib.hid hsec
      have HPKE := Lib.hid hPK
      clear hm hbig hq hP ha n1 n2 n3 t1 t2 t3 hs k1 d1 hsec hTT hNN hS hSl hn10 hDR hFF hRR hSH hCM hAT hPK hnl hsd hwh sk1 sk2 sd1 sd2 hnn hbeh hFl hplc hatl
      go_enter Tryd.func3, Tryd.ntmps3
      go_wp2_with fail
      rw [← hw0]
      clear hw0
      refine (HWK.out _ HG0.out).mono ?_
      rintro e w1 ⟨rfl, hg⟩
      have HG1 := hidTrans hg HG0
      have hp1 := (bkGrown hg HB0).out.prule
      have HB1 := bkGrown hg HB0
      clear hg
      go_wp2_with fail
      refine (HM.out _ HG1.out).mono ?_
      rintro e w2 ⟨rfl, hg⟩
      have HG2 := hidTrans hg HG1
      have HB2 := bkGrown hg HB1
      have hp2 := HB2.out.prule
      have HOWN := Lib.hid (secrets18_any p (.slice A n c) l (fun _ => True) w2 nn HSEC.out.symm HSL.out.2.2.1 (HL.out.kept HG2.out))
      rw [← HSE.out] at HOWN
      clear hg hp1 HM HB0 HB1
      go_wp2_with fail
      refine HOWN.out.mono ?_
      rintro e w3 ⟨vo, rfl, hso, hg⟩
      have HG3 := hidTrans hg HG2
      have HB3 := bkGrown hg HB2
      have HO3 : Hid (Sl encU TT w3 vo S) := Lib.hid (hso.more fun _ _ _ => trivial)
      obtain ⟨Ao, co, eo, _, _⟩ := hso.form
      subst eo
      clear hg hso hp2 HOWN
      go_upto_region 4 with (fail)
      have HDG : Hid (w3.grownBy w3.drew none) := Lib.hid (grown_drewN' _ 1)
      have HLD : Hid (∀ vs W, (m4Lt w3.drew seed SH CM).C vs W → ∀ o, W.cell? ⟨w.heap.size, o, none⟩ = (#[.int .u64 p.P, .int .u64 p.Q, .int .u64 p.G, .int .u64 p.H, .int .i64 p.Nodes, .int .i64 p.N, .int .i64 p.T, .int .i64 p.K, .int .i64 p.D, .int .i64 p.R, .int .i64 p.M, .int .i64 p.X] : Array Value)[o]?) := Lib.hid (fun vs W hC => (HB3.out.grown (HDG.out.trans hC.1) (by simp)).prule)
      have HDM : Hid (∀ (gt : Nat) (W : World), w3.drew.grownBy W none → Bk W gt 68 #[.int .u64 seed, .slice none 0 0, .int .i64 0] → Calls Tryd.prog 7 #[p.v, .slice Ao S.length co, .pointer (some ⟨gt, 0, none⟩)] W fun e w' => ∃ vs vc, e = .returned (.tuple #[vs, vc, .int .i64 0]) ∧ Sl (encS encP) TT w' vs SH ∧ Sl (encS encU) TT w' vc CM ∧ W.grownBy w' (some gt)) := Lib.hid (fun gt W hg hb => by
        have hx2 := sl_apartU (HO3.out.kept (HDG.out.trans hg)) (by rw [HSL.out.1]; exact HSL.out.2.2.2) hb (tape_ints _ _ _ _ _)
        refine (dmodel_any p _ S _ W (HTP.out gt) HP.out HMAY.out (HTB.out.kept (HG3.out.trans (HDG.out.trans hg))) hx2 (fun b hb => hb) HSL.out.2.1 0 T HTN.out.1 hb (by
          have h1 := HSL.out.2.2.1
          have h2 := HTN.out.2.2.2.1
          have h3 : S.length * (2 * T + 1) ≤ 10 * 5 := Nat.mul_le_mul (by rw [HSL.out.1]; exact h1) (by omega)
          omega)).mono ?_
        rintro e w' ⟨vs, vc, rfl, k1, k2, k3, k4⟩
        refine ⟨vs, vc, rfl, ?_, ?_, k4⟩
        · rw [HSHE.out, HFE.out, HRE.out, ← HTN.out.2.2.1]
          exact k1
        · rw [HCME.out, HFE.out, HRE.out]
          exact k2)
      refine wp_region_late (m4Lt w3.drew seed SH CM) [3, 4] 12 (by kernel_rfl) (by kernel_rfl) (by kernel_rfl) ⟨World.grownBy.refl _ none, trivial⟩ ?_
      -- op 0 (slot 37): load
      refine LateR.mono (Qv.eq (p.v)) [] (by kernel_rfl) (by rfl) rfl (fun vs w' hC => ?_) ?_
      · refine askl_do rfl fun K hK => ?_
        have hp := HLD.out vs w' hC
        go_simp
        exact hK _ _ rfl ⟨rfl, World.grownBy.refl _ none⟩
      -- op 1 (slot 38): move
      refine LateR.mono (Qv.eq (.slice Ao S.length co)) [] (by kernel_rfl) (by rfl) rfl (fun vs w' hC => ?_) ?_
      · refine askl_do rfl fun K hK => ?_
        go_simp
        exact hK _ _ rfl ⟨rfl, World.grownBy.refl _ none⟩
      -- op 2 (slot 39): move
      refine LateR.mono (Qv.eq (.int .u64 seed)) [] (by kernel_rfl) (by rfl) rfl (fun vs w' hC => ?_) ?_
      · refine askl_do rfl fun K hK => ?_
        go_simp
        exact hK _ _ rfl ⟨rfl, World.grownBy.refl _ none⟩
      -- op 3 (slot 40): call
      refine LateR.turn 0 [(2, 39)] (by kernel_rfl) rfl (fun vs w' hl hC => ?_) ?_
      · rintro _ rfl
        refine askl_do rfl fun K hK => ?_
        obtain rfl : vs = [] := List.eq_nil_of_length_eq_zero hl
        go_simp
        refine (new20_any seed w').mono ?_
        rintro e w3 ⟨rfl, rfl⟩
        exact hK _ _ rfl ⟨trivial, hC.1.trans (World.grownBy_alloc w' _ none), _, rfl, hC.1.size, Bk.new _ _ _⟩
      -- op 4 (slot 41): call
      refine LateR.turn 1 [(0, 37), (1, 38), (3, 40)] (by kernel_rfl) rfl (fun vs w' hl hC => ?_) ?_
      · rintro _ rfl
        rintro _ rfl
        intro x40 h40
        refine askl_do rfl fun K hK => ?_
        obtain ⟨u, rfl⟩ : ∃ u, vs = [u] := List.length_eq_one_iff.1 hl
        obtain ⟨g1, gt, rfl, g2, g3⟩ := hC
        obtain rfl : x40 = .pointer (some ⟨gt, 0, none⟩) := by
          have h : some (Value.pointer (some ⟨gt, 0, none⟩)) = some x40 := h40
          injection h with h
          exact h.symm
        go_simp
        refine (HDM.out gt w' g1 g3).mono ?_
        rintro e w3 ⟨vs', vc, rfl, k1, k2, k4⟩
        exact hK _ _ rfl ⟨trivial, grown_up g1 k4 (fun r e => by injection e with e; omega), vs', vc, rfl, k1, k2⟩
      -- op 5 (slot 36): move
      refine LateR.mono (m4X) [(4, 41)] (by kernel_rfl) (by rfl) rfl (fun vs w' hC => ?_) ?_
      · intro x41 h41
        refine askl_do rfl fun K hK => ?_
        go_simp
        exact hK _ _ rfl ⟨h41, World.grownBy.refl _ none⟩
      -- op 6 (slot 42): extract
      refine LateR.mono (m4E) [(5, 36)] (by kernel_rfl) (by rfl) rfl (fun vs w' hC => ?_) ?_
      · intro x36 h36
        have h36 : vs[1]? = some x36 := h36
        refine askl_do rfl fun K hK => ?_
        obtain ⟨va, vb, rfl⟩ := m4_at hC h36
        go_simp
        exact hK _ _ rfl ⟨⟨vb, h36⟩, World.grownBy.refl _ none⟩
      -- op 7 (slot 43): extract
      refine LateR.mono (m4F) [(5, 36)] (by kernel_rfl) (by rfl) rfl (fun vs w' hC => ?_) ?_
      · intro x36 h36
        have h36 : vs[1]? = some x36 := h36
        refine askl_do rfl fun K hK => ?_
        obtain ⟨va, vb, rfl⟩ := m4_at hC h36
        go_simp
        exact hK _ _ rfl ⟨⟨va, h36⟩, World.grownBy.refl _ none⟩
      -- op 8 (slot 44): extract
      refine LateR.mono (Qv.eq (.int .i64 0)) [(5, 36)] (by kernel_rfl) (by rfl) rfl (fun vs w' hC => ?_) ?_
      · intro x36 h36
        have h36 : vs[1]? = some x36 := h36
        refine askl_do rfl fun K hK => ?_
        obtain ⟨va, vb, rfl⟩ := m4_at hC h36
        go_simp
        exact hK _ _ rfl ⟨rfl, World.grownBy.refl _ none⟩
      -- op 9 (slot 10): assign
      refine LateR.mono (m4E) [(6, 42)] (by kernel_rfl) (by rfl) rfl (fun vs w' hC => ?_) ?_
      · intro x42 h42
        have h42 : ∃ b, vs[1]? = some (.tuple #[x42, b, .int .i64 0]) := h42
        refine askl_do rfl fun K hK => ?_
        go_simp
        exact hK _ _ rfl ⟨h42, World.grownBy.refl _ none⟩
      -- op 10 (slot 11): assign
      refine LateR.mono (m4F) [(7, 43)] (by kernel_rfl) (by rfl) rfl (fun vs w' hC => ?_) ?_
      · intro x43 h43
        have h43 : ∃ a, vs[1]? = some (.tuple #[a, x43, .int .i64 0]) := h43
        refine askl_do rfl fun K hK => ?_
        go_simp
        exact hK _ _ rfl ⟨h43, World.grownBy.refl _ none⟩
      -- op 11 (slot 12): assign
      refine LateR.mono (Qv.eq (.int .i64 0)) [(8, 44)] (by kernel_rfl) (by rfl) rfl (fun vs w' hC => ?_) ?_
      · rintro _ rfl
        refine askl_do rfl fun K hK => ?_
        go_simp
        exact hK _ _ rfl ⟨rfl, World.grownBy.refl _ none⟩
      intro vs w5 hvl hC5
      obtain ⟨u, u2, rfl⟩ : ∃ u u2, vs = [u, u2] := by
        match vs, hvl with
        | [u, u2], _ => exact ⟨u, u2, rfl⟩
      intro y0 k0 y1 k1 y2 k2 y3 k3 y4 k4 y5 k5 y6 k6 y7 k7 y8 k8 y9 k9 y10 k10 y11 k11
      show wpList Tryd.prog _ _ _ _ w5
      simp only [Act.put, List.setIfInBounds_toArray, List.set_cons_zero, List.set_cons_succ]
      obtain ⟨g5, va, vb, eab, hSH5, hCM5⟩ := hC5
      obtain ⟨vc', hv⟩ : ∃ vc, some u2 = some (.tuple #[y9, vc, .int .i64 0]) := k9
      obtain ⟨vc2, hv2⟩ : ∃ vc, some u2 = some (.tuple #[vc, y10, .int .i64 0]) := k10
      have e9 : y9 = va := by
        injection hv with hv
        rw [eab] at hv
        injection hv with hv
        injection hv with hv
        injection hv with hv _
        exact hv.symm
      have e10 : y10 = vb := by
        injection hv2 with hv2
        rw [eab] at hv2
        injection hv2 with hv2
        injection hv2 with hv2
        injection hv2 with _ hv2
        injection hv2 with hv2 _
        exact hv2.symm
      have e11 : y11 = .int .i64 0 := k11
      subst e9 e10 e11
      obtain ⟨AS, cS, es, _, _⟩ := hSH5.form
      rw [HSHL.out.1] at es
      subst es
      obtain ⟨Ac, nc, cc, ec⟩ := hCM5.shape
      subst ec
      have HSH5 := Lib.hid hSH5
      have HCM5 := Lib.hid hCM5
      have hg35 := HDG.out.trans g5
      have HG5 : Hid (w.grownBy w5 none) := Lib.hid (HG3.out.trans hg35)
      have HB5 : Hid (Bk w5 w.heap.size 24 p.cells) := Lib.hid (HB3.out.grown hg35 (by simp))
      have HO5 := Lib.hid (HO3.out.kept hg35)
      have hp5 := HB5.out.prule
      have HFC := Lib.hid (formed_any p (.slice Ac nc cc) CM TT w5 HP.out HCM5.out)
      rw [HFO.out] at HFC
      have hNp : ((N : Int) != p.N) = false := by rw [HTN.out.2.1]; simp
      clear hSH5 hCM5 hg35 g5 k0 k1 k2 k3 k4 k5 k6 k7 k8 eab hv hv2 HLD HDM
      go_wp2_with fail
      refine HFC.out.mono ?_
      rintro e w6 ⟨rfl, hg⟩
      have HG6 := hidTrans hg HG5
      have HB6 := bkGrown hg HB5
      have HSH6 := Lib.hid (HSH5.out.kept hg)
      have HCM6 := Lib.hid (HCM5.out.kept hg)
      have HO6 := Lib.hid (HO5.out.kept hg)
      clear hg hp5 hNp HFC
      go_wp2_with fail
      go_loopg [13] N (fun g s13 wx => ∃ i : Nat, i + g = N ∧ s13 = .int .i64 i ∧ Hid (w6.grownBy wx none))
      case atStart => exact ⟨0, by omega, rfl, Lib.hid (World.grownBy.refl _ none)⟩
      case round =>
        obtain ⟨i, hi, rfl, HX⟩ := hrel
        cases gk with
        | zero =>
          obtain rfl : i = N := by omega
          have hno : ¬ ((i : Int) < (i : Int)) := by omega
          have HG7 := Lib.hid (HG6.out.trans HX.out)
          have HB7 : Hid (Bk wr w.heap.size 24 p.cells) := Lib.hid (HB6.out.grown HX.out (by simp))
          have HSH7 := Lib.hid (HSH6.out.kept HX.out)
          have HO7 := Lib.hid (HO6.out.kept HX.out)
          have hp7 := HB7.out.prule
          have HSO := Lib.hid (some18_any p p.N which (T + 1) wr (by have := HTN.out.1; omega) (by have := HTN.out; have := may_apart HMAY.out; omega) HWH.out)
          rw [← HAE.out] at HSO
          clear HX
          go_wp2_with fail
          refine HSO.out.mono ?_
          rintro e w8 ⟨v14, rfl, h14, hg⟩
          have HG8 := hidTrans hg HG7
          have HB8 := bkGrown hg HB7
          have HSH8 := Lib.hid (HSH7.out.kept hg)
          have HO8 := Lib.hid (HO7.out.kept hg)
          have HAT8 : Hid (Sl encI TT w8 v14 AT) := Lib.hid (h14.more fun _ _ _ => trivial)
          obtain ⟨Aa, ca, ea, _, _⟩ := h14.form
          rw [HPL.out.2] at ea
          subst ea
          obtain ⟨t, ht⟩ : ∃ y, y = T + 1 := ⟨_, rfl⟩
          have HTE := Lib.hid ht
          rw [← ht] at HAT8 ⊢
          have ht3 : t ≤ 3 := by have := HTE.out; have := HTN.out; omega
          clear hg h14 hp7 HSO ht
          go_wp2_with fail
          go_loopg [15, 16] t (fun g s15 s16 wx => ∃ k : Nat, k + g = t ∧ s16 = .int .i64 k ∧ Hid (Acc (encS encP) w8.heap.size 38 TT wx s15 ((AT.take k).map (dealtI p FF RR)) ∧ w8.grownBy wx none))
          case atStart => exact ⟨0, by omega, rfl, Lib.hid ⟨Acc.nil _ _ _ _ _, World.grownBy.refl _ none⟩⟩
          case round =>
            rename World => wa
            obtain ⟨k, hk, rfl, HY⟩ := hrel
            have HAC := Lib.hid HY.out.1
            have HGA := Lib.hid HY.out.2
            clear HY
            cases gk with
            | zero =>
              obtain rfl : k = t := by omega
              have hno2 : ¬ ((k : Int) < (k : Int)) := by omega
              have HPKS : Hid (Sl (encS encP) TT wa u15 (AT.map (dealtI p FF RR))) := Lib.hid (by
                have := HAC.out.sl
                rwa [show AT.take k = AT from List.take_of_length_le (by rw [HPL.out.2, ← HTE.out]; exact Nat.le_refl _)] at this)
              have HB9 : Hid (Bk wa w.heap.size 24 p.cells) := Lib.hid (HB8.out.grown HGA.out (by simp))
              have hp9 := HB9.out.prule
              have HSM := Lib.hid (sum18_any p (.slice Aa k ca) u15 AT (AT.map (dealtI p FF RR)) TT TT wa k nn HMAY.out HP.out (HAT8.out.kept HGA.out) HPKS.out HPL.out.1 (by rw [HPL.out.2, ← HTE.out]) (by rw [List.length_map, HPL.out.2, ← HTE.out]) (by have := HTE.out; have := HTN.out; omega) (by rw [← HPKE.out]; exact HPL2.out.2) HSL.out.2.2.1)
              have HO9 := Lib.hid (HO8.out.kept HGA.out)
              have HG9 := Lib.hid (HG8.out.trans HGA.out)
              obtain ⟨A15, n15, c15, e15⟩ := HPKS.out.shape
              subst e15
              clear HAC
              go_wp2_with fail
              refine HSM.out.mono ?_
              rintro e w10 ⟨v17, rfl, h17, hg⟩
              have HG10 := hidTrans hg HG9
              have HB10 := bkGrown hg HB9
              have HO10 := Lib.hid (HO9.out.kept hg)
              have HX10 := Lib.hid h17
              obtain ⟨Ax, nx, cx, ex⟩ := h17.shape
              subst ex
              clear hg h17 hp9 HSM
              go_wp2_with fail
              go_loopg [18, 19] S.length (fun g s18 s19 wx => ∃ s : Nat, s + g = S.length ∧ s18 = .bool true ∧ s19 = .int .i64 s ∧ Hid (w10.grownBy wx none))
              case atStart => exact ⟨0, by omega, rfl, rfl, Lib.hid (World.grownBy.refl _ none)⟩
              case round =>
                rename World => wb
                obtain ⟨s, hs, rfl, rfl, HZ⟩ := hrel
                cases gk with
                | zero =>
                  obtain rfl : s = S.length := by omega
                  have hno3 : ¬ ((S.length : Int) < (S.length : Int)) := by omega
                  have HGF := Lib.hid (HG10.out.trans HZ.out)
                  clear HZ
                  go_wp2
                  go_ret
                  exact ⟨rfl, HGF.out⟩
                | succ q =>
                  have hsI : (s : Int) < (S.length : Int) := by omega
                  have hsS : s < S.length := by omega
                  have hs0 : (0 : Int) ≤ (s : Int) := Int.natCast_nonneg s
                  have hsX : s < ((List.range nn).map fun s => aS p.Q (AT.map (dealtI p FF RR)) (wList p.Q AT 0) s k).length := by rw [List.length_map, List.length_range, ← HSL.out.1]; exact hsS
                  obtain ⟨gx, ox, cx', eX, hgx1, hgx2, hcx, hcx1, hux1, hux2⟩ := (HX10.out.kept HZ.out).atP hsX
                  injection eX with eX1 eX2 eX3
                  have hnx : (s : Int) < (nx : Int) := by rw [eX2, List.length_map, List.length_range, ← HSL.out.1]; omega
                  subst eX1 eX3
                  obtain ⟨go, oo, co', eO, _, _, hco, huo⟩ := (HO10.out.kept HZ.out).atU hsS
                  injection eO with eO1 eO2 eO3
                  subst eO1 eO3
                  have hval : (((List.range nn).map fun s => aS p.Q (AT.map (dealtI p FF RR)) (wList p.Q AT 0) s k)[s]).1 = S[s] % p.Q := by
                    rw [List.getElem_map, List.getElem_range, ← HPKE.out, HTE.out]
                    exact HBK.out s hsS
                  rw [hval] at hcx
                  obtain ⟨x, hx⟩ : ∃ y, y = S[s] := ⟨_, rfl⟩
                  rw [← hx] at hcx hco huo
                  obtain ⟨z, hz⟩ : ∃ y, y = x % p.Q := ⟨_, rfl⟩
                  rw [← hz] at hcx
                  obtain ⟨hq0, hq1, hq2⟩ := HQP.out
                  have hzt : Int.tmod x p.Q = z := by rw [hz]; exact Int.tmod_eq_emod_of_nonneg huo.1
                  have hzm : x % p.Q = z := hz.symm
                  have hqz : (p.Q == 0) = false := by simp; omega
                  have hqz2 : ¬ p.Q = 0 := by omega
                  have hzz : (z == z) = true := by simp
                  have HB11 : Hid (Bk wb w.heap.size 24 p.cells) := Lib.hid (HB10.out.grown HZ.out (by simp))
                  have hcq : wb.cell? ⟨w.heap.size, 1, none⟩ = some (.int .u64 p.Q) := HB11.out.cell 1
                  have HZG : Hid (∀ nq, w10.grownBy (wb.drewN nq) none) := Lib.hid (fun nq => HZ.out.trans (grown_drewN' _ nq))
                  clear hcx1 hux1 hux2 hgx1 hgx2
                  clear hsX hsS hval hx hz eX2 eO2 huo hq1 hq2
                  go_wp2_with fail
                  go_quiet (fail)
                  go_wp2_with fail
                  go_roundg q
                  case measure => omega
                  case rel => exact ⟨s + 1, by omega, rfl, by go_num, Lib.hid (HZG.out _)⟩
            | succ m =>
              have hkI : (k : Int) < (t : Int) := by omega
              have hkA : k < AT.length := by rw [HPL.out.2, ← HTE.out]; omega
              have hk0 : (0 : Int) ≤ (k : Int) := Int.natCast_nonneg k
              obtain ⟨ga, oa, ca', eA, _, _, hca, hia⟩ := (HAT8.out.kept HGA.out).atI hkA
              injection eA with eA1 eA2 eA3
              subst eA1 eA3
              have hin := HPL.out.1.1 _ (List.getElem_mem hkA)
              have hpk := HPK.out _ (List.getElem_mem hkA)
              have HSN : Hid ((AT.take (k + 1)).map (dealtI p FF RR) = (AT.take k).map (dealtI p FF RR) ++ [dealtI p FF RR AT[k]]) := Lib.hid (by rw [List.take_succ_eq_append_getElem hkA, List.map_append]; rfl)
              obtain ⟨r, hr⟩ : ∃ r : Nat, AT[k] = (r : Int) + 1 := ⟨(AT[k] - 1).toNat, by omega⟩
              have hrN : r < SH.length := by rw [HSHL.out.1]; have := HTN.out; omega
              have hrI : (r : Int) < (i : Int) := by have := HTN.out; omega
              have hr0 : (0 : Int) ≤ (r : Int) := Int.natCast_nonneg r
              obtain ⟨gs, os, cs', us, eS, _, _, hcs, hss⟩ := (HSH8.out.kept HGA.out).atS hrN
              injection eS with eS1 eS2 eS3
              subst eS1 eS3
              rw [HSHL.out.2 r hrN, ← hr] at hss
              obtain ⟨As, ns, cs2, es⟩ := hss.shape
              subst es
              rw [hr] at hca
              have hk1 : IntKind.i64.wrap (r : Int) = (r : Int) := IntWalk.i64_in _ (by omega)
              have HREP : Hid ((encS encP).rep (fun g => TT g ∧ some g ≠ u15.ownBlock) wa [.slice As ns cs2] (dealtI p FF RR AT[k])) := Lib.hid (by
                obtain ⟨gs0, os0, cs0, us0, eS0, _, _, hcs0, hss0⟩ := HSH8.out.atS hrN
                injection eS0 with eS01 _ _
                injection eS01 with eS01
                injection eS01 with ea eb _
                subst ea eb
                have hcs1 : wa.cell? ⟨gs, os + r, none⟩ = some us0 := cell_kept hcs0 HGA.out (by simp)
                have hu0 : us0 = .slice As ns cs2 := by rw [hcs] at hcs1; injection hcs1 with h; exact h.symm
                subst hu0
                rw [HSHL.out.2 r hrN, ← hr] at hss0
                exact ⟨_, rfl, (hss0.more fun g hlt _ => ⟨trivial, fun e => by have := (HAC.out.lt g e.symm).1; omega⟩).kept HGA.out⟩)
              have HLB : Hid ((((AT.take k).map (dealtI p FF RR)).length + 1) * 24 ≤ 140737488355328) := Lib.hid (by have := HPL.out.2; have := HTN.out; simp; omega)
              obtain ⟨y, hy⟩ : ∃ y, y = dealtI p FF RR AT[k] := ⟨_, rfl⟩
              rw [← hy] at HSN HREP
              clear hia hss hpk hin hr hrN hkA hy eA2 eS2
              go_wp2_with (at_builtin; refine wpList_pushG rfl (.tmp 88) (.tmp 97) rfl (E := encS encP) (y := y) el_pairs HGA.out HAC.out (fun _ _ => trivial) HREP.out HLB.out rfl rfl ?_)
              intro v2 w2 hacc2 hg2 hgo
              have HFIN : Hid (Acc (encS encP) w8.heap.size 38 TT w2 v2 ((AT.take (k + 1)).map (dealtI p FF RR)) ∧ w8.grownBy w2 none) := Lib.hid ⟨by rw [HSN.out, List.map_take]; exact hacc2, hg2⟩
              clear hacc2 hg2 hgo
              go_wp2_with fail
              go_roundg m
              case measure => omega
              case rel => exact ⟨k + 1, by omega, by go_num, HFIN⟩
        | succ m =>
          have hiI : (i : Int) < (N : Int) := by omega
          have hiS : i < SH.length := by rw [HSHL.out.1]; omega
          have hi0 : (0 : Int) ≤ (i : Int) := Int.natCast_nonneg i
          obtain ⟨gS, oS, cS', ui, eS, _, _, hci, hsi⟩ := (HSH6.out.kept HX.out).atS hiS
          injection eS with eS1 eS2 eS3
          subst eS1 eS3
          rw [HSHL.out.2 i hiS] at hsi
          obtain ⟨Ai, ni, ci, ei⟩ := hsi.shape
          subst ei
          have HB7 : Hid (Bk wr w.heap.size 24 p.cells) := Lib.hid (HB6.out.grown HX.out (by simp))
          have HD7 : Hid (wr.grownBy wr.drew none) := Lib.hid (grown_drewN' _ 1)
          have HLI : Hid (∀ W, wr.drew.grownBy W none → (∀ o, W.cell? ⟨w.heap.size, o, none⟩ = (#[.int .u64 p.P, .int .u64 p.Q, .int .u64 p.G, .int .u64 p.H, .int .i64 p.Nodes, .int .i64 p.N, .int .i64 p.T, .int .i64 p.K, .int .i64 p.D, .int .i64 p.R, .int .i64 p.M, .int .i64 p.X] : Array Value)[o]?) ∧ W.cell? ⟨gS, oS + i, none⟩ = some (.slice Ai ni ci)) := Lib.hid (fun W hg => ⟨(HB7.out.grown (HD7.out.trans hg) (by simp)).prule, cell_kept hci (HD7.out.trans hg) (by simp)⟩)
          have HSI := Lib.hid hsi
          have HFI : Hid (∀ W, wr.drew.grownBy W none → Calls Tryd.prog 10 #[p.v, .slice Ac nc cc, .int .u64 ((i : Int) + 1), .slice Ai ni ci] W fun e w' => e = .returned (.bool true) ∧ W.grownBy w' none) := Lib.hid (fun W hg => by
            have h := HD7.out.trans hg
            have := fits_any p (.slice Ac nc cc) CM ((i : Int) + 1) (.slice Ai ni ci) _ TT TT W HP.out (HCM6.out.kept (HX.out.trans h)) ⟨by omega, by omega⟩ (HSI.out.kept h) HCL.out (HDL.out i)
            rw [HFT.out i] at this
            exact this)
          have hcw : IntKind.u64.wrap ((i : Int) + 1) = (i : Int) + 1 := IntWalk.u64_in _ (by have := HTN.out; omega)
          have hci64 : IntKind.i64.wrap ((i : Int) + 1) = (i : Int) + 1 := IntWalk.i64_in _ (by have := HTN.out; omega)
          clear hci hsi hiS eS2
          go_upto_region 10 with (fail)
          refine wp_region_mono 11 (by kernel_rfl) (by kernel_rfl) ?_
          -- op 0 (slot 66): load
          refine MonoR.step (Pv.eq (p.v)) [] (by kernel_rfl) (fun w' hw' => ?_) ?_
          · refine ask_do rfl fun K hK => ?_
            obtain ⟨q0, q1⟩ := HLI.out w' hw'
            go_simp
            exact hK _ _ rfl rfl (World.grownBy.refl _ none)
          -- op 1 (slot 67): move
          refine MonoR.step (Pv.eq (.slice Ac nc cc)) [] (by kernel_rfl) (fun w' hw' => ?_) ?_
          · refine ask_do rfl fun K hK => ?_
            go_simp
            exact hK _ _ rfl rfl (World.grownBy.refl _ none)
          -- op 2 (slot 68): move
          refine MonoR.step (Pv.eq (.int .i64 (i : Int))) [] (by kernel_rfl) (fun w' hw' => ?_) ?_
          · refine ask_do rfl fun K hK => ?_
            go_simp
            exact hK _ _ rfl rfl (World.grownBy.refl _ none)
          -- op 3 (slot 69): binOp
          refine MonoR.step (Pv.eq (.int .i64 ((i : Int) + 1))) [(2, 68)] (by kernel_rfl) (fun w' hw' => ?_) ?_
          · rintro _ rfl
            refine ask_do rfl fun K hK => ?_
            go_simp
            exact hK _ _ rfl rfl (World.grownBy.refl _ none)
          -- op 4 (slot 70): convert
          refine MonoR.step (Pv.eq (.int .u64 ((i : Int) + 1))) [(3, 69)] (by kernel_rfl) (fun w' hw' => ?_) ?_
          · rintro _ rfl
            refine ask_do rfl fun K hK => ?_
            go_simp
            exact hK _ _ rfl rfl (World.grownBy.refl _ none)
          -- op 5 (slot 71): move
          refine MonoR.step (Pv.eq (.slice (some ⟨gS, oS, none⟩) N cS)) [] (by kernel_rfl) (fun w' hw' => ?_) ?_
          · refine ask_do rfl fun K hK => ?_
            go_simp
            exact hK _ _ rfl rfl (World.grownBy.refl _ none)
          -- op 6 (slot 72): move
          refine MonoR.step (Pv.eq (.int .i64 (i : Int))) [] (by kernel_rfl) (fun w' hw' => ?_) ?_
          · refine ask_do rfl fun K hK => ?_
            go_simp
            exact hK _ _ rfl rfl (World.grownBy.refl _ none)
          -- op 7 (slot 73): indexAddr
          refine MonoR.step (Pv.eq (.pointer (some ⟨gS, oS + i, none⟩))) [(5, 71), (6, 72)] (by kernel_rfl) (fun w' hw' => ?_) ?_
          · rintro _ rfl
            rintro _ rfl
            refine ask_do rfl fun K hK => ?_
            go_simp
            exact hK _ _ rfl rfl (World.grownBy.refl _ none)
          -- op 8 (slot 74): load
          refine MonoR.step (Pv.eq (.slice Ai ni ci)) [(7, 73)] (by kernel_rfl) (fun w' hw' => ?_) ?_
          · rintro _ rfl
            refine ask_do rfl fun K hK => ?_
            obtain ⟨q0, q1⟩ := HLI.out w' hw'
            go_simp
            exact hK _ _ rfl rfl (World.grownBy.refl _ none)
          -- op 9 (slot 75): call
          refine MonoR.step (Pv.eq (.bool true)) [(0, 66), (1, 67), (4, 70), (8, 74)] (by kernel_rfl) (fun w' hw' => ?_) ?_
          · rintro _ rfl
            rintro _ rfl
            rintro _ rfl
            rintro _ rfl
            refine ask_do rfl fun K hK => ?_
            go_simp
            refine (HFI.out w' hw').mono ?_
            rintro e w3 ⟨rfl, hg⟩
            exact hK _ _ rfl rfl hg
          -- op 10 (slot 76): unOp
          refine MonoR.step (Pv.eq (.bool false)) [(9, 75)] (by kernel_rfl) (fun w' hw' => ?_) ?_
          · rintro _ rfl
            refine ask_do rfl fun K hK => ?_
            go_simp
            exact hK _ _ rfl rfl (World.grownBy.refl _ none)
          
          intro w7 hw7
          intro y0 k0 y1 k1 y2 k2 y3 k3 y4 k4 y5 k5 y6 k6 y7 k7 y8 k8 y9 k9 y10 k10
          refine wpList_nil ?_
          simp only [Act.put, List.setIfInBounds_toArray, List.set_cons_zero, List.set_cons_succ]
          have e10 : y10 = .bool false := k10
          subst e10
          have HFIN : Hid (w6.grownBy w7 none) := Lib.hid (HX.out.trans (HD7.out.trans hw7))
          clear hw7 k0 k1 k2 k3 k4 k5 k6 k7 k8 k9 HLI HFI
          go_wp2_with fail
          go_roundg m
          case measure => omega
          case rel => exact ⟨i + 1, by omega, by go_num, HFIN⟩
end Go.Proofs.YtonkbmknanpchaaDoor

namespace Go.Proofs.YtonkbmknanpchaaDoor
open Go.ChangeShapes Go.WideShapes Go.RowKit

set_option maxRecDepth 100000 in
theorem open_params {H : Type} {enc : TypeId × Value → H} {w : World} {base : Nat} {spare : Nat → Bool} {held : Bool} {r : Reach} {b0 : Nat} {v : Value} {d : DataW H} {pl : List MemPlace}
    (hv : Value.okWide Tryd.prog w r b0 24 v) (h : DataW.Trod enc Tryd.prog w base spare held 24 v d pl) : ∃ p : Par, v = p.v ∧ p.ok := by
  obtain ⟨cs, rfl, hsz⟩ := okWide_struct Tryd.underlying24 hv
  obtain ⟨l⟩ := cs
  have hc : Tryd.prog.cellsOf 24 = 12 := by kernel_rfl
  have cu : Tryd.prog.cellsOf 22 = 1 := by kernel_rfl
  have ci : Tryd.prog.cellsOf 3 = 1 := by kernel_rfl
  have cj : Tryd.prog.cellsOf 2 = 1 := by kernel_rfl
  match l, hsz.trans hc with
  | [c0, c1, c2, c3, c4, c5, c6, c7, c8, c9, c10, c11], _ =>
    obtain ⟨fuel, hf⟩ := h
    obtain ⟨xs, n, _, _, _, hlen, hg⟩ := DataW.trod_struct Tryd.underlying24 hf
    match xs, hlen with
    | [y0, y1, y2, y3, y4, y5, y6, y7, y8, y9, y10, y11], _ =>
      have g0 := hg 0 _ rfl
      have g1 := hg 1 _ rfl
      have g2 := hg 2 _ rfl
      have g3 := hg 3 _ rfl
      have g4 := hg 4 _ rfl
      have g5 := hg 5 _ rfl
      have g6 := hg 6 _ rfl
      have g7 := hg 7 _ rfl
      have g8 := hg 8 _ rfl
      have g9 := hg 9 _ rfl
      have g10 := hg 10 _ rfl
      have g11 := hg 11 _ rfl
      simp [Value.cells, cu, ci, cj] at g0 g1 g2 g3 g4 g5 g6 g7 g8 g9 g10 g11
      obtain ⟨a0, e0, _, w0⟩ := DataW.trod_int Tryd.underlying22 g0
      simp at e0
      obtain ⟨a1, e1, _, w1⟩ := DataW.trod_int Tryd.underlying22 g1
      simp at e1
      obtain ⟨a2, e2, _, w2⟩ := DataW.trod_int Tryd.underlying22 g2
      simp at e2
      obtain ⟨a3, e3, _, w3⟩ := DataW.trod_int Tryd.underlying22 g3
      simp at e3
      obtain ⟨a4, e4, _, w4⟩ := DataW.trod_int Tryd.underlying3 g4
      simp at e4
      obtain ⟨a5, e5, _, w5⟩ := DataW.trod_int Tryd.underlying3 g5
      simp at e5
      obtain ⟨a6, e6, _, w6⟩ := DataW.trod_int Tryd.underlying3 g6
      simp at e6
      obtain ⟨a7, e7, _, w7⟩ := DataW.trod_int Tryd.underlying3 g7
      simp at e7
      obtain ⟨a8, e8, _, w8⟩ := DataW.trod_int Tryd.underlying3 g8
      simp at e8
      obtain ⟨a9, e9, _, w9⟩ := DataW.trod_int Tryd.underlying3 g9
      simp at e9
      obtain ⟨a10, e10, _, w10⟩ := DataW.trod_int Tryd.underlying2 g10
      simp at e10
      obtain ⟨a11, e11, _, w11⟩ := DataW.trod_int Tryd.underlying2 g11
      simp at e11
      subst e0 e1 e2 e3 e4 e5 e6 e7 e8 e9 e10 e11
      exact ⟨⟨a0, a1, a2, a3, a4, a5, a6, a7, a8, a9, a10, a11⟩, rfl, ⟨u64_wf w0, u64_wf w1, u64_wf w2, u64_wf w3, i64_wf w4, i64_wf w5, i64_wf w6, i64_wf w7, i64_wf w8, i64_wf w9, i64_wf w10, i64_wf w11⟩⟩
set_option maxRecDepth 100000 in
theorem open_pair {H : Type} {enc : TypeId × Value → H} {w : World} {base : Nat} {spare : Nat → Bool} {held : Bool} {r : Reach} {b0 : Nat} {v : Value} {d : DataW H} {pl : List MemPlace}
    (hv : Value.okWide Tryd.prog w r b0 44 v) (h : DataW.Trod enc Tryd.prog w base spare held 44 v d pl) : ∃ x : Int × Int, v = .agg #[.int .u64 x.1, .int .u64 x.2] ∧ U64 x.1 ∧ U64 x.2 := by
  obtain ⟨cs, rfl, hsz⟩ := okWide_struct Tryd.underlying44 hv
  obtain ⟨l⟩ := cs
  have hc : Tryd.prog.cellsOf 44 = 2 := by kernel_rfl
  have cu : Tryd.prog.cellsOf 22 = 1 := by kernel_rfl
  match l, hsz.trans hc with
  | [c0, c1], _ =>
    obtain ⟨fuel, hf⟩ := h
    obtain ⟨xs, n, _, _, _, hlen, hg⟩ := DataW.trod_struct Tryd.underlying44 hf
    match xs, hlen with
    | [y0, y1], _ =>
      have g0 := hg 0 _ rfl
      have g1 := hg 1 _ rfl
      simp [Value.cells, cu] at g0 g1
      obtain ⟨a0, e0, _, w0⟩ := DataW.trod_int Tryd.underlying22 g0
      obtain ⟨a1, e1, _, w1⟩ := DataW.trod_int Tryd.underlying22 g1
      simp at e0 e1
      subst e0 e1
      exact ⟨(a0, a1), rfl, u64_wf w0, u64_wf w1⟩
theorem cells_u64 : Tryd.prog.cellsOf 22 = 1 := by kernel_rfl
theorem reads_nums : Reads (encS encU) 25 := reads_sl Tryd.underlying25 (reads_u64 Tryd.underlying22) cells_u64
theorem cells_pair : Tryd.prog.cellsOf 44 = 2 := by kernel_rfl
theorem reads_pairs : Reads (encS encP) 38 := reads_sl Tryd.underlying38 (reads_pair Tryd.underlying44 ⟨rfl, rfl⟩ ⟨rfl, rfl⟩ Tryd.underlying22 cells_pair cells_u64) cells_pair
theorem cells_nums : Tryd.prog.cellsOf 25 = 1 := by kernel_rfl
theorem reads_rows : Reads (encS (encS encU)) 30 := reads_sl Tryd.underlying30 reads_nums cells_nums
theorem cells_rows : Tryd.prog.cellsOf 30 = 1 := by kernel_rfl
theorem reads_mat : Reads (encS (encS (encS encU))) 51 := reads_sl Tryd.underlying51 reads_rows cells_rows
theorem cells_pairs : Tryd.prog.cellsOf 38 = 1 := by kernel_rfl
theorem reads_prows : Reads (encS (encS encP)) 29 := reads_sl Tryd.underlying29 reads_pairs cells_pairs
theorem cells_int : Tryd.prog.cellsOf 3 = 1 := by kernel_rfl
theorem reads_ints : Reads (encS encI) 39 := reads_sl Tryd.underlying39 (reads_i64 Tryd.underlying3) cells_int
end Go.Proofs.YtonkbmknanpchaaDoor

namespace Go.Proofs.YtonkbmknanpchaaDoor
open Go.RowKit
theorem grown_drewN (w : World) : ∀ n, Grown w (w.drewN n)
  | 0 => Grown.refl w
  | n + 1 => (grown_drewN w n).drew
def tabL : List Int := [0, 1, 56, 2, 57, 49, 28, 3, 61, 58, 42, 50, 38, 29, 17, 4, 62, 47, 59, 36, 45, 43, 51, 22, 53, 39, 33, 30, 24, 18, 12, 5, 63, 55, 48, 27, 60, 41, 37, 16, 46, 35, 44, 21, 52, 32, 23, 11, 54, 26, 40, 15, 34, 20, 31, 10, 25, 14, 19, 9, 13, 8, 7, 6]
theorem tabZ' : ∀ j, j < 64 → tabL.getD j 0 = ((Lib.deBruijn64tab.getD j 0 : Nat) : Int) := by decide
theorem tabZ (j : Nat) (hj : j < Lib.deBruijn64tab.length) : tabL.getD j 0 = ((Lib.deBruijn64tab.getD j 0 : Nat) : Int) := tabZ' j hj
/-- What an initialiser lays into a variable's block. -/
def layCells (cs : Array Value) : Obj → Obj
  | .cells _ t f => .cells cs t f
  | o => o
end Go.Proofs.YtonkbmknanpchaaDoor

namespace Go.Proofs.YtonkbmknanpchaaDoor.dealModel
open Go.ChangeShapes Go.WideShapes Go.ChangeAt Go.RowKit
set_option linter.unusedVariables false
theorem own : ownKnob Tryd.prog.godebug = none := by kernel_rfl
theorem gA : Tryd.prog.globalNamed "math/bits.deBruijn64tab" = some 1 := by kernel_rfl
theorem gB : Tryd.prog.globalNamed "consistory/mod.tried" = some 0 := by kernel_rfl
theorem tA : (Tryd.prog.globals[1]?).map (·.type) = some 109 := by kernel_rfl
theorem tB : (Tryd.prog.globals[0]?).map (·.type) = some 85 := by kernel_rfl
theorem cA : Tryd.prog.cellsOf 109 = 64 := by kernel_rfl
theorem cB : Tryd.prog.cellsOf 85 = 12 := by kernel_rfl
theorem c8 : Tryd.prog.cellsOf 5 = 1 := by kernel_rfl
theorem c64 : Tryd.prog.cellsOf 22 = 1 := by kernel_rfl
theorem tabs {W : World} (h : laidMetH Tryd.prog Rows.dealModelRow.laid W) : TabsAt W := by
  have h1 : laidMet Tryd.prog Rows.dealModelRow.laid W := h
  have a := Lib.tabIs_of_head (zs := [0, 1, 56, 2, 57, 49, 28, 3, 61, 58, 42, 50, 38, 29, 17, 4, 62, 47, 59, 36, 45, 43, 51, 22, 53, 39, 33, 30, 24, 18, 12, 5, 63, 55, 48, 27, 60, 41, 37, 16, 46, 35, 44, 21, 52, 32, 23, 11, 54, 26, 40, 15, 34, 20, 31, 10, 25, 14, 19, 9, 13, 8, 7, 6]) gA tA Tryd.underlying109 Tryd.underlying5 c8 cA h1
  have b := Lib.tabIs_of_head (rest := []) (zs := triedL) gB tB Tryd.underlying85 Tryd.underlying22 c64 cB (laidMet.tail h1)
  exact ⟨fun j hj => by rw [a.cell gA j hj]; exact congrArg (fun z => some (Value.int .u8 z)) (tabZ j hj), fun j hj => b.cell gB j hj⟩
theorem walk (p0 : Par) (v1 : Value) (l1 : List Int) (a2 : Int) (a3 : Int) (w : World) (w0 : p0.ok) (w1 : Sl encU (fun _ => True) w v1 l1) (w2 : (Lit.int .u64 a2).wf = true) (w3 : (Lit.int .i64 a3).wf = true) (hT : TabsAt w) :
    Calls Tryd.prog 3 #[p0.v, v1, .int .u64 a2, .int .i64 a3] w fun e w' => e = .returned (.bool true) ∧ Below w.heap.size w w' :=
  (dmodel18_any p0 v1 l1 a2 a3 w w0 w1 (u64_wf w2) (i64_wf w3) hT).mono fun _ _ ⟨he, hg⟩ => ⟨he, below_grown hg⟩
theorem laidOut : laidOutB Tryd.prog = true := by kernel_rfl
set_option maxRecDepth 100000 in
theorem contract (H : Type) (enc : TypeId × Value → H) (W : World) (base : Nat) (args : Array Value) (ds gs : List (DataW H)) (before : List MemPlace)
    (hval : ∀ (j : Nat) t v, Tryd.f3.params[j]? = some t → args[j]? = some v → Value.okWide Tryd.prog W .any base t v)
    (hW : DataW.Whole enc Tryd.prog Tryd.f3.params.toList Rows.dealModelSpec.vars false W args.toList ds gs before) (hL : laidMetH Tryd.prog Rows.dealModelRow.laid W) :
    Calls Tryd.prog 3 args W fun e W' => ∃ v, e = .returned v ∧ Rows.dealModelSpec.post enc Tryd.prog Tryd.f3 false true false false W args v W' := by
  have hW' := hW
  obtain ⟨p, q, hA0, hV, rfl, hfz, hnd⟩ := hW
  have hA : DataW.TrodAll enc Tryd.prog W 0 (fun _ => true) true Tryd.f3.params.toList args.toList ds p := hA0
  rw [Tryd.params3] at hA hval
  obtain ⟨v0, vs0, d0, ds0, p0, q0, hargs, rfl, rfl, h0, r0⟩ := trodAll_cons hA
  obtain ⟨v1, vs1, d1, ds1, p1, q1, rfl, rfl, rfl, h1, r1⟩ := trodAll_cons r0
  obtain ⟨v2, vs2, d2, ds2, p2, q2, rfl, rfl, rfl, h2, r2⟩ := trodAll_cons r1
  obtain ⟨v3, vs3, d3, ds3, p3, q3, rfl, rfl, rfl, h3, r3⟩ := trodAll_cons r2
  obtain ⟨rfl, rfl, rfl⟩ := trodAll_nil r3
  obtain rfl : args = #[v0, v1, v2, v3] := by cases args; simp_all
  obtain ⟨rfl, rfl⟩ := trodVars_none hV
  have k0 := h0
  have lt0 : ∀ x ∈ p0, x.block < W.heap.size := by obtain ⟨m, hm⟩ := k0; exact DataW.trod_lt m _ _ _ hm
  obtain ⟨q0', rfl, w0⟩ := open_params (hval 0 24 v0 rfl rfl) k0
  obtain ⟨a1, len1, cap1, rfl⟩ := okWide_slice Tryd.underlying25 (hval 1 25 v1 rfl rfl)
  have k1 := h1
  have lt1 : ∀ x ∈ p1, x.block < W.heap.size := by obtain ⟨m, hm⟩ := k1; exact DataW.trod_lt m _ _ _ hm
  obtain ⟨l1, w1⟩ := open_sl reads_nums k1
  obtain ⟨a2, rfl, rfl, rfl, w2⟩ := open_int Tryd.underlying22 (hval 2 22 v2 rfl rfl) h2
  obtain ⟨a3, rfl, rfl, rfl, w3⟩ := open_int Tryd.underlying3 (hval 3 3 v3 rfl rfl) h3
  clear hA0
  refine (walk q0' _ l1 a2 a3 W w0 w1 w2 w3 (tabs hL)).mono fun e W' ⟨he, bel⟩ => ?_
  subst he
  exact ⟨_, rfl, _, _, _, [], _, [], hW', trodAll_mk1 (shut_bool Tryd.underlying4 _), (trodAll_cons_mk (Below.trod laidOut (by kernel_rfl) (of_decide_eq_true (by kernel_rfl)) k0 bel lt0) (trodAll_cons_mk (Below.trod laidOut (by kernel_rfl) (of_decide_eq_true (by kernel_rfl)) k1 bel lt1) (trodAll_cons_mk (shut_int Tryd.underlying22 w2) (trodAll_cons_mk (shut_int Tryd.underlying3 w3) trodAll_mk0)))), rfl, bel.frame _, fun h => by cases h⟩
/-- A world for the witness: the settled one, the two tables laid. -/
noncomputable def laidWorld (os : Os) : World :=
  { World.holding Tryd.prog os ⟨#[], #[], []⟩ with heap := ((World.holding Tryd.prog os ⟨#[], #[], []⟩).heap.modify 0 (layCells #[.int .u64 2, .int .u64 3, .int .u64 5, .int .u64 7, .int .u64 11, .int .u64 13, .int .u64 17, .int .u64 19, .int .u64 23, .int .u64 29, .int .u64 31, .int .u64 37])).modify 1 (layCells #[.int .u8 0, .int .u8 1, .int .u8 56, .int .u8 2, .int .u8 57, .int .u8 49, .int .u8 28, .int .u8 3, .int .u8 61, .int .u8 58, .int .u8 42, .int .u8 50, .int .u8 38, .int .u8 29, .int .u8 17, .int .u8 4, .int .u8 62, .int .u8 47, .int .u8 59, .int .u8 36, .int .u8 45, .int .u8 43, .int .u8 51, .int .u8 22, .int .u8 53, .int .u8 39, .int .u8 33, .int .u8 30, .int .u8 24, .int .u8 18, .int .u8 12, .int .u8 5, .int .u8 63, .int .u8 55, .int .u8 48, .int .u8 27, .int .u8 60, .int .u8 41, .int .u8 37, .int .u8 16, .int .u8 46, .int .u8 35, .int .u8 44, .int .u8 21, .int .u8 52, .int .u8 32, .int .u8 23, .int .u8 11, .int .u8 54, .int .u8 26, .int .u8 40, .int .u8 15, .int .u8 34, .int .u8 20, .int .u8 31, .int .u8 10, .int .u8 25, .int .u8 14, .int .u8 19, .int .u8 9, .int .u8 13, .int .u8 8, .int .u8 7, .int .u8 6]) }
theorem laid_met (os : Os) : laidMet Tryd.prog Rows.dealModelRow.laid ((laidWorld os).forCall (fun _ _ => 0) ⟨#[], #[.agg #[.int .u64 0, .int .u64 0, .int .u64 0, .int .u64 0, .int .i64 0, .int .i64 0, .int .i64 0, .int .i64 0, .int .i64 0, .int .i64 0, .int .i64 0, .int .i64 0], .slice none 0 0, .int .u64 0, .int .i64 0], []⟩).memory :=
  laidMet_of_run' 8 (by kernel_rfl) (by kernel_rfl)
theorem reads (os : Os) {H : Type} (enc : TypeId × Value → H) : ∃ places, DataW.whole enc Tryd.prog ((laidWorld os).forCall (fun _ _ => 0) ⟨#[], #[.agg #[.int .u64 0, .int .u64 0, .int .u64 0, .int .u64 0, .int .i64 0, .int .i64 0, .int .i64 0, .int .i64 0, .int .i64 0, .int .i64 0, .int .i64 0, .int .i64 0], .slice none 0 0, .int .u64 0, .int .i64 0], []⟩).memory Tryd.f3.params.toList Rows.dealModelSpec.vars false (#[.agg #[.int .u64 0, .int .u64 0, .int .u64 0, .int .u64 0, .int .i64 0, .int .i64 0, .int .i64 0, .int .i64 0, .int .i64 0, .int .i64 0, .int .i64 0, .int .i64 0], .slice none 0 0, .int .u64 0, .int .i64 0] : Array Value).toList 8 = some ([.agg [.lit (.int .u64 0), .lit (.int .u64 0), .lit (.int .u64 0), .lit (.int .u64 0), .lit (.int .i64 0), .lit (.int .i64 0), .lit (.int .i64 0), .lit (.int .i64 0), .lit (.int .i64 0), .lit (.int .i64 0), .lit (.int .i64 0), .lit (.int .i64 0)], .nil, .lit (.int .u64 0), .lit (.int .i64 0)], [], places) :=
  ⟨[], by kernel_rfl⟩
set_option maxRecDepth 100000 in
theorem lifted (os : Os) (started : os.Started) (H : Type) (enc : TypeId × Value → H) (F : Stop.Interp) :
    ReturnsInHanded {} Tryd.checked os 3 .any ((OpenSpec.ofChange Rows.dealModelSpec).preRow enc Tryd.prog Tryd.f3 Rows.dealModelRow.domain false Rows.dealModelRow.laid) (((OpenSpec.ofChange Rows.dealModelSpec).at F).post enc Tryd.prog Tryd.f3 false true false false) := by
  obtain ⟨places, hx⟩ := reads os enc
  refine returnsInHanded_of_row (C := Tryd.checked) (s := OpenSpec.ofChange Rows.dealModelSpec) own started (by kernel_rfl) Tryd.func3
    (witness_row_at (enc := enc) (C := Tryd.checked) false (laidWorld os) #[.agg #[.int .u64 0, .int .u64 0, .int .u64 0, .int .u64 0, .int .i64 0, .int .i64 0, .int .i64 0, .int .i64 0, .int .i64 0, .int .i64 0, .int .i64 0, .int .i64 0], .slice none 0 0, .int .u64 0, .int .i64 0] rfl (by kernel_rfl) (by kernel_rfl) (by kernel_rfl)
      (OpenSpec.preRow_of_cond 8 hx (by kernel_rfl) (fun k hk => by cases hk) (by kernel_rfl) (laid_met os))) ?_
  intro W base args ds gs before hval hW _ _ _ hL _ _
  exact contract H enc W base args ds gs before hval hW hL
set_option maxRecDepth 100000 in
theorem said : Rows.DealModelSaid :=
  OpenClaim.holds_of_cond 3 Tryd.f3 rfl rfl rfl rfl rfl rfl rfl ⟨rfl, rfl, rfl, rfl, rfl⟩ rfl rfl rfl rfl rfl (by kernel_rfl) Tryd.func3 (by kernel_rfl)
    (of_decide_eq_true (by kernel_rfl)) (by unfold Func.isWrapper; first | (rw [if_pos (by decide +kernel)]; kernel_rfl) | (rw [if_neg (by decide +kernel)]; exact ⟨rfl, rfl⟩))
    (fun os started H enc _ F => by rw [OpenClaim.pre_eq_preRow]; exact lifted os started H enc F)
set_option maxRecDepth 100000 in
theorem plain (f : FuncId) (fn : Func) (hf : Tryd.pinned.checked.prog.funcNamed "consistory/consistorylaw18.DealModel" = some f) (hfn : Tryd.pinned.checked.prog.funcs[f]? = some fn) :
    false = Tryd.pinned.checked.prog.looks [] ∧ ∀ (j : Nat) t, fn.params[j]? = some t → Tryd.pinned.checked.prog.wantsStandIn t = false := by
  obtain rfl : f = 3 := Option.some.inj ((show Tryd.prog.funcNamed "consistory/consistorylaw18.DealModel" = some 3 by kernel_rfl).symm.trans hf) |>.symm
  obtain rfl : fn = Tryd.f3 := (Option.some.inj (Tryd.func3.symm.trans hfn)).symm
  refine ⟨by kernel_rfl, fun j t ht => ?_⟩
  rw [Tryd.params3] at ht
  have hmem := Array.mem_of_getElem? ht
  have hor : t = 24 ∨ t = 25 ∨ t = 22 ∨ t = 3 := by simpa using hmem
  rcases hor with rfl | rfl | rfl | rfl
  all_goals first | exact (show Tryd.prog.wantsStandIn 25 = false by kernel_rfl) | exact (show Tryd.prog.wantsStandIn 24 = false by kernel_rfl) | exact (show Tryd.prog.wantsStandIn 3 = false by kernel_rfl) | exact (show Tryd.prog.wantsStandIn 22 = false by kernel_rfl)
set_option maxRecDepth 100000 in
theorem card : Rows.DealModelCardSaid :=
  Claim7.holds_tied_plain_at .later [] _ _ _ _ said (fun _ h => by cases h) (by kernel_rfl) (fun _ h => by cases h) dealModel_row_tie rfl ⟨rfl, rfl⟩ (by kernel_rfl) rfl plain (by kernel_rfl)
end Go.Proofs.YtonkbmknanpchaaDoor.dealModel
