/- deal.Model, walked (printed by mk_dealm.py). deal.Model and deal.Make where they refuse. The document's Times, Power, Commit, At, Is of the layer group, walked: what they tell is what group's tell. The document's value of a polynomial, power by power, is what poly.Eval tells (plain law). tape.Next with draws told ahead, At, New, slices.Clone, Of, walked. tape.Of, Next over any tape, Draws, walked. tape.Draws and the reference's Nums, walked. The reference's Nums, and the law's works(), walked. What comes in: numbers, and slices of numbers, as the walks want them; what the rows ask at the end. consistorylaw12.TapeBelow, walked: it answers true for every numbers told ahead, every seed, all bounds. tape.Copy, walked. The document's tape (consistoryref12): own, Next of its own numbers, walked. The document's tape (consistoryref12): Next over any tape, New, walked. The document's tape (consistoryref12): Of, Copy, Draws, walked. consistoryref18's value, draw, pairs, walked (printed by mkt.py). consistoryref18.two, walked (printed by mkt.py). consistoryref06's power, Wide, Row, Turned, Col, of squares, walked (printed by mkt.py). -/
import Derived.Test.YtphbcfpiklmmeaaGreatDoorZ3
import Derived.Lib.SliceRun
import Derived.ProofKit
import Derived.OpenShut
import Derived.ChangeOld
import Derived.Deep.RegionHeld3
import Derived.Deep.AppendLies
namespace Go.Proofs.YtphbcfpiklmmeaaGreatDoor
open Go Go.RowKit Go.Shelf

/-- The polynomials that are drawn, from the k-th draw on: of a secret, and its blinder. -/
def dealF (l : List Int) (q : Int) (dr : Nat → Int) (T k s : Nat) : List Int := behI (l[s]?.getD 0) q dr T (k + s * (2 * T + 1))
def dealR (q : Int) (dr : Nat → Int) (T k s : Nat) : List Int := behI (dr (k + s * (2 * T + 1) + T)) q dr T (k + s * (2 * T + 1) + T + 1)
def dealFs (l : List Int) (q : Int) (dr : Nat → Int) (T k n : Nat) : List (List Int) := (List.range n).map (dealF l q dr T k)
def dealRs (q : Int) (dr : Nat → Int) (T k n : Nat) : List (List Int) := (List.range n).map (dealR q dr T k)
theorem dsnoc {α : Type} (f : Nat → α) (n : Nat) : (List.range (n + 1)).map f = (List.range n).map f ++ [f n] := by simp [List.range_succ]
/-- A slice of one pair in a block made since n. -/
def BlkP (n : Nat) (a b : Int) (v : Value) (w : World) : Prop := ∃ g, v = .slice (some ⟨g, 0, none⟩) 1 1 ∧ n ≤ g ∧ Bk w g 58 #[.int .u64 a, .int .u64 b]
theorem Bk.two {w : World} {b : Nat} {t : TypeId} {u v : Value} (h : Bk w b t #[u, v]) : ∀ j x, [u, v][j]? = some x → w.cell? ⟨b, j, none⟩ = some x := fun j x hv => by rw [h.cell j]; simpa using hv
/-- Where the worlds stand while a pair is put to a share. -/
def evLt (wi : World) (base N : Nat) (v : Value) (xs : List (Int × Int)) (y : Int × Int) : Lt where
  C vs W := wi.grownBy W v.ownBlock ∧ N ≤ W.heap.size ∧ match vs with
    | [] => Acc encP base 58 (fun g => base ≤ g) W v xs
    | [u] => Acc encP base 58 (fun g => base ≤ g) W u (xs ++ [y])
    | _ => False
  R _ _ _ := True
  g := fun {vs X Y} ⟨h1, h2, h3⟩ hg => ⟨h1.trans (hg.but _), Nat.le_trans h2 hg.size, by
    match vs, h3 with
    | [], h3 => exact h3.kept hg
    | [_], h3 => exact h3.kept hg⟩
def evP {wi : World} {base N0 : Nat} {v0 : Value} {xs : List (Int × Int)} {y : Int × Int} (N : Nat) (a b : Int) : Qv (evLt wi base N0 v0 xs y) where
  p vs v W := vs = [] → BlkP N a b v W
  fr := 0
  st := fun h hg e => by
    obtain ⟨g, e1, hb, hk⟩ := h e
    exact ⟨g, e1, hb, hk.grown hg (by simp)⟩
  sr := fun _ _ _ _ e => absurd e (by simp)
/-- The pairs of member i + 1 up to secret s. -/
def evsI (p : Par) (F R : List (List Int)) (i s : Nat) : List (Int × Int) := (List.range s).map fun k => (evalI p.Q (F[k]?.getD []) ((i : Int) + 1), evalI p.Q (R[k]?.getD []) ((i : Int) + 1))
theorem evsI_succ (p : Par) (F R : List (List Int)) (i s : Nat) : evsI p F R i (s + 1) = evsI p F R i s ++ [(evalI p.Q (F[s]?.getD []) ((i : Int) + 1), evalI p.Q (R[s]?.getD []) ((i : Int) + 1))] := dsnoc _ _
theorem evsI_all (p : Par) (F R : List (List Int)) (i : Nat) : evsI p F R i F.length = dealtI p F R ((i : Int) + 1) := rfl
set_option maxRecDepth 100000 in
set_option maxHeartbeats 8000000 in
theorem dmodel_new (p : Par) (vl : Value) (l : List Int) (X : Nat → Prop) (w : World) {g : Nat} {dr : Nat → Int} {TI : Nat → World → Prop} {bl : Nat → Prop} {most : Nat} (hT : Tp g p.Q dr TI bl most) (hp : p.ok) (hm : mayP p = true) (hTab : TabsAt w) (h : Sl encU X w vl l) (hX : ∀ b, X b → b ≠ g) (hl : (l.length : Int) = secretsI p) (k0 T : Nat) (hTT : (T : Int) = p.T) (hI : TI k0 w) (hmost : k0 + l.length * (2 * T + 1) ≤ most) :
    Calls Tryz.prog 7 #[p.v, vl, .pointer (some ⟨g, 0, none⟩)] w fun e w' => ∃ vs vc, e = .returned (.tuple #[vs, vc, .int .i64 0]) ∧ Sl (encS encP) (fun b => w.heap.size ≤ b) w' vs ((List.range p.N.toNat).map fun i : Nat => dealtI p (dealFs l p.Q dr T k0 l.length) (dealRs p.Q dr T k0 l.length) ((i : Int) + 1)) ∧ Sl (encS encU) (fun b => w.heap.size ≤ b) w' vc (comsI p (dealFs l p.Q dr T k0 l.length) (dealRs p.Q dr T k0 l.length)) ∧ TI (k0 + l.length * (2 * T + 1)) w' ∧ w.grownBy w' (some g) := by
  have HT := Lib.hid hT
  have HP := Lib.hid hp
  have HX := Lib.hid hX
  obtain ⟨hq, _, _, n1, n2, n3, t1, t2, t3, hs, kk1, dd1⟩ := may_apart hm
  have hsec := smallB_secrets hs
  have HQ : Hid (U64 p.Q ∧ 0 < p.Q) := Lib.hid ⟨hp.Q, mayB_pos hq⟩
  have hL10 : l.length ≤ 10 := by omega
  have hT2 : T ≤ 2 := by omega
  obtain ⟨N, hN⟩ : ∃ k : Nat, (k : Int) = p.N := ⟨p.N.toNat, by omega⟩
  have hNt : p.N.toNat = N := by omega
  have hN7 : N ≤ 7 := by omega
  have HN := Lib.hid hN
  obtain ⟨A, c, rfl, hl1, hl2⟩ := h.form
  have hGW : g < w.heap.size := hT.old hI hT.own
  have HGW := Lib.hid hGW
  have HOB : Hid (∀ b, bl b → b < w.heap.size) := Lib.hid (fun b hb => hT.old hI hb)
  obtain ⟨w0, hw0⟩ : ∃ y, y = w.alloc (Obj.cells p.cells 24) := ⟨_, rfl⟩
  have HG0 : Hid (w.grownBy w0 none) := Lib.hid (by rw [hw0]; exact World.grownBy_alloc w _ none)
  have HB0 : Hid (Bk w0 w.heap.size 24 p.cells) := Lib.hid (by rw [hw0]; exact Bk.new w _ _)
  have HI0 : Hid (TI k0 w0) := Lib.hid (hT.keep hI HG0.out (by simp))
  have HMY := Lib.hid (fun (w' : World) (hg : w0.grownBy w' none) => may_any p w' hp (hTab.kept (HG0.out.trans hg)))
  rw [hm] at HMY
  have HMAY := Lib.hid hm
  have HSEC := Lib.hid (dsecrets_any p)
  rw [← hl] at HSEC
  have HL := Lib.hid (h.kept HG0.out)
  have HTP := Lib.hid hTT
  have HMO := Lib.hid hmost
  have HLS := Lib.hid hl
  rw [hNt]
  clear hT hp hX hq n1 n2 n3 t1 t2 t3 hs kk1 dd1 hsec hm hTab h hI hTT hmost hl hGW hN hNt
  go_enter Tryz.func7, Tryz.ntmps7
  go_wp2_with fail
  rw [← hw0]
  have hp0 := HB0.out.prule
  clear hw0
  go_wp2_with fail
  refine (HMY.out _ (World.grownBy.refl _ none)).mono ?_
  rintro e w1 ⟨rfl, hg⟩
  have HG1 : Hid (w0.grownBy w1 none) := Lib.hid hg
  have hp1 := (HB0.out.grown hg (by simp)).prule
  clear hg hp0 HMY
  go_wp2_with fail
  refine (HSEC.out _).mono ?_
  rintro e w2 ⟨rfl, hg⟩
  have HG2 : Hid (w0.grownBy w2 none) := Lib.hid (HG1.out.trans hg)
  clear hg hp1 HSEC
  go_upto_region 6 with (fail)
  have HB2 : Hid (Bk w2 w.heap.size 24 p.cells) := Lib.hid (HB0.out.grown HG2.out (by simp))
  have HI2 : Hid (TI k0 w2) := Lib.hid (HT.out.keep HI0.out HG2.out (by simp))
  have HW2 : Hid (w.heap.size < w2.heap.size ∧ g < w.heap.size) := Lib.hid ⟨HB2.out.lt, HGW.out⟩
  have HPX : Hid (∀ wx, w2.grownBy wx (some g) → Bk wx w.heap.size 24 p.cells) := Lib.hid (fun wx hg => HB2.out.grown hg (fun e => by injection e with e; have := HW2.out.2; omega))
  have HLX : Hid (∀ wx, w2.grownBy wx (some g) → Sl encU X wx (.slice A l.length c) l) := Lib.hid (fun wx hg => (HL.out.kept HG2.out).keep hg (fun b hb e => HX.out b hb (by injection e with e)))
  have HBH : Hid (∀ (x : Int) (k : Nat) (wx : World), U64 x → k + T ≤ most → TI k wx → Calls Tryz.prog 31 #[.int .u64 x, .int .i64 p.T, .int .u64 p.Q, .func (.func 30) #[.pointer (some ⟨g, 0, none⟩)] #[]] wx fun e w' => ∃ v, e = .returned v ∧ Sl encU (fun b => wx.heap.size ≤ b) w' v (behI x p.Q dr T k) ∧ TI (k + T) w' ∧ wx.grownBy w' (some g)) := Lib.hid (fun x k wx hx hk hi => by
    rw [← HTP.out]
    exact behind_any HT.out x T k wx hx HQ.out.1 HQ.out.2 (by omega) hk hi)
  have HNX : Hid (∀ (k : Nat) (wx : World), k < most → TI k wx → Calls Tryz.prog 30 #[.pointer (some ⟨g, 0, none⟩), .int .u64 p.Q] wx fun e w' => e = .returned (.int .u64 (dr k)) ∧ TI (k + 1) w' ∧ wx.grownBy w' (some g)) := Lib.hid (fun k wx hk hi => HT.out.next hk hi)
  obtain ⟨L, hLL⟩ : ∃ y, y = l.length := ⟨_, rfl⟩
  have HLN := Lib.hid hLL
  rw [← hLL] at hL10 hl1 HMO HLX ⊢
  clear hLL
  go_loopg [10, 11, 31] L (fun gk s10 s11 s31 wx => ∃ s : Nat, s + gk = L ∧ s31 = .int .i64 s ∧ Hid (Side (encS encU) (encS encU) w2.heap.size 25 25 (fun b => w2.heap.size ≤ b) wx s10 s11 (dealFs l p.Q dr T k0 s) (dealRs p.Q dr T k0 s) ∧ TI (k0 + s * (2 * T + 1)) wx ∧ w2.grownBy wx (some g)))
  case atStart => exact ⟨0, by omega, rfl, Lib.hid ⟨⟨Acc.nil _ _ _ _ _, Acc.nil _ _ _ _ _⟩, by simpa using HI2.out, World.grownBy.refl _ _⟩⟩
  case round =>
    obtain ⟨s, hsL, rfl, HXX⟩ := hrel
    have HS0 := Lib.hid HXX.out.1
    have HI3 := Lib.hid HXX.out.2.1
    have HG3 := Lib.hid HXX.out.2.2
    clear HXX
    have hp3 := (HPX.out _ HG3.out).prule
    cases gk with
    | zero =>
      have eL : L = s := by omega
      subst eL
      have hno : ¬ ((L : Int) < (L : Int)) := by omega
      obtain ⟨F, hF⟩ : ∃ y, y = dealFs l p.Q dr T k0 L := ⟨_, rfl⟩
      obtain ⟨R, hR⟩ : ∃ y, y = dealRs p.Q dr T k0 L := ⟨_, rfl⟩
      rw [← hF, ← hR] at HS0
      have HFL : Hid (F.length = L ∧ R.length = L) := Lib.hid (by rw [hF, hR]; simp [dealFs, dealRs])
      have HFT : Hid ((∀ c ∈ F, c.length = T + 1) ∧ (∀ c ∈ R, c.length = T + 1)) := Lib.hid (by
        rw [hF, hR]
        refine ⟨fun c hc => ?_, fun c hc => ?_⟩
        · obtain ⟨i, _, rfl⟩ := List.mem_map.1 hc
          exact behI_len _ _ _ _ _
        · obtain ⟨i, _, rfl⟩ := List.mem_map.1 hc
          exact behI_len _ _ _ _ _)
      have HFE := Lib.hid hF
      have HRE := Lib.hid hR
      obtain ⟨AF, cF, eF, _, _⟩ := HS0.out.fst.sl.form
      obtain ⟨AR, cR, eR, _, _⟩ := HS0.out.snd.sl.form
      rw [HFL.out.1] at eF
      rw [HFL.out.2] at eR
      subst eF eR
      have hmk := run_make_row' (P := Tryz.prog) 31 26 (.slice none 0 0) 24 Tryz.underlying31 info_pairs rfl .i64 .i64 N (by omega) (by omega)
      rw [HN.out] at hmk
      obtain ⟨D0, hD0⟩ : ∃ y, y = wr.alloc (.cells (madeCells #[.slice none 0 0] N) 26) := ⟨_, rfl⟩
      obtain ⟨Bs, hBs⟩ : ∃ y, y = wr.heap.size := ⟨_, rfl⟩
      have HGA : Hid (wr.grownBy D0 none) := Lib.hid (by rw [hD0]; exact World.grownBy_alloc _ _ none)
      have HBO : Hid (Bk D0 Bs 26 (List.replicate N (.slice none 0 0)).toArray) := Lib.hid (by
        rw [hD0, hBs]
        exact (Bk.new wr 26 (madeCells #[.slice none 0 0] N)).of_eq (Array.toList_inj.1 (by rw [toList_madeCells_one])))
      have HBB : Hid (w2.heap.size ≤ Bs ∧ w.heap.size < Bs ∧ g < w.heap.size) := Lib.hid (by rw [hBs]; have := HG3.out.size; have := HW2.out; omega)
      have HBD : Hid (Bk D0 w.heap.size 24 p.cells) := Lib.hid ((HPX.out _ HG3.out).grown HGA.out (by simp))
      have HFD : Hid (Sl (encS encU) (fun b => b < Bs) D0 (.slice AF L cF) F) := Lib.hid ((HS0.out.fst.sl.bounded.kept HGA.out).more fun b _ hb => by rw [hBs]; exact hb.2)
      have HRD : Hid (Sl (encS encU) (fun b => b < Bs) D0 (.slice AR L cR) R) := Lib.hid ((HS0.out.snd.sl.bounded.kept HGA.out).more fun b _ hb => by rw [hBs]; exact hb.2)
      have HID : Hid (TI (k0 + L * (2 * T + 1)) D0) := Lib.hid (HT.out.keep HI3.out HGA.out (by simp))
      have HGD : Hid (w.grownBy D0 (some g)) := Lib.hid (((HG0.out.trans HG2.out).but _).trans (HG3.out.trans (HGA.out.but _)))
      have HLL : Hid ((List.replicate N (Value.slice none 0 0)).length = N) := Lib.hid (by simp)
      have HST : Hid (Bk D0 Bs 26 (List.replicate N (Value.slice none 0 0)).toArray ∧ (∀ i (hi : i < (List.replicate N (Value.slice none 0 0)).length), i < 0 → Sl encP (fun b => Bs < b) D0 (List.replicate N (Value.slice none 0 0))[i] (dealtI p F R ((i : Int) + 1))) ∧ (∀ i (hi : i < (List.replicate N (Value.slice none 0 0)).length), 0 ≤ i → (List.replicate N (Value.slice none 0 0))[i] = .slice none 0 0) ∧ D0.grownBy D0 (some Bs)) := Lib.hid ⟨HBO.out, fun i hi h => absurd h (Nat.not_lt_zero _), fun i hi _ => by simp, World.grownBy.refl _ _⟩
      have HPD : Hid (∀ wx, D0.grownBy wx (some Bs) → Bk wx w.heap.size 24 p.cells) := Lib.hid (fun wx hg => HBD.out.grown hg (fun e => by injection e with e; have := HBB.out; omega))
      have HFX : Hid (∀ wx, D0.grownBy wx (some Bs) → Sl (encS encU) (fun b => b < Bs) wx (.slice AF L cF) F) := Lib.hid (fun wx hg => HFD.out.keep hg (fun b hb e => by injection e with e; omega))
      have HRX : Hid (∀ wx, D0.grownBy wx (some Bs) → Sl (encS encU) (fun b => b < Bs) wx (.slice AR L cR) R) := Lib.hid (fun wx hg => HRD.out.keep hg (fun b hb e => by injection e with e; omega))
      clear hF hR HS0 HI3 HBH HNX HB0 HB2 HBO HBD HFD HRD HPX HLX HG3 HGA
      go_upto_region 13 with (fail)
      rw [← hD0, ← hBs]
      clear hD0 hBs hmk hp3
      go_loopg [64] N (fun gk s64 wx => ∃ (j : Nat) (hs : List Value), j + gk = N ∧ s64 = .int .i64 j ∧ Hid (hs.length = N) ∧ Hid (Bk wx Bs 26 hs.toArray ∧ (∀ i (hi : i < hs.length), i < j → Sl encP (fun b => Bs < b) wx hs[i] (dealtI p F R ((i : Int) + 1))) ∧ (∀ i (hi : i < hs.length), j ≤ i → hs[i] = .slice none 0 0) ∧ D0.grownBy wx (some Bs)))
      case atStart => exact ⟨0, _, by omega, rfl, HLL, HST⟩
      case round =>
        rename World => wj
        obtain ⟨i, hs, hiN, rfl, HLH, HX2⟩ := hrel
        cases gk with
        | zero =>
          obtain rfl : i = N := by omega
          have hno2 : ¬ ((i : Int) < (i : Int)) := by omega
          have HRV : Hid (Sl (encS encP) (fun b => Bs ≤ b) wj (.slice (some ⟨Bs, 0, none⟩) i i) ((List.range i).map fun k : Nat => dealtI p F R ((k : Int) + 1))) := Lib.hid (by
            obtain ⟨h1, h2, _, _⟩ := HX2.out
            have hTL : ((List.range i).map fun k : Nat => dealtI p F R ((k : Int) + 1)).length = i := by simp
            have := Sl.block (E := encS encP) (X := fun b => Bs ≤ b) (xs := (List.range i).map fun k : Nat => dealtI p F R ((k : Int) + 1)) (c := i) h1 (Nat.le_refl _) (hs.map fun v => [v]) (by rw [List.length_map, HLH.out, hTL]) (fun k hk hk' => ⟨hs[k]'(by rw [HLH.out]; omega), by simp, by
              have hc := (h2 k (by rw [HLH.out]; omega) (by omega)).more (Y := fun b => Bs ≤ b) (fun b _ hb => by omega)
              have he : ((List.range i).map fun k : Nat => dealtI p F R ((k : Int) + 1))[k] = dealtI p F R ((k : Int) + 1) := by simp
              rw [he]
              exact hc⟩) (by rw [flatten_singles]) (by rw [hTL]; exact Nat.le_refl _) (by omega)
            rw [hTL] at this
            exact this)
          have HGJ := Lib.hid HX2.out.2.2.2
          have hpj := (HPD.out _ HGJ.out).prule
          have HCM := Lib.hid (callsIn_wide.1 (coms_in 6 (Nat.le_refl _) p (.slice AF L cF) (.slice AR L cR) F R TT wj HP.out ((HFX.out _ HGJ.out).more fun _ _ _ => trivial) ((HRX.out _ HGJ.out).more fun _ _ _ => trivial) (by rw [HFL.out.1]; omega) (by rw [HFL.out.2]; omega) (fun c hc => by
            show c.length ≤ 100000
            rw [HFT.out.1 c hc]
            omega) (fun c hc => by
            show c.length ≤ 100000
            rw [HFT.out.2 c hc]
            omega)))
          clear HX2 HST HLH
          go_wp2_with fail
          refine HCM.out.mono ?_
          rintro e w9 ⟨vc, rfl, hsc, hgc⟩
          have HFIN : Hid (Sl (encS encP) (fun b => w.heap.size ≤ b) w9 (.slice (some ⟨Bs, 0, none⟩) i i) ((List.range i).map fun k : Nat => dealtI p (dealFs l p.Q dr T k0 L) (dealRs p.Q dr T k0 L) ((k : Int) + 1)) ∧ Sl (encS encU) (fun b => w.heap.size ≤ b) w9 vc (comsI p (dealFs l p.Q dr T k0 L) (dealRs p.Q dr T k0 L)) ∧ TI (k0 + L * (2 * T + 1)) w9 ∧ w.grownBy w9 (some g)) := Lib.hid ⟨by
            rw [← HFE.out, ← HRE.out]
            exact (HRV.out.kept hgc).more fun b _ hb => by have := HBB.out.2.1; omega, by
            rw [← HFE.out, ← HRE.out]
            exact hsc.more fun b _ hb => Nat.le_trans (Nat.le_trans HGD.out.size HGJ.out.size) hb, HT.out.keep (HT.out.keep HID.out HGJ.out (fun b e hb => by injection e with e; have := HOB.out b hb; have := HBB.out; omega)) hgc (by simp), HGD.out.andThen (HGJ.out.trans (hgc.but _)) (fun b e => .inl (by injection e with e; have := HBB.out; omega))⟩
          clear hsc hgc hpj
          go_wp2
          go_ret3
          refine ⟨_, _, rfl, ?_⟩
          rw [← HLN.out]
          exact HFIN.out
        | succ m =>
          have hiI : (i : Int) < (N : Int) := by omega
          have hih : i < hs.length := by rw [HLH.out]; omega
          have HIH := Lib.hid hih
          have hjB : Bs < wj.heap.size := HX2.out.1.lt
          have HJB := Lib.hid hjB
          have HIN : Hid (Acc encP wj.heap.size 58 (fun b => wj.heap.size ≤ b) wj (.slice none 0 0) (evsI p F R i 0) ∧ Bk wj Bs 26 (hs.set i (.slice none 0 0)).toArray ∧ wj.grownBy wj (some Bs)) := Lib.hid ⟨Acc.nil _ _ _ _ _, by
            have := HX2.out.2.2.1 i hih (Nat.le_refl _)
            rw [← this, List.set_getElem_self]
            exact HX2.out.1, World.grownBy.refl _ _⟩
          have HGJ := Lib.hid HX2.out.2.2.2
          clear hjB hih
          go_wp2_with fail
          go_loopg [69] L (fun gk s69 wx => ∃ (s : Nat) (v : Value), s + gk = L ∧ s69 = .int .i64 s ∧ Hid (Acc encP wj.heap.size 58 (fun b => wj.heap.size ≤ b) wx v (evsI p F R i s) ∧ Bk wx Bs 26 (hs.set i v).toArray ∧ wj.grownBy wx (some Bs)))
          case atStart => exact ⟨0, _, by omega, rfl, HIN⟩
          case round =>
            rename World => wi
            obtain ⟨s, v, hsL2, rfl, HY⟩ := hrel
            cases gk with
            | zero =>
              obtain rfl : s = L := by omega
              have HFIN : Hid (Bk wi Bs 26 (hs.set i v).toArray ∧ (∀ k (hk : k < (hs.set i v).length), k < i + 1 → Sl encP (fun b => Bs < b) wi (hs.set i v)[k] (dealtI p F R ((k : Int) + 1))) ∧ (∀ k (hk : k < (hs.set i v).length), i + 1 ≤ k → (hs.set i v)[k] = .slice none 0 0) ∧ D0.grownBy wi (some Bs)) := Lib.hid (by
                obtain ⟨h1, h2, h3⟩ := HY.out
                obtain ⟨_, k2, k3, k4⟩ := HX2.out
                refine ⟨h2, fun k hk hij => ?_, fun k hk hij => ?_, HGJ.out.trans h3⟩
                · rcases Nat.lt_or_ge k i with hlt | hge
                  · rw [List.getElem_set_ne (by omega)]
                    exact (k2 k (by simpa using hk) hlt).keep h3 (fun b hb e => by injection e with e; omega)
                  · obtain rfl : k = i := by omega
                    rw [List.getElem_set_self, ← evsI_all p F R k, HFL.out.1]
                    exact h1.sl.more (fun b _ hb => Nat.lt_of_lt_of_le HJB.out hb)
                · rw [List.getElem_set_ne (by omega)]
                  exact k3 k (by simpa using hk) (by omega))
              have HLH2 : Hid ((hs.set i v).length = N) := Lib.hid (by rw [List.length_set]; exact HLH.out)
              clear HX2 HY HST HIN
              go_wp2_with fail
              go_roundg m
              case measure => omega
              case rel => exact ⟨i + 1, _, by omega, by go_num, HLH2, HFIN⟩
            | succ q =>
              have hsI : (s : Int) < (L : Int) := by omega
              have hsF : s < F.length := by rw [HFL.out.1]; omega
              have hsR : s < R.length := by rw [HFL.out.2]; omega
              obtain ⟨hacc, hbo, hgj⟩ := HY.out
              have hgd : D0.grownBy wi (some Bs) := HGJ.out.trans hgj
              obtain ⟨gF, oF, cF', uF, eF, _, hgFl, hcF, hslF⟩ := (HFX.out _ hgd).atS hsF
              injection eF with eF1 eF2 eF3
              subst eF1 eF3
              obtain ⟨gR, oR, cR', uR, eR, _, hgRl, hcR, hslR⟩ := (HRX.out _ hgd).atS hsR
              injection eR with eR1 eR2 eR3
              subst eR1 eR3
              obtain ⟨Af, nf, cf, ef⟩ := hslF.shape
              subst ef
              obtain ⟨Ar, nr, cr, er⟩ := hslR.shape
              subst er
              obtain ⟨Av, nv, cv, ev⟩ := hacc.sl.shape
              subst ev
              have HSN := Lib.hid (evsI_succ p F R i s)
              rw [List.getElem?_eq_getElem hsF, List.getElem?_eq_getElem hsR] at HSN
              have hui : U64 ((i : Int) + 1) := ⟨by omega, by omega⟩
              obtain ⟨ea, hea⟩ : ∃ y, y = evalI p.Q F[s] ((i : Int) + 1) := ⟨_, rfl⟩
              obtain ⟨eb, heb⟩ : ∃ y, y = evalI p.Q R[s] ((i : Int) + 1) := ⟨_, rfl⟩
              simp only [Option.getD_some] at HSN
              rw [← hea, ← heb] at HSN
              have HUA : Hid (U64 ea) := Lib.hid (by rw [hea]; exact evalI_U64 _ _ _)
              have HUB : Hid (U64 eb) := Lib.hid (by rw [heb]; exact evalI_U64 _ _ _)
              obtain ⟨NN, hNN⟩ : ∃ y, y = wi.heap.size := ⟨_, rfl⟩
              have HNB : Hid (wj.heap.size ≤ NN) := Lib.hid (by rw [hNN]; exact hgj.size)
              have hown : ∀ b, (Value.slice Av nv cv).ownBlock = some b → wj.heap.size ≤ b := fun b e => (hacc.lt b e).1
              have hcv0 : wi.cell? ⟨Bs, i, none⟩ = some (.slice Av nv cv) := by rw [hbo.cell i]; simp [HIH.out]
              have hbp := HPD.out _ hgd
              have HNE : Hid (∀ b, b ≤ Bs → some b ≠ (Value.slice Av nv cv).ownBlock) := Lib.hid (fun b hb e => by have := hown b e.symm; have := HJB.out; omega)
              have HC0 : Hid ((evLt wi wj.heap.size NN (.slice Av nv cv) (evsI p F R i s) (ea, eb)).C [] wi.drew) := Lib.hid ⟨(grown_drewN' _ 1).but _, by rw [hNN]; exact Nat.le_refl _, hacc.kept (grown_drewN' _ 1)⟩
              have HLD : Hid (∀ vs W, (evLt wi wj.heap.size NN (.slice Av nv cv) (evsI p F R i s) (ea, eb)).C vs W → W.cell? ⟨w.heap.size, 1, none⟩ = some (.int .u64 p.Q) ∧ W.cell? ⟨gF, oF + s, none⟩ = some (.slice Af nf cf) ∧ W.cell? ⟨gR, oR + s, none⟩ = some (.slice Ar nr cr) ∧ W.cell? ⟨Bs, i, none⟩ = some (.slice Av nv cv)) := Lib.hid (fun vs W hC => ⟨(hbp.grown hC.1 (HNE.out _ (by have := HBB.out; omega))).cell 1, cellK hcF hC.1 (HNE.out _ (by omega)), cellK hcR hC.1 (HNE.out _ (by omega)), cellK hcv0 hC.1 (HNE.out _ (Nat.le_refl _))⟩)
              have HE1 : Hid (∀ vs W, (evLt wi wj.heap.size NN (.slice Av nv cv) (evsI p F R i s) (ea, eb)).C vs W → Calls Tryz.prog 32 #[.slice Af nf cf, .int .u64 ((i : Int) + 1), .int .u64 p.Q] W fun e w' => e = .returned (.int .u64 ea) ∧ W.grownBy w' none) := Lib.hid (fun vs W hC => by
                rw [hea]
                exact eval_any _ F[s] _ p.Q _ W (hslF.keep hC.1 (fun b hb => HNE.out b (by omega))) hui)
              have HE2 : Hid (∀ vs W, (evLt wi wj.heap.size NN (.slice Av nv cv) (evsI p F R i s) (ea, eb)).C vs W → Calls Tryz.prog 32 #[.slice Ar nr cr, .int .u64 ((i : Int) + 1), .int .u64 p.Q] W fun e w' => e = .returned (.int .u64 eb) ∧ W.grownBy w' none) := Lib.hid (fun vs W hC => by
                rw [heb]
                exact eval_any _ R[s] _ p.Q _ W (hslR.keep hC.1 (fun b hb => HNE.out b (by omega))) hui)
              have HSZ : Hid (∀ vs W, (evLt wi wj.heap.size NN (.slice Av nv cv) (evsI p F R i s) (ea, eb)).C vs W → NN ≤ W.heap.size) := Lib.hid (fun vs W hC => hC.2.1)
              have HLB : Hid (((evsI p F R i s).length + 1) * 16 ≤ 140737488355328) := Lib.hid (by simp [evsI]; omega)
              have HFR : Hid (∀ (W : World) (u0 : Value), (evLt wi wj.heap.size NN (.slice Av nv cv) (evsI p F R i s) (ea, eb)).C [u0] W → Acc encP wj.heap.size 58 (fun b => wj.heap.size ≤ b) (W.setCell ⟨Bs, i, none⟩ u0) u0 (evsI p F R i (s + 1)) ∧ Bk (W.setCell ⟨Bs, i, none⟩ u0) Bs 26 (hs.set i u0).toArray ∧ wj.grownBy (W.setCell ⟨Bs, i, none⟩ u0) (some Bs)) := Lib.hid (fun W u0 hC => by
                obtain ⟨g1, _, g3⟩ := hC
                have h3 : Acc encP wj.heap.size 58 (fun b => wj.heap.size ≤ b) W u0 (evsI p F R i (s + 1)) := by rw [HSN.out]; exact g3
                exact ⟨h3.keep (grownSet W Bs i u0) (fun b hb e => by injection e with e; have := HJB.out; omega), ((hbo.grown g1 (HNE.out _ (Nat.le_refl _))).set i u0).of_eq (by simp), ((hgj.andThen g1 (fun b e => .inl (hown b e))).andThen (grownSet W Bs i u0) (fun b e => .inr e))⟩)
              have HFRZ : Hid (∀ (W : World) (vs : List Value), (evLt wi wj.heap.size NN (.slice Av nv cv) (evsI p F R i s) (ea, eb)).C vs W → Bk W Bs 26 (hs.set i (.slice Av nv cv)).toArray) := Lib.hid (fun W vs hC => hbo.grown hC.1 (HNE.out _ (Nat.le_refl _)))
              have hcw : IntKind.u64.wrap ((i : Int) + 1) = (i : Int) + 1 := IntWalk.u64_in _ (by omega)
              have hci : IntKind.i64.wrap ((i : Int) + 1) = (i : Int) + 1 := IntWalk.i64_in _ (by omega)
              have hs0 : (0 : Int) ≤ (s : Int) := Int.natCast_nonneg s
              have hi0 : (0 : Int) ≤ (i : Int) := Int.natCast_nonneg i
              clear hacc hbo hgj hgd hslF hslR hcF hcR hea heb hNN hown hcv0 hbp hgFl hgRl eF2 eR2 HY HIN HST hui hsF hsR
              go_upto_region 18 with (fail)
              refine wp_region_late (evLt wi wj.heap.size NN (.slice Av nv cv) (evsI p F R i s) (ea, eb)) [28] 30 (by kernel_rfl) (by kernel_rfl) (by kernel_rfl) HC0.out ?_
              -- op 0 (slot 72): move
              refine LateR.mono (Qv.eq (.slice (some ⟨Bs, 0, none⟩) N N)) [] (by kernel_rfl) (by rfl) rfl (fun vs w' hC => ?_) ?_
              · refine askl_do rfl fun K hK => ?_
                go_simp
                exact hK _ _ rfl ⟨rfl, World.grownBy.refl _ none⟩
              -- op 1 (slot 73): move
              refine LateR.mono (Qv.eq (.int .i64 (i : Int))) [] (by kernel_rfl) (by rfl) rfl (fun vs w' hC => ?_) ?_
              · refine askl_do rfl fun K hK => ?_
                go_simp
                exact hK _ _ rfl ⟨rfl, World.grownBy.refl _ none⟩
              -- op 2 (slot 74): move
              refine LateR.mono (Qv.eq (.slice (some ⟨Bs, 0, none⟩) N N)) [] (by kernel_rfl) (by rfl) rfl (fun vs w' hC => ?_) ?_
              · refine askl_do rfl fun K hK => ?_
                go_simp
                exact hK _ _ rfl ⟨rfl, World.grownBy.refl _ none⟩
              -- op 3 (slot 75): move
              refine LateR.mono (Qv.eq (.int .i64 (i : Int))) [] (by kernel_rfl) (by rfl) rfl (fun vs w' hC => ?_) ?_
              · refine askl_do rfl fun K hK => ?_
                go_simp
                exact hK _ _ rfl ⟨rfl, World.grownBy.refl _ none⟩
              -- op 4 (slot 76): indexAddr
              refine LateR.mono (Qv.eq (.pointer (some ⟨Bs, i, none⟩))) [(2, 74), (3, 75)] (by kernel_rfl) (by rfl) rfl (fun vs w' hC => ?_) ?_
              · rintro _ rfl
                rintro _ rfl
                refine askl_do rfl fun K hK => ?_
                go_simp
                exact hK _ _ rfl ⟨rfl, World.grownBy.refl _ none⟩
              -- op 5 (slot 77): load
              refine LateR.mono (Qv.eq (.slice Av nv cv)) [(4, 76)] (by kernel_rfl) (by rfl) rfl (fun vs w' hC => ?_) ?_
              · rintro _ rfl
                refine askl_do rfl fun K hK => ?_
                obtain ⟨q0, q1, q2, q3⟩ := HLD.out vs w' hC
                go_simp
                exact hK _ _ rfl ⟨rfl, World.grownBy.refl _ none⟩
              -- op 6 (slot 78): move
              refine LateR.mono (Qv.eq (.slice (some ⟨gF, oF, none⟩) L cF)) [] (by kernel_rfl) (by rfl) rfl (fun vs w' hC => ?_) ?_
              · refine askl_do rfl fun K hK => ?_
                go_simp
                exact hK _ _ rfl ⟨rfl, World.grownBy.refl _ none⟩
              -- op 7 (slot 79): move
              refine LateR.mono (Qv.eq (.int .i64 (s : Int))) [] (by kernel_rfl) (by rfl) rfl (fun vs w' hC => ?_) ?_
              · refine askl_do rfl fun K hK => ?_
                go_simp
                exact hK _ _ rfl ⟨rfl, World.grownBy.refl _ none⟩
              -- op 8 (slot 80): indexAddr
              refine LateR.mono (Qv.eq (.pointer (some ⟨gF, oF + s, none⟩))) [(6, 78), (7, 79)] (by kernel_rfl) (by rfl) rfl (fun vs w' hC => ?_) ?_
              · rintro _ rfl
                rintro _ rfl
                refine askl_do rfl fun K hK => ?_
                go_simp
                exact hK _ _ rfl ⟨rfl, World.grownBy.refl _ none⟩
              -- op 9 (slot 81): load
              refine LateR.mono (Qv.eq (.slice Af nf cf)) [(8, 80)] (by kernel_rfl) (by rfl) rfl (fun vs w' hC => ?_) ?_
              · rintro _ rfl
                refine askl_do rfl fun K hK => ?_
                obtain ⟨q0, q1, q2, q3⟩ := HLD.out vs w' hC
                go_simp
                exact hK _ _ rfl ⟨rfl, World.grownBy.refl _ none⟩
              -- op 10 (slot 82): move
              refine LateR.mono (Qv.eq (.int .i64 (i : Int))) [] (by kernel_rfl) (by rfl) rfl (fun vs w' hC => ?_) ?_
              · refine askl_do rfl fun K hK => ?_
                go_simp
                exact hK _ _ rfl ⟨rfl, World.grownBy.refl _ none⟩
              -- op 11 (slot 83): binOp
              refine LateR.mono (Qv.eq (.int .i64 ((i : Int) + 1))) [(10, 82)] (by kernel_rfl) (by rfl) rfl (fun vs w' hC => ?_) ?_
              · rintro _ rfl
                refine askl_do rfl fun K hK => ?_
                go_simp
                exact hK _ _ rfl ⟨rfl, World.grownBy.refl _ none⟩
              -- op 12 (slot 84): convert
              refine LateR.mono (Qv.eq (.int .u64 ((i : Int) + 1))) [(11, 83)] (by kernel_rfl) (by rfl) rfl (fun vs w' hC => ?_) ?_
              · rintro _ rfl
                refine askl_do rfl fun K hK => ?_
                go_simp
                exact hK _ _ rfl ⟨rfl, World.grownBy.refl _ none⟩
              -- op 13 (slot 85): fieldAddr
              refine LateR.mono (Qv.eq (.pointer (some ⟨w.heap.size, 1, none⟩))) [] (by kernel_rfl) (by rfl) rfl (fun vs w' hC => ?_) ?_
              · refine askl_do rfl fun K hK => ?_
                go_simp
                exact hK _ _ rfl ⟨rfl, World.grownBy.refl _ none⟩
              -- op 14 (slot 86): load
              refine LateR.mono (Qv.eq (.int .u64 p.Q)) [(13, 85)] (by kernel_rfl) (by rfl) rfl (fun vs w' hC => ?_) ?_
              · rintro _ rfl
                refine askl_do rfl fun K hK => ?_
                obtain ⟨q0, q1, q2, q3⟩ := HLD.out vs w' hC
                go_simp
                exact hK _ _ rfl ⟨rfl, World.grownBy.refl _ none⟩
              -- op 15 (slot 87): call
              refine LateR.mono (Qv.eq (.int .u64 ea)) [(9, 81), (12, 84), (14, 86)] (by kernel_rfl) (by rfl) rfl (fun vs w' hC => ?_) ?_
              · rintro _ rfl
                rintro _ rfl
                rintro _ rfl
                refine askl_do rfl fun K hK => ?_
                go_simp
                refine (HE1.out vs w' hC).mono ?_
                rintro e w3 ⟨rfl, hg3⟩
                exact hK _ _ rfl ⟨rfl, hg3⟩
              -- op 16 (slot 88): move
              refine LateR.mono (Qv.eq (.slice (some ⟨gR, oR, none⟩) L cR)) [] (by kernel_rfl) (by rfl) rfl (fun vs w' hC => ?_) ?_
              · refine askl_do rfl fun K hK => ?_
                go_simp
                exact hK _ _ rfl ⟨rfl, World.grownBy.refl _ none⟩
              -- op 17 (slot 89): move
              refine LateR.mono (Qv.eq (.int .i64 (s : Int))) [] (by kernel_rfl) (by rfl) rfl (fun vs w' hC => ?_) ?_
              · refine askl_do rfl fun K hK => ?_
                go_simp
                exact hK _ _ rfl ⟨rfl, World.grownBy.refl _ none⟩
              -- op 18 (slot 90): indexAddr
              refine LateR.mono (Qv.eq (.pointer (some ⟨gR, oR + s, none⟩))) [(16, 88), (17, 89)] (by kernel_rfl) (by rfl) rfl (fun vs w' hC => ?_) ?_
              · rintro _ rfl
                rintro _ rfl
                refine askl_do rfl fun K hK => ?_
                go_simp
                exact hK _ _ rfl ⟨rfl, World.grownBy.refl _ none⟩
              -- op 19 (slot 91): load
              refine LateR.mono (Qv.eq (.slice Ar nr cr)) [(18, 90)] (by kernel_rfl) (by rfl) rfl (fun vs w' hC => ?_) ?_
              · rintro _ rfl
                refine askl_do rfl fun K hK => ?_
                obtain ⟨q0, q1, q2, q3⟩ := HLD.out vs w' hC
                go_simp
                exact hK _ _ rfl ⟨rfl, World.grownBy.refl _ none⟩
              -- op 20 (slot 92): move
              refine LateR.mono (Qv.eq (.int .i64 (i : Int))) [] (by kernel_rfl) (by rfl) rfl (fun vs w' hC => ?_) ?_
              · refine askl_do rfl fun K hK => ?_
                go_simp
                exact hK _ _ rfl ⟨rfl, World.grownBy.refl _ none⟩
              -- op 21 (slot 93): binOp
              refine LateR.mono (Qv.eq (.int .i64 ((i : Int) + 1))) [(20, 92)] (by kernel_rfl) (by rfl) rfl (fun vs w' hC => ?_) ?_
              · rintro _ rfl
                refine askl_do rfl fun K hK => ?_
                go_simp
                exact hK _ _ rfl ⟨rfl, World.grownBy.refl _ none⟩
              -- op 22 (slot 94): convert
              refine LateR.mono (Qv.eq (.int .u64 ((i : Int) + 1))) [(21, 93)] (by kernel_rfl) (by rfl) rfl (fun vs w' hC => ?_) ?_
              · rintro _ rfl
                refine askl_do rfl fun K hK => ?_
                go_simp
                exact hK _ _ rfl ⟨rfl, World.grownBy.refl _ none⟩
              -- op 23 (slot 95): fieldAddr
              refine LateR.mono (Qv.eq (.pointer (some ⟨w.heap.size, 1, none⟩))) [] (by kernel_rfl) (by rfl) rfl (fun vs w' hC => ?_) ?_
              · refine askl_do rfl fun K hK => ?_
                go_simp
                exact hK _ _ rfl ⟨rfl, World.grownBy.refl _ none⟩
              -- op 24 (slot 96): load
              refine LateR.mono (Qv.eq (.int .u64 p.Q)) [(23, 95)] (by kernel_rfl) (by rfl) rfl (fun vs w' hC => ?_) ?_
              · rintro _ rfl
                refine askl_do rfl fun K hK => ?_
                obtain ⟨q0, q1, q2, q3⟩ := HLD.out vs w' hC
                go_simp
                exact hK _ _ rfl ⟨rfl, World.grownBy.refl _ none⟩
              -- op 25 (slot 97): call
              refine LateR.mono (Qv.eq (.int .u64 eb)) [(19, 91), (22, 94), (24, 96)] (by kernel_rfl) (by rfl) rfl (fun vs w' hC => ?_) ?_
              · rintro _ rfl
                rintro _ rfl
                rintro _ rfl
                refine askl_do rfl fun K hK => ?_
                go_simp
                refine (HE2.out vs w' hC).mono ?_
                rintro e w3 ⟨rfl, hg3⟩
                exact hK _ _ rfl ⟨rfl, hg3⟩
              -- op 26 (slot 98): build
              refine LateR.mono (Qv.eq (.agg #[.int .u64 ea, .int .u64 eb])) [(15, 87), (25, 97)] (by kernel_rfl) (by rfl) rfl (fun vs w' hC => ?_) ?_
              · rintro _ rfl
                rintro _ rfl
                refine askl_do rfl fun K hK => ?_
                go_simp
                exact hK _ _ rfl ⟨rfl, World.grownBy.refl _ none⟩
              -- op 27 (slot 99): buildSlice
              refine LateR.mono (evP NN ea eb) [(26, 98)] (by kernel_rfl) (by rfl) rfl (fun vs w' hC => ?_) ?_
              · rintro _ rfl
                refine askl_do rfl fun K hK => ?_
                have hsz := HSZ.out vs w' hC
                go_simp
                exact hK _ _ rfl ⟨fun _ => ⟨_, rfl, hsz, Bk.new w' _ _⟩, World.grownBy_alloc w' _ none⟩
              -- op 28 (slot 100): call
              refine LateR.turn 0 [(5, 77), (27, 99)] (by kernel_rfl) rfl (fun vs w' hl hC => ?_) ?_
              · rintro _ rfl
                intro x99 h99
                have h99 : vs = [] → BlkP NN ea eb x99 w' := h99
                refine askl_do rfl fun K hK => ?_
                obtain rfl : vs = [] := List.eq_nil_of_length_eq_zero hl
                obtain ⟨g1, g2, g3⟩ := hC
                obtain ⟨b99, e99, hb99, hk99⟩ := h99 rfl
                subst e99
                refine pushAt_core (E := encP) (y := (ea, eb)) el_pair g3 ⟨rfl, HUA.out, HUB.out⟩ (Bk.two hk99) HLB.out (Nat.le_trans HNB.out g2) (fun g hg => Nat.le_trans (Nat.le_trans HNB.out g2) hg) (.tmp 77) (.tmp 99) rfl rfl rfl ?_
                intro v3 w3 ha hgr hm
                exact hK _ _ rfl ⟨trivial, g1.trans hgr, Nat.le_trans g2 hgr.size, ha⟩
              -- op 29 (slot 101): indexAddr
              refine LateR.mono (Qv.eq (.pointer (some ⟨Bs, i, none⟩))) [(0, 72), (1, 73)] (by kernel_rfl) (by rfl) rfl (fun vs w' hC => ?_) ?_
              · rintro _ rfl
                rintro _ rfl
                refine askl_do rfl fun K hK => ?_
                go_simp
                exact hK _ _ rfl ⟨rfl, World.grownBy.refl _ none⟩
              intro vs w5 hvl hC5
              obtain ⟨u, rfl⟩ : ∃ u, vs = [u] := List.length_eq_one_iff.1 hvl
              intro y0 k0 y1 k1 y2 k2 y3 k3 y4 k4 y5 k5 y6 k6 y7 k7 y8 k8 y9 k9 y10 k10 y11 k11 y12 k12 y13 k13 y14 k14 y15 k15 y16 k16 y17 k17 y18 k18 y19 k19 y20 k20 y21 k21 y22 k22 y23 k23 y24 k24 y25 k25 y26 k26 y27 k27 y28 k28 y29 k29
              show wpList Tryz.prog _ _ _ _ w5
              simp only [Act.put, List.setIfInBounds_toArray, List.set_cons_zero, List.set_cons_succ]
              have e28 : y28 = u := by have : some u = some y28 := k28; injection this with this; exact this.symm
              have e29 : y29 = .pointer (some ⟨Bs, i, none⟩) := k29
              subst e28 e29
              have HF5 := Lib.hid (HFR.out w5 y28 hC5)
              have hz5 := HFRZ.out w5 _ hC5
              have c5 : w5.cell? ⟨Bs, i, none⟩ = some (.slice Av nv cv) := by rw [hz5.cell i]; simp [HIH.out]
              have f5 := hz5.free
              have HA5 : Hid (Acc encP wj.heap.size 58 (fun b => wj.heap.size ≤ b) w5 y28 (evsI p F R i s ++ [(ea, eb)])) := Lib.hid hC5.2.2
              obtain ⟨Au, nu, cu, eu⟩ := HA5.out.sl.shape
              subst eu
              clear hC5 hz5 HA5 k0 k1 k2 k3 k4 k5 k6 k7 k8 k9 k10 k11 k12 k13 k14 k15 k16 k17 k18 k19 k20 k21 k22 k23 k24 k25 k26 k27 k28 k29 HLD HSZ HFR HFRZ HC0 HE1 HE2
              go_wp2_with fail
              go_roundg q
              case measure => omega
              case rel => exact ⟨s + 1, _, by omega, by go_num, HF5⟩
    | succ m =>
      have hin : (s : Int) < (L : Int) := by omega
      have hsl : s < l.length := by have := HLN.out; omega
      obtain ⟨gl, ol, cl, el, _, _, hcl, hul⟩ := (HLX.out _ HG3.out).atU hsl
      injection el with el1 el2 el3
      subst el1 el3
      obtain ⟨kb, hkb⟩ : ∃ y, y = k0 + s * (2 * T + 1) := ⟨_, rfl⟩
      have hkm : kb + (2 * T + 1) ≤ most := by
        have h1 : (s + 1) * (2 * T + 1) ≤ L * (2 * T + 1) := Nat.mul_le_mul_right _ (by omega)
        have h2 := HMO.out
        rw [Nat.add_mul, Nat.one_mul] at h1
        omega
      have HKN : Hid (k0 + (s + 1) * (2 * T + 1) = kb + T + 1 + T) := Lib.hid (by rw [hkb, Nat.add_mul, Nat.one_mul]; omega)
      have HFN : Hid (dealFs l p.Q dr T k0 (s + 1) = dealFs l p.Q dr T k0 s ++ [behI l[s] p.Q dr T kb]) := Lib.hid (by
        rw [hkb]
        refine (dsnoc _ _).trans ?_
        show _ ++ [behI (l[s]?.getD 0) p.Q dr T (k0 + s * (2 * T + 1))] = _
        rw [List.getElem?_eq_getElem hsl]
        rfl)
      have HRN : Hid (dealRs p.Q dr T k0 (s + 1) = dealRs p.Q dr T k0 s ++ [behI (dr (kb + T)) p.Q dr T (kb + T + 1)]) := Lib.hid (by
        rw [hkb]
        exact dsnoc _ _)
      rw [← hkb] at HI3
      have HB1 := Lib.hid (HBH.out l[s] kb wr hul (by omega) HI3.out)
      obtain ⟨y, hy⟩ : ∃ y, y = behI l[s] p.Q dr T kb := ⟨_, rfl⟩
      rw [← hy] at HFN HB1
      obtain ⟨z, hz⟩ : ∃ y, y = behI (dr (kb + T)) p.Q dr T (kb + T + 1) := ⟨_, rfl⟩
      rw [← hz] at HRN
      have HZ := Lib.hid hz
      have HLF : Hid (((dealFs l p.Q dr T k0 s).length + 1) * 24 ≤ 140737488355328) := Lib.hid (by simp [dealFs]; omega)
      have HLR : Hid (((dealRs p.Q dr T k0 s).length + 1) * 24 ≤ 140737488355328) := Lib.hid (by simp [dealRs]; omega)
      have HOWN : Hid ((∀ r, u10.ownBlock = some r → r < wr.heap.size) ∧ (∀ r, u11.ownBlock = some r → r < wr.heap.size)) := Lib.hid ⟨fun r e => (HS0.out.fst.lt r e).2, fun r e => (HS0.out.snd.lt r e).2⟩
      have HZR : Hid (w2.heap.size ≤ wr.heap.size) := Lib.hid HG3.out.size
      clear hkb hy hz el2
      generalize l[s] = x at *
      go_wp2_with fail
      refine HB1.out.mono ?_
      rintro e w3 ⟨v42, rfl, hs3, hi3, hg3⟩
      obtain ⟨A42, n42, c42, rfl⟩ := hs3.shape
      have HG4 : Hid (w2.grownBy w3 (some g)) := Lib.hid (HG3.out.trans hg3)
      have HI4 := Lib.hid hi3
      have HS4 := Lib.hid (HS0.out.keep hg3 (fun b hb e => by injection e with e; have := HW2.out; omega))
      have HREP : Hid ((encS encU).rep (fun b => (w2.heap.size ≤ b ∧ some b ≠ u11.ownBlock) ∧ some b ≠ u10.ownBlock) w3 [.slice A42 n42 c42] y) := Lib.hid ⟨_, rfl, hs3.more fun b _ hb => ⟨⟨Nat.le_trans HZR.out hb, fun e => by have := HOWN.out.2 b e.symm; omega⟩, fun e => by have := HOWN.out.1 b e.symm; omega⟩⟩
      have HZ4 : Hid (w2.heap.size ≤ w3.heap.size) := Lib.hid HG4.out.size
      clear hs3 hi3 hg3 hp3 hcl
      go_wp2_with (at_builtin; refine wpList_push rfl (.tmp 35) (.tmp 43) rfl (E := encS encU) (y := y) el_nums HS4.out.fst rfl rfl HREP.out HLF.out HZ4.out (HS4.out.new1 (fun _ h => Nat.le_trans HZ4.out h)) ?_)
      intro v10 w4 ha hg hm
      have HS5 := Lib.hid (HS4.out.one ha hg hm)
      have HG5 : Hid (w2.grownBy w4 (some g)) := Lib.hid (HG4.out.andThen hg (fun j e => .inl (HS4.out.fst.lt j e).1))
      have HI5 : Hid (TI (kb + T) w4) := Lib.hid (HT.out.keep HI4.out hg (fun b e hb => by have := (HS4.out.fst.lt b e).1; have := HOB.out b hb; have := HW2.out; omega))
      obtain ⟨A10, n10, c10, e10⟩ := HS5.out.fst.sl.shape
      subst e10
      obtain ⟨A11, n11, c11, e11⟩ := HS5.out.snd.sl.shape
      subst e11
      clear ha hg hm
      have hp5 : ∀ o, w4.drew.cell? ⟨w.heap.size, o, none⟩ = (#[.int .u64 p.P, .int .u64 p.Q, .int .u64 p.G, .int .u64 p.H, .int .i64 p.Nodes, .int .i64 p.N, .int .i64 p.T, .int .i64 p.K, .int .i64 p.D, .int .i64 p.R, .int .i64 p.M, .int .i64 p.X] : Array Value)[o]? := (HPX.out _ HG5.out).prule
      have HI6 : Hid (TI (kb + T) w4.drew) := Lib.hid (HT.out.keep HI5.out (grown_drewN' _ 1) (by simp))
      have HS6 := Lib.hid (HS5.out.kept (grown_drewN' _ 1))
      have HG6 : Hid (w2.grownBy w4.drew (some g)) := Lib.hid (HG5.out.trans ((grown_drewN' _ 1).but _))
      have HN6 := Lib.hid (HNX.out (kb + T) w4.drew (by omega) HI6.out)
      have HVU := Lib.hid (HT.out.val (kb + T))
      have hkm2 : kb + T + 1 + T ≤ most := by omega
      go_upto_region 9 with (fail)
      go_region_held3 (fun w' => ∀ o, w'.cell? ⟨w.heap.size, o, none⟩ = (#[.int .u64 p.P, .int .u64 p.Q, .int .u64 p.G, .int .u64 p.H, .int .i64 p.Nodes, .int .i64 p.N, .int .i64 p.T, .int .i64 p.K, .int .i64 p.D, .int .i64 p.R, .int .i64 p.M, .int .i64 p.X] : Array Value)[o]?) (first | assumption | (refine rule_alloc ?_ ?_ _ <;> assumption) | go_keep)
        (first
        | (go_at_call 30; (with_reducible refine HN6.out.mono ?_); rintro e w5 ⟨rfl, hi5, hg5⟩; have HI7 := Lib.hid hi5; have HG7 : Hid (w2.grownBy w5 (some g)) := Lib.hid (HG6.out.trans hg5); have HS7 := Lib.hid (HS6.out.keep hg5 (fun b hb e => by injection e with e; have := HW2.out; omega)); have hp7 := (HPX.out _ HG7.out).prule; have HB7 := Lib.hid (HBH.out (dr (kb + T)) (kb + T + 1) w5 HVU.out hkm2 HI7.out); have hz7 : w5.heap.size = w5.heap.size := rfl; clear hi5 hg5)
        | (go_at_call 31; (with_reducible refine HB7.out.mono ?_); rintro e w6 ⟨v55, rfl, hs6, hi6, hg6⟩; obtain ⟨A55, n55, c55, rfl⟩ := hs6.shape; have HI8 := Lib.hid hi6; have HG8 : Hid (w2.grownBy w6 (some g)) := Lib.hid (HG7.out.trans hg6); have HS8 := Lib.hid (HS7.out.keep hg6 (fun b hb e => by injection e with e; have := HW2.out; omega)); have hp8 := (HPX.out _ HG8.out).prule; have lp8 : w.heap.size < w6.heap.size := (HPX.out _ HG8.out).lt; have HZ8 : Hid (w2.heap.size ≤ w6.heap.size) := Lib.hid HG8.out.size; have HREP2 : Hid ((encS encU).rep (fun b => (w2.heap.size ≤ b ∧ some b ≠ (Value.slice A10 n10 c10).ownBlock) ∧ some b ≠ (Value.slice A11 n11 c11).ownBlock) w6 [.slice A55 n55 c55] z) := Lib.hid ⟨_, rfl, by rw [HZ.out]; exact hs6.more fun b _ hb => ⟨⟨Nat.le_trans HG7.out.size hb, fun e => by have := (HS7.out.fst.lt b e.symm).2; omega⟩, fun e => by have := (HS7.out.snd.lt b e.symm).2; omega⟩⟩; clear hs6 hi6 hg6)
        | (refine step_push rfl (.tmp 45) (.tmp 56) rfl (E := encS encU) (y := z) el_nums HS8.out.snd rfl rfl HREP2.out HLR.out HZ8.out (HS8.out.new2 (fun _ h => Nat.le_trans HZ8.out h)) ?_; intro v11 w7 ha hg hm; have HS9 := Lib.hid (HS8.out.two ha hg hm); have HG9 : Hid (w2.grownBy w7 (some g)) := Lib.hid (HG8.out.andThen hg (fun j e => .inl (HS8.out.snd.lt j e).1)); have HI9 : Hid (TI (kb + T + 1 + T) w7) := Lib.hid (HT.out.keep HI8.out hg (fun b e hb => by have := (HS8.out.snd.lt b e).1; have := HOB.out b hb; have := HW2.out; omega)); have hp9 := (HPX.out _ HG9.out).prule; clear ha hg hm))
      have HFIN : Hid (Side (encS encU) (encS encU) w2.heap.size 25 25 (fun b => w2.heap.size ≤ b) w7 (.slice A10 n10 c10) v11 (dealFs l p.Q dr T k0 (s + 1)) (dealRs p.Q dr T k0 (s + 1)) ∧ TI (k0 + (s + 1) * (2 * T + 1)) w7 ∧ w2.grownBy w7 (some g)) := Lib.hid ⟨by rw [HFN.out, HRN.out]; exact HS9.out, by rw [HKN.out]; exact HI9.out, HG9.out⟩
      go_wp2_with fail
      go_roundg m
      case measure => omega
      case rel => exact ⟨s + 1, by omega, by go_num, HFIN⟩
end Go.Proofs.YtphbcfpiklmmeaaGreatDoor

namespace Go.Proofs.YtphbcfpiklmmeaaGreatDoor
open Go Go.RowKit Go.Shelf

theorem dmodel_no (p : Par) (vl : Value) (l : List Int) (X : Nat → Prop) (vt : Value) (w : World) (hp : p.ok) (hTab : TabsAt w) (h : Sl encU X w vl l) (hno : ¬ (mayP p = true ∧ (l.length : Int) = secretsI p)) :
    Calls Tryz.prog 7 #[p.v, vl, vt] w fun e w' => e = .returned (.tuple #[.slice none 0 0, .slice none 0 0, .int .i64 1]) ∧ w.grownBy w' none := by
  have HG0 : Hid (w.grownBy (w.alloc (Obj.cells p.cells 24)) none) := Lib.hid (World.grownBy_alloc w _ none)
  have HB0 : Hid (Bk (w.alloc (Obj.cells p.cells 24)) w.heap.size 24 p.cells) := Lib.hid (Bk.new w _ _)
  have HMY := Lib.hid (fun (W : World) (hW : w.grownBy W none) => may_any p W hp (hTab.kept hW))
  have HSEC := Lib.hid (dsecrets_any p)
  obtain ⟨A, c, rfl, _, _⟩ := h.form
  clear h hp hTab
  cases hm : mayP p with
  | false =>
    rw [hm] at HMY
    generalize l.length = n at *
    clear hno hm
    go_enter Tryz.func7, Tryz.ntmps7
    have hp0 := HB0.out.prule
    go_wp2_with fail
    refine (HMY.out _ HG0.out).mono ?_
    rintro e w1 ⟨rfl, hg⟩
    have HG1 : Hid (w.grownBy w1 none) := Lib.hid (HG0.out.trans hg)
    clear hg hp0
    go_wp2_with fail
    go_ret3
    exact ⟨rfl, HG1.out⟩
  | true =>
    rw [hm] at HMY
    have hne : ((l.length : Int) != secretsI p) = true := by
      have : ¬ (l.length : Int) = secretsI p := fun e => hno ⟨hm, e⟩
      simpa using this
    obtain ⟨sI, hs⟩ : ∃ y, y = secretsI p := ⟨_, rfl⟩
    rw [← hs] at hne HSEC
    generalize l.length = n at *
    clear hno hm hs
    go_enter Tryz.func7, Tryz.ntmps7
    have hp0 := HB0.out.prule
    go_wp2_with fail
    refine (HMY.out _ HG0.out).mono ?_
    rintro e w1 ⟨rfl, hg⟩
    have HG1 : Hid (w.grownBy w1 none) := Lib.hid (HG0.out.trans hg)
    have hp1 := (HB0.out.grown hg (by simp)).prule
    clear hg hp0
    go_wp2_with fail
    refine (HSEC.out _).mono ?_
    rintro e w2 ⟨rfl, hg⟩
    have HG2 : Hid (w.grownBy w2 none) := Lib.hid (HG1.out.trans hg)
    clear hg hp1
    go_wp2_with fail
    go_ret3
    exact ⟨rfl, HG2.out⟩
theorem results_ddeal {fn : Func} {W : World} {B8 : Nat} {a b c : Value} {n : Int} (h : fn.results = #[.cell 8 45, .tmp 9]) (tmps : Array Value) (h8 : tmps.getD 8 undef = .pointer (some ⟨B8, 0, none⟩)) (h9 : tmps.getD 9 undef = .int .i64 n) (hb : Bk W B8 45 #[a, b, c]) : (results fn tmps).run Tryz.prog W = .ok (.tuple #[.agg #[a, b, c], .int .i64 n]) W := by
  have r1 := run_loadVar_row (P := Tryz.prog) W B8 45 45 #[a, b, c] (0, 0) _ hb Tryz.underlying45 rfl (by kernel_rfl)
  have h8' : tmps[8]?.getD undef = .pointer (some ⟨B8, 0, none⟩) := by simpa using h8
  have h9' : tmps[9]?.getD undef = .int .i64 n := by simpa using h9
  simp [results, h, h8', h9', asAddr, r1]
set_option maxHeartbeats 4000000 in
theorem dmake_no (p : Par) (vl : Value) (l : List (Int × Int)) (n : Int) (X : Nat → Prop) (vt : Value) (w : World) (hp : p.ok) (hTab : TabsAt w) (h : Sl encP X w vl l) (hno : ¬ (mayP p = true ∧ (l.length : Int) = secretsI p ∧ 1 ≤ n ∧ n ≤ 7)) :
    Calls Tryz.prog 12 #[p.v, vl, .int .i64 n, vt] w fun e w' => e = .returned (.tuple #[.agg #[.slice none 0 0, .slice none 0 0, .slice none 0 0], .int .i64 1]) ∧ w.grownBy w' none := by
  obtain ⟨w0, hw0⟩ : ∃ y, y = (w.alloc (Obj.cells p.cells 24)).alloc (Obj.cells #[.slice none 0 0, .slice none 0 0, .slice none 0 0] 45) := ⟨_, rfl⟩
  have HG0 : Hid (w.grownBy w0 none) := Lib.hid (by rw [hw0]; exact grown_two)
  have HB0 : Hid (Bk w0 w.heap.size 24 p.cells) := Lib.hid (by rw [hw0]; exact (Bk.new w _ _).alloc _)
  have HR0 : Hid (Bk w0 (w.heap.size + 1) 45 #[.slice none 0 0, .slice none 0 0, .slice none 0 0]) := Lib.hid (by
    rw [hw0]
    have h := Bk.new (w.alloc (Obj.cells p.cells 24)) 45 #[.slice none 0 0, .slice none 0 0, .slice none 0 0]
    rw [World.size_alloc] at h
    exact h)
  have HMY := Lib.hid (fun (W : World) (hW : w.grownBy W none) => may_any p W hp (hTab.kept hW))
  have HSEC := Lib.hid (dsecrets_any p)
  obtain ⟨A, c, rfl, _, _⟩ := h.form
  obtain ⟨sI, hs⟩ : ∃ y, y = secretsI p := ⟨_, rfl⟩
  rw [← hs] at hno HSEC
  obtain ⟨m, hm⟩ : ∃ m, m = l.length := ⟨_, rfl⟩
  rw [← hm] at hno ⊢
  clear h hp hs hm hTab
  cases hm : mayP p with
  | false =>
    rw [hm] at HMY
    clear hno hm
    go_enter Tryz.func12, Tryz.ntmps12
    go_wp2_with fail
    rw [← hw0]
    have hp0 := HB0.out.prule
    clear hw0
    go_wp2_with fail
    refine (HMY.out _ HG0.out).mono ?_
    rintro e w1 ⟨rfl, hg⟩
    have HG1 : Hid (w0.grownBy w1 none) := Lib.hid hg
    clear hg hp0
    have HR1 : Hid (Bk w1 (w.heap.size + 1) 45 #[.slice none 0 0, .slice none 0 0, .slice none 0 0]) := Lib.hid (HR0.out.grown HG1.out (by simp))
    have r0 := HR1.out.cell 0
    have r1 := HR1.out.cell 1
    have r2 := HR1.out.cell 2
    have f8 := HR1.out.free
    simp at r0 r1 r2
    obtain ⟨wF, hwF⟩ : ∃ x, x = ((w1.setCell ⟨w.heap.size + 1, 0, none⟩ (.slice none 0 0)).setCell ⟨w.heap.size + 1, 1, none⟩ (.slice none 0 0)).setCell ⟨w.heap.size + 1, 2, none⟩ (.slice none 0 0) := ⟨_, rfl⟩
    have HF8 : Hid (Bk wF (w.heap.size + 1) 45 #[.slice none 0 0, .slice none 0 0, .slice none 0 0]) := Lib.hid (by rw [hwF]; exact ((HR1.out.set 0 _).set 1 _).set 2 _)
    have HGF : Hid (w.grownBy wF none) := Lib.hid (by rw [hwF]; exact grown_up (HG0.out.trans HG1.out) (((grownSet w1 (w.heap.size + 1) 0 _).trans (grownSet _ (w.heap.size + 1) 1 _)).trans (grownSet _ (w.heap.size + 1) 2 _)) (fun b e => by injection e with e; omega))
    go_wp2_with fail
    rw [← hwF]
    exact ⟨rfl, _, results_ddeal rfl _ rfl rfl HF8.out, rfl, HGF.out⟩
  | true =>
    rw [hm] at HMY
    by_cases hl : (m : Int) = sI
    · have hne : ((m : Int) != sI) = false := by simpa using hl
      by_cases h1 : n < 1
      · have hd1 : decide (n < 1) = true := by simpa using h1
        clear hno hm hl h1
        go_enter Tryz.func12, Tryz.ntmps12
        go_wp2_with fail
        rw [← hw0]
        have hp0 := HB0.out.prule
        clear hw0
        go_wp2_with fail
        refine (HMY.out _ HG0.out).mono ?_
        rintro e w1 ⟨rfl, hg⟩
        have HG1 : Hid (w0.grownBy w1 none) := Lib.hid hg
        have hp1 := (HB0.out.grown hg (by simp)).prule
        clear hg hp0
        go_wp2_with fail
        refine (HSEC.out _).mono ?_
        rintro e w2 ⟨rfl, hg⟩
        have HG2 : Hid (w0.grownBy w2 none) := Lib.hid (HG1.out.trans hg)
        clear hg hp1
        have HR1 : Hid (Bk w2 (w.heap.size + 1) 45 #[.slice none 0 0, .slice none 0 0, .slice none 0 0]) := Lib.hid (HR0.out.grown HG2.out (by simp))
        have r0 := HR1.out.cell 0
        have r1 := HR1.out.cell 1
        have r2 := HR1.out.cell 2
        have f8 := HR1.out.free
        simp at r0 r1 r2
        obtain ⟨wF, hwF⟩ : ∃ x, x = ((w2.setCell ⟨w.heap.size + 1, 0, none⟩ (.slice none 0 0)).setCell ⟨w.heap.size + 1, 1, none⟩ (.slice none 0 0)).setCell ⟨w.heap.size + 1, 2, none⟩ (.slice none 0 0) := ⟨_, rfl⟩
        have HF8 : Hid (Bk wF (w.heap.size + 1) 45 #[.slice none 0 0, .slice none 0 0, .slice none 0 0]) := Lib.hid (by rw [hwF]; exact ((HR1.out.set 0 _).set 1 _).set 2 _)
        have HGF : Hid (w.grownBy wF none) := Lib.hid (by rw [hwF]; exact grown_up (HG0.out.trans HG2.out) (((grownSet w2 (w.heap.size + 1) 0 _).trans (grownSet _ (w.heap.size + 1) 1 _)).trans (grownSet _ (w.heap.size + 1) 2 _)) (fun b e => by injection e with e; omega))
        go_wp2_with fail
        rw [← hwF]
        exact ⟨rfl, _, results_ddeal rfl _ rfl rfl HF8.out, rfl, HGF.out⟩
      · have h7 : n > 7 := by
          have h : ¬ (1 ≤ n ∧ n ≤ 7) := fun h => hno ⟨hm, hl, h⟩
          omega
        have hd1 : decide (n < 1) = false := by simpa using h1
        have hd7 : decide (n > 7) = true := by simpa using h7
        clear hno hm hl h1 h7
        go_enter Tryz.func12, Tryz.ntmps12
        go_wp2_with fail
        rw [← hw0]
        have hp0 := HB0.out.prule
        clear hw0
        go_wp2_with fail
        refine (HMY.out _ HG0.out).mono ?_
        rintro e w1 ⟨rfl, hg⟩
        have HG1 : Hid (w0.grownBy w1 none) := Lib.hid hg
        have hp1 := (HB0.out.grown hg (by simp)).prule
        clear hg hp0
        go_wp2_with fail
        refine (HSEC.out _).mono ?_
        rintro e w2 ⟨rfl, hg⟩
        have HG2 : Hid (w0.grownBy w2 none) := Lib.hid (HG1.out.trans hg)
        clear hg hp1
        have HR1 : Hid (Bk w2 (w.heap.size + 1) 45 #[.slice none 0 0, .slice none 0 0, .slice none 0 0]) := Lib.hid (HR0.out.grown HG2.out (by simp))
        have r0 := HR1.out.cell 0
        have r1 := HR1.out.cell 1
        have r2 := HR1.out.cell 2
        have f8 := HR1.out.free
        simp at r0 r1 r2
        obtain ⟨wF, hwF⟩ : ∃ x, x = ((w2.setCell ⟨w.heap.size + 1, 0, none⟩ (.slice none 0 0)).setCell ⟨w.heap.size + 1, 1, none⟩ (.slice none 0 0)).setCell ⟨w.heap.size + 1, 2, none⟩ (.slice none 0 0) := ⟨_, rfl⟩
        have HF8 : Hid (Bk wF (w.heap.size + 1) 45 #[.slice none 0 0, .slice none 0 0, .slice none 0 0]) := Lib.hid (by rw [hwF]; exact ((HR1.out.set 0 _).set 1 _).set 2 _)
        have HGF : Hid (w.grownBy wF none) := Lib.hid (by rw [hwF]; exact grown_up (HG0.out.trans HG2.out) (((grownSet w2 (w.heap.size + 1) 0 _).trans (grownSet _ (w.heap.size + 1) 1 _)).trans (grownSet _ (w.heap.size + 1) 2 _)) (fun b e => by injection e with e; omega))
        go_wp2_with fail
        rw [← hwF]
        exact ⟨rfl, _, results_ddeal rfl _ rfl rfl HF8.out, rfl, HGF.out⟩
    · have hne : ((m : Int) != sI) = true := by simpa using hl
      clear hno hm hl
      go_enter Tryz.func12, Tryz.ntmps12
      go_wp2_with fail
      rw [← hw0]
      have hp0 := HB0.out.prule
      clear hw0
      go_wp2_with fail
      refine (HMY.out _ HG0.out).mono ?_
      rintro e w1 ⟨rfl, hg⟩
      have HG1 : Hid (w0.grownBy w1 none) := Lib.hid hg
      have hp1 := (HB0.out.grown hg (by simp)).prule
      clear hg hp0
      go_wp2_with fail
      refine (HSEC.out _).mono ?_
      rintro e w2 ⟨rfl, hg⟩
      have HG2 : Hid (w0.grownBy w2 none) := Lib.hid (HG1.out.trans hg)
      clear hg hp1
      have HR1 : Hid (Bk w2 (w.heap.size + 1) 45 #[.slice none 0 0, .slice none 0 0, .slice none 0 0]) := Lib.hid (HR0.out.grown HG2.out (by simp))
      have r0 := HR1.out.cell 0
      have r1 := HR1.out.cell 1
      have r2 := HR1.out.cell 2
      have f8 := HR1.out.free
      simp at r0 r1 r2
      obtain ⟨wF, hwF⟩ : ∃ x, x = ((w2.setCell ⟨w.heap.size + 1, 0, none⟩ (.slice none 0 0)).setCell ⟨w.heap.size + 1, 1, none⟩ (.slice none 0 0)).setCell ⟨w.heap.size + 1, 2, none⟩ (.slice none 0 0) := ⟨_, rfl⟩
      have HF8 : Hid (Bk wF (w.heap.size + 1) 45 #[.slice none 0 0, .slice none 0 0, .slice none 0 0]) := Lib.hid (by rw [hwF]; exact ((HR1.out.set 0 _).set 1 _).set 2 _)
      have HGF : Hid (w.grownBy wF none) := Lib.hid (by rw [hwF]; exact grown_up (HG0.out.trans HG2.out) (((grownSet w2 (w.heap.size + 1) 0 _).trans (grownSet _ (w.heap.size + 1) 1 _)).trans (grownSet _ (w.heap.size + 1) 2 _)) (fun b e => by injection e with e; omega))
      go_wp2_with fail
      rw [← hwF]
      exact ⟨rfl, _, results_ddeal rfl _ rfl rfl HF8.out, rfl, HGF.out⟩
end Go.Proofs.YtphbcfpiklmmeaaGreatDoor

namespace Go.Proofs.YtphbcfpiklmmeaaGreatDoor
open Go.RowKit

theorem mulI_no (a b m : Int) (hm : mayB m = false) : mulI a b m = 0 := by simp [mulI, hm]
theorem timesI_no (P : Int) (l : List Int) (hm : mayB P = false) : timesI P l = 0 := by
  unfold timesI
  rcases List.eq_nil_or_concat l with rfl | ⟨l', x, rfl⟩
  · exact mulI_no _ _ _ hm
  · rw [List.concat_eq_append, List.foldl_append]
    exact mulI_no _ _ _ hm
theorem one_mod (P : Int) (hm : mayB P = true) : 1 % P = timesI P [] := by
  show _ = mulI 1 1 P
  rw [mulI_yes _ _ _ hm, Int.mul_one]
set_option maxHeartbeats 400000 in
theorem rtimes_any (p : Par) (v : Value) (l : List Int) (X : Nat → Prop) (w : World) (hp : p.ok) (h : Sl encU X w v l) :
    Calls Tryz.prog 130 #[p.v, v] w fun e w' => e = .returned (.int .u64 (timesI p.P l)) ∧ w.grownBy w' none := by
  have H := Lib.hid h
  have HP := Lib.hid hp.P
  have hp0 : 0 ≤ p.P := hp.P.1
  have hp1 : p.P < 18446744073709551616 := hp.P.2
  obtain ⟨A, c, rfl, h1, h2⟩ := h.form
  clear h hp
  cases hm : mayB p.P with
  | false =>
    have HE : Hid (timesI p.P l = 0) := Lib.hid (timesI_no _ _ hm)
    rcases may_cases hm hp0 with h0 | h0
    · have hb : (p.P == 0) = true := by simpa using h0
      clear hm h0 hp0 hp1
      go_enter Tryz.func130, Tryz.ntmps130
      go_wp2
      go_ret
      exact ⟨ret_u64 HE.out.symm, World.grownBy_alloc w _ none⟩
    · have hb : (p.P == 0) = false := by simp; omega
      have hb' : decide (2305843009213693952 < p.P) = true := by simpa using h0
      clear hm
      go_enter Tryz.func130, Tryz.ntmps130
      go_wp2
      go_ret
      exact ⟨ret_u64 HE.out.symm, World.grownBy_alloc w _ none⟩
  | true =>
    have HM := Lib.hid hm
    obtain ⟨m0, m1⟩ : 0 < p.P ∧ p.P ≤ 2305843009213693952 := by simpa [mayB] using hm
    have hb : (p.P == 0) = false := by simp; omega
    have hb' : decide (2305843009213693952 < p.P) = false := by simp; omega
    have HO := Lib.hid (one_mod p.P hm)
    have HB : Hid (w.grownBy (w.alloc (Obj.cells p.cells 24)) none ∧ Bk (w.alloc (Obj.cells p.cells 24)) w.heap.size 24 p.cells) := Lib.hid ⟨World.grownBy_alloc w _ none, Bk.new w _ _⟩
    clear hm
    go_enter Tryz.func130, Tryz.ntmps130
    go_wp2
    rw [HO.out]
    go_loopg [5, 6] l.length (fun g sx si wx => ∃ j : Nat, j + g = l.length ∧ si = .int .i64 j ∧ sx = .int .u64 (timesI p.P (l.take j)) ∧ Hid (w.grownBy wx none ∧ Bk wx w.heap.size 24 p.cells))
    case atStart => exact ⟨0, by omega, rfl, rfl, HB⟩
    case round =>
      obtain ⟨j, hj, rfl, rfl, HX⟩ := hrel
      cases gk with
      | zero =>
        obtain rfl : j = l.length := by omega
        have HE : Hid (timesI p.P (l.take l.length) = timesI p.P l) := Lib.hid (by rw [List.take_length])
        go_wp2
        go_ret
        exact ⟨ret_u64 HE.out, HX.out.1⟩
      | succ k =>
        have hjn : (j : Int) < (l.length : Int) := by omega
        have hjN : j < l.length := by omega
        obtain ⟨g, o, c', e, _, _, hc, hu⟩ := (H.out.kept HX.out.1).atU hjN
        injection e with e1 e2 e3
        subst e1 e3
        have cP : wr.cell? ⟨w.heap.size, 0, none⟩ = some (.int .u64 p.P) := HX.out.2.cell 0
        have HS := Lib.hid (timesI_snoc p.P l j hjN)
        have HTm := Lib.hid (timesI_U64 p.P (l.take j))
        have HU := Lib.hid hu
        generalize l[j] = y at *
        generalize timesI p.P (l.take j) = t at *
        clear hu e2
        go_wp2_with fail
        go_quiet ((go_at_call 94; exact Calls.quiet_of (refmul_any t y p.P _ HTm.out HU.out HP.out)))
        go_wp2
        go_roundg k
        case measure => omega
        case rel => exact ⟨j + 1, by omega, by go_num, by rw [HS.out], Lib.hid ⟨grownBy_drewN HX.out.1 _, HX.out.2.drewN _⟩⟩
theorem rtimes_nil (p : Par) (w : World) (hp : p.ok) :
    Calls Tryz.prog 130 #[p.v, .slice none 0 0] w fun e w' => e = .returned (.int .u64 (timesI p.P [])) ∧ w.grownBy w' none :=
  rtimes_any p _ [] (fun _ => True) w hp (Sl.nil _ _ _)
theorem rtimes_two (p : Par) (a b : Int) (w : World) (hp : p.ok) (ha : U64 a) (hb : U64 b) :
    Calls Tryz.prog 130 #[p.v, .slice (some ⟨w.heap.size, 0, none⟩) 2 2] (w.alloc (Obj.cells #[.int .u64 a, .int .u64 b] 22)) fun e w' => e = .returned (.int .u64 (timesI p.P [a, b])) ∧ w.grownBy w' none :=
  (rtimes_any p _ [a, b] (fun _ => True) _ hp (Sl.ofBk (t := 22) (Bk.new w 22 (nums [a, b]).toArray) (by intro y hy; simp at hy; rcases hy with rfl | rfl <;> assumption) (by simp))).mono fun _ _ ⟨he, hg⟩ => ⟨he, (World.grownBy_alloc w _ none).trans hg⟩
theorem rtimes_three (p : Par) (a b c : Int) (w : World) (hp : p.ok) (ha : U64 a) (hb : U64 b) (hc : U64 c) :
    Calls Tryz.prog 130 #[p.v, .slice (some ⟨w.heap.size, 0, none⟩) 3 3] (w.alloc (Obj.cells #[.int .u64 a, .int .u64 b, .int .u64 c] 22)) fun e w' => e = .returned (.int .u64 (timesI p.P [a, b, c])) ∧ w.grownBy w' none :=
  (rtimes_any p _ [a, b, c] (fun _ => True) _ hp (Sl.ofBk (t := 22) (Bk.new w 22 (nums [a, b, c]).toArray) (by intro y hy; simp at hy; rcases hy with rfl | rfl | rfl <;> assumption) (by simp))).mono fun _ _ ⟨he, hg⟩ => ⟨he, (World.grownBy_alloc w _ none).trans hg⟩

theorem timesI_two (P a b : Int) (hm : mayB P = true) : timesI P [a, b] = a * b % P := by
  show mulI (mulI (mulI 1 1 P) a P) b P = _
  rw [mulI_yes _ _ _ hm, mulI_yes _ _ _ hm, mulI_yes _ _ _ hm, Int.mul_one]
  exact ((Cg.mod P _).trans ((Cg.mod P 1).mul_right a |>.trans (Cg.of_eq (Int.one_mul a)))).mul_right b
theorem timesI_three (P a b c : Int) (hm : mayB P = true) : timesI P [a, b, c] = a * b * c % P := by
  show mulI (timesI P [a, b]) c P = _
  rw [mulI_yes _ _ _ hm, timesI_two _ _ _ hm]
  exact (Cg.mod P _).mul_right c
theorem rpow_zero (a P : Int) : timesI P [] = powI a 0 P := by
  cases hm : mayB P with
  | false => rw [timesI_no _ _ hm]; simp [powI, hm]
  | true => rw [← one_mod P hm]; simp [powI, hm]
theorem rpow_even (a e P : Int) (he : 0 ≤ e) (h2 : e % 2 = 0) : timesI P [powI a (e / 2) P, powI a (e / 2) P] = powI a e P := by
  cases hm : mayB P with
  | false => rw [timesI_no _ _ hm]; simp [powI, hm]
  | true => rw [timesI_two _ _ _ hm, ← pow_even a e P he h2, mulI_yes _ _ _ hm]
theorem rpow_odd (a e P : Int) (he : 0 ≤ e) (h2 : e % 2 = 1) : timesI P [powI a (e / 2) P, powI a (e / 2) P, a] = powI a e P := by
  cases hm : mayB P with
  | false => rw [timesI_no _ _ hm]; simp [powI, hm]
  | true =>
    rw [timesI_three _ _ _ _ hm, ← pow_odd a e P he h2, mulI_yes _ _ _ hm, mulI_yes _ _ _ hm]
    exact ((Cg.mod P _).mul_right a).symm

set_option maxHeartbeats 400000 in
theorem rpower_fuel (p : Par) (hp : p.ok) (x : Int) (hx : U64 x) : ∀ (f : Nat) (e : Int) (w : World), 0 ≤ e → e < 18446744073709551616 → e.toNat < 2 ^ f →
    Calls Tryz.prog 131 #[p.v, .int .u64 x, .int .u64 e] w fun e' w' => e' = .returned (.int .u64 (powI x e p.P)) ∧ w.grownBy w' none := by
  have HA := Lib.hid hx
  have HP := Lib.hid hp
  clear hx hp
  have base : ∀ w : World, Calls Tryz.prog 131 #[p.v, .int .u64 x, .int .u64 0] w fun e' w' => e' = .returned (.int .u64 (powI x 0 p.P)) ∧ w.grownBy w' none := by
    intro w
    rw [← rpow_zero]
    go_enter Tryz.func131, Tryz.ntmps131
    go_wp2_with fail
    refine (rtimes_nil p _ HP.out).mono ?_
    rintro e w1 ⟨rfl, hg⟩
    have HG := Lib.hid hg
    clear hg
    go_wp2
    go_ret
    exact ⟨rfl, (World.grownBy_alloc w _ none).trans HG.out⟩
  intro f
  induction f with
  | zero =>
    intro e w h0 h1 hf
    have : e = 0 := by simp at hf; omega
    subst this
    exact base w
  | succ f ih =>
    intro e w h0 h1 hf
    by_cases hz : e = 0
    · subst hz
      exact base w
    · have hz' : (e == 0) = false := by simpa using hz
      have HI := Lib.hid (fun w => ih (e / 2) w (by omega) (by omega) (by rw [Nat.pow_succ] at hf; omega))
      have HH := Lib.hid (powI_U64' x (e / 2) p.P)
      clear ih hf hz base
      by_cases h2 : e % 2 = 1
      · have h2' : (e % 2 == 1) = true := by simpa using h2
        rw [← rpow_odd x e p.P h0 h2]
        clear h2
        go_enter Tryz.func131, Tryz.ntmps131
        go_wp2_with fail
        refine (HI.out _).mono ?_
        rintro e w1 ⟨rfl, hg⟩
        have HG := Lib.hid hg
        have hp1 := ((Bk.new w 24 p.cells).grown hg (by simp)).prule
        clear hg
        go_wp2_with fail
        refine (rtimes_three p _ _ x w1 HP.out HH.out HH.out HA.out).mono ?_
        rintro e w2 ⟨rfl, hg⟩
        have HG2 := Lib.hid hg
        clear hg
        go_wp2
        go_ret
        exact ⟨rfl, (World.grownBy_alloc w _ none).trans (HG.out.trans HG2.out)⟩
      · have h2' : (e % 2 == 1) = false := by simpa using h2
        rw [← rpow_even x e p.P h0 (by omega)]
        clear h2
        go_enter Tryz.func131, Tryz.ntmps131
        go_wp2_with fail
        refine (HI.out _).mono ?_
        rintro e w1 ⟨rfl, hg⟩
        have HG := Lib.hid hg
        have hp1 := ((Bk.new w 24 p.cells).grown hg (by simp)).prule
        clear hg
        go_wp2_with fail
        refine (rtimes_two p _ _ w1 HP.out HH.out HH.out).mono ?_
        rintro e w2 ⟨rfl, hg⟩
        have HG2 := Lib.hid hg
        clear hg
        go_wp2
        go_ret
        exact ⟨rfl, (World.grownBy_alloc w _ none).trans (HG.out.trans HG2.out)⟩
theorem rpower_any (p : Par) (hp : p.ok) (x e : Int) (w : World) (hx : U64 x) (he : U64 e) :
    Calls Tryz.prog 131 #[p.v, .int .u64 x, .int .u64 e] w fun e' w' => e' = .returned (.int .u64 (powI x e p.P)) ∧ w.grownBy w' none := by
  obtain ⟨e0, e1⟩ := he
  exact rpower_fuel p hp x hx 64 e w e0 e1 (by have : (2 : Nat) ^ 64 = 18446744073709551616 := by decide
                                               omega)
set_option maxHeartbeats 400000 in
theorem rcommit_any (p : Par) (x : Int × Int) (w : World) (hp : p.ok) (h1 : U64 x.1) (h2 : U64 x.2) :
    Calls Tryz.prog 97 #[p.v, .agg #[.int .u64 x.1, .int .u64 x.2]] w fun e' w' => e' = .returned (.int .u64 (commitI p x)) ∧ w.grownBy w' none := by
  have HG : Hid (U64 p.G) := Lib.hid hp.G
  have HH : Hid (U64 p.H) := Lib.hid hp.H
  have H1 := Lib.hid h1
  have H2 := Lib.hid h2
  have HU := Lib.hid (powI_U64' p.G x.1 p.P)
  have HL := Lib.hid (powI_U64' p.H x.2 p.P)
  have HP := Lib.hid hp
  clear hp h1 h2
  go_enter Tryz.func97, Tryz.ntmps97
  go_wp2_with fail
  go_region_held3 (fun w' => ∀ b o, b < w.heap.size + 2 → w'.cell? ⟨b, o, none⟩ = ((w.alloc (Obj.cells p.cells 24)).alloc (Obj.cells #[.int .u64 x.1, .int .u64 x.2] 58)).cell? ⟨b, o, none⟩) (first | assumption | exact cells_alloc (by assumption) (by assumption) _ | go_keep)
    (first
    | (go_at_call 131; (with_reducible refine (rpower_any p HP.out p.G x.1 _ HG.out H1.out).mono ?_); rintro e w1 ⟨rfl, hg⟩; have HG1 := Lib.hid hg; have hc1 := cells_of (n := w.heap.size + 2) hg (by simp); clear hg)
    | (go_at_call 131; (with_reducible refine (rpower_any p HP.out p.H x.2 _ HH.out H2.out).mono ?_); rintro e w2 ⟨rfl, hg⟩; have HG2 := Lib.hid (HG1.out.trans hg); have hc2 := cells_of (n := w.heap.size + 2) HG2.out (by simp); have hs2 : w.heap.size + 2 ≤ w2.heap.size := Nat.le_trans (by simp) HG2.out.size; clear hg)
    | (go_at_call 130; (with_reducible refine (rtimes_two p _ _ w2 HP.out HU.out HL.out).mono ?_); rintro e w3 ⟨rfl, hg⟩; have HG3 := Lib.hid (HG2.out.trans hg); have hc3 := cells_of (n := w.heap.size + 2) HG3.out (by simp); clear hg))
  go_wp2
  go_ret
  exact ⟨rfl, ((World.grownBy_alloc w _ none).trans (World.grownBy_alloc _ _ none)).trans (grownBy_drewN (World.grownBy.refl _ none) 1 |>.trans HG3.out)⟩
set_option maxHeartbeats 400000 in
theorem ris_any (p : Par) (x : Int) (w : World) (hp : p.ok) (h1 : U64 x) :
    Calls Tryz.prog 127 #[p.v, .int .u64 x] w fun e' w' => e' = .returned (.bool (isB p x)) ∧ w.grownBy w' none := by
  have HP := Lib.hid hp
  have H1 := Lib.hid h1
  have hx0 := h1.1
  clear hp h1
  by_cases hm : p.P ≤ 2305843009213693952
  · by_cases ha : 1 ≤ x
    · by_cases hb : x < p.P
      · have HE : Hid (isB p x = (powI x p.Q p.P == 1)) := Lib.hid (by simp [isB, ha, hb])
        go_enter Tryz.func127, Tryz.ntmps127
        go_wp2_with fail
        refine (rpower_any p HP.out x p.Q _ H1.out HP.out.Q).mono ?_
        rintro e w1 ⟨rfl, hg⟩
        have HG := Lib.hid hg
        clear hg
        go_wp2
        go_ret
        exact ⟨ret_bool HE.out.symm, (World.grownBy_alloc w _ none).trans HG.out⟩
      · have HE : Hid (isB p x = false) := Lib.hid (by simp [isB, hb])
        have hb' : decide (x < p.P) = false := by simpa using hb
        clear hb
        go_enter Tryz.func127, Tryz.ntmps127
        go_wp2_with fail
        go_ret
        exact ⟨ret_bool HE.out.symm, World.grownBy_alloc w _ none⟩
    · have HE : Hid (isB p x = false) := Lib.hid (by simp [isB, ha])
      go_enter Tryz.func127, Tryz.ntmps127
      go_wp2_with fail
      go_ret
      exact ⟨ret_bool HE.out.symm, World.grownBy_alloc w _ none⟩
  · have HE : Hid (isB p x = false) := Lib.hid (by
      have : powI x p.Q p.P = 0 := by simp [powI, mayB]; omega
      simp [isB, this])
    go_enter Tryz.func127, Tryz.ntmps127
    go_wp2_with fail
    go_ret
    exact ⟨ret_bool HE.out.symm, World.grownBy_alloc w _ none⟩
end Go.Proofs.YtphbcfpiklmmeaaGreatDoor

namespace Go.Proofs.YtphbcfpiklmmeaaGreatDoor
open Go Go.RowKit

/-- Term by term, with the power of x that comes next. -/
def valR (q x : Int) : List Int → Int → Int → Int
  | [], s, _ => s
  | c :: l, s, e => valR q x l (addI s (mulI c e q) q) (mulI e x q)
theorem valR_yes {q x : Int} (hq : mayB q = true) : ∀ (l : List Int) (s e : Int), 0 ≤ s → s < q → valR q x l s e = (s + e * evZ x l) % q
  | [], s, e, h0, h1 => by
    show s = (s + e * 0) % q
    rw [Int.mul_zero, Int.add_zero, Int.emod_eq_of_lt h0 h1]
  | c :: l, s, e, _, _ => by
    show valR q x l (addI s (mulI c e q) q) (mulI e x q) = (s + e * (c + x * evZ x l)) % q
    rw [valR_yes hq l _ _ (addI_bd _ _ _ hq).1 (addI_bd _ _ _ hq).2, addI_yes _ _ _ hq, mulI_yes _ _ _ hq, mulI_yes _ _ _ hq]
    have h1 : Cg q ((s + c * e % q) % q + e * x % q * evZ x l) (s + e * (c + x * evZ x l)) := by
      refine (Cg.add ((Cg.mod q _).trans (Cg.add (Cg.refl q s) (Cg.mod q _))) ((Cg.mod q _).mul_right _)).trans (Cg.of_eq ?_)
      rw [Int.mul_add, Int.mul_comm c e, Int.mul_assoc, Int.add_assoc]
    exact h1
theorem valR_no {q x : Int} (hq : mayB q = false) : ∀ (l : List Int) (e : Int), valR q x l 0 e = 0
  | [], _ => rfl
  | c :: l, e => by rw [valR, addI_no _ _ _ hq]; exact valR_no hq l _
theorem evalGo_no {q x : Int} (hq : mayB q = false) : ∀ (l : List Int), evalGo q x l 0 = 0
  | [] => rfl
  | c :: l => by
    show evalGo q x l (addI (mulI 0 x q) c q) = 0
    rw [addI_no _ _ _ hq]
    exact evalGo_no hq l
theorem valR_eval (q x : Int) (l : List Int) : valR q x l 0 (mulI 1 1 q) = evalI q l x := by
  cases hq : mayB q with
  | false => rw [valR_no hq, evalI, evalGo_no hq]
  | true =>
    have h0 : 0 < q := mayB_pos hq
    rw [valR_yes hq l 0 _ (Int.le_refl 0) h0, mulI_yes _ _ _ hq, Int.zero_add]
    have h1 : Cg q (1 * 1 % q * evZ x l) (evalI q l x) := (((Cg.mod q _).mul_right _).trans (Cg.of_eq (by omega))).trans (evalI_cg' hq x l).symm
    have h2 : evalI q l x % q = evalI q l x := by
      have hb : 0 ≤ evalI q l x ∧ evalI q l x < q := by
        cases l with
        | nil => exact ⟨Int.le_refl _, h0⟩
        | cons y l =>
          rw [evalI_cons']
          exact addI_bd _ _ _ hq
      exact Int.emod_eq_of_lt hb.1 hb.2
    rw [← h2]
    exact h1
end Go.Proofs.YtphbcfpiklmmeaaGreatDoor

namespace Go.Proofs.YtphbcfpiklmmeaaGreatDoor
open Go.RowKit

set_option maxHeartbeats 400000 in
theorem next_ahead (b g o n c : Nat) (x : Int) (s d q : Int) (w : World) (hx : U64 x) (hq : U64 q) (hd0 : 0 ≤ d) (hd : d < 4611686018427387904)
    (hb : Bk w b 73 #[.int .u64 s, .slice (some ⟨g, o, none⟩) (n + 1) c, .int .i64 d]) (hc : w.cell? ⟨g, o, none⟩ = some (.int .u64 x)) (hgb : g ≠ b) (_hn : n + 1 ≤ c) (h1c : 1 < c) (hcm : c ≤ 9223372036854775807) :
    Calls Tryz.prog 30 #[.pointer (some ⟨b, 0, none⟩), .int .u64 q] w fun e w' => e = .returned (.int .u64 (belowI x q)) ∧ Bk w' b 73 #[.int .u64 s, .slice (some ⟨g, o + 1, none⟩) n (c - 1), .int .i64 (d + 1)] ∧ w.grownBy w' (some b) := by
  have c1 : w.cell? ⟨b, 1, none⟩ = some (.slice (some ⟨g, o, none⟩) (n + 1) c) := hb.cell 1
  have c2 : w.cell? ⟨b, 2, none⟩ = some (.int .i64 d) := hb.cell 2
  have f1 : w.frozen? ⟨b, 1, none⟩ = false := hb.free 1
  have f2 : w.frozen? ⟨b, 2, none⟩ = false := hb.free 2
  have HB := Lib.hid hb
  have HL := Lib.hid (fun w => below_any x q w hx hq)
  have hne : ¬ (b = g) := fun h => hgb h.symm
  clear hb hx hq
  go_enter Tryz.func30, Tryz.ntmps30
  go_wp2_with fail
  refine (HL.out _).mono ?_
  rintro e w' ⟨rfl, n1, rfl⟩
  go_wp2
  go_ret
  refine ⟨rfl, ?_, ?_⟩
  · exact Bk.drewN (((HB.out.set 2 _).set 1 _).of_eq rfl) _
  · exact grownBy_drewN (grownBy_set (grownBy_set (World.grownBy.refl w _) 2 _) 1 _) _

set_option maxHeartbeats 400000 in
theorem next_last (b g o : Nat) (x : Int) (s d q : Int) (w : World) (hx : U64 x) (hq : U64 q) (hd0 : 0 ≤ d) (hd : d < 4611686018427387904)
    (hb : Bk w b 73 #[.int .u64 s, .slice (some ⟨g, o, none⟩) 1 1, .int .i64 d]) (hc : w.cell? ⟨g, o, none⟩ = some (.int .u64 x)) (hgb : g ≠ b) :
    Calls Tryz.prog 30 #[.pointer (some ⟨b, 0, none⟩), .int .u64 q] w fun e w' => e = .returned (.int .u64 (belowI x q)) ∧ Bk w' b 73 #[.int .u64 s, .slice (some ⟨g, o, none⟩) 0 0, .int .i64 (d + 1)] ∧ w.grownBy w' (some b) := by
  have c1 : w.cell? ⟨b, 1, none⟩ = some (.slice (some ⟨g, o, none⟩) 1 1) := hb.cell 1
  have c2 : w.cell? ⟨b, 2, none⟩ = some (.int .i64 d) := hb.cell 2
  have f1 : w.frozen? ⟨b, 1, none⟩ = false := hb.free 1
  have f2 : w.frozen? ⟨b, 2, none⟩ = false := hb.free 2
  have HB := Lib.hid hb
  have HL := Lib.hid (fun w => below_any x q w hx hq)
  have hne : ¬ (b = g) := fun h => hgb h.symm
  clear hb hx hq
  go_enter Tryz.func30, Tryz.ntmps30
  go_wp2_with fail
  refine (HL.out _).mono ?_
  rintro e w' ⟨rfl, n1, rfl⟩
  go_wp2
  go_ret
  refine ⟨rfl, ?_, ?_⟩
  · exact Bk.drewN (((HB.out.set 2 _).set 1 _).of_eq rfl) _
  · exact grownBy_drewN (grownBy_set (grownBy_set (World.grownBy.refl w _) 2 _) 1 _) _

theorem eq_nil (w : World) (A : Option Addr) (n c : Nat) : (binOp .eql 25 (.slice A n c) (.slice none 0 0)).run Tryz.prog w = .ok (.bool A.isNone) w :=
  Lib.run_eql_slice_nil w _ 22 A n c 0 0 Tryz.underlying25
/-- What a copy of numbers leaves: a slice of its own that reads as they do. -/
def Cloned (w : World) (l : List Int) (e : Ending) (w' : World) : Prop := ∃ A c, e = .returned (.slice A l.length c) ∧ Rd w' A (nums l) ∧ l.length ≤ c ∧ c ≤ 9223372036854775807 ∧ (∀ g o, A = some ⟨g, o, none⟩ → w.heap.size ≤ g ∧ g < w'.heap.size) ∧ w.grownBy w' none
theorem cloned_of {w w0 w1 : World} {l : List Int} {v : Value} {n : Nat} {row : Option Nat} (hn : n = l.length) (hown : w1.ownsRow w.heap.size 22 1 v n (nums l)) (hg0 : w.grownBy w0 none) (hg : w0.grownBy w1 row) (hr : ∀ g, row = some g → w.heap.size ≤ g) : Cloned w l (.returned v) w1 := by
  subst hn
  have hG := grown_up hg0 hg hr
  rcases hown.2 with ⟨hv, h0⟩ | ⟨g, cap, cur, hv, hb, hh, hnc, hcm, _, _⟩
  · subst hv
    refine ⟨none, 0, by rw [h0], ?_, by omega, by omega, by simp, hG⟩
    have : l = [] := List.eq_nil_of_length_eq_zero h0
    subst this
    exact Rd.nil _ _
  · subst hv
    exact ⟨_, cap, rfl, Rd.own hown, hnc, hcm, fun g' o e => by injection e with e; injection e with e1 e2 e3; subst e1; exact ⟨hb, Bk.lt hh⟩, hG⟩

set_option maxHeartbeats 400000 in
theorem clone_some (x : Addr) (c : Nat) (l : List Int) (w : World) (hr : Rd w (some x) (nums l)) (hn : l.length * 8 ≤ 140737488351232) :
    Calls Tryz.prog 27 #[.slice (some x) l.length c] w (Cloned w l) := by
  obtain ⟨i0, hi, hz0, hz1, hz2⟩ := info_parts u64_info
  have heq := fun w => eq_nil w (some x) l.length c
  have hown := World.ownsRow_made (base := w.heap.size) (e := 22) (size := 1) w #[] 0 (Nat.le_refl _) (Nat.zero_le _) rfl
  have hr1 : Rd (w.alloc (.cells #[] 22)) (some x) (nums l) := hr.grown (World.grownBy_alloc w _ none) (by simp)
  have hc := hr1.addr
  go_enter Tryz.func27, Tryz.ntmps27
  go_wp2_with (at_builtin; refine wpList_append_own _ rfl (.tmp 5) (.tmp 6) 25 rfl w.heap.size 22 i0 (.int .u64 0) 1 8 Tryz.underlying25 hi hz0 hz1 hz2 rfl (by decide) _ _ _ rfl hown x l.length c (nums l) rfl (by simp [nums]) hc (nums_one l) (by unfold maxLen; omega) (by omega) (by simp) ?_)
  intro v' w1 hown1 hgrow _
  have HO := Lib.hid hown1
  have HG := Lib.hid hgrow
  clear hown1 hgrow hc hr1 hown
  go_wp2
  go_ret
  exact cloned_of (by simp) HO.out (World.grownBy_alloc w _ none) HG.out (by simp [Value.ownBlock])

theorem clone_none (c : Nat) (w : World) :
    Calls Tryz.prog 27 #[.slice none 0 c] w fun e w' => e = .returned (.slice none 0 0) ∧ w' = w := by
  have heq := fun w => eq_nil w none 0 c
  go_enter Tryz.func27, Tryz.ntmps27
  go_wp2
  go_ret
  exact ⟨rfl, rfl⟩

/-- The slice value v reads as the numbers l. -/
def SlIs (w : World) (v : Value) (l : List Int) : Prop := ∃ A c, v = .slice A l.length c ∧ Rd w A (nums l) ∧ l.length ≤ c ∧ c ≤ 9223372036854775807
theorem SlIs.kept {w w' : World} {v : Value} {l : List Int} (h : SlIs w v l) (hg : w.grownBy w' none) : SlIs w' v l := by
  obtain ⟨A, c, e, hr, h1, h2⟩ := h
  exact ⟨A, c, e, hr.grown hg (by simp), h1, h2⟩
theorem clone_any (v : Value) (l : List Int) (w : World) (h : SlIs w v l) (hn : l.length * 8 ≤ 140737488351232) :
    Calls Tryz.prog 27 #[v] w (Cloned w l) := by
  obtain ⟨A, c, rfl, hr, _, _⟩ := h
  cases A with
  | none =>
    have hl : l = [] := by
      cases l with
      | nil => rfl
      | cons x l => obtain ⟨g, o, e, _⟩ := hr (by simp [nums]); cases e
    subst hl
    refine (clone_none c w).mono ?_
    rintro e w' ⟨rfl, rfl⟩
    exact ⟨none, 0, rfl, Rd.nil _ _, Nat.le_refl _, by omega, by simp, World.grownBy.refl _ _⟩
  | some x => exact clone_some x c l w hr hn
end Go.Proofs.YtphbcfpiklmmeaaGreatDoor

namespace Go.Proofs.YtphbcfpiklmmeaaGreatDoor
open Go.RowKit

theorem TapeIs.grown {w w' : World} {b ga : Nat} {T : TS} {row : Option Nat} (h : TapeIs w b ga T) (hg : w.grownBy w' row) (hb : some b ≠ row) (ha : some ga ≠ row) : TapeIs w' b ga T := by
  obtain ⟨A, c, hk, h1, h2, h3⟩ := h
  refine ⟨A, c, hk.grown hg hb, h1, h2, fun hn => ?_⟩
  obtain ⟨h4, h5, o, h6, h7⟩ := h3 hn
  exact ⟨h4, Nat.lt_of_lt_of_le h5 hg.size, o, h6, fun j u hu => (World.cell?_of_block (w := w) (hg.block ga h5 ha)).trans (h7 j u hu)⟩
/-- Behind a call that leaves all old memory alone. -/
theorem TapeIs.kept {w w' : World} {b ga : Nat} {T : TS} (h : TapeIs w b ga T) (hg : w.grownBy w' none) : TapeIs w' b ga T :=
  h.grown hg (by simp) (by simp)
theorem TapeIs.lt {w : World} {b ga : Nat} {T : TS} (h : TapeIs w b ga T) : b < w.heap.size := by
  obtain ⟨A, c, hk, _⟩ := h
  exact hk.lt

def TapeMade (w : World) (T : TS) (e : Ending) (w' : World) : Prop := ∃ b ga, e = .returned (.pointer (some ⟨b, 0, none⟩)) ∧ TapeIs w' b ga T ∧ w.heap.size ≤ b ∧ w.heap.size ≤ ga ∧ ga < w'.heap.size ∧ w.grownBy w' none

set_option maxHeartbeats 400000 in
theorem of_made (v : Value) (l : List Int) (s : Int) (w : World) (h : SlIs w v l) (hn : l.length * 8 ≤ 140737488351232) :
    Calls Tryz.prog 5 #[v, .int .u64 s] w (TapeMade w ⟨l, s, 0⟩) := by
  have HC := Lib.hid (clone_any v l w h hn)
  clear h
  go_enter Tryz.func5, Tryz.ntmps5
  go_wp2_with fail
  refine HC.out.mono ?_
  rintro e w1 ⟨A, c, rfl, hr, h1, h2, h3, hg⟩
  have HX := Lib.hid (And.intro hr (And.intro h1 (And.intro h2 (And.intro h3 hg))))
  clear hr h1 h2 h3 hg
  go_wp2
  go_ret
  obtain ⟨hr, h1, h2, h3, hg⟩ := HX.out
  have hb : Bk (w1.alloc (.cells #[.int .u64 s, .slice A l.length c, .int .i64 0] 73)) w1.heap.size 73 #[.int .u64 s, .slice A l.length c, .int .i64 0] := Bk.new w1 _ _
  by_cases h0 : l = []
  · subst h0
    exact ⟨w1.heap.size, w1.heap.size, rfl, ⟨A, c, hb, h1, h2, fun h => absurd rfl h⟩, hg.size, hg.size, by simp, grown_up hg (World.grownBy_alloc w1 _ none) (by simp)⟩
  · have hr2 : Rd (w1.alloc (.cells #[.int .u64 s, .slice A l.length c, .int .i64 0] 73)) A (nums l) := hr.grown (World.grownBy_alloc w1 _ none) (by simp)
    obtain ⟨g, o, e, _, hcell⟩ := hr2 (by simpa [nums] using h0)
    have hlt := h3 g o e
    exact ⟨w1.heap.size, g, rfl, ⟨A, c, hb, h1, h2, fun _ => ⟨by omega, by simp; omega, o, e, hcell⟩⟩, hg.size, hlt.1, by simp; omega, grown_up hg (World.grownBy_alloc w1 _ none) (by simp)⟩

/-- What a draw leaves. -/
def Drawn (w : World) (b ga : Nat) (q : Int) (T : TS) (e : Ending) (w' : World) : Prop := e = .returned (.int .u64 (T.val q)) ∧ TapeIs w' b ga (T.next q) ∧ w.grownBy w' (some b)
theorem next_any (b ga : Nat) (q : Int) (T : TS) (w : World) (h : TapeIs w b ga T) (hT : T.ok) (hq : U64 q) :
    Calls Tryz.prog 30 #[.pointer (some ⟨b, 0, none⟩), .int .u64 q] w (Drawn w b ga q T) := by
  obtain ⟨hx, hs, hd0, hd1⟩ := hT
  obtain ⟨A, c, hk, h1, h2, h3⟩ := h
  obtain ⟨l, s, d⟩ := T
  cases l with
  | nil =>
    refine (next_own b A c s d q w hs hq hd0 hd1 hk).mono ?_
    rintro e w' ⟨rfl, hk', hg⟩
    exact ⟨rfl, ⟨A, c, hk', h1, h2, fun h => absurd rfl h⟩, hg⟩
  | cons x l =>
    obtain ⟨hne, hlt, o, rfl, hc⟩ := h3 (by simp)
    have hc0 : w.cell? ⟨ga, o, none⟩ = some (.int .u64 x) := hc 0 _ rfl
    simp only [List.length_cons] at hk h1
    by_cases hlast : 1 < c
    · refine (next_ahead b ga o l.length c x s d q w (hx x (by simp)) hq hd0 hd1 hk hc0 hne (by simpa using h1) hlast h2).mono ?_
      rintro e w' ⟨rfl, hk', hg⟩
      refine ⟨rfl, ⟨_, c - 1, hk', by simp only [TS.next]; omega, by omega, fun _ => ⟨hne, Nat.lt_of_lt_of_le hlt hg.size, o + 1, rfl, fun j u hu => ?_⟩⟩, hg⟩
      rw [World.cell?_of_block (w := w) (hg.block ga hlt (by simpa using hne)), show o + 1 + j = o + (j + 1) by omega]
      exact hc (j + 1) u (by simpa [nums, TS.next] using hu)
    · have hl : l = [] := List.eq_nil_of_length_eq_zero (by omega)
      subst hl
      have hc1 : c = 1 := by simp at h1; omega
      subst hc1
      refine (next_last b ga o x s d q w (hx x (by simp)) hq hd0 hd1 hk hc0 hne).mono ?_
      rintro e w' ⟨rfl, hk', hg⟩
      exact ⟨rfl, ⟨_, 0, hk', Nat.le_refl _, by omega, fun h => absurd rfl h⟩, hg⟩
end Go.Proofs.YtphbcfpiklmmeaaGreatDoor

namespace Go.Proofs.YtphbcfpiklmmeaaGreatDoor
open Go.RowKit

def TS.run (q : Int) : Nat → TS → TS
  | 0, T => T
  | n + 1, T => TS.run q n (T.next q)
end Go.Proofs.YtphbcfpiklmmeaaGreatDoor

namespace Go.Proofs.YtphbcfpiklmmeaaGreatDoor
open Go.RowKit

def T2 : TS := ⟨[7, 30], 0, 0⟩
end Go.Proofs.YtphbcfpiklmmeaaGreatDoor

namespace Go.Proofs.YtphbcfpiklmmeaaGreatDoor
open Go.ChangeShapes Go.WideShapes Go.RowKit

end Go.Proofs.YtphbcfpiklmmeaaGreatDoor

namespace Go.Proofs.YtphbcfpiklmmeaaGreatDoor
open Go.RowKit

/-- Element k of a slice that came in, where it lies; and that it lies there still. -/
theorem SlIs.far {w : World} {A : Option Addr} {n c : Nat} {l : List Int} (h : SlIs w (.slice A n c) l) {k : Nat} (hk : k < l.length) : ∃ g o, A = some ⟨g, o, none⟩ ∧ ∀ w', w.grownBy w' none → w'.cell? ⟨g, o + k, none⟩ = some (.int .u64 l[k]) := by
  obtain ⟨A', c', e, hr, _, _⟩ := h
  injection e with e1 _ _
  subst e1
  obtain ⟨g, o, e, hg, hc⟩ := hr.at (k := k) (by simpa [nums] using hk)
  refine ⟨g, o, e, fun w' hw => ?_⟩
  rw [World.cell?_of_block (w := w) (hw.block g hg (by simp)), hc]
  simp [nums]
theorem SlIs.cell {w : World} {v : Value} {l : List Int} (h : SlIs w v l) {k : Nat} (hk : k < l.length) : ∃ g o c, v = .slice (some ⟨g, o, none⟩) l.length c ∧ g < w.heap.size ∧ w.cell? ⟨g, o + k, none⟩ = some (.int .u64 l[k]) := by
  obtain ⟨A, c, rfl, hr, _, _⟩ := h
  obtain ⟨g, o, rfl, hg, hc⟩ := hr.at (k := k) (by simpa [nums] using hk)
  exact ⟨g, o, c, rfl, hg, by rw [hc]; simp [nums]⟩

end Go.Proofs.YtphbcfpiklmmeaaGreatDoor

namespace Go.Proofs.YtphbcfpiklmmeaaGreatDoor
open Go.RowKit

theorem TapeIs.sl {w : World} {b ga : Nat} {l : List Int} {s d : Int} {A : Option Addr} {c : Nat} (hk : Bk w b 73 #[.int .u64 s, .slice A l.length c, .int .i64 d])
    (h1 : l.length ≤ c) (h2 : c ≤ 9223372036854775807) (h3 : l ≠ [] → ga ≠ b ∧ ga < w.heap.size ∧ ∃ o, A = some ⟨ga, o, none⟩ ∧ ∀ j u, (nums l)[j]? = some u → w.cell? ⟨ga, o + j, none⟩ = some u) : SlIs w (.slice A l.length c) l :=
  ⟨A, c, rfl, fun hn => by
    obtain ⟨_, hl, o, e, hc⟩ := h3 (by intro h0; rw [h0] at hn; exact hn rfl)
    exact ⟨ga, o, e, hl, hc⟩, h1, h2⟩

/-- TapeTwo tapes, the second one laid behind the first one; nothing that w knows has changed. -/
def TapeTwo (w wx : World) (b1 ga1 b2 ga2 : Nat) (T1 T2 : TS) : Prop := TapeIs wx b1 ga1 T1 ∧ TapeIs wx b2 ga2 T2 ∧ w.grownBy wx none ∧ b1 < b2 ∧ ga1 < b2 ∧ b1 < ga2 ∧ w.heap.size ≤ b1 ∧ ga1 < wx.heap.size
theorem TapeTwo.up {w wx wy : World} {b1 ga1 b2 ga2 : Nat} {T1 T2 : TS} (h : TapeTwo w wx b1 ga1 b2 ga2 T1 T2) (hg : wx.grownBy wy none) : TapeTwo w wy b1 ga1 b2 ga2 T1 T2 :=
  ⟨h.1.kept hg, h.2.1.kept hg, h.2.2.1.trans hg, h.2.2.2.1, h.2.2.2.2.1, h.2.2.2.2.2.1, h.2.2.2.2.2.2.1, Nat.lt_of_lt_of_le h.2.2.2.2.2.2.2 hg.size⟩
theorem TapeTwo.far {w wx wy : World} {b1 ga1 b2 ga2 : Nat} {T1 T2 : TS} {row : Option Nat} (h : TapeTwo w wx b1 ga1 b2 ga2 T1 T2) (hg : wx.grownBy wy row) (hr : ∀ g, row = some g → b1 < g ∧ ga1 < g ∧ b2 < g ∧ ga2 < g) : TapeTwo w wy b1 ga1 b2 ga2 T1 T2 := by
  obtain ⟨t1, t2, hg0, k1, k2, k3, k4, k5⟩ := h
  refine ⟨t1.grown hg ?_ ?_, t2.grown hg ?_ ?_, grown_up hg0 hg ?_, k1, k2, k3, k4, Nat.lt_of_lt_of_le k5 hg.size⟩
  · intro e; have := hr b1 e.symm; omega
  · intro e; have := hr ga1 e.symm; omega
  · intro e; have := hr b2 e.symm; omega
  · intro e; have := hr ga2 e.symm; omega
  · intro g e; have := hr g e; omega
/-- A copy laid behind the first one takes the second one's place. -/
theorem TapeTwo.copy {w wx wy : World} {b1 ga1 b2 ga2 b3 ga3 : Nat} {T1 T2 T3 : TS} (h : TapeTwo w wx b1 ga1 b2 ga2 T1 T2) (ht : TapeIs wy b3 ga3 T3) (hb : wx.heap.size ≤ b3) (hga : wx.heap.size ≤ ga3) (hg : wx.grownBy wy none) : TapeTwo w wy b1 ga1 b3 ga3 T1 T3 := by
  obtain ⟨t1, t2, hg0, k1, k2, k3, k4, k5⟩ := h
  have := t1.lt
  exact ⟨t1.kept hg, ht, hg0.trans hg, by omega, by omega, by omega, k4, Nat.lt_of_lt_of_le k5 hg.size⟩
theorem TapeTwo.drew {w wx : World} {b1 ga1 b2 ga2 : Nat} {T1 T2 : TS} (h : Hid (TapeTwo w wx b1 ga1 b2 ga2 T1 T2)) : Hid (TapeTwo w wx.drew b1 ga1 b2 ga2 T1 T2) := Lib.hid (h.out.up (grownBy_drewN (World.grownBy.refl wx none) 1))

end Go.Proofs.YtphbcfpiklmmeaaGreatDoor

namespace Go.Proofs.YtphbcfpiklmmeaaGreatDoor
open Go.RowKit

/-- The document's tape that lies in block b; what is told ahead, if anything is left, lies in block ga. -/
def RTapeIs (w : World) (b ga : Nat) (T : TS) : Prop :=
  ∃ A c, Bk w b 41 #[.slice A T.ahead.length c, .int .u64 T.s, .int .i64 T.d] ∧ T.ahead.length ≤ c ∧ c ≤ 9223372036854775807 ∧
    (T.ahead ≠ [] → ga ≠ b ∧ ga < w.heap.size ∧ ∃ o, A = some ⟨ga, o, none⟩ ∧ ∀ j u, (nums T.ahead)[j]? = some u → w.cell? ⟨ga, o + j, none⟩ = some u)
theorem RTapeIs.grown {w w' : World} {b ga : Nat} {T : TS} {row : Option Nat} (h : RTapeIs w b ga T) (hg : w.grownBy w' row) (hb : some b ≠ row) (ha : some ga ≠ row) : RTapeIs w' b ga T := by
  obtain ⟨A, c, hk, h1, h2, h3⟩ := h
  refine ⟨A, c, hk.grown hg hb, h1, h2, fun hn => ?_⟩
  obtain ⟨h4, h5, o, h6, h7⟩ := h3 hn
  exact ⟨h4, Nat.lt_of_lt_of_le h5 hg.size, o, h6, fun j u hu => (World.cell?_of_block (w := w) (hg.block ga h5 ha)).trans (h7 j u hu)⟩
theorem RTapeIs.kept {w w' : World} {b ga : Nat} {T : TS} (h : RTapeIs w b ga T) (hg : w.grownBy w' none) : RTapeIs w' b ga T :=
  h.grown hg (by simp) (by simp)
theorem RTapeIs.lt {w : World} {b ga : Nat} {T : TS} (h : RTapeIs w b ga T) : b < w.heap.size := by
  obtain ⟨A, c, hk, _⟩ := h
  exact hk.lt

theorem wq (a k : Int) (hk : 0 < k) : IntKind.u64.wrap ((IntKind.u64.wrap a).tdiv k) = IntKind.u64.wrap a / k := by
  rw [wrap64u a]
  have h := emod_bd a 18446744073709551616 (by decide)
  generalize a % 18446744073709551616 = x at *
  rw [Int.tdiv_eq_ediv_of_nonneg h.1, wrap64u]
  have h1 := Int.ediv_nonneg h.1 (Int.le_of_lt hk)
  have h2 := Int.ediv_le_self k h.1
  exact Int.emod_eq_of_lt h1 (by omega)
theorem wq30 (a : Int) : IntKind.u64.wrap ((IntKind.u64.wrap a).tdiv 1073741824) = IntKind.u64.wrap a / 1073741824 := wq a _ (by decide)
theorem wq27 (a : Int) : IntKind.u64.wrap ((IntKind.u64.wrap a).tdiv 134217728) = IntKind.u64.wrap a / 134217728 := wq a _ (by decide)
theorem wq31 (a : Int) : IntKind.u64.wrap ((IntKind.u64.wrap a).tdiv 2147483648) = IntKind.u64.wrap a / 2147483648 := wq a _ (by decide)
set_option maxHeartbeats 400000 in
theorem rown_any (b : Nat) (s : Int) (w : World) (hs : U64 s) (hc : w.cell? ⟨b, 1, none⟩ = some (.int .u64 s)) (hf : w.frozen? ⟨b, 1, none⟩ = false) :
    Calls Tryz.prog 129 #[.pointer (some ⟨b, 0, none⟩)] w fun e w' => e = .returned (.int .u64 (mixI (nextS s))) ∧ ∃ n, w' = (w.setCell ⟨b, 1, none⟩ (.int .u64 (nextS s))).drewN n := by
  obtain ⟨s0, s1⟩ := hs
  go_enter Tryz.func129, Tryz.ntmps129
  go_wp2_with fail
  go_ret
  simp only [wq30, wq27, wq31]
  exact ⟨rfl, 0, rfl⟩

/-- The document's test is tape's own one. -/
theorem acc_gen (N q x : Int) (hN : 0 < N) (hq : 0 < q) (hqN : q < N) (hx : 0 ≤ x) (hxN : x < N) : (N % q ≤ N - 1 - x ↔ x - x % q ≤ (x - x % q + (q - 1)) % N) := by
  have e1 := Int.mul_ediv_add_emod x q
  have e2 := Int.mul_ediv_add_emod N q
  have b1 := emod_bd x q hq
  have b2 := emod_bd N q hq
  have hb : x - x % q = q * (x / q) := by omega
  have hb0 : 0 ≤ x / q := Int.ediv_nonneg hx (by omega)
  have hle : x / q ≤ N / q := Int.ediv_le_ediv hq (by omega)
  have hm0 : 0 ≤ q * (x / q) := Int.mul_nonneg (by omega) hb0
  rw [hb]
  by_cases h : x / q < N / q
  · have h1 : q * (x / q + 1) ≤ q * (N / q) := Int.mul_le_mul_of_nonneg_left (by omega) (by omega)
    rw [Int.mul_add, Int.mul_one] at h1
    have h2 : (q * (x / q) + (q - 1)) % N = q * (x / q) + (q - 1) := Int.emod_eq_of_lt (by omega) (by omega)
    rw [h2]
    constructor <;> intro _ <;> omega
  · have h1 : x / q = N / q := by omega
    rw [h1] at e1 hm0 ⊢
    have h2 : N ≤ q * (N / q) + (q - 1) := by omega
    have h4 : (q * (N / q) + (q - 1)) % N = q * (N / q) + (q - 1) - N := by
      rw [← Int.sub_emod_right, Int.emod_eq_of_lt (by omega) (by omega)]
    rw [h4]
    constructor <;> intro _ <;> omega
theorem emod_le_it (x q : Int) (hx : 0 ≤ x) (hq : 0 < q) : x % q ≤ x := by
  have e := Int.mul_ediv_add_emod x q
  have := Int.mul_nonneg (Int.le_of_lt hq) (Int.ediv_nonneg hx (Int.le_of_lt hq))
  omega
theorem racc (q s : Int) (hq : 0 < q) (hq1 : q < 18446744073709551616) :
    decide (mixI s - mixI s % q ≤ IntKind.u64.wrap (mixI s - mixI s % q + (q - 1))) = accB q s := by
  have hx := mixI_U64 s
  rw [acc_iff, wrap64u]
  unfold tOverI
  rw [if_neg (by omega)]
  generalize mixI s = x at *
  have h := acc_gen 18446744073709551616 q x (by decide) hq hq1 hx.1 hx.2
  rw [show (18446744073709551616 - 1 - x : Int) = 18446744073709551615 - x by omega] at h
  exact decide_eq_decide.2 h.symm

set_option maxHeartbeats 400000 in
theorem rnext_own (b : Nat) (A : Option Addr) (c : Nat) (s d q : Int) (w : World) (hs : U64 s) (hq : U64 q) (hd0 : 0 ≤ d) (hd : d < 4611686018427387904)
    (hb : Bk w b 41 #[.slice A 0 c, .int .u64 s, .int .i64 d]) :
    Calls Tryz.prog 93 #[.pointer (some ⟨b, 0, none⟩), .int .u64 q] w fun e w' => e = .returned (.int .u64 (drawX q s)) ∧ Bk w' b 41 #[.slice A 0 c, .int .u64 (drawS q s), .int .i64 (d + 1)] ∧ w.grownBy w' (some b) := by
  have c0 : w.cell? ⟨b, 0, none⟩ = some (.slice A 0 c) := hb.cell 0
  have c1 : w.cell? ⟨b, 1, none⟩ = some (.int .u64 s) := hb.cell 1
  have c2 : w.cell? ⟨b, 2, none⟩ = some (.int .i64 d) := hb.cell 2
  have f1 : w.frozen? ⟨b, 1, none⟩ = false := hb.free 1
  have f2 : w.frozen? ⟨b, 2, none⟩ = false := hb.free 2
  have HB := Lib.hid hb
  have HS := Lib.hid hs
  have HQ := Lib.hid hq
  obtain ⟨q0, q1⟩ := hq
  clear hb hs
  go_enter Tryz.func93, Tryz.ntmps93
  go_wp2_with fail
  have hb1 : Bk (w.setCell ⟨b, 2, none⟩ (.int .i64 (d + 1))) b 41 #[.slice A 0 c, .int .u64 s, .int .i64 (d + 1)] := (HB.out.set 2 _).of_eq rfl
  have hg1 : w.grownBy (w.setCell ⟨b, 2, none⟩ (.int .i64 (d + 1))) (some b) := grownBy_set (World.grownBy.refl w _) 2 _
  clear c0 c1 c2 f1 f2
  generalize w.setCell ⟨b, 2, none⟩ (.int .i64 (d + 1)) = w1 at *
  go_loopg [] (kk s) (fun g wx => ∃ s' : Int, kk s' = g ∧ Hid (U64 s') ∧ Hid (drawS q s' = drawS q s) ∧ Hid (Bk wx b 41 #[.slice A 0 c, .int .u64 s', .int .i64 (d + 1)] ∧ w.grownBy wx (some b)))
  case atStart => exact ⟨s, rfl, HS, Lib.hid rfl, Lib.hid ⟨hb1, hg1⟩⟩
  case round =>
    clear hb1 hg1
    obtain ⟨s', hk, hs', HD, HX⟩ := hrel
    have d0 : wr.cell? ⟨b, 1, none⟩ = some (.int .u64 s') := HX.out.1.cell 1
    have g0 : wr.frozen? ⟨b, 1, none⟩ = false := HX.out.1.free 1
    have HN := Lib.hid (rown_any b s' wr hs'.out d0 g0)
    have HX2 : Hid (Bk (wr.setCell ⟨b, 1, none⟩ (.int .u64 (nextS s'))) b 41 #[.slice A 0 c, .int .u64 (nextS s'), .int .i64 (d + 1)] ∧ w.grownBy (wr.setCell ⟨b, 1, none⟩ (.int .u64 (nextS s'))) (some b)) := Lib.hid ⟨(HX.out.1.set 1 _).of_eq rfl, grownBy_set HX.out.2 1 _⟩
    have hkk := Lib.hid hk
    clear d0 g0 hk
    go_wp2_with fail
    refine HN.out.mono ?_
    rintro e w' ⟨rfl, n1, rfl⟩
    by_cases hq0 : q = 0
    · have hq0' : (q == 0) = true := by simpa using hq0
      have hacc : accB q (nextS s') = true := by
        rw [hq0, acc_iff]
        have := mixI_U64 (nextS s')
        unfold U64 at this
        simp [tOverI]
        omega
      have HE := Lib.hid (draw_yes q s' hs'.out hacc)
      have HQ0 := Lib.hid hq0
      clear hacc hq0
      go_wp2
      go_ret
      have e1 : drawS q s = nextS s' := HD.out.symm.trans HE.out
      refine ⟨?_, ?_, ?_⟩
      · unfold drawX belowI
        rw [e1, if_pos HQ0.out]
        rfl
      · rw [e1]
        exact HX2.out.1
      · exact grownBy_drewN HX2.out.2 _
    · have hq0' : (q == 0) = false := by simpa using hq0
      have hqp : 0 < q := by omega
      have hacd := racc q (nextS s') hqp q1
      have hbx := mixI_U64 (nextS s')
      have hmod := emod_bd (mixI (nextS s')) q hqp
      have hmle : mixI (nextS s') % q ≤ mixI (nextS s') := emod_le_it _ _ hbx.1 hqp
      have HV : Hid (belowI (mixI (nextS s')) q = mixI (nextS s') % q) := Lib.hid (by unfold belowI; rw [if_neg hq0])
      have HKE : Hid (drawS q s' = drawS q s) := HD
      cases hacc : accB q (nextS s') with
      | true =>
        rw [hacc] at hacd
        have HE := Lib.hid (draw_yes q s' hs'.out hacc)
        have HDX : Hid (drawX q s = mixI (nextS s') % q) := Lib.hid (by unfold drawX; rw [HD.out.symm.trans HE.out, HV.out])
        clear hacc hq0
        generalize mixI (nextS s') = x at *
        obtain ⟨x0, x1⟩ := hbx
        obtain ⟨m0, m1⟩ := hmod
        go_wp2
        go_ret
        have e1 : drawS q s = nextS s' := HD.out.symm.trans HE.out
        refine ⟨?_, ?_, ?_⟩
        · rw [HDX.out]
          show Ending.returned (Value.int .u64 (x - (x - x % q))) = _
          rw [show x - (x - x % q) = x % q by omega]
        · rw [e1]
          exact HX2.out.1
        · exact grownBy_drewN HX2.out.2 _
      | false =>
        rw [hacc] at hacd
        obtain ⟨e1, e2⟩ := draw_no q s' HQ.out hs'.out hacc
        have HE := Lib.hid e1
        have HK := Lib.hid e2
        clear hacc e1 e2 hq0
        generalize mixI (nextS s') = x at *
        obtain ⟨x0, x1⟩ := hbx
        obtain ⟨m0, m1⟩ := hmod
        go_wp2
        go_roundg (kk (nextS s'))
        case measure => rw [← hkk.out, HK.out]; omega
        case rel => exact ⟨nextS s', rfl, Lib.hid (nextS_U64 _), Lib.hid (HE.out.symm.trans HD.out), Lib.hid ⟨HX2.out.1, grownBy_drewN HX2.out.2 _⟩⟩
end Go.Proofs.YtphbcfpiklmmeaaGreatDoor

namespace Go.Proofs.YtphbcfpiklmmeaaGreatDoor
open Go.RowKit

set_option maxHeartbeats 400000 in
theorem rnext_ahead (b g o n c : Nat) (x : Int) (s d q : Int) (w : World) (hx : U64 x) (hq : U64 q) (hd0 : 0 ≤ d) (hd : d < 4611686018427387904)
    (hb : Bk w b 41 #[.slice (some ⟨g, o, none⟩) (n + 1) c, .int .u64 s, .int .i64 d]) (hc : w.cell? ⟨g, o, none⟩ = some (.int .u64 x)) (hgb : g ≠ b) (_hn : n + 1 ≤ c) (h1c : 1 < c) (hcm : c ≤ 9223372036854775807) :
    Calls Tryz.prog 93 #[.pointer (some ⟨b, 0, none⟩), .int .u64 q] w fun e w' => e = .returned (.int .u64 (belowI x q)) ∧ Bk w' b 41 #[.slice (some ⟨g, o + 1, none⟩) n (c - 1), .int .u64 s, .int .i64 (d + 1)] ∧ w.grownBy w' (some b) := by
  have c1 : w.cell? ⟨b, 0, none⟩ = some (.slice (some ⟨g, o, none⟩) (n + 1) c) := hb.cell 0
  have c2 : w.cell? ⟨b, 2, none⟩ = some (.int .i64 d) := hb.cell 2
  have f1 : w.frozen? ⟨b, 0, none⟩ = false := hb.free 0
  have f2 : w.frozen? ⟨b, 2, none⟩ = false := hb.free 2
  have HB := Lib.hid hb
  have hne : ¬ (b = g) := fun h => hgb h.symm
  obtain ⟨x0, x1⟩ := hx
  obtain ⟨q0, q1⟩ := hq
  clear hb
  by_cases hqp : 0 < q
  · have hqd : decide ((0 : Int) < q) = true := by simpa using hqp
    have hv : belowI x q = x % q := by unfold belowI; rw [if_neg (by omega)]
    rw [hv]
    clear hv
    go_enter Tryz.func93, Tryz.ntmps93
    go_wp2
    go_ret
    refine ⟨rfl, ?_, ?_⟩
    · exact (((HB.out.set 2 _).set 0 _).of_eq rfl)
    · exact (grownBy_set (grownBy_set (World.grownBy.refl w _) 2 _) 0 _)
  · have hqd : decide ((0 : Int) < q) = false := by simp; omega
    have hv : belowI x q = x := by unfold belowI; rw [if_pos (by omega)]
    rw [hv]
    clear hv
    go_enter Tryz.func93, Tryz.ntmps93
    go_wp2
    go_ret
    refine ⟨rfl, ?_, ?_⟩
    · exact (((HB.out.set 2 _).set 0 _).of_eq rfl)
    · exact (grownBy_set (grownBy_set (World.grownBy.refl w _) 2 _) 0 _)

set_option maxHeartbeats 400000 in
theorem rnext_last (b g o : Nat) (x : Int) (s d q : Int) (w : World) (hx : U64 x) (hq : U64 q) (hd0 : 0 ≤ d) (hd : d < 4611686018427387904)
    (hb : Bk w b 41 #[.slice (some ⟨g, o, none⟩) 1 1, .int .u64 s, .int .i64 d]) (hc : w.cell? ⟨g, o, none⟩ = some (.int .u64 x)) (hgb : g ≠ b) :
    Calls Tryz.prog 93 #[.pointer (some ⟨b, 0, none⟩), .int .u64 q] w fun e w' => e = .returned (.int .u64 (belowI x q)) ∧ Bk w' b 41 #[.slice (some ⟨g, o, none⟩) 0 0, .int .u64 s, .int .i64 (d + 1)] ∧ w.grownBy w' (some b) := by
  have c1 : w.cell? ⟨b, 0, none⟩ = some (.slice (some ⟨g, o, none⟩) 1 1) := hb.cell 0
  have c2 : w.cell? ⟨b, 2, none⟩ = some (.int .i64 d) := hb.cell 2
  have f1 : w.frozen? ⟨b, 0, none⟩ = false := hb.free 0
  have f2 : w.frozen? ⟨b, 2, none⟩ = false := hb.free 2
  have HB := Lib.hid hb
  have hne : ¬ (b = g) := fun h => hgb h.symm
  obtain ⟨x0, x1⟩ := hx
  obtain ⟨q0, q1⟩ := hq
  clear hb
  by_cases hqp : 0 < q
  · have hqd : decide ((0 : Int) < q) = true := by simpa using hqp
    have hv : belowI x q = x % q := by unfold belowI; rw [if_neg (by omega)]
    rw [hv]
    clear hv
    go_enter Tryz.func93, Tryz.ntmps93
    go_wp2
    go_ret
    refine ⟨rfl, ?_, ?_⟩
    · exact (((HB.out.set 2 _).set 0 _).of_eq rfl)
    · exact (grownBy_set (grownBy_set (World.grownBy.refl w _) 2 _) 0 _)
  · have hqd : decide ((0 : Int) < q) = false := by simp; omega
    have hv : belowI x q = x := by unfold belowI; rw [if_pos (by omega)]
    rw [hv]
    clear hv
    go_enter Tryz.func93, Tryz.ntmps93
    go_wp2
    go_ret
    refine ⟨rfl, ?_, ?_⟩
    · exact (((HB.out.set 2 _).set 0 _).of_eq rfl)
    · exact (grownBy_set (grownBy_set (World.grownBy.refl w _) 2 _) 0 _)

/-- What a draw of the document's tape leaves. -/
def RDrawn (w : World) (b ga : Nat) (q : Int) (T : TS) (e : Ending) (w' : World) : Prop := e = .returned (.int .u64 (T.val q)) ∧ RTapeIs w' b ga (T.next q) ∧ w.grownBy w' (some b)
theorem rnext_any (b ga : Nat) (q : Int) (T : TS) (w : World) (h : RTapeIs w b ga T) (hT : T.ok) (hq : U64 q) :
    Calls Tryz.prog 93 #[.pointer (some ⟨b, 0, none⟩), .int .u64 q] w (RDrawn w b ga q T) := by
  obtain ⟨hx, hs, hd0, hd1⟩ := hT
  obtain ⟨A, c, hk, h1, h2, h3⟩ := h
  obtain ⟨l, s, d⟩ := T
  cases l with
  | nil =>
    refine (rnext_own b A c s d q w hs hq hd0 hd1 hk).mono ?_
    rintro e w' ⟨rfl, hk', hg⟩
    exact ⟨rfl, ⟨A, c, hk', h1, h2, fun h => absurd rfl h⟩, hg⟩
  | cons x l =>
    obtain ⟨hne, hlt, o, rfl, hc⟩ := h3 (by simp)
    have hc0 : w.cell? ⟨ga, o, none⟩ = some (.int .u64 x) := hc 0 _ rfl
    simp only [List.length_cons] at hk h1
    by_cases hlast : 1 < c
    · refine (rnext_ahead b ga o l.length c x s d q w (hx x (by simp)) hq hd0 hd1 hk hc0 hne (by simpa using h1) hlast h2).mono ?_
      rintro e w' ⟨rfl, hk', hg⟩
      refine ⟨rfl, ⟨_, c - 1, hk', by simp only [TS.next]; omega, by omega, fun _ => ⟨hne, Nat.lt_of_lt_of_le hlt hg.size, o + 1, rfl, fun j u hu => ?_⟩⟩, hg⟩
      rw [World.cell?_of_block (w := w) (hg.block ga hlt (by simpa using hne)), show o + 1 + j = o + (j + 1) by omega]
      exact hc (j + 1) u (by simpa [nums, TS.next] using hu)
    · have hl : l = [] := List.eq_nil_of_length_eq_zero (by omega)
      subst hl
      have hc1 : c = 1 := by simp at h1; omega
      subst hc1
      refine (rnext_last b ga o x s d q w (hx x (by simp)) hq hd0 hd1 hk hc0 hne).mono ?_
      rintro e w' ⟨rfl, hk', hg⟩
      exact ⟨rfl, ⟨_, 0, hk', Nat.le_refl _, by omega, fun h => absurd rfl h⟩, hg⟩

def RTapeMade (w : World) (T : TS) (e : Ending) (w' : World) : Prop := ∃ b ga, e = .returned (.pointer (some ⟨b, 0, none⟩)) ∧ RTapeIs w' b ga T ∧ w.heap.size ≤ b ∧ w.heap.size ≤ ga ∧ ga < w'.heap.size ∧ w.grownBy w' none
end Go.Proofs.YtphbcfpiklmmeaaGreatDoor

namespace Go.Proofs.YtphbcfpiklmmeaaGreatDoor
open Go.RowKit

/-- A document's tape laid behind its numbers. -/
theorem rmade_of {w w1 : World} {A : Option Addr} {l : List Int} {s d : Int} {c : Nat} (hr : Rd w1 A (nums l)) (h1 : l.length ≤ c) (h2 : c ≤ 9223372036854775807) (h3 : ∀ g o, A = some ⟨g, o, none⟩ → w.heap.size ≤ g ∧ g < w1.heap.size) (hg : w.grownBy w1 none) :
    RTapeMade w ⟨l, s, d⟩ (.returned (.pointer (some ⟨w1.heap.size, 0, none⟩))) (w1.alloc (.cells #[.slice A l.length c, .int .u64 s, .int .i64 d] 41)) := by
  have hb : Bk (w1.alloc (.cells #[.slice A l.length c, .int .u64 s, .int .i64 d] 41)) w1.heap.size 41 #[.slice A l.length c, .int .u64 s, .int .i64 d] := Bk.new w1 _ _
  by_cases h0 : l = []
  · subst h0
    exact ⟨w1.heap.size, w1.heap.size, rfl, ⟨A, c, hb, h1, h2, fun h => absurd rfl h⟩, hg.size, hg.size, by simp, grown_up hg (World.grownBy_alloc w1 _ none) (by simp)⟩
  · have hr2 : Rd (w1.alloc (.cells #[.slice A l.length c, .int .u64 s, .int .i64 d] 41)) A (nums l) := hr.grown (World.grownBy_alloc w1 _ none) (by simp)
    obtain ⟨g, o, e, _, hcell⟩ := hr2 (by simpa [nums] using h0)
    have hlt := h3 g o e
    exact ⟨w1.heap.size, g, rfl, ⟨A, c, hb, h1, h2, fun _ => ⟨by omega, by simp; omega, o, e, hcell⟩⟩, hg.size, hlt.1, by simp; omega, grown_up hg (World.grownBy_alloc w1 _ none) (by simp)⟩
/-- What a copied slice is, told as a slice's parts. -/
theorem cloned_parts {w w0 w1 : World} {l : List Int} {v : Value} {n : Nat} {row : Option Nat} (hn : n = l.length) (hown : w1.ownsRow w.heap.size 22 1 v n (nums l)) (hg0 : w.grownBy w0 none) (hg : w0.grownBy w1 row) (hr : ∀ g, row = some g → w.heap.size ≤ g) :
    ∃ A c, v = .slice A l.length c ∧ Rd w1 A (nums l) ∧ l.length ≤ c ∧ c ≤ 9223372036854775807 ∧ (∀ g o, A = some ⟨g, o, none⟩ → w.heap.size ≤ g ∧ g < w1.heap.size) ∧ w.grownBy w1 none := by
  obtain ⟨A, c, hv, h⟩ := cloned_of hn hown hg0 hg hr
  exact ⟨A, c, by injection hv, h⟩

set_option maxHeartbeats 400000 in
theorem rof_some (x : Addr) (c : Nat) (l : List Int) (s : Int) (w : World) (hr : Rd w (some x) (nums l)) (hn : l.length * 8 ≤ 140737488351232) :
    Calls Tryz.prog 6 #[.slice (some x) l.length c, .int .u64 s] w (RTapeMade w ⟨l, s, 0⟩) := by
  obtain ⟨i0, hi, hz0, hz1, hz2⟩ := info_parts u64_info
  have hown := World.ownsRow_made (base := w.heap.size) (e := 22) (size := 1) w #[] 0 (Nat.le_refl _) (Nat.zero_le _) rfl
  have hr1 : Rd (w.alloc (.cells #[] 22)) (some x) (nums l) := hr.grown (World.grownBy_alloc w _ none) (by simp)
  have hc := hr1.addr
  go_enter Tryz.func6, Tryz.ntmps6
  go_wp2_with (at_builtin; refine wpList_append_own _ rfl (.tmp 5) (.tmp 6) 25 rfl w.heap.size 22 i0 (.int .u64 0) 1 8 Tryz.underlying25 hi hz0 hz1 hz2 rfl (by decide) _ _ _ rfl hown x l.length c (nums l) rfl (by simp [nums]) hc (nums_one l) (by unfold maxLen; omega) (by omega) (by simp) ?_)
  intro v' w1 hown1 hgrow _
  obtain ⟨A, c', rfl, HX⟩ := cloned_parts (by simp) hown1 (World.grownBy_alloc w _ none) hgrow (by simp [Value.ownBlock])
  have HXX := Lib.hid HX
  clear hown1 hgrow hc hr1 hown HX
  go_wp2
  go_ret
  obtain ⟨hr, h1, h2, h3, hg⟩ := HXX.out
  exact rmade_of hr h1 h2 h3 hg

set_option maxHeartbeats 400000 in
theorem rof_none (c : Nat) (s : Int) (w : World) :
    Calls Tryz.prog 6 #[.slice none 0 c, .int .u64 s] w (RTapeMade w ⟨[], s, 0⟩) := by
  go_enter Tryz.func6, Tryz.ntmps6
  go_wp2_with fail
  go_ret
  have h := rmade_of (s := s) (d := 0) (w := w) (w1 := w.alloc (.cells #[] 22)) (A := some ⟨w.heap.size, 0, none⟩) (l := []) (c := 0) (Rd.nil _ _) (Nat.le_refl _) (by omega) (by intro g o e; injection e with e; injection e with e1 e2 e3; subst e1; simp) (World.grownBy_alloc w _ none)
  rw [World.size_alloc] at h
  exact h
theorem rof_made (v : Value) (l : List Int) (s : Int) (w : World) (h : SlIs w v l) (hn : l.length * 8 ≤ 140737488351232) :
    Calls Tryz.prog 6 #[v, .int .u64 s] w (RTapeMade w ⟨l, s, 0⟩) := by
  obtain ⟨A, c, rfl, hr, _, _⟩ := h
  cases A with
  | none =>
    have hl : l = [] := by
      cases l with
      | nil => rfl
      | cons x l => obtain ⟨g, o, e, _⟩ := hr (by simp [nums]); cases e
    subst hl
    exact rof_none c s w
  | some x => exact rof_some x c l s w hr hn

end Go.Proofs.YtphbcfpiklmmeaaGreatDoor

namespace Go.Proofs.YtphbcfpiklmmeaaGreatDoor
open Go Go.RowKit Go.Shelf

set_option maxHeartbeats 1000000 in
theorem rvalue_any (v : Value) (l : List Int) (x q : Int) (X : Nat → Prop) (w : World) (h : Sl encU X w v l) (hx : U64 x) (hq : U64 q) :
    Calls Tryz.prog 37 #[v, .int .u64 x, .int .u64 q] w fun e w' => e = .returned (.int .u64 (evalI q l x)) ∧ w.grownBy w' none := by
  have H := Lib.hid h
  have HX := Lib.hid hx
  have HQ := Lib.hid hq
  have HV := Lib.hid (valR_eval q x l)
  have H1 : Hid (U64 1) := Lib.hid ⟨by decide, by decide⟩
  obtain ⟨A, c, rfl, hc1, hc2⟩ := h.form
  obtain ⟨n, hn⟩ : ∃ n, n = l.length := ⟨_, rfl⟩
  have HN := Lib.hid hn
  rw [← hn] at hc1 ⊢
  clear h hx hq hn
  go_enter Tryz.func37, Tryz.ntmps37
  go_wp2_with fail
  refine (refmul_any 1 1 q _ H1.out H1.out HQ.out).mono ?_
  rintro e w1 ⟨rfl, n1, rfl⟩
  have HS : Hid (U64 0 ∧ U64 (mulI 1 1 q) ∧ w.grownBy (w.drewN n1) none ∧ valR q x (l.drop 0) 0 (mulI 1 1 q) = evalI q l x) := Lib.hid ⟨⟨by decide, by decide⟩, mulI_U64 _ _ _, grown_drewN' w n1, HV.out⟩
  go_wp2_with fail
  go_loopg [7, 8, 9] n (fun g s7 s8 s9 wx => ∃ (j : Nat) (s e : Int), j + g = n ∧ s9 = .int .i64 j ∧ s7 = .int .u64 s ∧ s8 = .int .u64 e ∧ Hid (U64 s ∧ U64 e ∧ w.grownBy wx none ∧ valR q x (l.drop j) s e = evalI q l x))
  case atStart => exact ⟨0, _, _, by omega, rfl, rfl, rfl, HS⟩
  case round =>
    obtain ⟨j, s, e, hj, rfl, rfl, rfl, HR⟩ := hrel
    cases gk with
    | zero =>
      obtain rfl : j = n := by omega
      have HE : Hid (s = evalI q l x) := Lib.hid (by have := HR.out.2.2.2; rwa [HN.out, List.drop_length] at this)
      have HG := Lib.hid HR.out.2.2.1
      clear HR HS
      go_wp2
      go_ret
      exact ⟨ret_u64 HE.out, HG.out⟩
    | succ m =>
      have hjn : (j : Int) < (n : Int) := by omega
      have hjN : j < l.length := by rw [← HN.out]; omega
      obtain ⟨g, of, c', e', _, _, hcu, hu⟩ := (H.out.kept HR.out.2.2.1).atU hjN
      injection e' with e1 e2 e3
      subst e1 e3
      have HSU := Lib.hid HR.out.1
      have HEU := Lib.hid HR.out.2.1
      have HG := Lib.hid HR.out.2.2.1
      have HY := Lib.hid hu
      have HST : Hid (valR q x (l.drop (j + 1)) (addI s (mulI l[j] e q) q) (mulI e x q) = evalI q l x) := Lib.hid (by
        have h := HR.out.2.2.2
        rw [List.drop_eq_getElem_cons hjN] at h
        exact h)
      clear hu HR HS e2
      obtain ⟨y, hy⟩ : ∃ y, y = l[j] := ⟨_, rfl⟩
      rw [← hy] at hcu HY HST
      clear hy
      go_wp2_with fail
      refine (refmul_any y e q _ HY.out HEU.out HQ.out).mono ?_
      rintro e1 w2 ⟨rfl, n2, rfl⟩
      go_wp2_with fail
      refine (refadd_any s (mulI y e q) q _ HSU.out (mulI_U64 _ _ _) HQ.out).mono ?_
      rintro e2 w3 ⟨rfl, n3, rfl⟩
      go_wp2_with fail
      refine (refmul_any e x q _ HEU.out HX.out HQ.out).mono ?_
      rintro e4 w4 ⟨rfl, n4, rfl⟩
      have HFIN : Hid (U64 (addI s (mulI y e q) q) ∧ U64 (mulI e x q) ∧ w.grownBy (wr.drewN (n2 + n3 + n4)) none ∧ valR q x (l.drop (j + 1)) (addI s (mulI y e q) q) (mulI e x q) = evalI q l x) := Lib.hid ⟨addI_U64 _ _ _, mulI_U64 _ _ _, grownBy_drewN HG.out _, HST.out⟩
      go_wp2
      go_roundg m
      case measure => omega
      case rel => exact ⟨j + 1, _, _, by omega, by go_num, rfl, rfl, HFIN⟩
/-- The document's tape to which pa points (nobody's: none), as Tp tells the program's. -/
structure RTp (pa : Option Addr) (g : Nat) (q : Int) (dr : Nat → Int) (TI : Nat → World → Prop) (bl : Nat → Prop) (most : Nat) : Prop where
  own : bl g
  old : ∀ {k w b}, TI k w → bl b → b < w.heap.size
  val : ∀ k, U64 (dr k)
  keep : ∀ {k w w'} {row : Option Nat}, TI k w → w.grownBy w' row → (∀ b, row = some b → ¬ bl b) → TI k w'
  next : ∀ {k w} (a : Addr), pa = some a → k < most → TI k w → Calls Tryz.prog 93 #[.pointer pa, .int .u64 q] w fun e w' => e = .returned (.int .u64 (dr k)) ∧ TI (k + 1) w' ∧ w.grownBy w' (some g)
  nobody : pa = none → ∀ k, dr k = 0 ∧ ∀ w, TI k w → TI (k + 1) w
/-- n draws, the first of them the k-th. -/
def drL (dr : Nat → Int) (n k : Nat) : List Int := (List.range n).map fun j => dr (k + j)
theorem drL_succ (dr : Nat → Int) (n k : Nat) : drL dr (n + 1) k = drL dr n k ++ [dr (k + n)] := by simp [drL, List.range_succ]
theorem drL_len (dr : Nat → Int) (n k : Nat) : (drL dr n k).length = n := by simp [drL]
set_option maxHeartbeats 1000000 in
theorem rdraw_any {pa : Option Addr} {g : Nat} {q : Int} {dr : Nat → Int} {TI : Nat → World → Prop} {bl : Nat → Prop} {most : Nat} (hT : RTp pa g q dr TI bl most) (n k : Nat) (w : World) (hn : n ≤ 1000) (hk : k + n ≤ most) (hI : TI k w) :
    Calls Tryz.prog 36 #[.pointer pa, .int .i64 n, .int .u64 q] w fun e w' => ∃ v, e = .returned v ∧ Sl encU (fun b => w.heap.size ≤ b) w' v (drL dr n k) ∧ TI (k + n) w' ∧ w.grownBy w' (some g) := by
  have HT := Lib.hid hT
  have HGW : Hid (g < w.heap.size) := Lib.hid (hT.old hI hT.own)
  have HOB : Hid (∀ b, bl b → b < w.heap.size) := Lib.hid (fun b hb => hT.old hI hb)
  have HI := Lib.hid hI
  clear hT hI
  go_enter Tryz.func36, Tryz.ntmps36
  go_wp2_with fail
  go_loopg [7, 8] n (fun gk s7 s8 wx => ∃ j : Nat, j + gk = n ∧ s8 = .int .i64 j ∧ Hid (Acc encU w.heap.size 22 (fun b => w.heap.size ≤ b) wx s7 (drL dr j k) ∧ TI (k + j) wx ∧ w.grownBy wx (some g)))
  case atStart => exact ⟨0, by omega, rfl, Lib.hid ⟨Acc.nil _ _ _ _ _, HI.out, World.grownBy.refl _ _⟩⟩
  case round =>
    obtain ⟨j, hj, rfl, HX⟩ := hrel
    cases gk with
    | zero =>
      obtain rfl : j = n := by omega
      have HR : Hid (Sl encU (fun b => w.heap.size ≤ b) wr u7 (drL dr j k) ∧ TI (k + j) wr ∧ w.grownBy wr (some g)) := Lib.hid ⟨HX.out.1.sl, HX.out.2⟩
      have hno : ¬ ((j : Int) < (j : Int)) := by omega
      clear HX
      go_wp2
      go_ret
      exact ⟨_, rfl, HR.out⟩
    | succ m =>
      have hjn : (j : Int) < (n : Int) := by omega
      have HLB : Hid (((drL dr j k).length + 1) * 8 ≤ 140737488355328) := Lib.hid (by rw [drL_len]; omega)
      have HSN := Lib.hid (drL_succ dr j k)
      have HV := Lib.hid (HT.out.val (k + j))
      cases pa with
      | none =>
        have HNB := Lib.hid (HT.out.nobody rfl (k + j))
        have HA2 := Lib.hid HX.out.1
        have HI2 : Hid (TI (k + (j + 1)) wr) := Lib.hid (HNB.out.2 _ HX.out.2.1)
        have HG2 := Lib.hid HX.out.2.2
        have HSZ : Hid (w.heap.size ≤ wr.heap.size) := Lib.hid HG2.out.size
        clear HX
        rw [HNB.out.1] at HSN HV
        go_wp2_with (at_builtin; refine wpList_push rfl (.tmp 20) (.tmp 22) rfl (E := encU) (y := 0) el_u64 HA2.out rfl rfl ⟨rfl, HV.out⟩ HLB.out HSZ.out (fun _ h => Nat.le_trans HSZ.out h) ?_)
        intro v9 w3 ha hg hm
        have HFIN : Hid (Acc encU w.heap.size 22 (fun b => w.heap.size ≤ b) w3 v9 (drL dr (j + 1) k) ∧ TI (k + (j + 1)) w3 ∧ w.grownBy w3 (some g)) := Lib.hid ⟨by rw [HSN.out]; exact ha, HT.out.keep HI2.out hg (fun b e hb => by have := (HA2.out.lt b e).1; have := HOB.out b hb; omega), HG2.out.andThen hg (fun b e => .inl (HA2.out.lt b e).1)⟩
        clear ha hg hm
        go_wp2_with fail
        go_roundg m
        case measure => omega
        case rel => exact ⟨j + 1, by omega, by go_num, HFIN⟩
      | some a =>
        have HC := Lib.hid (HT.out.next a rfl (by omega) HX.out.2.1)
        have HA := Lib.hid HX.out.1
        have HG := Lib.hid HX.out.2.2
        obtain ⟨y, hy⟩ : ∃ y, y = dr (k + j) := ⟨_, rfl⟩
        rw [← hy] at HC HV HSN
        clear HX hy
        go_wp2_with fail
        refine HC.out.mono ?_
        rintro e w2 ⟨rfl, hi2, hg2⟩
        have HA2 := Lib.hid (HA.out.keep hg2 (fun b hb e => by injection e with e; have := HGW.out; omega))
        have HI2 : Hid (TI (k + (j + 1)) w2) := Lib.hid hi2
        have HG2 : Hid (w.grownBy w2 (some g)) := Lib.hid (HG.out.trans hg2)
        have HSZ : Hid (w.heap.size ≤ w2.heap.size) := Lib.hid HG2.out.size
        clear hi2 hg2
        go_wp2_with (at_builtin; refine wpList_push rfl (.tmp 20) (.tmp 22) rfl (E := encU) (y := y) el_u64 HA2.out rfl rfl ⟨rfl, HV.out⟩ HLB.out HSZ.out (fun _ h => Nat.le_trans HSZ.out h) ?_)
        intro v9 w3 ha hg hm
        have HFIN : Hid (Acc encU w.heap.size 22 (fun b => w.heap.size ≤ b) w3 v9 (drL dr (j + 1) k) ∧ TI (k + (j + 1)) w3 ∧ w.grownBy w3 (some g)) := Lib.hid ⟨by rw [HSN.out]; exact ha, HT.out.keep HI2.out hg (fun b e hb => by have := (HA2.out.lt b e).1; have := HOB.out b hb; omega), HG2.out.andThen hg (fun b e => .inl (HA2.out.lt b e).1)⟩
        clear ha hg hm
        go_wp2_with fail
        go_roundg m
        case measure => omega
        case rel => exact ⟨j + 1, by omega, by go_num, HFIN⟩
/-- A list made since N; a slice of one such list, just built. -/
def slF {α : Type} (E : Enc α) (N : Nat) (y : List α) : Pv := ⟨fun v W => Sl E (fun g => N ≤ g) W v y, fun h hg => h.kept hg⟩
def blkF {α : Type} (E : Enc α) (t : TypeId) (N : Nat) (y : List α) : Pv := ⟨fun v W => ∃ A n c b, v = .slice (some ⟨b, 0, none⟩) 1 1 ∧ Bk W b t #[.slice A n c] ∧ Sl E (fun g => N ≤ g) W (.slice A n c) y, fun ⟨A, n, c, b, e, h1, h2⟩ hg => ⟨A, n, c, b, e, h1.grown hg (by simp), h2.kept hg⟩⟩
theorem blkF_out {α : Type} {E : Enc α} {t : TypeId} {N : Nat} {y : List α} {v : Value} {W : World} (h : (blkF E t N y).p v W) : ∃ A n c b, v = .slice (some ⟨b, 0, none⟩) 1 1 ∧ Bk W b t #[.slice A n c] ∧ Sl E (fun g => N ≤ g) W (.slice A n c) y := h
theorem zipP_succ (a b : List Int) (j : Nat) (ha : j < a.length) (hb : j < b.length) : zipP a b (j + 1) = zipP a b j ++ [(a[j], b[j])] := by
  simp [zipP, List.range_succ, ha, hb]
set_option maxRecDepth 100000 in
set_option maxHeartbeats 1000000 in
theorem rpairs_any (v1 v2 : Value) (a b : List Int) (n : Nat) (X Y : Nat → Prop) (w : World) (h1 : Sl encU X w v1 a) (h2 : Sl encU Y w v2 b) (ha : a.length = n) (hb : b.length = n) (hn : n ≤ 1000) :
    Calls Tryz.prog 46 #[v1, v2] w (Gives encP (fun b => w.heap.size ≤ b) w (zipP a b n)) := by
  have H1 := Lib.hid h1
  have H2 := Lib.hid h2
  obtain ⟨A1, c1, rfl, k1, l1⟩ := h1.form
  obtain ⟨A2, c2, rfl, k2, l2⟩ := h2.form
  have HLA := Lib.hid ha
  have HLB := Lib.hid hb
  rw [ha] at k1 ⊢
  rw [hb] at k2 ⊢
  clear h1 h2 ha hb
  go_enter Tryz.func46, Tryz.ntmps46
  go_wp2_with fail
  go_loopg [5, 6] n (fun gk s5 s6 wx => ∃ j : Nat, j + gk = n ∧ s6 = .int .i64 j ∧ Hid (Acc encP w.heap.size 58 (fun b => w.heap.size ≤ b) wx s5 (zipP a b j) ∧ w.grownBy wx none))
  case atStart => exact ⟨0, by omega, rfl, Lib.hid ⟨Acc.nil _ _ _ _ _, World.grownBy.refl _ _⟩⟩
  case round =>
    obtain ⟨j, hj, rfl, HX⟩ := hrel
    cases gk with
    | zero =>
      obtain rfl : j = n := by omega
      have HR : Hid (Sl encP (fun b => w.heap.size ≤ b) wr u5 (zipP a b j) ∧ w.grownBy wr none) := Lib.hid ⟨HX.out.1.sl, HX.out.2⟩
      have hno : ¬ ((j : Int) < (j : Int)) := by omega
      clear HX
      go_wp2
      go_ret
      exact ⟨_, rfl, HR.out⟩
    | succ m =>
      have hjn : (j : Int) < (n : Int) := by omega
      have hj0 : (0 : Int) ≤ (j : Int) := Int.natCast_nonneg j
      have hja : j < a.length := by rw [HLA.out]; omega
      have hjb : j < b.length := by rw [HLB.out]; omega
      obtain ⟨g1, o1, c1', e1, _, _, hc1, hu1⟩ := (H1.out.kept HX.out.2).atU hja
      obtain ⟨g2, o2, c2', e2, _, _, hc2, hu2⟩ := (H2.out.kept HX.out.2).atU hjb
      injection e1 with e11 e12 e13
      injection e2 with e21 e22 e23
      subst e11 e13 e21 e23
      have HSN := Lib.hid (zipP_succ a b j hja hjb)
      have HA := Lib.hid HX.out.1
      obtain ⟨A5, n5, c5, rfl⟩ := HX.out.1.sl.shape
      have HG := Lib.hid HX.out.2
      have HU := Lib.hid (And.intro hu1 hu2)
      have HLN : Hid (((zipP a b j).length + [(a[j], b[j])].length) * 16 ≤ 140737488355328) := Lib.hid (by simp [zipP]; omega)
      obtain ⟨x, hx⟩ : ∃ y, y = a[j] := ⟨_, rfl⟩
      obtain ⟨y, hy⟩ : ∃ y, y = b[j] := ⟨_, rfl⟩
      rw [← hx, ← hy] at HSN HU HLN
      rw [← hx] at hc1
      rw [← hy] at hc2
      have HLD : Hid (∀ W, wr.drew.grownBy W none → W.cell? ⟨g1, o1 + j, none⟩ = some (.int .u64 x) ∧ W.cell? ⟨g2, o2 + j, none⟩ = some (.int .u64 y)) := Lib.hid (fun W hW => ⟨cellK hc1 ((grown_drewN' wr 1).trans hW) (by simp), cellK hc2 ((grown_drewN' wr 1).trans hW) (by simp)⟩)
      have HAw := Lib.hid (HA.out.kept (grown_drewN' wr 1))
      have HGw : Hid (w.grownBy wr.drew none) := Lib.hid (HG.out.trans (grown_drewN' wr 1))
      clear hu1 hu2 e12 e22 HX hx hy hja hjb hc1 hc2
      go_upto_region 5 with (fail)
      refine wp_region_mono 11 (by kernel_rfl) (by kernel_rfl) ?_
      -- op 0 (slot 13): move
      refine MonoR.step (Pv.eq (.slice A5 n5 c5)) [] (by kernel_rfl) (fun w' hw' => ?_) ?_
      · refine ask_do rfl fun K hK => ?_
        go_simp
        exact hK _ _ rfl rfl (World.grownBy.refl _ none)
      -- op 1 (slot 14): move
      refine MonoR.step (Pv.eq (.slice (some ⟨g1, o1, none⟩) n c1)) [] (by kernel_rfl) (fun w' hw' => ?_) ?_
      · refine ask_do rfl fun K hK => ?_
        go_simp
        exact hK _ _ rfl rfl (World.grownBy.refl _ none)
      -- op 2 (slot 15): move
      refine MonoR.step (Pv.eq (.int .i64 (j : Int))) [] (by kernel_rfl) (fun w' hw' => ?_) ?_
      · refine ask_do rfl fun K hK => ?_
        go_simp
        exact hK _ _ rfl rfl (World.grownBy.refl _ none)
      -- op 3 (slot 16): indexAddr
      refine MonoR.step (Pv.eq (.pointer (some ⟨g1, o1 + j, none⟩))) [(1, 14), (2, 15)] (by kernel_rfl) (fun w' hw' => ?_) ?_
      · intro x14 h14
        intro x15 h15
        have e14 : x14 = .slice (some ⟨g1, o1, none⟩) n c1 := h14
        clear h14
        subst e14
        have e15 : x15 = .int .i64 (j : Int) := h15
        clear h15
        subst e15
        refine ask_do rfl fun K hK => ?_
        go_simp
        exact hK _ _ rfl rfl (World.grownBy.refl _ none)
      -- op 4 (slot 17): load
      refine MonoR.step (Pv.eq (.int .u64 x)) [(3, 16)] (by kernel_rfl) (fun w' hw' => ?_) ?_
      · intro x16 h16
        have e16 : x16 = .pointer (some ⟨g1, o1 + j, none⟩) := h16
        clear h16
        subst e16
        refine ask_do rfl fun K hK => ?_
        obtain ⟨q0, q1⟩ := HLD.out w' hw'
        go_simp
        exact hK _ _ rfl rfl (World.grownBy.refl _ none)
      -- op 5 (slot 18): move
      refine MonoR.step (Pv.eq (.slice (some ⟨g2, o2, none⟩) n c2)) [] (by kernel_rfl) (fun w' hw' => ?_) ?_
      · refine ask_do rfl fun K hK => ?_
        go_simp
        exact hK _ _ rfl rfl (World.grownBy.refl _ none)
      -- op 6 (slot 19): move
      refine MonoR.step (Pv.eq (.int .i64 (j : Int))) [] (by kernel_rfl) (fun w' hw' => ?_) ?_
      · refine ask_do rfl fun K hK => ?_
        go_simp
        exact hK _ _ rfl rfl (World.grownBy.refl _ none)
      -- op 7 (slot 20): indexAddr
      refine MonoR.step (Pv.eq (.pointer (some ⟨g2, o2 + j, none⟩))) [(5, 18), (6, 19)] (by kernel_rfl) (fun w' hw' => ?_) ?_
      · intro x18 h18
        intro x19 h19
        have e18 : x18 = .slice (some ⟨g2, o2, none⟩) n c2 := h18
        clear h18
        subst e18
        have e19 : x19 = .int .i64 (j : Int) := h19
        clear h19
        subst e19
        refine ask_do rfl fun K hK => ?_
        go_simp
        exact hK _ _ rfl rfl (World.grownBy.refl _ none)
      -- op 8 (slot 21): load
      refine MonoR.step (Pv.eq (.int .u64 y)) [(7, 20)] (by kernel_rfl) (fun w' hw' => ?_) ?_
      · intro x20 h20
        have e20 : x20 = .pointer (some ⟨g2, o2 + j, none⟩) := h20
        clear h20
        subst e20
        refine ask_do rfl fun K hK => ?_
        obtain ⟨q0, q1⟩ := HLD.out w' hw'
        go_simp
        exact hK _ _ rfl rfl (World.grownBy.refl _ none)
      -- op 9 (slot 22): build
      refine MonoR.step (Pv.eq (.agg #[.int .u64 x, .int .u64 y])) [(4, 17), (8, 21)] (by kernel_rfl) (fun w' hw' => ?_) ?_
      · intro x17 h17
        intro x21 h21
        have e17 : x17 = .int .u64 x := h17
        clear h17
        subst e17
        have e21 : x21 = .int .u64 y := h21
        clear h21
        subst e21
        refine ask_do rfl fun K hK => ?_
        go_simp
        exact hK _ _ rfl rfl (World.grownBy.refl _ none)
      -- op 10 (slot 23): buildSlice
      refine MonoR.step (Pv.sl (encP) TT [(x, y)]) [(9, 22)] (by kernel_rfl) (fun w' hw' => ?_) ?_
      · intro x22 h22
        have e22 : x22 = .agg #[.int .u64 x, .int .u64 y] := h22
        clear h22
        subst e22
        refine ask_do rfl fun K hK => ?_
        go_simp
        exact hK _ _ rfl (Sl.build [[.int .u64 x, .int .u64 y]] rfl ⟨⟨rfl, HU.out⟩, trivial⟩ rfl (by decide)) (World.grownBy_alloc w' _ none)
      
      intro w5 hw5
      intro y0 k0 y1 k1 y2 k2 y3 k3 y4 k4 y5 k5 y6 k6 y7 k7 y8 k8 y9 k9 y10 h10
      simp only [Act.put, List.setIfInBounds_toArray, List.set_cons_zero, List.set_cons_succ]
      have e0 : y0 = .slice A5 n5 c5 := k0
      subst e0
      obtain ⟨A10, c10, e10, _, _⟩ := h10.form
      have e10 : y10 = .slice A10 1 c10 := e10
      subst e10
      have HA5 := Lib.hid (HAw.out.kept hw5)
      have HG5 := Lib.hid (HGw.out.trans hw5)
      have HS10 : Hid (Sl encP TT w5 (.slice A10 1 c10) [(x, y)]) := Lib.hid h10
      clear k0 k1 k2 k3 k4 k5 k6 k7 k8 k9 h10 hw5
      refine wpList_apps rfl (.tmp 13) (.tmp 23) rfl (E := encP) el_pair HA5.out rfl rfl HS10.out (fun _ _ h => h) HLN.out HG5.out.size (fun g hg => Nat.le_trans HG5.out.size hg) ?_
      intro v6 w6 ha hgr _
      have HFIN : Hid (Acc encP w.heap.size 58 (fun b => w.heap.size ≤ b) w6 v6 (zipP a b (j + 1)) ∧ w.grownBy w6 none) := Lib.hid ⟨by rw [HSN.out]; exact ha, grown_up HG5.out hgr (fun g he => (HA5.out.lt g he).1)⟩
      clear ha hgr
      go_wp2_with fail
      go_roundg m
      case measure => omega
      case rel => exact ⟨j + 1, by omega, by go_num, HFIN⟩
end Go.Proofs.YtphbcfpiklmmeaaGreatDoor

namespace Go.Proofs.YtphbcfpiklmmeaaGreatDoor
open Go Go.RowKit Go.Shelf

/-- Where the worlds stand while draws are made, and put behind a number. -/
def twoLt (wi : World) (g : Nat) (TI : Nat → World → Prop) (hTI : ∀ k w w', TI k w → w.grownBy w' none → TI k w') (k n : Nat) (z : Int) (ds : List Int) : Lt where
  C vs W := match vs with
    | [] => wi.grownBy W none ∧ TI k W
    | [u] => wi.grownBy W (some g) ∧ TI (k + n) W ∧ Sl encU (fun b => wi.heap.size ≤ b) W u ds
    | [_, u] => wi.grownBy W (some g) ∧ TI (k + n) W ∧ Sl encU (fun b => wi.heap.size ≤ b) W u (z :: ds)
    | _ => False
  R q w w' := q = 0 → w.grownBy w' (some g)
  g := fun {vs w w'} h hg => by
    match vs, h with
    | [], h => exact ⟨h.1.trans hg, hTI _ _ _ h.2 hg⟩
    | [u], h => exact ⟨h.1.trans (hg.but _), hTI _ _ _ h.2.1 hg, h.2.2.kept hg⟩
    | [_, u], h => exact ⟨h.1.trans (hg.but _), hTI _ _ _ h.2.1 hg, h.2.2.kept hg⟩
theorem twoLt_grown {wi : World} {g : Nat} {TI : Nat → World → Prop} {hTI : ∀ k w w', TI k w → w.grownBy w' none → TI k w'} {k n : Nat} {z : Int} {ds : List Int} {vs : List Value} {W : World} (h : (twoLt wi g TI hTI k n z ds).C vs W) : wi.grownBy W (some g) := by
  match vs, h with
  | [], h => exact h.1.but _
  | [u], h => exact h.1
  | [_, u], h => exact h.1
/-- The slice of one number that was built ahead. -/
def twoQ {wi : World} {g : Nat} {TI : Nat → World → Prop} {hTI : ∀ k w w', TI k w → w.grownBy w' none → TI k w'} {k n : Nat} {z : Int} {ds : List Int} (hg : g < wi.heap.size) : Qv (twoLt wi g TI hTI k n z ds) where
  p vs v W := vs.length ≤ 1 → Acc encU wi.heap.size 22 (fun b => wi.heap.size ≤ b) W v [z]
  fr := 0
  st := fun h hg e => (h e).kept hg
  sr := fun {vs u v w w'} _ _ hR h e => by
    have e2 : vs.length = 0 := by
      rw [List.length_append, List.length_singleton] at e
      omega
    exact (h (by omega)).keep (hR e2) (fun b hb e => by injection e with e; omega)
theorem chk_snoc {α : Type} (n k : Nat) (l : List α) : chk n l (k + 1) = chk n l k ++ [(l.drop (k * n)).take n] := by simp [chk, List.range_succ]
set_option maxRecDepth 100000 in
set_option maxHeartbeats 4000000 in
theorem rtwo2_any {pa : Option Addr} {g : Nat} {dr : Nat → Int} {TI : Nat → World → Prop} {bl : Nat → Prop} {most : Nat} (p : Par) (hT : RTp pa g p.Q dr TI bl most) (x : Int) (k : Nat) (w : World) (hx : U64 x) (hq : U64 p.Q) (hq0 : 0 < p.Q) (ht : p.T = 1) (hk : k + 3 ≤ most) (hI : TI k w) :
    Calls Tryz.prog 44 #[p.v, .int .u64 x, .pointer pa] w fun e w' => ∃ v, e = .returned v ∧ Sl (encS encU) (fun b => w.heap.size ≤ b) w' v (chk 2 (behI x p.Q dr 3 k) 2) ∧ TI (k + 3) w' ∧ w.grownBy w' (some g) := by
  obtain ⟨w0, hw0⟩ : ∃ y, y = w.alloc (Obj.cells p.cells 24) := ⟨_, rfl⟩
  have HG0 : Hid (w.grownBy w0 none) := Lib.hid (by rw [hw0]; exact World.grownBy_alloc w _ none)
  have HB0 : Hid (Bk w0 w.heap.size 24 p.cells) := Lib.hid (by rw [hw0]; exact Bk.new w _ _)
  have HI0 : Hid (TI k w0) := Lib.hid (hT.keep hI HG0.out (by simp))
  have HDR := Lib.hid (fun (W : World) (hi : TI k W) => rdraw_any hT 3 k W (by decide) hk hi)
  have HT := Lib.hid hT
  have HOB : Hid (∀ b, bl b → b < w0.heap.size) := Lib.hid (fun b hb => hT.old HI0.out hb)
  have HGW : Hid (g < w.heap.size) := Lib.hid (hT.old hI hT.own)
  have HGW0 : Hid (g < w0.heap.size) := Lib.hid (hT.old HI0.out hT.own)
  obtain ⟨q0, q1⟩ := hq
  obtain ⟨x0, x1⟩ := hx
  have hqz : (p.Q == 0) = false := by simp; omega
  have hqz2 : ¬ p.Q = 0 := by omega
  have hmod : Int.tmod x p.Q = x % p.Q := Int.tmod_eq_emod_of_nonneg x0
  obtain ⟨z, hz⟩ : ∃ y, y = x % p.Q := ⟨_, rfl⟩
  have HZ : Hid (U64 z) := Lib.hid (by rw [hz]; exact ⟨Int.emod_nonneg _ (by omega), Int.lt_trans (Int.emod_lt_of_pos _ hq0) (by omega)⟩)
  have hzw : IntKind.u64.wrap z = z := IntWalk.u64_in _ (by have := HZ.out; obtain ⟨a, b⟩ := this; omega)
  have HBE : Hid (behI x p.Q dr 3 k = z :: drL dr 3 k) := Lib.hid (by rw [hz]; rfl)
  have HLL : Hid ((behI x p.Q dr 3 k).length = 4) := Lib.hid (behI_len _ _ _ _ _)
  obtain ⟨l, hl⟩ : ∃ y, y = behI x p.Q dr 3 k := ⟨_, rfl⟩
  rw [← hl] at HBE HLL ⊢
  have HP1 : Hid (∀ W, w0.grownBy W (some g) → W.cell? ⟨w.heap.size, 1, none⟩ = some (.int .u64 p.Q) ∧ W.cell? ⟨w.heap.size, 6, none⟩ = some (.int .i64 1)) := Lib.hid (fun W hW => by
    have h := (HB0.out.grown hW (fun e => by injection e with e; have := HGW.out; omega)).cell
    exact ⟨h 1, by rw [h 6, ← ht]; rfl⟩)
  rw [← hz] at hmod
  have HTI : Hid (∀ k w w', TI k w → w.grownBy w' none → TI k w') := Lib.hid (fun k w w' h hg => hT.keep h hg (by simp))
  clear hT hI hz hl ht hk
  go_enter Tryz.func44, Tryz.ntmps44
  go_wp2_with fail
  rw [← hw0]
  clear hw0
  have HGd : Hid (w0.grownBy w0.drew none) := Lib.hid (grown_drewN' w0 1)
  have HIB : Hid (TI k w0.drew ∧ g < w0.drew.heap.size ∧ w0.drew.heap.size = w0.heap.size) := Lib.hid ⟨HTI.out _ _ _ HI0.out HGd.out, HGW0.out, rfl⟩
  have HLD : Hid (∀ vs W, (twoLt w0.drew g TI HTI.out k 3 z (drL dr 3 k)).C vs W → W.cell? ⟨w.heap.size, 1, none⟩ = some (.int .u64 p.Q) ∧ W.cell? ⟨w.heap.size, 6, none⟩ = some (.int .i64 1)) := Lib.hid (fun vs W hC => HP1.out W ((HGd.out.but _).trans (twoLt_grown hC)))
  have HSZ : Hid (∀ vs W, (twoLt w0.drew g TI HTI.out k 3 z (drL dr 3 k)).C vs W → w0.drew.heap.size ≤ W.heap.size) := Lib.hid (fun vs W hC => (twoLt_grown hC).size)
  go_upto_region 1 with (fail)
  refine wp_region_late (twoLt w0.drew g TI HTI.out k 3 z (drL dr 3 k)) [16, 17] 18 (by kernel_rfl) (by kernel_rfl) (by kernel_rfl) ⟨World.grownBy.refl _ none, HIB.out.1⟩ ?_
  -- op 0 (slot 10): move
  refine LateR.mono (Qv.eq (.int .u64 x)) [] (by kernel_rfl) (by rfl) rfl (fun vs w' hC => ?_) ?_
  · refine askl_do rfl fun K hK => ?_
    go_simp
    exact hK _ _ rfl ⟨rfl, World.grownBy.refl _ none⟩
  -- op 1 (slot 11): fieldAddr
  refine LateR.mono (Qv.eq (.pointer (some ⟨w.heap.size, 1, none⟩))) [] (by kernel_rfl) (by rfl) rfl (fun vs w' hC => ?_) ?_
  · refine askl_do rfl fun K hK => ?_
    go_simp
    exact hK _ _ rfl ⟨rfl, World.grownBy.refl _ none⟩
  -- op 2 (slot 12): load
  refine LateR.mono (Qv.eq (.int .u64 p.Q)) [(1, 11)] (by kernel_rfl) (by rfl) rfl (fun vs w' hC => ?_) ?_
  · intro x11 h11
    have e11 : x11 = .pointer (some ⟨w.heap.size, 1, none⟩) := h11
    clear h11
    subst e11
    refine askl_do rfl fun K hK => ?_
    obtain ⟨q0, q1⟩ := HLD.out vs w' hC
    go_simp
    exact hK _ _ rfl ⟨rfl, World.grownBy.refl _ none⟩
  -- op 3 (slot 13): binOp
  refine LateR.mono (Qv.eq (.int .u64 z)) [(0, 10), (2, 12)] (by kernel_rfl) (by rfl) rfl (fun vs w' hC => ?_) ?_
  · intro x10 h10
    intro x12 h12
    have e10 : x10 = .int .u64 x := h10
    clear h10
    subst e10
    have e12 : x12 = .int .u64 p.Q := h12
    clear h12
    subst e12
    refine askl_do rfl fun K hK => ?_
    go_simp
    exact hK _ _ rfl ⟨rfl, World.grownBy.refl _ none⟩
  -- op 4 (slot 14): buildSlice
  refine LateR.mono (twoQ HIB.out.2.1) [(3, 13)] (by kernel_rfl) (by rfl) rfl (fun vs w' hC => ?_) ?_
  · intro x13 h13
    have e13 : x13 = .int .u64 z := h13
    clear h13
    subst e13
    refine askl_do rfl fun K hK => ?_
    have hsz := HSZ.out vs w' hC
    go_simp
    exact hK _ _ rfl ⟨fun _ => Acc.made1 w' _ hsz _ hsz z HZ.out, World.grownBy_alloc w' _ none⟩
  -- op 5 (slot 15): move
  refine LateR.mono (Qv.eq (.pointer pa)) [] (by kernel_rfl) (by rfl) rfl (fun vs w' hC => ?_) ?_
  · refine askl_do rfl fun K hK => ?_
    go_simp
    exact hK _ _ rfl ⟨rfl, World.grownBy.refl _ none⟩
  -- op 6 (slot 16): fieldAddr
  refine LateR.mono (Qv.eq (.pointer (some ⟨w.heap.size, 6, none⟩))) [] (by kernel_rfl) (by rfl) rfl (fun vs w' hC => ?_) ?_
  · refine askl_do rfl fun K hK => ?_
    go_simp
    exact hK _ _ rfl ⟨rfl, World.grownBy.refl _ none⟩
  -- op 7 (slot 17): load
  refine LateR.mono (Qv.eq (.int .i64 1)) [(6, 16)] (by kernel_rfl) (by rfl) rfl (fun vs w' hC => ?_) ?_
  · intro x16 h16
    have e16 : x16 = .pointer (some ⟨w.heap.size, 6, none⟩) := h16
    clear h16
    subst e16
    refine askl_do rfl fun K hK => ?_
    obtain ⟨q0, q1⟩ := HLD.out vs w' hC
    go_simp
    exact hK _ _ rfl ⟨rfl, World.grownBy.refl _ none⟩
  -- op 8 (slot 18): binOp
  refine LateR.mono (Qv.eq (.int .i64 2)) [(7, 17)] (by kernel_rfl) (by rfl) rfl (fun vs w' hC => ?_) ?_
  · intro x17 h17
    have e17 : x17 = .int .i64 1 := h17
    clear h17
    subst e17
    refine askl_do rfl fun K hK => ?_
    go_simp
    exact hK _ _ rfl ⟨rfl, World.grownBy.refl _ none⟩
  -- op 9 (slot 19): fieldAddr
  refine LateR.mono (Qv.eq (.pointer (some ⟨w.heap.size, 6, none⟩))) [] (by kernel_rfl) (by rfl) rfl (fun vs w' hC => ?_) ?_
  · refine askl_do rfl fun K hK => ?_
    go_simp
    exact hK _ _ rfl ⟨rfl, World.grownBy.refl _ none⟩
  -- op 10 (slot 20): load
  refine LateR.mono (Qv.eq (.int .i64 1)) [(9, 19)] (by kernel_rfl) (by rfl) rfl (fun vs w' hC => ?_) ?_
  · intro x19 h19
    have e19 : x19 = .pointer (some ⟨w.heap.size, 6, none⟩) := h19
    clear h19
    subst e19
    refine askl_do rfl fun K hK => ?_
    obtain ⟨q0, q1⟩ := HLD.out vs w' hC
    go_simp
    exact hK _ _ rfl ⟨rfl, World.grownBy.refl _ none⟩
  -- op 11 (slot 21): binOp
  refine LateR.mono (Qv.eq (.int .i64 2)) [(10, 20)] (by kernel_rfl) (by rfl) rfl (fun vs w' hC => ?_) ?_
  · intro x20 h20
    have e20 : x20 = .int .i64 1 := h20
    clear h20
    subst e20
    refine askl_do rfl fun K hK => ?_
    go_simp
    exact hK _ _ rfl ⟨rfl, World.grownBy.refl _ none⟩
  -- op 12 (slot 22): binOp
  refine LateR.mono (Qv.eq (.int .i64 4)) [(8, 18), (11, 21)] (by kernel_rfl) (by rfl) rfl (fun vs w' hC => ?_) ?_
  · intro x18 h18
    intro x21 h21
    have e18 : x18 = .int .i64 2 := h18
    clear h18
    subst e18
    have e21 : x21 = .int .i64 2 := h21
    clear h21
    subst e21
    refine askl_do rfl fun K hK => ?_
    go_simp
    exact hK _ _ rfl ⟨rfl, World.grownBy.refl _ none⟩
  -- op 13 (slot 23): binOp
  refine LateR.mono (Qv.eq (.int .i64 3)) [(12, 22)] (by kernel_rfl) (by rfl) rfl (fun vs w' hC => ?_) ?_
  · intro x22 h22
    have e22 : x22 = .int .i64 4 := h22
    clear h22
    subst e22
    refine askl_do rfl fun K hK => ?_
    go_simp
    exact hK _ _ rfl ⟨rfl, World.grownBy.refl _ none⟩
  -- op 14 (slot 24): fieldAddr
  refine LateR.mono (Qv.eq (.pointer (some ⟨w.heap.size, 1, none⟩))) [] (by kernel_rfl) (by rfl) rfl (fun vs w' hC => ?_) ?_
  · refine askl_do rfl fun K hK => ?_
    go_simp
    exact hK _ _ rfl ⟨rfl, World.grownBy.refl _ none⟩
  -- op 15 (slot 25): load
  refine LateR.mono (Qv.eq (.int .u64 p.Q)) [(14, 24)] (by kernel_rfl) (by rfl) rfl (fun vs w' hC => ?_) ?_
  · intro x24 h24
    have e24 : x24 = .pointer (some ⟨w.heap.size, 1, none⟩) := h24
    clear h24
    subst e24
    refine askl_do rfl fun K hK => ?_
    obtain ⟨q0, q1⟩ := HLD.out vs w' hC
    go_simp
    exact hK _ _ rfl ⟨rfl, World.grownBy.refl _ none⟩
  -- op 16 (slot 26): call
  refine LateR.turn 0 [(5, 15), (13, 23), (15, 25)] (by kernel_rfl) rfl (fun vs w' hl hC => ?_) ?_
  · intro x15 h15
    intro x23 h23
    intro x25 h25
    have e15 : x15 = .pointer pa := h15
    clear h15
    subst e15
    have e23 : x23 = .int .i64 3 := h23
    clear h23
    subst e23
    have e25 : x25 = .int .u64 p.Q := h25
    clear h25
    subst e25
    refine askl_do rfl fun K hK => ?_
    obtain rfl : vs = [] := List.eq_nil_of_length_eq_zero hl
    obtain ⟨g1, g2⟩ := hC
    go_simp
    refine (HDR.out w' g2).mono ?_
    rintro e w3 ⟨v3, rfl, hs3, hi3, hg3⟩
    exact hK _ _ rfl ⟨fun _ => hg3, (g1.but _).trans hg3, hi3, hs3.more fun b _ hb => Nat.le_trans g1.size hb⟩
  -- op 17 (slot 27): call
  refine LateR.turn 1 [(4, 14), (16, 26)] (by kernel_rfl) rfl (fun vs w' hl hC => ?_) ?_
  · intro x14 h14
    have h14 : vs.length ≤ 1 → Acc encU w0.drew.heap.size 22 (fun b => w0.drew.heap.size ≤ b) w' x14 [z] := h14
    intro x26 h26
    refine askl_do rfl fun K hK => ?_
    obtain ⟨u, rfl⟩ : ∃ u, vs = [u] := List.length_eq_one_iff.1 hl
    obtain ⟨g1, g2, g3⟩ := hC
    have e26 : some u = some x26 := h26
    injection e26 with e26
    subst e26
    have ha14 := h14 (Nat.le_refl 1)
    obtain ⟨A26, n26, c26, rfl⟩ := g3.shape
    obtain ⟨A26', c26', e26, _, _⟩ := g3.form
    refine apps_core (E := encU) el_u64 ha14 (by rw [e26] at g3 ⊢; exact g3) (Z := fun b => w0.drew.heap.size ≤ b) (fun _ _ h => h) (by simp [drL_len]) g1.size (fun b hb => Nat.le_trans g1.size hb) (.tmp 14) (.tmp 26) rfl rfl rfl ?_
    intro v3 w3 ha hgr hm
    exact hK _ _ rfl ⟨fun e => absurd e (by decide), g1.andThen hgr (fun b e => .inl (ha14.lt b e).1), HT.out.keep g2 hgr (fun b e hb => by have := (ha14.lt b e).1; have := HOB.out b hb; have := HIB.out.2.2; omega), ha.sl⟩
  intro vs w5 hvl hC5
  obtain ⟨u1, u2, rfl⟩ : ∃ u u2, vs = [u, u2] := by
    match vs, hvl with
    | [u, u2], _ => exact ⟨u, u2, rfl⟩
  intro y0 k0 y1 k1 y2 k2 y3 k3 y4 k4 y5 k5 y6 k6 y7 k7 y8 k8 y9 k9 y10 k10 y11 k11 y12 k12 y13 k13 y14 k14 y15 k15 y16 k16 y17 k17
  show wpList Tryz.prog _ _ _ _ w5
  simp only [Act.put, List.setIfInBounds_toArray, List.set_cons_zero, List.set_cons_succ]
  have e17 : y17 = u2 := by have : some u2 = some y17 := k17; injection this with this; exact this.symm
  subst e17
  have hC5 : w0.drew.grownBy w5 (some g) ∧ TI (k + 3) w5 ∧ Sl encU (fun b => w0.drew.heap.size ≤ b) w5 y17 (z :: drL dr 3 k) := hC5
  rw [← HBE.out] at hC5
  obtain ⟨A8, c8, e8, hc8, hc8b⟩ := hC5.2.2.form
  obtain ⟨gb, ob, c8', e8', hgb, hgb2, _, _⟩ := hC5.2.2.atU (k := 0) (by rw [HLL.out]; decide)
  rw [e8] at e8'
  injection e8' with e81 e82 e83
  subst e81
  rw [HLL.out] at e8 hc8
  subst e8
  have HS5 := Lib.hid hC5.2.2
  have HI5 := Lib.hid hC5.2.1
  have HG5 : Hid (w0.grownBy w5 (some g)) := Lib.hid ((HGd.out.but _).trans hC5.1)
  clear hC5 k0 k1 k2 k3 k4 k5 k6 k7 k8 k9 k10 k11 k12 k13 k14 k15 k16 k17 hgb hgb2 e82 e83 HLD HSZ HIB HGd HDR
  go_wp2_with fail
  go_loopg [8, 9] 2 (fun gk s8 s9 wx => ∃ j : Nat, j + gk = 2 ∧ s9 = .int .i64 j ∧ Hid (Acc (encS encU) w5.heap.size 25 (fun b => w0.heap.size ≤ b) wx s8 (chk 2 l j) ∧ w5.grownBy wx none))
  case atStart => exact ⟨0, by omega, rfl, Lib.hid ⟨Acc.nil _ _ _ _ _, World.grownBy.refl _ _⟩⟩
  case round =>
    obtain ⟨j, hj, rfl, HX⟩ := hrel
    obtain ⟨q0, q1⟩ := HP1.out wr (HG5.out.trans (HX.out.2.but _))
    cases gk with
    | zero =>
      obtain rfl : j = 2 := by omega
      have HR : Hid (Sl (encS encU) (fun b => w.heap.size ≤ b) wr u8 (chk 2 l 2) ∧ TI (k + 3) wr ∧ w.grownBy wr (some g)) := Lib.hid ⟨HX.out.1.sl.more fun b _ hb => Nat.le_trans HG0.out.size hb, HTI.out _ _ _ HI5.out HX.out.2, (HG0.out.but _).trans (HG5.out.trans (HX.out.2.but _))⟩
      clear HX
      go_wp2
      go_ret
      exact ⟨_, rfl, HR.out⟩
    | succ m =>
      have hj2 : j < 2 := by omega
      have hjI : (j : Int) ≤ 1 := by omega
      have hj0 : (0 : Int) ≤ (j : Int) := Int.natCast_nonneg j
      have HA := Lib.hid HX.out.1
      have HG : Hid (w0.grownBy wr (some g)) := Lib.hid (HG5.out.trans (HX.out.2.but _))
      have HGX := Lib.hid HX.out.2
      have HPC : Hid (∀ n c, n = 2 → c = c8 - j * 2 → Sl encU (fun b => w0.heap.size ≤ b ∧ b < w5.heap.size) wr (.slice (some ⟨gb, ob + j * 2, none⟩) n c) ((l.drop (j * 2)).take 2)) := Lib.hid (fun n c hn hc => by
        subst hn hc
        have h1 := ((HS5.out.bounded.kept HGX.out).drop (j * 2) (by rw [HLL.out]; omega)).take 2 (by rw [List.length_drop, HLL.out]; omega)
        simpa [encU] using h1)
      have HLN : Hid (((chk 2 l j).length + 1) * 24 ≤ 140737488355328) := Lib.hid (by rw [chk_length]; omega)
      clear HX
      have HGN : Hid (w5.heap.size ≤ wr.heap.size) := Lib.hid HGX.out.size
      have HZ5 : Hid (w0.heap.size ≤ w5.heap.size) := Lib.hid HG5.out.size
      have HREP : Hid (Enc.rep (encS encU) (fun b => w0.heap.size ≤ b ∧ some b ≠ u8.ownBlock) wr [.slice (some ⟨gb, ob + j * 2, none⟩) ((j + 1) * 2 - j * 2) (c8 - j * 2)] ((l.drop (j * 2)).take 2)) := Lib.hid ⟨_, rfl, (HPC.out _ _ (by omega) rfl).more fun b _ hb => ⟨hb.1, fun e => by have := (HA.out.lt b e.symm).1; omega⟩⟩
      clear HPC
      go_wp2_with (at_builtin; refine wpList_push rfl (.tmp 34) (.tmp 48) rfl (E := encS encU) el_nums HA.out rfl rfl HREP.out HLN.out HGN.out (fun _ h => Nat.le_trans HZ5.out (Nat.le_trans HGN.out h)) ?_)
      intro v3 w3 ha hg hm
      have HFIN : Hid (Acc (encS encU) w5.heap.size 25 (fun b => w0.heap.size ≤ b) w3 v3 (chk 2 l (j + 1)) ∧ w5.grownBy w3 none) := Lib.hid ⟨by rw [chk_snoc]; exact ha, grown_up HGX.out hg (fun b e => (HA.out.lt b e).1)⟩
      clear ha hg hm
      go_wp2_with fail
      go_roundg m
      case measure => omega
      case rel => exact ⟨j + 1, by omega, by go_num, HFIN⟩
set_option maxRecDepth 100000 in
set_option maxHeartbeats 4000000 in
theorem rtwo3_any {pa : Option Addr} {g : Nat} {dr : Nat → Int} {TI : Nat → World → Prop} {bl : Nat → Prop} {most : Nat} (p : Par) (hT : RTp pa g p.Q dr TI bl most) (x : Int) (k : Nat) (w : World) (hx : U64 x) (hq : U64 p.Q) (hq0 : 0 < p.Q) (ht : p.T = 2) (hk : k + 8 ≤ most) (hI : TI k w) :
    Calls Tryz.prog 44 #[p.v, .int .u64 x, .pointer pa] w fun e w' => ∃ v, e = .returned v ∧ Sl (encS encU) (fun b => w.heap.size ≤ b) w' v (chk 3 (behI x p.Q dr 8 k) 3) ∧ TI (k + 8) w' ∧ w.grownBy w' (some g) := by
  obtain ⟨w0, hw0⟩ : ∃ y, y = w.alloc (Obj.cells p.cells 24) := ⟨_, rfl⟩
  have HG0 : Hid (w.grownBy w0 none) := Lib.hid (by rw [hw0]; exact World.grownBy_alloc w _ none)
  have HB0 : Hid (Bk w0 w.heap.size 24 p.cells) := Lib.hid (by rw [hw0]; exact Bk.new w _ _)
  have HI0 : Hid (TI k w0) := Lib.hid (hT.keep hI HG0.out (by simp))
  have HDR := Lib.hid (fun (W : World) (hi : TI k W) => rdraw_any hT 8 k W (by decide) hk hi)
  have HT := Lib.hid hT
  have HOB : Hid (∀ b, bl b → b < w0.heap.size) := Lib.hid (fun b hb => hT.old HI0.out hb)
  have HGW : Hid (g < w.heap.size) := Lib.hid (hT.old hI hT.own)
  have HGW0 : Hid (g < w0.heap.size) := Lib.hid (hT.old HI0.out hT.own)
  obtain ⟨q0, q1⟩ := hq
  obtain ⟨x0, x1⟩ := hx
  have hqz : (p.Q == 0) = false := by simp; omega
  have hqz2 : ¬ p.Q = 0 := by omega
  have hmod : Int.tmod x p.Q = x % p.Q := Int.tmod_eq_emod_of_nonneg x0
  obtain ⟨z, hz⟩ : ∃ y, y = x % p.Q := ⟨_, rfl⟩
  have HZ : Hid (U64 z) := Lib.hid (by rw [hz]; exact ⟨Int.emod_nonneg _ (by omega), Int.lt_trans (Int.emod_lt_of_pos _ hq0) (by omega)⟩)
  have hzw : IntKind.u64.wrap z = z := IntWalk.u64_in _ (by have := HZ.out; obtain ⟨a, b⟩ := this; omega)
  have HBE : Hid (behI x p.Q dr 8 k = z :: drL dr 8 k) := Lib.hid (by rw [hz]; rfl)
  have HLL : Hid ((behI x p.Q dr 8 k).length = 9) := Lib.hid (behI_len _ _ _ _ _)
  obtain ⟨l, hl⟩ : ∃ y, y = behI x p.Q dr 8 k := ⟨_, rfl⟩
  rw [← hl] at HBE HLL ⊢
  have HP1 : Hid (∀ W, w0.grownBy W (some g) → W.cell? ⟨w.heap.size, 1, none⟩ = some (.int .u64 p.Q) ∧ W.cell? ⟨w.heap.size, 6, none⟩ = some (.int .i64 2)) := Lib.hid (fun W hW => by
    have h := (HB0.out.grown hW (fun e => by injection e with e; have := HGW.out; omega)).cell
    exact ⟨h 1, by rw [h 6, ← ht]; rfl⟩)
  rw [← hz] at hmod
  have HTI : Hid (∀ k w w', TI k w → w.grownBy w' none → TI k w') := Lib.hid (fun k w w' h hg => hT.keep h hg (by simp))
  clear hT hI hz hl ht hk
  go_enter Tryz.func44, Tryz.ntmps44
  go_wp2_with fail
  rw [← hw0]
  clear hw0
  have HGd : Hid (w0.grownBy w0.drew none) := Lib.hid (grown_drewN' w0 1)
  have HIB : Hid (TI k w0.drew ∧ g < w0.drew.heap.size ∧ w0.drew.heap.size = w0.heap.size) := Lib.hid ⟨HTI.out _ _ _ HI0.out HGd.out, HGW0.out, rfl⟩
  have HLD : Hid (∀ vs W, (twoLt w0.drew g TI HTI.out k 8 z (drL dr 8 k)).C vs W → W.cell? ⟨w.heap.size, 1, none⟩ = some (.int .u64 p.Q) ∧ W.cell? ⟨w.heap.size, 6, none⟩ = some (.int .i64 2)) := Lib.hid (fun vs W hC => HP1.out W ((HGd.out.but _).trans (twoLt_grown hC)))
  have HSZ : Hid (∀ vs W, (twoLt w0.drew g TI HTI.out k 8 z (drL dr 8 k)).C vs W → w0.drew.heap.size ≤ W.heap.size) := Lib.hid (fun vs W hC => (twoLt_grown hC).size)
  go_upto_region 1 with (fail)
  refine wp_region_late (twoLt w0.drew g TI HTI.out k 8 z (drL dr 8 k)) [16, 17] 18 (by kernel_rfl) (by kernel_rfl) (by kernel_rfl) ⟨World.grownBy.refl _ none, HIB.out.1⟩ ?_
  -- op 0 (slot 10): move
  refine LateR.mono (Qv.eq (.int .u64 x)) [] (by kernel_rfl) (by rfl) rfl (fun vs w' hC => ?_) ?_
  · refine askl_do rfl fun K hK => ?_
    go_simp
    exact hK _ _ rfl ⟨rfl, World.grownBy.refl _ none⟩
  -- op 1 (slot 11): fieldAddr
  refine LateR.mono (Qv.eq (.pointer (some ⟨w.heap.size, 1, none⟩))) [] (by kernel_rfl) (by rfl) rfl (fun vs w' hC => ?_) ?_
  · refine askl_do rfl fun K hK => ?_
    go_simp
    exact hK _ _ rfl ⟨rfl, World.grownBy.refl _ none⟩
  -- op 2 (slot 12): load
  refine LateR.mono (Qv.eq (.int .u64 p.Q)) [(1, 11)] (by kernel_rfl) (by rfl) rfl (fun vs w' hC => ?_) ?_
  · intro x11 h11
    have e11 : x11 = .pointer (some ⟨w.heap.size, 1, none⟩) := h11
    clear h11
    subst e11
    refine askl_do rfl fun K hK => ?_
    obtain ⟨q0, q1⟩ := HLD.out vs w' hC
    go_simp
    exact hK _ _ rfl ⟨rfl, World.grownBy.refl _ none⟩
  -- op 3 (slot 13): binOp
  refine LateR.mono (Qv.eq (.int .u64 z)) [(0, 10), (2, 12)] (by kernel_rfl) (by rfl) rfl (fun vs w' hC => ?_) ?_
  · intro x10 h10
    intro x12 h12
    have e10 : x10 = .int .u64 x := h10
    clear h10
    subst e10
    have e12 : x12 = .int .u64 p.Q := h12
    clear h12
    subst e12
    refine askl_do rfl fun K hK => ?_
    go_simp
    exact hK _ _ rfl ⟨rfl, World.grownBy.refl _ none⟩
  -- op 4 (slot 14): buildSlice
  refine LateR.mono (twoQ HIB.out.2.1) [(3, 13)] (by kernel_rfl) (by rfl) rfl (fun vs w' hC => ?_) ?_
  · intro x13 h13
    have e13 : x13 = .int .u64 z := h13
    clear h13
    subst e13
    refine askl_do rfl fun K hK => ?_
    have hsz := HSZ.out vs w' hC
    go_simp
    exact hK _ _ rfl ⟨fun _ => Acc.made1 w' _ hsz _ hsz z HZ.out, World.grownBy_alloc w' _ none⟩
  -- op 5 (slot 15): move
  refine LateR.mono (Qv.eq (.pointer pa)) [] (by kernel_rfl) (by rfl) rfl (fun vs w' hC => ?_) ?_
  · refine askl_do rfl fun K hK => ?_
    go_simp
    exact hK _ _ rfl ⟨rfl, World.grownBy.refl _ none⟩
  -- op 6 (slot 16): fieldAddr
  refine LateR.mono (Qv.eq (.pointer (some ⟨w.heap.size, 6, none⟩))) [] (by kernel_rfl) (by rfl) rfl (fun vs w' hC => ?_) ?_
  · refine askl_do rfl fun K hK => ?_
    go_simp
    exact hK _ _ rfl ⟨rfl, World.grownBy.refl _ none⟩
  -- op 7 (slot 17): load
  refine LateR.mono (Qv.eq (.int .i64 2)) [(6, 16)] (by kernel_rfl) (by rfl) rfl (fun vs w' hC => ?_) ?_
  · intro x16 h16
    have e16 : x16 = .pointer (some ⟨w.heap.size, 6, none⟩) := h16
    clear h16
    subst e16
    refine askl_do rfl fun K hK => ?_
    obtain ⟨q0, q1⟩ := HLD.out vs w' hC
    go_simp
    exact hK _ _ rfl ⟨rfl, World.grownBy.refl _ none⟩
  -- op 8 (slot 18): binOp
  refine LateR.mono (Qv.eq (.int .i64 3)) [(7, 17)] (by kernel_rfl) (by rfl) rfl (fun vs w' hC => ?_) ?_
  · intro x17 h17
    have e17 : x17 = .int .i64 2 := h17
    clear h17
    subst e17
    refine askl_do rfl fun K hK => ?_
    go_simp
    exact hK _ _ rfl ⟨rfl, World.grownBy.refl _ none⟩
  -- op 9 (slot 19): fieldAddr
  refine LateR.mono (Qv.eq (.pointer (some ⟨w.heap.size, 6, none⟩))) [] (by kernel_rfl) (by rfl) rfl (fun vs w' hC => ?_) ?_
  · refine askl_do rfl fun K hK => ?_
    go_simp
    exact hK _ _ rfl ⟨rfl, World.grownBy.refl _ none⟩
  -- op 10 (slot 20): load
  refine LateR.mono (Qv.eq (.int .i64 2)) [(9, 19)] (by kernel_rfl) (by rfl) rfl (fun vs w' hC => ?_) ?_
  · intro x19 h19
    have e19 : x19 = .pointer (some ⟨w.heap.size, 6, none⟩) := h19
    clear h19
    subst e19
    refine askl_do rfl fun K hK => ?_
    obtain ⟨q0, q1⟩ := HLD.out vs w' hC
    go_simp
    exact hK _ _ rfl ⟨rfl, World.grownBy.refl _ none⟩
  -- op 11 (slot 21): binOp
  refine LateR.mono (Qv.eq (.int .i64 3)) [(10, 20)] (by kernel_rfl) (by rfl) rfl (fun vs w' hC => ?_) ?_
  · intro x20 h20
    have e20 : x20 = .int .i64 2 := h20
    clear h20
    subst e20
    refine askl_do rfl fun K hK => ?_
    go_simp
    exact hK _ _ rfl ⟨rfl, World.grownBy.refl _ none⟩
  -- op 12 (slot 22): binOp
  refine LateR.mono (Qv.eq (.int .i64 9)) [(8, 18), (11, 21)] (by kernel_rfl) (by rfl) rfl (fun vs w' hC => ?_) ?_
  · intro x18 h18
    intro x21 h21
    have e18 : x18 = .int .i64 3 := h18
    clear h18
    subst e18
    have e21 : x21 = .int .i64 3 := h21
    clear h21
    subst e21
    refine askl_do rfl fun K hK => ?_
    go_simp
    exact hK _ _ rfl ⟨rfl, World.grownBy.refl _ none⟩
  -- op 13 (slot 23): binOp
  refine LateR.mono (Qv.eq (.int .i64 8)) [(12, 22)] (by kernel_rfl) (by rfl) rfl (fun vs w' hC => ?_) ?_
  · intro x22 h22
    have e22 : x22 = .int .i64 9 := h22
    clear h22
    subst e22
    refine askl_do rfl fun K hK => ?_
    go_simp
    exact hK _ _ rfl ⟨rfl, World.grownBy.refl _ none⟩
  -- op 14 (slot 24): fieldAddr
  refine LateR.mono (Qv.eq (.pointer (some ⟨w.heap.size, 1, none⟩))) [] (by kernel_rfl) (by rfl) rfl (fun vs w' hC => ?_) ?_
  · refine askl_do rfl fun K hK => ?_
    go_simp
    exact hK _ _ rfl ⟨rfl, World.grownBy.refl _ none⟩
  -- op 15 (slot 25): load
  refine LateR.mono (Qv.eq (.int .u64 p.Q)) [(14, 24)] (by kernel_rfl) (by rfl) rfl (fun vs w' hC => ?_) ?_
  · intro x24 h24
    have e24 : x24 = .pointer (some ⟨w.heap.size, 1, none⟩) := h24
    clear h24
    subst e24
    refine askl_do rfl fun K hK => ?_
    obtain ⟨q0, q1⟩ := HLD.out vs w' hC
    go_simp
    exact hK _ _ rfl ⟨rfl, World.grownBy.refl _ none⟩
  -- op 16 (slot 26): call
  refine LateR.turn 0 [(5, 15), (13, 23), (15, 25)] (by kernel_rfl) rfl (fun vs w' hl hC => ?_) ?_
  · intro x15 h15
    intro x23 h23
    intro x25 h25
    have e15 : x15 = .pointer pa := h15
    clear h15
    subst e15
    have e23 : x23 = .int .i64 8 := h23
    clear h23
    subst e23
    have e25 : x25 = .int .u64 p.Q := h25
    clear h25
    subst e25
    refine askl_do rfl fun K hK => ?_
    obtain rfl : vs = [] := List.eq_nil_of_length_eq_zero hl
    obtain ⟨g1, g2⟩ := hC
    go_simp
    refine (HDR.out w' g2).mono ?_
    rintro e w3 ⟨v3, rfl, hs3, hi3, hg3⟩
    exact hK _ _ rfl ⟨fun _ => hg3, (g1.but _).trans hg3, hi3, hs3.more fun b _ hb => Nat.le_trans g1.size hb⟩
  -- op 17 (slot 27): call
  refine LateR.turn 1 [(4, 14), (16, 26)] (by kernel_rfl) rfl (fun vs w' hl hC => ?_) ?_
  · intro x14 h14
    have h14 : vs.length ≤ 1 → Acc encU w0.drew.heap.size 22 (fun b => w0.drew.heap.size ≤ b) w' x14 [z] := h14
    intro x26 h26
    refine askl_do rfl fun K hK => ?_
    obtain ⟨u, rfl⟩ : ∃ u, vs = [u] := List.length_eq_one_iff.1 hl
    obtain ⟨g1, g2, g3⟩ := hC
    have e26 : some u = some x26 := h26
    injection e26 with e26
    subst e26
    have ha14 := h14 (Nat.le_refl 1)
    obtain ⟨A26, n26, c26, rfl⟩ := g3.shape
    obtain ⟨A26', c26', e26, _, _⟩ := g3.form
    refine apps_core (E := encU) el_u64 ha14 (by rw [e26] at g3 ⊢; exact g3) (Z := fun b => w0.drew.heap.size ≤ b) (fun _ _ h => h) (by simp [drL_len]) g1.size (fun b hb => Nat.le_trans g1.size hb) (.tmp 14) (.tmp 26) rfl rfl rfl ?_
    intro v3 w3 ha hgr hm
    exact hK _ _ rfl ⟨fun e => absurd e (by decide), g1.andThen hgr (fun b e => .inl (ha14.lt b e).1), HT.out.keep g2 hgr (fun b e hb => by have := (ha14.lt b e).1; have := HOB.out b hb; have := HIB.out.2.2; omega), ha.sl⟩
  intro vs w5 hvl hC5
  obtain ⟨u1, u2, rfl⟩ : ∃ u u2, vs = [u, u2] := by
    match vs, hvl with
    | [u, u2], _ => exact ⟨u, u2, rfl⟩
  intro y0 k0 y1 k1 y2 k2 y3 k3 y4 k4 y5 k5 y6 k6 y7 k7 y8 k8 y9 k9 y10 k10 y11 k11 y12 k12 y13 k13 y14 k14 y15 k15 y16 k16 y17 k17
  show wpList Tryz.prog _ _ _ _ w5
  simp only [Act.put, List.setIfInBounds_toArray, List.set_cons_zero, List.set_cons_succ]
  have e17 : y17 = u2 := by have : some u2 = some y17 := k17; injection this with this; exact this.symm
  subst e17
  have hC5 : w0.drew.grownBy w5 (some g) ∧ TI (k + 8) w5 ∧ Sl encU (fun b => w0.drew.heap.size ≤ b) w5 y17 (z :: drL dr 8 k) := hC5
  rw [← HBE.out] at hC5
  obtain ⟨A8, c8, e8, hc8, hc8b⟩ := hC5.2.2.form
  obtain ⟨gb, ob, c8', e8', hgb, hgb2, _, _⟩ := hC5.2.2.atU (k := 0) (by rw [HLL.out]; decide)
  rw [e8] at e8'
  injection e8' with e81 e82 e83
  subst e81
  rw [HLL.out] at e8 hc8
  subst e8
  have HS5 := Lib.hid hC5.2.2
  have HI5 := Lib.hid hC5.2.1
  have HG5 : Hid (w0.grownBy w5 (some g)) := Lib.hid ((HGd.out.but _).trans hC5.1)
  clear hC5 k0 k1 k2 k3 k4 k5 k6 k7 k8 k9 k10 k11 k12 k13 k14 k15 k16 k17 hgb hgb2 e82 e83 HLD HSZ HIB HGd HDR
  go_wp2_with fail
  go_loopg [8, 9] 3 (fun gk s8 s9 wx => ∃ j : Nat, j + gk = 3 ∧ s9 = .int .i64 j ∧ Hid (Acc (encS encU) w5.heap.size 25 (fun b => w0.heap.size ≤ b) wx s8 (chk 3 l j) ∧ w5.grownBy wx none))
  case atStart => exact ⟨0, by omega, rfl, Lib.hid ⟨Acc.nil _ _ _ _ _, World.grownBy.refl _ _⟩⟩
  case round =>
    obtain ⟨j, hj, rfl, HX⟩ := hrel
    obtain ⟨q0, q1⟩ := HP1.out wr (HG5.out.trans (HX.out.2.but _))
    cases gk with
    | zero =>
      obtain rfl : j = 3 := by omega
      have HR : Hid (Sl (encS encU) (fun b => w.heap.size ≤ b) wr u8 (chk 3 l 3) ∧ TI (k + 8) wr ∧ w.grownBy wr (some g)) := Lib.hid ⟨HX.out.1.sl.more fun b _ hb => Nat.le_trans HG0.out.size hb, HTI.out _ _ _ HI5.out HX.out.2, (HG0.out.but _).trans (HG5.out.trans (HX.out.2.but _))⟩
      clear HX
      go_wp2
      go_ret
      exact ⟨_, rfl, HR.out⟩
    | succ m =>
      have hj2 : j < 3 := by omega
      have hjI : (j : Int) ≤ 2 := by omega
      have hj0 : (0 : Int) ≤ (j : Int) := Int.natCast_nonneg j
      have HA := Lib.hid HX.out.1
      have HG : Hid (w0.grownBy wr (some g)) := Lib.hid (HG5.out.trans (HX.out.2.but _))
      have HGX := Lib.hid HX.out.2
      have HPC : Hid (∀ n c, n = 3 → c = c8 - j * 3 → Sl encU (fun b => w0.heap.size ≤ b ∧ b < w5.heap.size) wr (.slice (some ⟨gb, ob + j * 3, none⟩) n c) ((l.drop (j * 3)).take 3)) := Lib.hid (fun n c hn hc => by
        subst hn hc
        have h1 := ((HS5.out.bounded.kept HGX.out).drop (j * 3) (by rw [HLL.out]; omega)).take 3 (by rw [List.length_drop, HLL.out]; omega)
        simpa [encU] using h1)
      have HLN : Hid (((chk 3 l j).length + 1) * 24 ≤ 140737488355328) := Lib.hid (by rw [chk_length]; omega)
      clear HX
      have HGN : Hid (w5.heap.size ≤ wr.heap.size) := Lib.hid HGX.out.size
      have HZ5 : Hid (w0.heap.size ≤ w5.heap.size) := Lib.hid HG5.out.size
      have HREP : Hid (Enc.rep (encS encU) (fun b => w0.heap.size ≤ b ∧ some b ≠ u8.ownBlock) wr [.slice (some ⟨gb, ob + j * 3, none⟩) ((j + 1) * 3 - j * 3) (c8 - j * 3)] ((l.drop (j * 3)).take 3)) := Lib.hid ⟨_, rfl, (HPC.out _ _ (by omega) rfl).more fun b _ hb => ⟨hb.1, fun e => by have := (HA.out.lt b e.symm).1; omega⟩⟩
      clear HPC
      go_wp2_with (at_builtin; refine wpList_push rfl (.tmp 34) (.tmp 48) rfl (E := encS encU) el_nums HA.out rfl rfl HREP.out HLN.out HGN.out (fun _ h => Nat.le_trans HZ5.out (Nat.le_trans HGN.out h)) ?_)
      intro v3 w3 ha hg hm
      have HFIN : Hid (Acc (encS encU) w5.heap.size 25 (fun b => w0.heap.size ≤ b) w3 v3 (chk 3 l (j + 1)) ∧ w5.grownBy w3 none) := Lib.hid ⟨by rw [chk_snoc]; exact ha, grown_up HGX.out hg (fun b e => (HA.out.lt b e).1)⟩
      clear ha hg hm
      go_wp2_with fail
      go_roundg m
      case measure => omega
      case rel => exact ⟨j + 1, by omega, by go_num, HFIN⟩
end Go.Proofs.YtphbcfpiklmmeaaGreatDoor

namespace Go.Proofs.YtphbcfpiklmmeaaGreatDoor
open Go Go.RowKit Go.Shelf

/-- x to the power of i, by multiplying. -/
def pwR (q x : Int) : Nat → Int
  | 0 => mulI 1 1 q
  | i + 1 => mulI (pwR q x i) x q
theorem pwR_U64 (q x : Int) : ∀ i, U64 (pwR q x i)
  | 0 => mulI_U64 _ _ _
  | _ + 1 => mulI_U64 _ _ _
/-- The first i terms' sum. -/
def accR (q x : Int) (c : List Int) : Nat → Int
  | 0 => 0
  | i + 1 => addI (accR q x c i) (mulI (c[i]?.getD 0) (pwR q x i) q) q
theorem accR_U64 (q x : Int) (c : List Int) : ∀ i, U64 (accR q x c i)
  | 0 => show U64 0 from ⟨by decide, by decide⟩
  | _ + 1 => addI_U64 _ _ _
theorem accR_go (q x : Int) (c : List Int) : ∀ i, i ≤ c.length → valR q x (c.drop i) (accR q x c i) (pwR q x i) = valR q x c 0 (mulI 1 1 q)
  | 0, _ => rfl
  | i + 1, h => by
    have hi : i < c.length := by omega
    rw [← accR_go q x c i (by omega), List.drop_eq_getElem_cons hi]
    show _ = valR q x (c.drop (i + 1)) (addI (accR q x c i) (mulI c[i] (pwR q x i) q) q) (mulI (pwR q x i) x q)
    show valR q x (c.drop (i + 1)) (addI (accR q x c i) (mulI (c[i]?.getD 0) (pwR q x i) q) q) (mulI (pwR q x i) x q) = _
    rw [List.getElem?_eq_getElem hi]
    rfl
theorem accR_all (q x : Int) (c : List Int) : accR q x c c.length = evalI q c x := by
  have h := accR_go q x c c.length (Nat.le_refl _)
  rw [List.drop_length, valR_eval] at h
  exact h
/-- A row while its i-th list is added, as far as j. -/
def rowJ (q x : Int) (M : List (List Int)) (t i j : Nat) : List Int := (List.range t).map fun k => if k < j then accR q x (colZ M k) (i + 1) else accR q x (colZ M k) i
theorem rowJ_len (q x : Int) (M : List (List Int)) (t i j : Nat) : (rowJ q x M t i j).length = t := by simp [rowJ]
theorem rowJ_zero (q x : Int) (M : List (List Int)) (t : Nat) : rowJ q x M t 0 0 = List.replicate t 0 := by
  refine List.ext_getElem (by simp [rowJ]) fun k h1 h2 => by simp [rowJ, accR]
theorem rowJ_next (q x : Int) (M : List (List Int)) (t i : Nat) : rowJ q x M t i t = rowJ q x M t (i + 1) 0 := List.map_congr_left fun k hk => by rw [if_pos (List.mem_range.1 hk), if_neg (Nat.not_lt_zero _)]
theorem rowJ_at (q x : Int) (M : List (List Int)) (t i j : Nat) (h : j < (rowJ q x M t i j).length) : (rowJ q x M t i j)[j] = accR q x (colZ M j) i := by simp [rowJ]
theorem rowJ_set (q x : Int) (M : List (List Int)) (t i j : Nat) : (rowJ q x M t i j).set j (accR q x (colZ M j) (i + 1)) = rowJ q x M t i (j + 1) := by
  refine List.ext_getElem (by simp [rowJ]) fun k h1 h2 => ?_
  rw [List.getElem_set]
  by_cases hk : j = k
  · subst hk
    simp [rowJ]
  · rw [if_neg hk]
    simp only [rowJ, List.getElem_map, List.getElem_range]
    have : (k < j) ↔ (k < j + 1) := by omega
    simp [this]
theorem rowJ_all {q x : Int} {M : List (List Int)} {t : Nat} (h : SqL t M) : rowJ q x M t t 0 = rowI q M x := by
  rw [rowI, wide_sqL h]
  refine List.map_congr_left fun k _ => ?_
  rw [if_neg (Nat.not_lt_zero _)]
  have e : (colZ M k).length = t := by simp [colZ, h.1]
  rw [← accR_all, e]
/-- x and y change places. -/
def turnZ (t : Nat) (M : List (List Int)) : List (List Int) := (List.range t).map (colZ M)
theorem turnZ_sq {t : Nat} {M : List (List Int)} (h : SqL t M) : SqL t (turnZ t M) := ⟨by simp [turnZ], fun c hc => by
  obtain ⟨k, _, rfl⟩ := List.mem_map.1 hc
  simp [colZ, h.1]⟩
theorem colZ_turn {t : Nat} {M : List (List Int)} (h : SqL t M) (j : Nat) (hj : j < M.length) : colZ (turnZ t M) j = M[j] := by
  have hl := h.2 _ (List.getElem_mem hj)
  refine List.ext_getElem (by simp [colZ, turnZ, hl]) fun k h1 h2 => ?_
  simp [colZ, turnZ, List.getElem?_eq_getElem hj, List.getElem?_eq_getElem h2]
theorem row_turn {t : Nat} {M : List (List Int)} (h : SqL t M) (q y : Int) : rowI q (turnZ t M) y = colV q M y := by
  rw [rowI, wide_sqL (turnZ_sq h), colV]
  refine List.ext_getElem (by simp [h.1]) fun k h1 h2 => ?_
  have hk : k < M.length := by simpa using h2
  simp [colZ_turn h k hk]

set_option maxHeartbeats 1000000 in
theorem rpower06_any (x q : Int) (i : Nat) (w : World) (hx : U64 x) (hq : U64 q) (hi : i ≤ 1000) :
    Calls Tryz.prog 104 #[.int .u64 x, .int .i64 i, .int .u64 q] w fun e w' => e = .returned (.int .u64 (pwR q x i)) ∧ w.grownBy w' none := by
  have HX := Lib.hid hx
  have HQ := Lib.hid hq
  have H1 : Hid (U64 1) := Lib.hid ⟨by decide, by decide⟩
  clear hx hq
  go_enter Tryz.func104, Tryz.ntmps104
  go_wp2_with fail
  refine (refmul_any 1 1 q _ H1.out H1.out HQ.out).mono ?_
  rintro e w1 ⟨rfl, n1, rfl⟩
  have HS : Hid (w.grownBy (w.drewN n1) none ∧ mulI 1 1 q = pwR q x 0) := Lib.hid ⟨grown_drewN' w n1, rfl⟩
  go_wp2_with fail
  go_loopg [7, 8] i (fun g s7 s8 wx => ∃ (j : Nat) (e : Int), j + g = i ∧ s8 = .int .i64 j ∧ s7 = .int .u64 e ∧ Hid (w.grownBy wx none ∧ e = pwR q x j))
  case atStart => exact ⟨0, _, by omega, rfl, rfl, HS⟩
  case round =>
    obtain ⟨j, e, hj, rfl, rfl, HR⟩ := hrel
    cases gk with
    | zero =>
      obtain rfl : j = i := by omega
      clear HS
      go_wp2
      go_ret
      exact ⟨ret_u64 HR.out.2, HR.out.1⟩
    | succ m =>
      have hjn : (j : Int) < (i : Int) := by omega
      have HE : Hid (U64 e) := Lib.hid (by rw [HR.out.2]; exact pwR_U64 _ _ _)
      go_wp2_with fail
      refine (refmul_any e x q _ HE.out HX.out HQ.out).mono ?_
      rintro e2 w2 ⟨rfl, n2, rfl⟩
      have HFIN : Hid (w.grownBy (wr.drewN n2) none ∧ mulI e x q = pwR q x (j + 1)) := Lib.hid ⟨grownBy_drewN HR.out.1 n2, by rw [HR.out.2]; rfl⟩
      go_wp2
      go_roundg m
      case measure => omega
      case rel => exact ⟨j + 1, _, by omega, by go_num, rfl, HFIN⟩
set_option maxHeartbeats 1000000 in
theorem r6wide_any (v : Value) (l : List (List Int)) (X : Nat → Prop) (w : World) (h : Sl (encS encU) X w v l) (hb2 : ∀ c ∈ l, c.length ≤ 100000) :
    Calls Tryz.prog 103 #[v] w fun e w' => e = .returned (.int .i64 (wideI l : Nat)) ∧ w = w' := by
  have H := Lib.hid h
  have HB2 := Lib.hid hb2
  obtain ⟨A, c, rfl, hc1, hc2⟩ := h.form
  have HN0 : Hid (0 = wideI (l.take 0)) := Lib.hid rfl
  clear h hb2
  go_enter Tryz.func103, Tryz.ntmps103
  go_wp2_with fail
  go_loopg [3, 4] l.length (fun g s3 s4 wx => ∃ j n : Nat, j + g = l.length ∧ s4 = .int .i64 j ∧ s3 = .int .i64 n ∧ Hid (n = wideI (l.take j)) ∧ Hid (w = wx))
  case atStart => exact ⟨0, 0, by omega, rfl, rfl, HN0, Lib.hid rfl⟩
  case round =>
    obtain ⟨j, n, hj, rfl, rfl, HN, HX⟩ := hrel
    obtain rfl : w = wr := HX.out
    cases gk with
    | zero =>
      obtain rfl : j = l.length := by omega
      have HNW : Hid (n = wideI l) := Lib.hid (by have := HN.out; rwa [List.take_length] at this)
      clear HX HN
      go_wp2
      go_ret
      exact ⟨ret_i64 (by rw [HNW.out]), rfl⟩
    | succ m =>
      have hjn : (j : Int) < (l.length : Int) := by omega
      have hjN : j < l.length := by omega
      obtain ⟨g, o, c', u, e, _, _, hcu, hsu⟩ := H.out.atS hjN
      injection e with e1 e2 e3
      subst e1 e3
      obtain ⟨A1, c1, e1, _, _⟩ := hsu.form
      subst e1
      have HSN : Hid (wideI (l.take (j + 1)) = max n l[j].length) := Lib.hid (by rw [wide_snoc l j hjN, HN.out])
      have hnb : n ≤ 100000 := by rw [HN.out]; exact wide_le _ _ (fun c hc => HB2.out c (List.mem_of_mem_take hc))
      have hlb : l[j].length ≤ 100000 := HB2.out _ (List.getElem_mem hjN)
      clear hsu e2 HN
      generalize l[j].length = n1 at *
      go_wp2_with fail
      all_goals
        go_roundg m
        case measure => omega
        case rel => exact ⟨j + 1, max n n1, by omega, by go_num, by congr 1; omega, Lib.hid HSN.out.symm, Lib.hid rfl⟩
set_option maxRecDepth 100000 in
set_option maxHeartbeats 2000000 in
theorem rrow_sq (v : Value) (M : List (List Int)) (t : Nat) (x q : Int) (X : Nat → Prop) (w : World) (h : Sl (encS encU) X w v M) (hx : U64 x) (hq : U64 q) (hs : SqL t M) (ht : t ≤ 100) :
    Calls Tryz.prog 47 #[v, .int .u64 x, .int .u64 q] w (Gives encU (fun b => w.heap.size ≤ b) w (rowI q M x)) := by
  have H := Lib.hid h
  have HX := Lib.hid hx
  have HQ := Lib.hid hq
  have HSQ := Lib.hid hs
  have HW := Lib.hid (r6wide_any v M X w h (fun c hc => by rw [hs.2 c hc]; omega))
  rw [wide_sqL hs] at HW
  obtain ⟨A, c, rfl, hc1, hc2⟩ := h.form
  rw [hs.1] at hc1 HW ⊢
  have hmk := run_make_row' (P := Tryz.prog) 25 22 (.int .u64 0) 8 Tryz.underlying25 info_u64 rfl .i64 .i64 t (by omega) (by omega)
  have HST : Hid (Bk (w.alloc (.cells (madeCells #[.int .u64 0] t) 22)) w.heap.size 22 (nums (rowJ q x M t 0 0)).toArray ∧ w.grownBy (w.alloc (.cells (madeCells #[.int .u64 0] t) 22)) none) := Lib.hid ⟨(Bk.new w 22 (madeCells #[.int .u64 0] t)).of_eq (Array.toList_inj.1 (by rw [toList_madeCells_one]; simp [nums, rowJ_zero])), World.grownBy_alloc w _ none⟩
  clear h hx hq hs
  go_enter Tryz.func47, Tryz.ntmps47
  go_wp2_with fail
  refine HW.out.mono ?_
  rintro e w1 ⟨rfl, rfl⟩
  go_wp2_with fail
  go_loopg [8] t (fun g s8 wx => ∃ i : Nat, i + g = t ∧ s8 = .int .i64 i ∧ Hid (Bk wx w.heap.size 22 (nums (rowJ q x M t i 0)).toArray ∧ w.grownBy wx none))
  case atStart => exact ⟨0, by omega, rfl, HST⟩
  case round =>
    obtain ⟨i, hi, rfl, HR⟩ := hrel
    cases gk with
    | zero =>
      obtain rfl : i = t := by omega
      have HF : Hid (Sl encU (fun b => w.heap.size ≤ b) wr (.slice (some ⟨w.heap.size, 0, none⟩) i i) (rowI q M x) ∧ w.grownBy wr none) := Lib.hid ⟨by
        have h1 := HR.out.1
        rw [rowJ_all HSQ.out] at h1
        have hlen : (rowI q M x).length = i := rowI_sqL HSQ.out q x
        have := Sl.block (E := encU) (X := fun b => w.heap.size ≤ b) (xs := rowI q M x) (c := i) h1 (Nat.le_refl _) ((nums (rowI q M x)).map fun v => [v]) (by simp [nums]) (fun k hk hk' => ⟨by simp [nums], by simp only [rowI, List.getElem_map]; exact evalI_U64 _ _ _⟩) (by rw [flatten_singles]) (by rw [hlen]; exact Nat.le_refl _) (by omega)
        rwa [hlen] at this, HR.out.2⟩
      clear HR HST hmk
      have hno : ¬ ((i : Int) < (i : Int)) := by omega
      go_wp2
      go_ret
      exact ⟨_, rfl, HF.out.1, HF.out.2⟩
    | succ m =>
      have hiI : (i : Int) < (t : Int) := by omega
      have hi0 : (0 : Int) ≤ (i : Int) := Int.natCast_nonneg i
      have hit : i < t := by omega
      have HIT := Lib.hid hit
      clear HST hmk
      go_wp2_with fail
      go_loopg [9] t (fun g s9 wx => ∃ j : Nat, j + g = t ∧ s9 = .int .i64 j ∧ Hid (Bk wx w.heap.size 22 (nums (rowJ q x M t i j)).toArray ∧ w.grownBy wx none))
      case atStart => exact ⟨0, by omega, rfl, HR⟩
      case round =>
        rename World => wi
        obtain ⟨j, hj, rfl, HY⟩ := hrel
        have hiN : i < M.length := by rw [HSQ.out.1]; exact HIT.out
        obtain ⟨g, o, c', u, e, _, _, hcu, hsu⟩ := (H.out.kept HY.out.2).atS hiN
        injection e with e1 e2 e3
        subst e1 e3
        obtain ⟨A1, c1, e1, k1, l1⟩ := hsu.form
        rw [HSQ.out.2 _ (List.getElem_mem hiN)] at e1 k1
        subst e1
        cases gk with
        | zero =>
          obtain rfl : j = t := by omega
          have HFIN : Hid (Bk wi w.heap.size 22 (nums (rowJ q x M j (i + 1) 0)).toArray ∧ w.grownBy wi none) := Lib.hid ⟨by rw [← rowJ_next]; exact HY.out.1, HY.out.2⟩
          have hno : ¬ ((j : Int) < (j : Int)) := by omega
          clear hsu e2 HY HR
          go_wp2_with fail
          go_roundg m
          case measure => omega
          case rel => exact ⟨i + 1, by omega, by go_num, HFIN⟩
        | succ k =>
          have hjn : (j : Int) < (t : Int) := by omega
          have hj0 : (0 : Int) ≤ (j : Int) := Int.natCast_nonneg j
          have hjl : j < M[i].length := by rw [HSQ.out.2 _ (List.getElem_mem hiN)]; omega
          obtain ⟨g2, o2, c2, e, _, _, hc2', hu2⟩ := hsu.atU hjl
          injection e with e21 e22 e23
          subst e21 e23
          obtain ⟨y, hy⟩ : ∃ y, y = M[i][j] := ⟨_, rfl⟩
          rw [← hy] at hc2' hu2
          obtain ⟨z, hz⟩ : ∃ z, z = accR q x (colZ M j) i := ⟨_, rfl⟩
          have hb := HY.out.1
          have hcz : wi.cell? ⟨w.heap.size, j, none⟩ = some (.int .u64 z) := by
            rw [hb.cell j, hz, ← rowJ_at q x M t i j (by rw [rowJ_len]; omega)]
            simp [nums]
          have HZ : Hid (U64 z) := Lib.hid (by rw [hz]; exact accR_U64 _ _ _ _)
          have HYU := Lib.hid hu2
          have HRES : Hid (addI z (mulI y (pwR q x i) q) q = accR q x (colZ M j) (i + 1)) := Lib.hid (by
            rw [hz, hy]
            show _ = addI (accR q x (colZ M j) i) (mulI ((colZ M j)[i]?.getD 0) (pwR q x i) q) q
            simp [colZ, List.getElem?_eq_getElem hiN, List.getElem?_eq_getElem hjl])
          have HB := Lib.hid hb
          have HLD : Hid (∀ W, wi.drew.grownBy W none → W.cell? ⟨w.heap.size, j, none⟩ = some (.int .u64 z) ∧ W.cell? ⟨g, o + i, none⟩ = some (.slice (some ⟨g2, o2, none⟩) t c1) ∧ W.cell? ⟨g2, o2 + j, none⟩ = some (.int .u64 y)) := Lib.hid (fun W hW => ⟨cellK hcz ((grown_drewN' wi 1).trans hW) (by simp), cellK hcu ((grown_drewN' wi 1).trans hW) (by simp), cellK hc2' ((grown_drewN' wi 1).trans hW) (by simp)⟩)
          have HGw : Hid (w.grownBy wi.drew none) := Lib.hid (HY.out.2.trans (grown_drewN' wi 1))
          have HBw : Hid (Bk wi.drew w.heap.size 22 (nums (rowJ q x M t i j)).toArray) := Lib.hid (hb.grown (grown_drewN' wi 1) (by simp))
          have HSET := Lib.hid (rowJ_set q x M t i j)
          have HRL := Lib.hid (rowJ_len q x M t i j)
          obtain ⟨L0, hL0⟩ : ∃ y, y = rowJ q x M t i j := ⟨_, rfl⟩
          rw [← hL0] at HBw HSET HRL
          rw [← HRES.out] at HSET
          have hi9 : i ≤ 100 := by omega
          clear hsu e2 e22 HY HR hb hu2 hy hz hL0 hcz hc2' hjl hiN HB
          go_upto_region 8 with (fail)
          refine wp_region_mono 22 (by kernel_rfl) (by kernel_rfl) ?_
          -- op 0 (slot 28): move
          refine MonoR.step (Pv.eq (.slice (some ⟨w.heap.size, 0, none⟩) t t)) [] (by kernel_rfl) (fun w' hw' => ?_) ?_
          · refine ask_do rfl fun K hK => ?_
            go_simp
            exact hK _ _ rfl rfl (World.grownBy.refl _ none)
          -- op 1 (slot 29): move
          refine MonoR.step (Pv.eq (.int .i64 (j : Int))) [] (by kernel_rfl) (fun w' hw' => ?_) ?_
          · refine ask_do rfl fun K hK => ?_
            go_simp
            exact hK _ _ rfl rfl (World.grownBy.refl _ none)
          -- op 2 (slot 30): move
          refine MonoR.step (Pv.eq (.slice (some ⟨w.heap.size, 0, none⟩) t t)) [] (by kernel_rfl) (fun w' hw' => ?_) ?_
          · refine ask_do rfl fun K hK => ?_
            go_simp
            exact hK _ _ rfl rfl (World.grownBy.refl _ none)
          -- op 3 (slot 31): move
          refine MonoR.step (Pv.eq (.int .i64 (j : Int))) [] (by kernel_rfl) (fun w' hw' => ?_) ?_
          · refine ask_do rfl fun K hK => ?_
            go_simp
            exact hK _ _ rfl rfl (World.grownBy.refl _ none)
          -- op 4 (slot 32): indexAddr
          refine MonoR.step (Pv.eq (.pointer (some ⟨w.heap.size, j, none⟩))) [(2, 30), (3, 31)] (by kernel_rfl) (fun w' hw' => ?_) ?_
          · intro x30 h30
            intro x31 h31
            have e30 : x30 = .slice (some ⟨w.heap.size, 0, none⟩) t t := h30
            clear h30
            subst e30
            have e31 : x31 = .int .i64 (j : Int) := h31
            clear h31
            subst e31
            refine ask_do rfl fun K hK => ?_
            go_simp
            exact hK _ _ rfl rfl (World.grownBy.refl _ none)
          -- op 5 (slot 33): load
          refine MonoR.step (Pv.eq (.int .u64 z)) [(4, 32)] (by kernel_rfl) (fun w' hw' => ?_) ?_
          · intro x32 h32
            have e32 : x32 = .pointer (some ⟨w.heap.size, j, none⟩) := h32
            clear h32
            subst e32
            refine ask_do rfl fun K hK => ?_
            obtain ⟨q0, q1, q2⟩ := HLD.out w' hw'
            go_simp
            exact hK _ _ rfl rfl (World.grownBy.refl _ none)
          -- op 6 (slot 34): move
          refine MonoR.step (Pv.eq (.slice (some ⟨g, o, none⟩) t c)) [] (by kernel_rfl) (fun w' hw' => ?_) ?_
          · refine ask_do rfl fun K hK => ?_
            go_simp
            exact hK _ _ rfl rfl (World.grownBy.refl _ none)
          -- op 7 (slot 35): move
          refine MonoR.step (Pv.eq (.int .i64 (i : Int))) [] (by kernel_rfl) (fun w' hw' => ?_) ?_
          · refine ask_do rfl fun K hK => ?_
            go_simp
            exact hK _ _ rfl rfl (World.grownBy.refl _ none)
          -- op 8 (slot 36): indexAddr
          refine MonoR.step (Pv.eq (.pointer (some ⟨g, o + i, none⟩))) [(6, 34), (7, 35)] (by kernel_rfl) (fun w' hw' => ?_) ?_
          · intro x34 h34
            intro x35 h35
            have e34 : x34 = .slice (some ⟨g, o, none⟩) t c := h34
            clear h34
            subst e34
            have e35 : x35 = .int .i64 (i : Int) := h35
            clear h35
            subst e35
            refine ask_do rfl fun K hK => ?_
            go_simp
            exact hK _ _ rfl rfl (World.grownBy.refl _ none)
          -- op 9 (slot 37): load
          refine MonoR.step (Pv.eq (.slice (some ⟨g2, o2, none⟩) t c1)) [(8, 36)] (by kernel_rfl) (fun w' hw' => ?_) ?_
          · intro x36 h36
            have e36 : x36 = .pointer (some ⟨g, o + i, none⟩) := h36
            clear h36
            subst e36
            refine ask_do rfl fun K hK => ?_
            obtain ⟨q0, q1, q2⟩ := HLD.out w' hw'
            go_simp
            exact hK _ _ rfl rfl (World.grownBy.refl _ none)
          -- op 10 (slot 38): move
          refine MonoR.step (Pv.eq (.int .i64 (j : Int))) [] (by kernel_rfl) (fun w' hw' => ?_) ?_
          · refine ask_do rfl fun K hK => ?_
            go_simp
            exact hK _ _ rfl rfl (World.grownBy.refl _ none)
          -- op 11 (slot 39): indexAddr
          refine MonoR.step (Pv.eq (.pointer (some ⟨g2, o2 + j, none⟩))) [(9, 37), (10, 38)] (by kernel_rfl) (fun w' hw' => ?_) ?_
          · intro x37 h37
            intro x38 h38
            have e37 : x37 = .slice (some ⟨g2, o2, none⟩) t c1 := h37
            clear h37
            subst e37
            have e38 : x38 = .int .i64 (j : Int) := h38
            clear h38
            subst e38
            refine ask_do rfl fun K hK => ?_
            go_simp
            exact hK _ _ rfl rfl (World.grownBy.refl _ none)
          -- op 12 (slot 40): load
          refine MonoR.step (Pv.eq (.int .u64 y)) [(11, 39)] (by kernel_rfl) (fun w' hw' => ?_) ?_
          · intro x39 h39
            have e39 : x39 = .pointer (some ⟨g2, o2 + j, none⟩) := h39
            clear h39
            subst e39
            refine ask_do rfl fun K hK => ?_
            obtain ⟨q0, q1, q2⟩ := HLD.out w' hw'
            go_simp
            exact hK _ _ rfl rfl (World.grownBy.refl _ none)
          -- op 13 (slot 41): move
          refine MonoR.step (Pv.eq (.int .u64 x)) [] (by kernel_rfl) (fun w' hw' => ?_) ?_
          · refine ask_do rfl fun K hK => ?_
            go_simp
            exact hK _ _ rfl rfl (World.grownBy.refl _ none)
          -- op 14 (slot 42): move
          refine MonoR.step (Pv.eq (.int .i64 (i : Int))) [] (by kernel_rfl) (fun w' hw' => ?_) ?_
          · refine ask_do rfl fun K hK => ?_
            go_simp
            exact hK _ _ rfl rfl (World.grownBy.refl _ none)
          -- op 15 (slot 43): move
          refine MonoR.step (Pv.eq (.int .u64 q)) [] (by kernel_rfl) (fun w' hw' => ?_) ?_
          · refine ask_do rfl fun K hK => ?_
            go_simp
            exact hK _ _ rfl rfl (World.grownBy.refl _ none)
          -- op 16 (slot 44): call
          refine MonoR.step (Pv.eq (.int .u64 (pwR q x i))) [(13, 41), (14, 42), (15, 43)] (by kernel_rfl) (fun w' hw' => ?_) ?_
          · intro x41 h41
            intro x42 h42
            intro x43 h43
            have e41 : x41 = .int .u64 x := h41
            clear h41
            subst e41
            have e42 : x42 = .int .i64 (i : Int) := h42
            clear h42
            subst e42
            have e43 : x43 = .int .u64 q := h43
            clear h43
            subst e43
            refine ask_do rfl fun K hK => ?_
            go_simp
            refine (rpower06_any x q i w' HX.out HQ.out (by omega)).mono ?_
            rintro e w3 ⟨rfl, hg⟩
            exact hK _ _ rfl rfl hg
          -- op 17 (slot 45): move
          refine MonoR.step (Pv.eq (.int .u64 q)) [] (by kernel_rfl) (fun w' hw' => ?_) ?_
          · refine ask_do rfl fun K hK => ?_
            go_simp
            exact hK _ _ rfl rfl (World.grownBy.refl _ none)
          -- op 18 (slot 46): call
          refine MonoR.step (Pv.eq (.int .u64 (mulI y (pwR q x i) q))) [(12, 40), (16, 44), (17, 45)] (by kernel_rfl) (fun w' hw' => ?_) ?_
          · intro x40 h40
            intro x44 h44
            intro x45 h45
            have e40 : x40 = .int .u64 y := h40
            clear h40
            subst e40
            have e44 : x44 = .int .u64 (pwR q x i) := h44
            clear h44
            subst e44
            have e45 : x45 = .int .u64 q := h45
            clear h45
            subst e45
            refine ask_do rfl fun K hK => ?_
            go_simp
            refine (refmul_any y (pwR q x i) q w' HYU.out (pwR_U64 _ _ _) HQ.out).mono ?_
            rintro e w3 ⟨rfl, n3, rfl⟩
            exact hK _ _ rfl rfl (grown_drewN' w' n3)
          -- op 19 (slot 47): move
          refine MonoR.step (Pv.eq (.int .u64 q)) [] (by kernel_rfl) (fun w' hw' => ?_) ?_
          · refine ask_do rfl fun K hK => ?_
            go_simp
            exact hK _ _ rfl rfl (World.grownBy.refl _ none)
          -- op 20 (slot 48): call
          refine MonoR.step (Pv.eq (.int .u64 (addI z (mulI y (pwR q x i) q) q))) [(5, 33), (18, 46), (19, 47)] (by kernel_rfl) (fun w' hw' => ?_) ?_
          · intro x33 h33
            intro x46 h46
            intro x47 h47
            have e33 : x33 = .int .u64 z := h33
            clear h33
            subst e33
            have e46 : x46 = .int .u64 (mulI y (pwR q x i) q) := h46
            clear h46
            subst e46
            have e47 : x47 = .int .u64 q := h47
            clear h47
            subst e47
            refine ask_do rfl fun K hK => ?_
            go_simp
            refine (refadd_any z (mulI y (pwR q x i) q) q w' HZ.out (mulI_U64 _ _ _) HQ.out).mono ?_
            rintro e w3 ⟨rfl, n3, rfl⟩
            exact hK _ _ rfl rfl (grown_drewN' w' n3)
          -- op 21 (slot 49): indexAddr
          refine MonoR.step (Pv.eq (.pointer (some ⟨w.heap.size, j, none⟩))) [(0, 28), (1, 29)] (by kernel_rfl) (fun w' hw' => ?_) ?_
          · intro x28 h28
            intro x29 h29
            have e28 : x28 = .slice (some ⟨w.heap.size, 0, none⟩) t t := h28
            clear h28
            subst e28
            have e29 : x29 = .int .i64 (j : Int) := h29
            clear h29
            subst e29
            refine ask_do rfl fun K hK => ?_
            go_simp
            exact hK _ _ rfl rfl (World.grownBy.refl _ none)
          
          intro w5 hw5
          intro y0 k0 y1 k1 y2 k2 y3 k3 y4 k4 y5 k5 y6 k6 y7 k7 y8 k8 y9 k9 y10 k10 y11 k11 y12 k12 y13 k13 y14 k14 y15 k15 y16 k16 y17 k17 y18 k18 y19 k19 y20 k20 y21 k21
          show wpList Tryz.prog _ _ _ _ w5
          simp only [Act.put, List.setIfInBounds_toArray, List.set_cons_zero, List.set_cons_succ]
          have e20 : y20 = .int .u64 (addI z (mulI y (pwR q x i) q) q) := k20
          have e21 : y21 = .pointer (some ⟨w.heap.size, j, none⟩) := k21
          subst e20 e21
          have hb5 := HBw.out.grown hw5 (by simp)
          obtain ⟨r, hr⟩ : ∃ r, r = addI z (mulI y (pwR q x i) q) q := ⟨_, rfl⟩
          rw [← hr] at HSET HRES
          rw [← hr]
          have hjL : j < L0.length := by rw [HRL.out]; omega
          have hcl : w5.cell? ⟨w.heap.size, j, none⟩ = some (.int .u64 L0[j]) := by rw [hb5.cell j]; simp [nums, hjL]
          have hfr := hb5.free j
          have HFIN : Hid (Bk (w5.setCell ⟨w.heap.size, j, none⟩ (.int .u64 r)) w.heap.size 22 (nums (rowJ q x M t i (j + 1))).toArray ∧ w.grownBy (w5.setCell ⟨w.heap.size, j, none⟩ (.int .u64 r)) none) := Lib.hid ⟨(hb5.set j _).of_eq (by rw [← HSET.out]; simp [nums, List.map_set]), grown_up (HGw.out.trans hw5) (grownBy_set (World.grownBy.refl _ (some w.heap.size)) j _) (fun g e => by injection e with e; omega)⟩
          clear hb5 hw5 k0 k1 k2 k3 k4 k5 k6 k7 k8 k9 k10 k11 k12 k13 k14 k15 k16 k17 k18 k19 k20 k21 hr
          go_wp2_with fail
          go_roundg k
          case measure => omega
          case rel => exact ⟨j + 1, by omega, by go_num, HFIN⟩
theorem colZ_snoc' (l : List (List Int)) (i j : Nat) (h : i < l.length) (hj : j < l[i].length) : colZ (l.take (i + 1)) j = colZ (l.take i) j ++ [l[i][j]] := by
  rw [colZ_snoc l i j h, List.getElem?_eq_getElem hj]
  rfl
theorem turnT_succ (M : List (List Int)) (j : Nat) : turnZ (j + 1) M = turnZ j M ++ [colZ M j] := by simp [turnZ, List.range_succ]
set_option maxRecDepth 100000 in
set_option maxHeartbeats 2000000 in
theorem rturned_sq (v : Value) (M : List (List Int)) (t : Nat) (X : Nat → Prop) (w : World) (h : Sl (encS encU) X w v M) (hs : SqL t M) (ht : t ≤ 100) :
    Calls Tryz.prog 105 #[v] w (Gives (encS encU) (fun b => w.heap.size ≤ b) w (turnZ t M)) := by
  have H := Lib.hid h
  have HSQ := Lib.hid hs
  have HW := Lib.hid (fun (W : World) (hW : w.grownBy W none) => r6wide_any v M X W (h.kept hW) (fun c hc => by rw [hs.2 c hc]; omega))
  rw [wide_sqL hs] at HW
  obtain ⟨A, c, rfl, hc1, hc2⟩ := h.form
  rw [hs.1] at hc1 HW ⊢
  clear h hs
  go_enter Tryz.func105, Tryz.ntmps105
  go_wp2_with fail
  go_loopg [3, 4] t (fun g s3 s4 wx => ∃ j : Nat, j + g = t ∧ s4 = .int .i64 j ∧ Hid (Acc (encS encU) w.heap.size 25 (fun b => w.heap.size ≤ b) wx s3 (turnZ j M) ∧ w.grownBy wx none))
  case atStart => exact ⟨0, by omega, rfl, Lib.hid ⟨Acc.nil _ _ _ _ _, World.grownBy.refl _ _⟩⟩
  case round =>
    obtain ⟨j, hj, rfl, HX⟩ := hrel
    have HWr := Lib.hid (HW.out wr HX.out.2)
    go_wp2_with fail
    refine HWr.out.mono ?_
    rintro e w1 ⟨rfl, rfl⟩
    clear HWr
    cases gk with
    | zero =>
      obtain rfl : j = t := by omega
      have HR : Hid (Sl (encS encU) (fun b => w.heap.size ≤ b) wr u3 (turnZ j M) ∧ w.grownBy wr none) := Lib.hid ⟨HX.out.1.sl, HX.out.2⟩
      have hno : ¬ ((j : Int) < (j : Int)) := by omega
      clear HX HW
      go_wp2
      go_ret
      exact ⟨_, rfl, HR.out⟩
    | succ m =>
      have hjn : (j : Int) < (t : Int) := by omega
      have hjt : j < t := by omega
      have HJT := Lib.hid hjt
      have HA := Lib.hid HX.out.1
      have HG := Lib.hid HX.out.2
      have HLN : Hid (((turnZ j M).length + 1) * 24 ≤ 140737488355328) := Lib.hid (by simp [turnZ]; omega)
      clear HX HW hjt
      go_wp2_with fail
      go_loopg [5, 6] t (fun g s5 s6 wx => ∃ i : Nat, i + g = t ∧ s6 = .int .i64 i ∧ Hid (Acc encU wr.heap.size 22 (fun b => wr.heap.size ≤ b) wx s5 (colZ (M.take i) j) ∧ wr.grownBy wx none))
      case atStart => exact ⟨0, by omega, rfl, Lib.hid ⟨Acc.nil _ _ _ _ _, World.grownBy.refl _ _⟩⟩
      case round =>
        rename World => wi
        obtain ⟨i, hi, rfl, HY⟩ := hrel
        cases gk with
        | zero =>
          obtain rfl : i = t := by omega
          have hno : ¬ ((i : Int) < (i : Int)) := by omega
          obtain ⟨A5, n5, c5, rfl⟩ := HY.out.1.sl.shape
          have HAO := Lib.hid (HA.out.kept HY.out.2)
          have HGO : Hid (w.grownBy wi none) := Lib.hid (HG.out.trans HY.out.2)
          have HREP : Hid (Enc.rep (encS encU) (fun b => w.heap.size ≤ b ∧ some b ≠ u3.ownBlock) wi [.slice A5 n5 c5] (colZ M j)) := Lib.hid ⟨_, rfl, by
            have h := HY.out.1.sl
            rw [show M.take i = M by rw [← HSQ.out.1, List.take_length]] at h
            exact h.fresh HG.out HA.out⟩
          clear HY
          go_wp2_with (at_builtin; refine wpList_pushG rfl (.tmp 38) (.tmp 40) rfl (E := encS encU) el_nums HGO.out HAO.out (fun _ h => h) HREP.out HLN.out rfl rfl ?_)
          intro v3 w3 ha hg hgo
          have HFIN : Hid (Acc (encS encU) w.heap.size 25 (fun b => w.heap.size ≤ b) w3 v3 (turnZ (j + 1) M) ∧ w.grownBy w3 none) := Lib.hid ⟨by rw [turnT_succ]; exact ha, hg⟩
          clear ha hg hgo
          go_wp2_with fail
          go_roundg m
          case measure => omega
          case rel => exact ⟨j + 1, by omega, by go_num, HFIN⟩
        | succ q =>
          have hin : (i : Int) < (t : Int) := by omega
          have hi0 : (0 : Int) ≤ (i : Int) := Int.natCast_nonneg i
          have hj0 : (0 : Int) ≤ (j : Int) := Int.natCast_nonneg j
          have hiN : i < M.length := by rw [HSQ.out.1]; omega
          obtain ⟨g, o, c', u, e, _, _, hcu, hsu⟩ := (H.out.kept (HG.out.trans HY.out.2)).atS hiN
          injection e with e1 e2 e3
          subst e1 e3
          obtain ⟨A1, c1, e1, k1, l1⟩ := hsu.form
          rw [HSQ.out.2 _ (List.getElem_mem hiN)] at e1 k1
          subst e1
          have hjl : j < M[i].length := by rw [HSQ.out.2 _ (List.getElem_mem hiN)]; exact HJT.out
          obtain ⟨g2, o2, c2, e, _, _, hc2', hu2⟩ := hsu.atU hjl
          injection e with e21 e22 e23
          subst e21 e23
          have HSN := Lib.hid (colZ_snoc' M i j hiN hjl)
          obtain ⟨y, hy⟩ : ∃ y, y = M[i][j] := ⟨_, rfl⟩
          rw [← hy] at hc2' hu2 HSN
          have HU := Lib.hid hu2
          have HA5 := Lib.hid HY.out.1
          have HG5 := Lib.hid HY.out.2
          have HLC : Hid (((colZ (M.take i) j).length + 1) * 8 ≤ 140737488355328) := Lib.hid (by simp [colZ]; omega)
          clear hsu e2 e22 HY hu2 hy hjl hiN
          go_wp2_with (at_builtin; refine wpList_pushG rfl (.tmp 34) (.tmp 36) rfl (E := encU) el_u64 HG5.out HA5.out (fun _ h => h) ⟨rfl, HU.out⟩ HLC.out rfl rfl ?_)
          intro v3 w3 ha hg hgo
          have HFIN : Hid (Acc encU wr.heap.size 22 (fun b => wr.heap.size ≤ b) w3 v3 (colZ (M.take (i + 1)) j) ∧ wr.grownBy w3 none) := Lib.hid ⟨by rw [HSN.out]; exact ha, hg⟩
          clear ha hg hgo
          go_wp2_with fail
          go_roundg q
          case measure => omega
          case rel => exact ⟨i + 1, by omega, by go_num, HFIN⟩
set_option maxRecDepth 100000 in
set_option maxHeartbeats 1000000 in
theorem rcol_sq (v : Value) (M : List (List Int)) (t : Nat) (x q : Int) (X : Nat → Prop) (w : World) (h : Sl (encS encU) X w v M) (hx : U64 x) (hq : U64 q) (hs : SqL t M) (ht : t ≤ 100) :
    Calls Tryz.prog 48 #[v, .int .u64 x, .int .u64 q] w (Gives encU (fun b => w.heap.size ≤ b) w (colV q M x)) := by
  have HT := Lib.hid (rturned_sq v M t X w h hs ht)
  have HR := Lib.hid (fun (W : World) (u : Value) (hu : Sl (encS encU) (fun b => w.heap.size ≤ b) W u (turnZ t M)) => rrow_sq u (turnZ t M) t x q _ W hu hx hq (turnZ_sq hs) ht)
  rw [row_turn hs] at HR
  have HL : Hid ((colV q M x).length = t) := Lib.hid (colV_sqL hs q x)
  obtain ⟨A, c, rfl, hc1, hc2⟩ := h.form
  rw [hs.1] at hc1 HT ⊢
  have hno : ¬ ((t : Int) < (t : Int)) := by omega
  clear h hx hq hs
  go_enter Tryz.func48, Tryz.ntmps48
  go_wp2_with fail
  refine HT.out.mono ?_
  rintro e w1 ⟨v1, rfl, hs1, hg1⟩
  obtain ⟨A1, n1, c1, rfl⟩ := hs1.shape
  have HR1 := Lib.hid (HR.out w1 _ hs1)
  have HG1 : Hid (w.grownBy w1 none) := Lib.hid hg1
  clear hs1 hg1 HT HR
  go_wp2_with fail
  refine HR1.out.mono ?_
  rintro e w2 ⟨v2, rfl, hs2, hg2⟩
  obtain ⟨A2, c2, e2, _, _⟩ := hs2.form
  rw [HL.out] at e2
  subst e2
  have HF : Hid (Sl encU (fun b => w.heap.size ≤ b) w2 (.slice A2 t c2) (colV q M x) ∧ w.grownBy w2 none) := Lib.hid ⟨hs2.more fun b _ hb => Nat.le_trans HG1.out.size hb, HG1.out.trans hg2⟩
  clear hs2 hg2 HR1
  go_wp2_with fail
  go_loopg [7] 0 (fun g s7 wx => s7 = .slice A2 t c2 ∧ Hid (wx = w2))
  case atStart => exact ⟨rfl, Lib.hid rfl⟩
  case round =>
    obtain ⟨rfl, HX⟩ := hrel
    obtain rfl : wr = w2 := HX.out
    clear HX
    go_wp2
    go_ret
    exact ⟨_, rfl, HF.out⟩
end Go.Proofs.YtphbcfpiklmmeaaGreatDoor
