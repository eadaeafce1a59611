/- consistoryref18.Make, walked (printed by mkt.py). A tape of which draws were told ahead, told to what deals. deal.Model and deal.Make, and the document's, whatever comes in: one contract each. consistoryref18.Dealings of what is the same; data that came in, with its bounds. Params and pairs that came in by value. What comes in, with the bounds that the rows lay on every slice. Draws alone leave the memory as it was; the table of bits as it is listed. -/
import Derived.Test.YtphbcfpiklmmeaaGreatDoorZ6
import Derived.ProofKit
namespace Go.Proofs.YtphbcfpiklmmeaaGreatDoor
open Go Go.RowKit Go.Shelf

set_option maxRecDepth 100000 in
set_option maxHeartbeats 8000000 in
theorem rmake_any (p : Par) (vl : Value) (l : List (Int × Int)) (n : Nat) (X : Nat → Prop) (w : World) {pa : Option Addr} {g : Nat} {dr : Nat → Int} {TI : Nat → World → Prop} {bl : Nat → Prop} {most : Nat} (hT : RTp pa g p.Q dr TI bl most) (hp : p.ok) (hm : mayP p = true) (h : Sl encP X w vl l) (hX : ∀ b, X b → b ≠ g) (hl : (l.length : Int) = secretsI p) (hn : 1 ≤ n ∧ n ≤ 7) (k0 t : Nat) (ht : (t : Int) = p.T + 1) (hI : TI k0 w) (hmost : k0 + l.length * (2 * (t * t - 1)) ≤ most) :
    Calls Tryz.prog 13 #[p.v, vl, .int .i64 n, .pointer pa] w fun e w' => ∃ vm vr vc, e = .returned (.tuple #[.agg #[vm, vr, vc], .int .i64 0]) ∧ Sl (encS (encS encU)) (fun b => w.heap.size ≤ b) w' vm (matI p (makeFs l p.Q dr t k0 l.length) (makeBs l p.Q dr t k0 l.length)) ∧ Sl (encS (encS encP)) (fun b => w.heap.size ≤ b) w' vr ((List.range n).map fun j : Nat => rowsP p.Q (makeFs l p.Q dr t k0 l.length) (makeBs l p.Q dr t k0 l.length) t ((j : Int) + 1)) ∧ Sl (encS (encS encP)) (fun b => w.heap.size ≤ b) w' vc ((List.range n).map fun j : Nat => colsP p.Q (makeFs l p.Q dr t k0 l.length) (makeBs l p.Q dr t k0 l.length) t ((j : Int) + 1)) ∧ TI (k0 + l.length * (2 * (t * t - 1))) w' ∧ w.grownBy w' (some g) := by
  have HT := Lib.hid hT
  have HP := Lib.hid hp
  have HX := Lib.hid hX
  obtain ⟨hq, _, _, n1, n2, n3, t1, t2, t3, hs, kk1, dd1⟩ := may_apart hm
  have hsec := smallB_secrets hs
  have HQ : Hid (U64 p.Q ∧ 0 < p.Q) := Lib.hid ⟨hp.Q, mayB_pos hq⟩
  have hL10 : l.length ≤ 10 := by omega
  have ht23 : t = 2 ∨ t = 3 := by omega
  have HT23 := Lib.hid ht23
  obtain ⟨hn1, hn7⟩ := hn
  obtain ⟨dd, hdd⟩ : ∃ y, y = t * t - 1 := ⟨_, rfl⟩
  rw [← hdd] at hmost ⊢
  have HDD := Lib.hid hdd
  obtain ⟨A, c, rfl, hl1, hl2⟩ := h.form
  have hGW : g < w.heap.size := hT.old hI hT.own
  have HGW := Lib.hid hGW
  have HOB : Hid (∀ b, bl b → b < w.heap.size) := Lib.hid (fun b hb => hT.old hI hb)
  obtain ⟨w0, hw0⟩ : ∃ y, y = (w.alloc (Obj.cells p.cells 24)).alloc (Obj.cells #[.slice none 0 0, .slice none 0 0, .slice none 0 0] 48) := ⟨_, rfl⟩
  have HG0 : Hid (w.grownBy w0 none) := Lib.hid (by rw [hw0]; exact grown_two)
  have HB0 : Hid (Bk w0 w.heap.size 24 p.cells) := Lib.hid (by rw [hw0]; exact (Bk.new w _ _).alloc _)
  have HR0 : Hid (Bk w0 (w.heap.size + 1) 48 #[.slice none 0 0, .slice none 0 0, .slice none 0 0]) := Lib.hid (by
    rw [hw0]
    have h := Bk.new (w.alloc (Obj.cells p.cells 24)) 48 #[.slice none 0 0, .slice none 0 0, .slice none 0 0]
    rw [World.size_alloc] at h
    exact h)
  have HI0 : Hid (TI k0 w0) := Lib.hid (hT.keep hI HG0.out (by simp))
  have HMY := Lib.hid (fun W => rmay_any p W hp)
  rw [← may_same p, hm] at HMY
  have HSEC := Lib.hid (rsecrets_any p)
  have HTI : Hid (∀ k w w', TI k w → w.grownBy w' none → TI k w') := Lib.hid (fun k w w' h hg => hT.keep h hg (by simp))
  rw [← hl] at HSEC
  have HL := Lib.hid (h.kept HG0.out)
  have HTP := Lib.hid ht
  have HMO := Lib.hid hmost
  clear hT hp hX hq n1 n2 n3 t1 t2 t3 hs kk1 dd1 hsec hm h hI ht hmost hl hGW hdd ht23
  go_enter Tryz.func13, Tryz.ntmps13
  go_wp2_with fail
  rw [← hw0]
  have hp0 := HB0.out.prule
  clear hw0
  go_wp2_with fail
  refine (HMY.out _).mono ?_
  rintro e w1 ⟨rfl, hg⟩
  have HG1 : Hid (w0.grownBy w1 none) := Lib.hid hg
  have hp1 := (HB0.out.grown hg (by simp)).prule
  clear hg hp0 HMY
  go_wp2_with fail
  refine (HSEC.out _).mono ?_
  rintro e w2 ⟨rfl, hg⟩
  have HG2 : Hid (w0.grownBy w2 none) := Lib.hid (HG1.out.trans hg)
  clear hg hp1 HSEC
  have hn7' : ¬ ((n : Int) > 7) := by omega
  have hn1' : ¬ ((n : Int) < 1) := by omega
  go_wp2_with fail
  have HB2 : Hid (Bk w2 w.heap.size 24 p.cells) := Lib.hid (HB0.out.grown HG2.out (by simp))
  have HR2 : Hid (Bk w2 (w.heap.size + 1) 48 #[.slice none 0 0, .slice none 0 0, .slice none 0 0]) := Lib.hid (HR0.out.grown HG2.out (by simp))
  have HI2 : Hid (TI k0 w2) := Lib.hid (HT.out.keep HI0.out HG2.out (by simp))
  have HW2 : Hid (w.heap.size + 1 < w2.heap.size ∧ g < w.heap.size) := Lib.hid ⟨HR2.out.lt, HGW.out⟩
  have HPX : Hid (∀ wx, w2.grownBy wx (some g) → Bk wx w.heap.size 24 p.cells) := Lib.hid (fun wx hg => HB2.out.grown hg (fun e => by injection e with e; have := HW2.out.2; omega))
  have HLX : Hid (∀ wx, w2.grownBy wx (some g) → Sl encP X wx (.slice A l.length c) l) := Lib.hid (fun wx hg => (HL.out.kept HG2.out).keep hg (fun b hb e => HX.out b hb (by injection e with e)))
  have HTW : Hid (∀ (x : Int) (k : Nat) (wx : World), U64 x → k + dd ≤ most → TI k wx → Calls Tryz.prog 44 #[p.v, .int .u64 x, .pointer pa] wx fun e w' => ∃ v, e = .returned v ∧ Sl (encS encU) (fun b => wx.heap.size ≤ b) w' v (twoL x p.Q dr t k) ∧ TI (k + dd) w' ∧ wx.grownBy w' (some g)) := Lib.hid (fun x k wx hx hk hi => by
    rw [HDD.out] at hk ⊢
    exact rtwo_any p HT.out x t k wx hx HQ.out.1 HQ.out.2 HTP.out HT23.out hk hi)
  obtain ⟨L, hLL⟩ : ∃ y, y = l.length := ⟨_, rfl⟩
  have HLN := Lib.hid hLL
  rw [← hLL] at hL10 hl1 HMO HLX ⊢
  clear hLL
  go_loopg [10, 11, 12] L (fun gk s10 s11 s12 wx => ∃ s : Nat, s + gk = L ∧ s12 = .int .i64 s ∧ Hid (Side (encS (encS encU)) (encS (encS encU)) w2.heap.size 32 32 (fun b => w2.heap.size ≤ b) wx s10 s11 (makeFs l p.Q dr t k0 s) (makeBs l p.Q dr t k0 s) ∧ TI (k0 + s * (2 * dd)) wx ∧ w2.grownBy wx (some g)))
  case atStart => exact ⟨0, by omega, rfl, Lib.hid ⟨⟨Acc.nil _ _ _ _ _, Acc.nil _ _ _ _ _⟩, by simpa using HI2.out, World.grownBy.refl _ _⟩⟩
  case round =>
    obtain ⟨s, hsL, rfl, HXX⟩ := hrel
    have HS0 := Lib.hid HXX.out.1
    have HI3 := Lib.hid HXX.out.2.1
    have HG3 := Lib.hid HXX.out.2.2
    clear HXX
    cases gk with
    | zero =>
      have eL : L = s := by omega
      subst eL
      have hno : ¬ ((L : Int) < (L : Int)) := by omega
      obtain ⟨F, hF⟩ : ∃ y, y = makeFs l p.Q dr t k0 L := ⟨_, rfl⟩
      obtain ⟨R, hR⟩ : ∃ y, y = makeBs l p.Q dr t k0 L := ⟨_, rfl⟩
      rw [← hF, ← hR] at HS0
      have HFL : Hid (F.length = L ∧ R.length = L) := Lib.hid (by rw [hF, hR]; simp [makeFs, makeBs])
      have HSQ : Hid ((∀ M ∈ F, SqL t M) ∧ (∀ M ∈ R, SqL t M)) := Lib.hid (by rw [hF, hR]; exact ⟨makeFs_sq _ _ _ _ _ _ (by have := HT23.out; omega), makeBs_sq _ _ _ _ _ _ (by have := HT23.out; omega)⟩)
      have HFE := Lib.hid hF
      have HRE := Lib.hid hR
      obtain ⟨AF, cF, eF, _, _⟩ := HS0.out.fst.sl.form
      obtain ⟨AR, cR, eR, _, _⟩ := HS0.out.snd.sl.form
      rw [HFL.out.1] at eF
      rw [HFL.out.2] at eR
      subst eF eR
      have HMX := Lib.hid (rmatrix_sq p (.slice AF L cF) (.slice AR L cR) F R L t TT wr HP.out (HS0.out.fst.sl.more fun _ _ _ => trivial) (HS0.out.snd.sl.more fun _ _ _ => trivial) HFL.out.1 HFL.out.2 HSQ.out.1 HSQ.out.2 (by omega) (by have := HT23.out; omega))
      have hp3 := (HPX.out _ HG3.out).prule
      clear hF hR HTW HLX HMO
      go_wp2_with fail
      refine HMX.out.mono ?_
      rintro e w3 ⟨vm, rfl, hsm, hgm⟩
      obtain ⟨Am, nm, cm, rfl⟩ := hsm.shape
      obtain ⟨w4, hw4⟩ : ∃ y, y = w3.alloc (Obj.cells #[.slice Am nm cm, .slice none 0 0, .slice none 0 0] 48) := ⟨_, rfl⟩
      obtain ⟨Bd, hBd⟩ : ∃ y, y = w3.heap.size := ⟨_, rfl⟩
      have HG34 : Hid (wr.grownBy w4 none) := Lib.hid (by rw [hw4]; exact hgm.trans (World.grownBy_alloc _ _ none))
      have HBD : Hid (Bk w4 Bd 48 #[.slice Am nm cm, .slice none 0 0, .slice none 0 0]) := Lib.hid (by rw [hw4, hBd]; exact Bk.new _ _ _)
      have HSZ4 : Hid (w4.heap.size = Bd + 1 ∧ wr.heap.size ≤ Bd ∧ w2.heap.size ≤ wr.heap.size) := Lib.hid (by rw [hw4, hBd, World.size_alloc]; exact ⟨rfl, hgm.size, HG3.out.size⟩)
      have HSM : Hid (Sl (encS (encS encU)) (fun b => w2.heap.size ≤ b ∧ b < Bd) w4 (.slice Am nm cm) (matI p F R)) := Lib.hid (by
        rw [hw4, hBd]
        exact (hsm.bounded.kept (World.grownBy_alloc _ _ none)).more fun b _ hb => ⟨Nat.le_trans HG3.out.size hb.1, hb.2⟩)
      have HF4 : Hid (Sl (encS (encS encU)) (fun b => b < Bd) w4 (.slice AF L cF) F) := Lib.hid ((HS0.out.fst.sl.bounded.kept HG34.out).more fun b _ hb => Nat.lt_of_lt_of_le hb.2 HSZ4.out.2.1)
      have HR4 : Hid (Sl (encS (encS encU)) (fun b => b < Bd) w4 (.slice AR L cR) R) := Lib.hid ((HS0.out.snd.sl.bounded.kept HG34.out).more fun b _ hb => Nat.lt_of_lt_of_le hb.2 HSZ4.out.2.1)
      have HI4 : Hid (TI (k0 + L * (2 * dd)) w4) := Lib.hid (HT.out.keep HI3.out HG34.out (by simp))
      have HG4 : Hid (w2.grownBy w4 (some g)) := Lib.hid (HG3.out.trans (HG34.out.but _))
      have HPD : Hid (∀ wx, w4.grownBy wx (some Bd) → Bk wx w.heap.size 24 p.cells) := Lib.hid (fun wx hg => (HPX.out _ HG4.out).grown hg (fun e => by injection e with e; have := HW2.out; have := HSZ4.out; omega))
      have HFX : Hid (∀ wx, w4.grownBy wx (some Bd) → Sl (encS (encS encU)) (fun b => b < Bd) wx (.slice AF L cF) F) := Lib.hid (fun wx hg => HF4.out.keep hg (fun b hb e => by injection e with e; omega))
      have HRX : Hid (∀ wx, w4.grownBy wx (some Bd) → Sl (encS (encS encU)) (fun b => b < Bd) wx (.slice AR L cR) R) := Lib.hid (fun wx hg => HR4.out.keep hg (fun b hb e => by injection e with e; omega))
      have HST : Hid (∃ vr vc, Bk w4 Bd 48 #[.slice Am nm cm, vr, vc] ∧ Side (encS (encS encP)) (encS (encS encP)) w4.heap.size 31 31 (fun b => w4.heap.size ≤ b) w4 vr vc ((List.range 0).map fun k : Nat => rowsP p.Q F R t ((k : Int) + 1)) ((List.range 0).map fun k : Nat => colsP p.Q F R t ((k : Int) + 1)) ∧ w4.grownBy w4 (some Bd)) := Lib.hid ⟨_, _, HBD.out, ⟨Acc.nil _ _ _ _ _, Acc.nil _ _ _ _ _⟩, World.grownBy.refl _ _⟩
      clear hsm hgm HMX HS0 HF4 HR4 HI3 HBD HG34 HPX HG3
      go_wp2_with fail
      rw [← hw4, ← hBd]
      clear hw4 hBd hp3
      go_loopg [14] n (fun gk s14 wx => ∃ j : Nat, j + gk = n ∧ s14 = .int .i64 ((j : Int) + 1) ∧ Hid (∃ vr vc, Bk wx Bd 48 #[.slice Am nm cm, vr, vc] ∧ Side (encS (encS encP)) (encS (encS encP)) w4.heap.size 31 31 (fun b => w4.heap.size ≤ b) wx vr vc ((List.range j).map fun k : Nat => rowsP p.Q F R t ((k : Int) + 1)) ((List.range j).map fun k : Nat => colsP p.Q F R t ((k : Int) + 1)) ∧ w4.grownBy wx (some Bd)))
      case atStart => exact ⟨0, by omega, rfl, HST⟩
      case round =>
        rename World => wj
        obtain ⟨j, hjn, rfl, HDX⟩ := hrel
        obtain ⟨vr, vc, hbd, hsd, hgd⟩ := HDX.out
        have HBd := Lib.hid hbd
        have HSd := Lib.hid hsd
        have HGd := Lib.hid hgd
        clear hbd hsd hgd HDX HST
        obtain ⟨Ar1, nr1, cr1, rfl⟩ := HSd.out.fst.sl.shape
        obtain ⟨Ac1, nc1, cc1, rfl⟩ := HSd.out.snd.sl.shape
        cases gk with
        | zero =>
          obtain rfl : j = n := by omega
          have hno2 : ¬ ((j : Int) + 1 ≤ (j : Int)) := by omega
          have HG24 : Hid (w2.grownBy wj (some g)) := Lib.hid (HG4.out.andThen HGd.out (fun b e => .inl (by injection e with e; have := HSZ4.out; omega)))
          have HR8 : Hid (Bk wj (w.heap.size + 1) 48 #[.slice none 0 0, .slice none 0 0, .slice none 0 0]) := Lib.hid (HR2.out.grown HG24.out (fun e => by injection e with e; have := HW2.out; omega))
          have c0 := HBd.out.cell 0
          have c1 := HBd.out.cell 1
          have c2 := HBd.out.cell 2
          have r0 := HR8.out.cell 0
          have r1 := HR8.out.cell 1
          have r2 := HR8.out.cell 2
          have f8 := HR8.out.free
          simp at c0 c1 c2 r0 r1 r2
          obtain ⟨wF, hwF⟩ : ∃ x, x = ((wj.setCell ⟨w.heap.size + 1, 0, none⟩ (.slice Am nm cm)).setCell ⟨w.heap.size + 1, 1, none⟩ (.slice Ar1 nr1 cr1)).setCell ⟨w.heap.size + 1, 2, none⟩ (.slice Ac1 nc1 cc1) := ⟨_, rfl⟩
          have HF8 : Hid (Bk wF (w.heap.size + 1) 48 #[.slice Am nm cm, .slice Ar1 nr1 cr1, .slice Ac1 nc1 cc1]) := Lib.hid (by rw [hwF]; exact ((HR8.out.set 0 _).set 1 _).set 2 _)
          have HGF : Hid (wj.grownBy wF (some (w.heap.size + 1))) := Lib.hid (by rw [hwF]; exact ((grownSet wj (w.heap.size + 1) 0 _).trans (grownSet _ (w.heap.size + 1) 1 _)).trans (grownSet _ (w.heap.size + 1) 2 _))
          have HFIN : Hid (Sl (encS (encS encU)) (fun b => w.heap.size ≤ b) wF (.slice Am nm cm) (matI p (makeFs l p.Q dr t k0 L) (makeBs l p.Q dr t k0 L)) ∧ Sl (encS (encS encP)) (fun b => w.heap.size ≤ b) wF (.slice Ar1 nr1 cr1) ((List.range j).map fun k : Nat => rowsP p.Q (makeFs l p.Q dr t k0 L) (makeBs l p.Q dr t k0 L) t ((k : Int) + 1)) ∧ Sl (encS (encS encP)) (fun b => w.heap.size ≤ b) wF (.slice Ac1 nc1 cc1) ((List.range j).map fun k : Nat => colsP p.Q (makeFs l p.Q dr t k0 L) (makeBs l p.Q dr t k0 L) t ((k : Int) + 1)) ∧ TI (k0 + L * (2 * dd)) wF ∧ w.grownBy wF (some g)) := Lib.hid (by
            rw [← HFE.out, ← HRE.out]
            have h2 := HW2.out
            have h4 := HSZ4.out
            refine ⟨?_, ?_, ?_, ?_, ?_⟩
            · exact ((HSM.out.keep HGd.out (fun b hb e => by injection e with e; omega)).keep HGF.out (fun b hb e => by injection e with e; omega)).more fun b _ hb => by have := hb.1; omega
            · exact (HSd.out.fst.sl.keep HGF.out (fun b hb e => by injection e with e; have := hb.1; omega)).more fun b _ hb => by have := hb.1; omega
            · exact (HSd.out.snd.sl.keep HGF.out (fun b hb e => by injection e with e; have := hb.1; omega)).more fun b _ hb => by have := hb.1; omega
            · exact HT.out.keep (HT.out.keep HI4.out HGd.out (fun b e hb => by injection e with e; have := HOB.out b hb; omega)) HGF.out (fun b e hb => by injection e with e; have := HOB.out b hb; omega)
            · exact (((HG0.out.trans HG2.out).but _).trans HG24.out).andThen HGF.out (fun b e => .inl (by injection e with e; omega)))
          clear HBd HSd HG24 HR8 HGF HSM
          go_wp2_with fail
          rw [← hwF]
          refine ⟨rfl, _, results_rdeal rfl _ rfl rfl HF8.out, ?_⟩
          refine ⟨_, _, _, rfl, ?_⟩
          rw [← HLN.out]
          exact HFIN.out
        | succ m =>
          have hj1 : (j : Int) + 1 ≤ (n : Int) := by omega
          have hj0 : (0 : Int) ≤ (j : Int) := Int.natCast_nonneg j
          have HIN : Hid (Side (encS encP) (encS encP) wj.heap.size 26 26 (fun b => wj.heap.size ≤ b) wj (.slice none 0 0) (.slice none 0 0) ((List.range 0).map (rowP p.Q F R t ((j : Int) + 1))) ((List.range 0).map (colP p.Q F R t ((j : Int) + 1))) ∧ wj.grownBy wj none) := Lib.hid ⟨⟨Acc.nil _ _ _ _ _, Acc.nil _ _ _ _ _⟩, World.grownBy.refl _ _⟩
          go_wp2_with fail
          go_loopg [15, 16, 17] L (fun gk s15 s16 s17 wx => ∃ i : Nat, i + gk = L ∧ s17 = .int .i64 i ∧ Hid (Side (encS encP) (encS encP) wj.heap.size 26 26 (fun b => wj.heap.size ≤ b) wx s15 s16 ((List.range i).map (rowP p.Q F R t ((j : Int) + 1))) ((List.range i).map (colP p.Q F R t ((j : Int) + 1))) ∧ wj.grownBy wx none))
          case atStart => exact ⟨0, by omega, rfl, HIN⟩
          case round =>
            rename World => wi
            obtain ⟨i, hiL, rfl, HY⟩ := hrel
            have HSi := Lib.hid HY.out.1
            have HGi := Lib.hid HY.out.2
            clear HY HIN
            obtain ⟨A16, n16, c16, rfl⟩ := HSi.out.fst.sl.shape
            obtain ⟨A17, n17, c17, rfl⟩ := HSi.out.snd.sl.shape
            cases gk with
            | zero =>
              have eI : L = i := by omega
              subst eI
              have hno3 : ¬ ((L : Int) < (L : Int)) := by omega
              obtain ⟨y, hy⟩ : ∃ y, y = rowsP p.Q F R t ((j : Int) + 1) := ⟨_, rfl⟩
              obtain ⟨z, hz⟩ : ∃ z, z = colsP p.Q F R t ((j : Int) + 1) := ⟨_, rfl⟩
              obtain ⟨xs, hxs⟩ : ∃ xs, xs = (List.range j).map fun k : Nat => rowsP p.Q F R t ((k : Int) + 1) := ⟨_, rfl⟩
              obtain ⟨ys, hys⟩ : ∃ ys, ys = (List.range j).map fun k : Nat => colsP p.Q F R t ((k : Int) + 1) := ⟨_, rfl⟩
              have HXS : Hid ((List.range (j + 1)).map (fun k : Nat => rowsP p.Q F R t ((k : Int) + 1)) = xs ++ [y]) := Lib.hid (by rw [hsnoc, hxs, hy])
              have HYS : Hid ((List.range (j + 1)).map (fun k : Nat => colsP p.Q F R t ((k : Int) + 1)) = ys ++ [z]) := Lib.hid (by rw [hsnoc, hys, hz])
              obtain ⟨hi, hhi⟩ : ∃ y, y = wi.heap.size := ⟨_, rfl⟩
              have HR1 : Hid (Sl (encS encP) (fun b => wj.heap.size ≤ b ∧ b < hi) wi (.slice A16 n16 c16) y) := Lib.hid (by
                rw [hy]
                unfold rowsP
                rw [HFL.out.1, hhi]
                exact HSi.out.fst.sl.bounded.more fun b _ hb => ⟨hb.1.1, hb.2⟩)
              have HR2' : Hid (Sl (encS encP) (fun b => wj.heap.size ≤ b ∧ b < hi) wi (.slice A17 n17 c17) z) := Lib.hid (by
                rw [hz]
                unfold colsP
                rw [HFL.out.1, hhi]
                exact HSi.out.snd.sl.bounded.more fun b _ hb => ⟨hb.1.1, hb.2⟩)
              have HWL : Hid ((∀ b, (Value.slice Ar1 nr1 cr1).ownBlock = some b → b < wj.heap.size) ∧ (∀ b, (Value.slice Ac1 nc1 cc1).ownBlock = some b → b < wj.heap.size)) := Lib.hid ⟨fun b e => (HSd.out.fst.lt b e).2, fun b e => (HSd.out.snd.lt b e).2⟩
              have HD4 : Hid (Bd < w4.heap.size ∧ w4.heap.size ≤ wj.heap.size ∧ wj.heap.size ≤ wi.heap.size) := Lib.hid ⟨by have := HSZ4.out; omega, HGd.out.size, HGi.out.size⟩
              rw [← hxs, ← hys] at HSd
              have HSd1 := Lib.hid (HSd.out.kept HGi.out)
              have HBd1 := Lib.hid (HBd.out.grown HGi.out (by simp))
              have HG41 : Hid (w4.grownBy wi (some Bd)) := Lib.hid (HGd.out.trans (HGi.out.but _))
              have HLX1 : Hid ((xs.length + 1) * 24 ≤ 140737488355328) := Lib.hid (by rw [hxs]; simp; omega)
              have HLX2 : Hid ((ys.length + 1) * 24 ≤ 140737488355328) := Lib.hid (by rw [hys]; simp; omega)
              have HREP1 : Hid ((encS (encS encP)).rep (fun b => (w4.heap.size ≤ b ∧ some b ≠ (Value.slice Ac1 nc1 cc1).ownBlock) ∧ some b ≠ (Value.slice Ar1 nr1 cr1).ownBlock) wi [.slice A16 n16 c16] y) := Lib.hid ⟨_, rfl, HR1.out.more fun b _ hb => ⟨⟨Nat.le_trans HD4.out.2.1 hb.1, fun e => absurd hb.1 (Nat.not_le_of_lt (HWL.out.2 b e.symm))⟩, fun e => absurd hb.1 (Nat.not_le_of_lt (HWL.out.1 b e.symm))⟩⟩
              have HZ4 : Hid (w4.heap.size ≤ wi.heap.size) := Lib.hid (Nat.le_trans HD4.out.2.1 HD4.out.2.2)
              have HHI : Hid (hi = wi.heap.size) := Lib.hid hhi
              clear hy hz hxs hys hhi HR1 HSi HBd HSd
              have c1 := HBd1.out.cell 1
              simp at c1
              go_wp2_with (at_builtin; refine wpList_push rfl (.tmp 126) (.tmp 128) rfl (E := encS (encS encP)) (y := y) el_pairs2 HSd1.out.fst rfl rfl HREP1.out HLX1.out HZ4.out (HSd1.out.new1 (fun _ h => Nat.le_trans HZ4.out h)) ?_)
              intro v5 w5 ha hg hm
              have HNE : Hid (∀ b, (Value.slice Ar1 nr1 cr1).ownBlock = some b → b ≠ Bd ∧ w4.heap.size ≤ b ∧ b < wj.heap.size) := Lib.hid (fun b e => by have h1 := (HSd1.out.fst.lt b e).1; have h2 := HD4.out.1; have h3 := HWL.out.1 b e; omega)
              have HS5 := Lib.hid (HSd1.out.one ha hg hm)
              have HB5 := Lib.hid (HBd1.out.grown hg (fun e => (HNE.out Bd e.symm).1 rfl))
              have HG5 : Hid (w4.grownBy w5 (some Bd)) := Lib.hid (HG41.out.andThen hg (fun b e => .inl (HNE.out b e).2.1))
              have HR5 : Hid (Sl (encS encP) (fun b => wj.heap.size ≤ b ∧ b < hi) w5 (.slice A17 n17 c17) z) := Lib.hid (HR2'.out.keep hg (fun b hb e => by have := (HNE.out b e.symm).2.2; have := hb.1; omega))
              have HM5 : Hid (∀ b, v5.ownBlock = some b → w4.heap.size ≤ b) := Lib.hid (fun b e => (HS5.out.fst.lt b e).1)
              have HMV : Hid (∀ b, v5.ownBlock = some b → b < wj.heap.size ∨ hi ≤ b) := Lib.hid (fun b e => by
                rcases hm with hm | ⟨k, hk, hm⟩
                · rw [hm] at e; exact .inl (HNE.out b e).2.2
                · rw [hm] at e; injection e with e; subst e; exact .inr (by rw [HHI.out]; exact hk))
              clear ha hg hm c1 HSd1 HBd1 HG41 HREP1 HR2'
              obtain ⟨Au, nu, cu, rfl⟩ := HS5.out.fst.sl.shape
              have d1 := HB5.out.cell 1
              have fd := HB5.out.free
              simp at d1
              obtain ⟨w6, hw6⟩ : ∃ x, x = w5.setCell ⟨Bd, 1, none⟩ (.slice Au nu cu) := ⟨_, rfl⟩
              have HGS : Hid (w5.grownBy w6 (some Bd)) := Lib.hid (by rw [hw6]; exact grownSet w5 Bd 1 _)
              have HB6 : Hid (Bk w6 Bd 48 #[.slice Am nm cm, .slice Au nu cu, .slice Ac1 nc1 cc1]) := Lib.hid (by rw [hw6]; exact HB5.out.set 1 _)
              have HS6 := Lib.hid (HS5.out.keep HGS.out (fun b hb e => by injection e with e; have := HD4.out.1; omega))
              have HG6 : Hid (w4.grownBy w6 (some Bd)) := Lib.hid (HG5.out.trans HGS.out)
              have HZ6 : Hid (w4.heap.size ≤ w6.heap.size) := Lib.hid HG6.out.size
              have HREP2 : Hid ((encS (encS encP)).rep (fun b => (w4.heap.size ≤ b ∧ some b ≠ (Value.slice Au nu cu).ownBlock) ∧ some b ≠ (Value.slice Ac1 nc1 cc1).ownBlock) w6 [.slice A17 n17 c17] z) := Lib.hid ⟨_, rfl, (HR5.out.keep HGS.out (fun b hb e => by injection e with e; have := HD4.out; have := hb.1; omega)).more fun b _ hb => ⟨⟨Nat.le_trans HD4.out.2.1 hb.1, fun e => by have := HMV.out b e.symm; have := hb.1; have := hb.2; omega⟩, fun e => absurd hb.1 (Nat.not_le_of_lt (HWL.out.2 b e.symm))⟩⟩
              have d2 : (w5.setCell ⟨Bd, 1, none⟩ (.slice Au nu cu)).cell? ⟨Bd, 2, none⟩ = some (.slice Ac1 nc1 cc1) := by rw [← hw6]; simpa using HB6.out.cell 2
              have HGA : Hid (w6.grownBy (w6.alloc (Obj.cells #[.slice A17 n17 c17] 31)) none) := Lib.hid (World.grownBy_alloc _ _ none)
              have HK6 : Hid (Bk (w6.alloc (Obj.cells #[.slice A17 n17 c17] 31)) w5.heap.size 31 #[.slice A17 n17 c17]) := Lib.hid (by
                have h := Bk.new w6 31 #[.slice A17 n17 c17]
                rwa [show w6.heap.size = w5.heap.size by rw [hw6]; simp] at h)
              have HSA := Lib.hid (HS6.out.kept HGA.out)
              have HBA := Lib.hid (HB6.out.grown HGA.out (by simp))
              have HGB : Hid (w4.grownBy (w6.alloc (Obj.cells #[.slice A17 n17 c17] 31)) (some Bd)) := Lib.hid (HG6.out.trans (HGA.out.but _))
              have HZA : Hid (w4.heap.size ≤ (w6.alloc (Obj.cells #[.slice A17 n17 c17] 31)).heap.size) := Lib.hid HGB.out.size
              have HREPA := Lib.hid ((encS (encS encP)).keep HREP2.out HGA.out (fun _ _ => by simp))
              go_wp2_with (at_builtin; rw [← hw6]; refine wpList_plain rfl fun K hK => ?_; refine pushAt_core (E := encS (encS encP)) (y := z) el_pairs2 HSA.out.snd HREPA.out (Bk.one HK6.out) HLX2.out HZA.out (HSA.out.new2 (fun _ h => Nat.le_trans HZA.out h)) (.tmp 132) (.tmp 134) rfl rfl rfl ?_)
              intro v7 w7 ha hg hm
              rw [← hw6] at hg hm
              refine hK _ _ ?_
              clear hK
              have HS7 := Lib.hid (HSA.out.two ha hg hm)
              have HB7 := Lib.hid (HBA.out.grown hg (fun e => by have h1 := (HSA.out.snd.lt _ e.symm).1; have h2 := HD4.out.1; omega))
              have HG7 : Hid (w4.grownBy w7 (some Bd)) := Lib.hid (HGB.out.andThen hg (fun b e => .inl (HSA.out.snd.lt b e).1))
              clear ha hg hm hw6 d1 d2 fd HREP2 HS6 HB6 HSA HBA HREPA HK6
              obtain ⟨Av, nv, cv, rfl⟩ := HS7.out.snd.sl.shape
              have d2 := HB7.out.cell 2
              have fd := HB7.out.free
              simp at d2
              have HGT : Hid (w7.grownBy (w7.setCell ⟨Bd, 2, none⟩ (.slice Av nv cv)) (some Bd)) := Lib.hid (grownSet w7 Bd 2 _)
              have HFIN : Hid (∃ vr vc, Bk (w7.setCell ⟨Bd, 2, none⟩ (.slice Av nv cv)) Bd 48 #[.slice Am nm cm, vr, vc] ∧ Side (encS (encS encP)) (encS (encS encP)) w4.heap.size 31 31 (fun b => w4.heap.size ≤ b) (w7.setCell ⟨Bd, 2, none⟩ (.slice Av nv cv)) vr vc ((List.range (j + 1)).map fun k : Nat => rowsP p.Q F R t ((k : Int) + 1)) ((List.range (j + 1)).map fun k : Nat => colsP p.Q F R t ((k : Int) + 1)) ∧ w4.grownBy (w7.setCell ⟨Bd, 2, none⟩ (.slice Av nv cv)) (some Bd)) := Lib.hid (by
                rw [HXS.out, HYS.out]
                exact ⟨_, _, HB7.out.set 2 _, HS7.out.keep HGT.out (fun b hb e => by injection e with e; have := HD4.out.1; omega), HG7.out.trans HGT.out⟩)
              clear HS7 HB7 HG7 HGT
              go_wp2_with fail
              go_roundg m
              case measure => omega
              case rel => exact ⟨j + 1, by omega, by go_num, HFIN⟩
            | succ q =>
              have hiI : (i : Int) < (L : Int) := by omega
              have hi0 : (0 : Int) ≤ (i : Int) := Int.natCast_nonneg i
              have hiF : i < F.length := by rw [HFL.out.1]; omega
              have hiR : i < R.length := by rw [HFL.out.2]; omega
              obtain ⟨gF, oF, cF', uF, eF, q1, q2, hcF, hslF⟩ := (HFX.out _ HGd.out).atS hiF
              clear q1 q2
              injection eF with eF1 eF2 eF3
              clear eF2
              subst eF1 eF3
              obtain ⟨gR, oR, cR', uR, eR, q1, q2, hcR, hslR⟩ := (HRX.out _ HGd.out).atS hiR
              clear q1 q2
              injection eR with eR1 eR2 eR3
              clear eR2
              subst eR1 eR3
              obtain ⟨Af, cf, ef, q1, q2⟩ := hslF.form
              clear q1 q2
              obtain ⟨Ab, cb, eb, q1, q2⟩ := hslR.form
              clear q1 q2
              have HS1 : Hid (SqL t F[i]) := Lib.hid (HSQ.out.1 _ (List.getElem_mem hiF))
              have HS2 : Hid (SqL t R[i]) := Lib.hid (HSQ.out.2 _ (List.getElem_mem hiR))
              rw [HS1.out.1] at ef
              rw [HS2.out.1] at eb
              subst ef eb
              have HN16 : Hid ((List.range (i + 1)).map (rowP p.Q F R t ((j : Int) + 1)) = (List.range i).map (rowP p.Q F R t ((j : Int) + 1)) ++ [zipP (rowI p.Q F[i] ((j : Int) + 1)) (rowI p.Q R[i] ((j : Int) + 1)) t]) := Lib.hid (by
                rw [hsnoc]
                unfold rowP
                rw [List.getElem?_eq_getElem hiF, List.getElem?_eq_getElem hiR]
                rfl)
              have HN17 : Hid ((List.range (i + 1)).map (colP p.Q F R t ((j : Int) + 1)) = (List.range i).map (colP p.Q F R t ((j : Int) + 1)) ++ [zipP (colV p.Q F[i] ((j : Int) + 1)) (colV p.Q R[i] ((j : Int) + 1)) t]) := Lib.hid (by
                rw [hsnoc]
                unfold colP
                rw [List.getElem?_eq_getElem hiF, List.getElem?_eq_getElem hiR]
                rfl)
              have HUX : Hid (U64 ((j : Int) + 1)) := Lib.hid ⟨by omega, by omega⟩
              have hwj : IntKind.u64.wrap ((j : Int) + 1) = (j : Int) + 1 := IntWalk.u64_in _ (by omega)
              have HT100 : Hid (t ≤ 3) := Lib.hid (by have := HT23.out; omega)
              have HRo1 : Hid (∀ W, wj.grownBy W none → Calls Tryz.prog 47 #[.slice Af t cf, .int .u64 ((j : Int) + 1), .int .u64 p.Q] W (Gives encU (fun b => W.heap.size ≤ b) W (rowI p.Q F[i] ((j : Int) + 1)))) := Lib.hid (fun W hW => rrow_sq _ F[i] t _ _ _ W (hslF.kept hW) HUX.out HQ.out.1 HS1.out (by have := HT100.out; omega))
              have HRo2 : Hid (∀ W, wj.grownBy W none → Calls Tryz.prog 47 #[.slice Ab t cb, .int .u64 ((j : Int) + 1), .int .u64 p.Q] W (Gives encU (fun b => W.heap.size ≤ b) W (rowI p.Q R[i] ((j : Int) + 1)))) := Lib.hid (fun W hW => rrow_sq _ R[i] t _ _ _ W (hslR.kept hW) HUX.out HQ.out.1 HS2.out (by have := HT100.out; omega))
              have HCo1 : Hid (∀ W, wj.grownBy W none → Calls Tryz.prog 48 #[.slice Af t cf, .int .u64 ((j : Int) + 1), .int .u64 p.Q] W (Gives encU (fun b => W.heap.size ≤ b) W (colV p.Q F[i] ((j : Int) + 1)))) := Lib.hid (fun W hW => rcol_sq _ F[i] t _ _ _ W (hslF.kept hW) HUX.out HQ.out.1 HS1.out (by have := HT100.out; omega))
              have HCo2 : Hid (∀ W, wj.grownBy W none → Calls Tryz.prog 48 #[.slice Ab t cb, .int .u64 ((j : Int) + 1), .int .u64 p.Q] W (Gives encU (fun b => W.heap.size ≤ b) W (colV p.Q R[i] ((j : Int) + 1)))) := Lib.hid (fun W hW => rcol_sq _ R[i] t _ _ _ W (hslR.kept hW) HUX.out HQ.out.1 HS2.out (by have := HT100.out; omega))
              obtain ⟨a1, ha1⟩ : ∃ y, y = rowI p.Q F[i] ((j : Int) + 1) := ⟨_, rfl⟩
              obtain ⟨a2, ha2⟩ : ∃ y, y = rowI p.Q R[i] ((j : Int) + 1) := ⟨_, rfl⟩
              obtain ⟨b1, hb1⟩ : ∃ y, y = colV p.Q F[i] ((j : Int) + 1) := ⟨_, rfl⟩
              obtain ⟨b2, hb2⟩ : ∃ y, y = colV p.Q R[i] ((j : Int) + 1) := ⟨_, rfl⟩
              have HL1 : Hid (a1.length = t ∧ a2.length = t ∧ b1.length = t ∧ b2.length = t) := Lib.hid ⟨by rw [ha1]; exact rowI_sqL HS1.out _ _, by rw [ha2]; exact rowI_sqL HS2.out _ _, by rw [hb1]; exact colV_sqL HS1.out _ _, by rw [hb2]; exact colV_sqL HS2.out _ _⟩
              rw [← ha1] at HRo1 HN16
              rw [← ha2] at HRo2 HN16
              rw [← hb1] at HCo1 HN17
              rw [← hb2] at HCo2 HN17
              obtain ⟨yr, hyr⟩ : ∃ y, y = zipP a1 a2 t := ⟨_, rfl⟩
              obtain ⟨yc, hyc⟩ : ∃ y, y = zipP b1 b2 t := ⟨_, rfl⟩
              have HPr : Hid (∀ v1 v2 W, Sl encU TT W v1 a1 → Sl encU TT W v2 a2 → Calls Tryz.prog 46 #[v1, v2] W (Gives encP (fun b => W.heap.size ≤ b) W yr)) := Lib.hid (fun v1 v2 W h1 h2 => by rw [hyr]; exact rpairs_any v1 v2 a1 a2 t TT TT W h1 h2 HL1.out.1 HL1.out.2.1 (by have := HT100.out; omega))
              have HPc : Hid (∀ v1 v2 W, Sl encU TT W v1 b1 → Sl encU TT W v2 b2 → Calls Tryz.prog 46 #[v1, v2] W (Gives encP (fun b => W.heap.size ≤ b) W yc)) := Lib.hid (fun v1 v2 W h1 h2 => by rw [hyc]; exact rpairs_any v1 v2 b1 b2 t TT TT W h1 h2 HL1.out.2.2.1 HL1.out.2.2.2 (by have := HT100.out; omega))
              rw [← hyr] at HN16
              rw [← hyc] at HN17
              have hbp := HPD.out _ HGd.out
              have HLD : Hid (∀ W, wj.grownBy W none → W.cell? ⟨w.heap.size, 1, none⟩ = some (.int .u64 p.Q) ∧ W.cell? ⟨gF, oF + i, none⟩ = some (.slice Af t cf) ∧ W.cell? ⟨gR, oR + i, none⟩ = some (.slice Ab t cb)) := Lib.hid (fun W hW => ⟨(hbp.grown hW (by simp)).cell 1, cellK hcF hW (by simp), cellK hcR hW (by simp)⟩)
              have HLN16 : Hid ((((List.range i).map (rowP p.Q F R t ((j : Int) + 1))).length + 1) * 24 ≤ 140737488355328) := Lib.hid (by simp; omega)
              have HLN17 : Hid ((((List.range i).map (colP p.Q F R t ((j : Int) + 1))).length + 1) * 24 ≤ 140737488355328) := Lib.hid (by simp; omega)
              have HGw : Hid (wj.grownBy wi.drew none) := Lib.hid (HGi.out.trans (grown_drewN' wi 1))
              have HSw := Lib.hid (HSi.out.kept (grown_drewN' wi 1))
              obtain ⟨N1, hN1⟩ : ∃ y, y = wi.drew.heap.size := ⟨_, rfl⟩
              have HN1 : Hid (N1 = wi.drew.heap.size) := Lib.hid hN1
              clear ha1 ha2 hb1 hb2 hyr hyc hbp hcF hcR hslF hslR hN1 HSi HGi HS1 HS2
              clear hiF hiR
              go_upto_region 17 with (fail)
              refine wp_region_mono 21 (by kernel_rfl) (by kernel_rfl) ?_
              -- op 0 (slot 81): move
              refine MonoR.step (Pv.eq (.slice A16 n16 c16)) [] (by kernel_rfl) (fun w' hw' => ?_) ?_
              · refine ask_do rfl fun K hK => ?_
                go_simp
                exact hK _ _ rfl rfl (World.grownBy.refl _ none)
              -- op 1 (slot 82): move
              refine MonoR.step (Pv.eq (.slice (some ⟨gF, oF, none⟩) L cF)) [] (by kernel_rfl) (fun w' hw' => ?_) ?_
              · refine ask_do rfl fun K hK => ?_
                go_simp
                exact hK _ _ rfl rfl (World.grownBy.refl _ none)
              -- op 2 (slot 83): move
              refine MonoR.step (Pv.eq (.int .i64 (i : Int))) [] (by kernel_rfl) (fun w' hw' => ?_) ?_
              · refine ask_do rfl fun K hK => ?_
                go_simp
                exact hK _ _ rfl rfl (World.grownBy.refl _ none)
              -- op 3 (slot 84): indexAddr
              refine MonoR.step (Pv.eq (.pointer (some ⟨gF, oF + i, none⟩))) [(1, 82), (2, 83)] (by kernel_rfl) (fun w' hw' => ?_) ?_
              · intro x82 h82
                intro x83 h83
                have e82 : x82 = .slice (some ⟨gF, oF, none⟩) L cF := h82
                clear h82
                subst e82
                have e83 : x83 = .int .i64 (i : Int) := h83
                clear h83
                subst e83
                refine ask_do rfl fun K hK => ?_
                go_simp
                exact hK _ _ rfl rfl (World.grownBy.refl _ none)
              -- op 4 (slot 85): load
              refine MonoR.step (Pv.eq (.slice Af t cf)) [(3, 84)] (by kernel_rfl) (fun w' hw' => ?_) ?_
              · intro x84 h84
                have e84 : x84 = .pointer (some ⟨gF, oF + i, none⟩) := h84
                clear h84
                subst e84
                refine ask_do rfl fun K hK => ?_
                obtain ⟨q0, q1, q2⟩ := HLD.out w' (HGw.out.trans hw')
                go_simp
                exact hK _ _ rfl rfl (World.grownBy.refl _ none)
              -- op 5 (slot 86): move
              refine MonoR.step (Pv.eq (.int .i64 ((j : Int) + 1))) [] (by kernel_rfl) (fun w' hw' => ?_) ?_
              · refine ask_do rfl fun K hK => ?_
                go_simp
                exact hK _ _ rfl rfl (World.grownBy.refl _ none)
              -- op 6 (slot 87): convert
              refine MonoR.step (Pv.eq (.int .u64 ((j : Int) + 1))) [(5, 86)] (by kernel_rfl) (fun w' hw' => ?_) ?_
              · intro x86 h86
                have e86 : x86 = .int .i64 ((j : Int) + 1) := h86
                clear h86
                subst e86
                refine ask_do rfl fun K hK => ?_
                go_simp
                exact hK _ _ rfl rfl (World.grownBy.refl _ none)
              -- op 7 (slot 88): fieldAddr
              refine MonoR.step (Pv.eq (.pointer (some ⟨w.heap.size, 1, none⟩))) [] (by kernel_rfl) (fun w' hw' => ?_) ?_
              · refine ask_do rfl fun K hK => ?_
                go_simp
                exact hK _ _ rfl rfl (World.grownBy.refl _ none)
              -- op 8 (slot 89): load
              refine MonoR.step (Pv.eq (.int .u64 p.Q)) [(7, 88)] (by kernel_rfl) (fun w' hw' => ?_) ?_
              · intro x88 h88
                have e88 : x88 = .pointer (some ⟨w.heap.size, 1, none⟩) := h88
                clear h88
                subst e88
                refine ask_do rfl fun K hK => ?_
                obtain ⟨q0, q1, q2⟩ := HLD.out w' (HGw.out.trans hw')
                go_simp
                exact hK _ _ rfl rfl (World.grownBy.refl _ none)
              -- op 9 (slot 90): call
              refine MonoR.step (slU a1) [(4, 85), (6, 87), (8, 89)] (by kernel_rfl) (fun w' hw' => ?_) ?_
              · intro x85 h85
                intro x87 h87
                intro x89 h89
                have e85 : x85 = .slice Af t cf := h85
                clear h85
                subst e85
                have e87 : x87 = .int .u64 ((j : Int) + 1) := h87
                clear h87
                subst e87
                have e89 : x89 = .int .u64 p.Q := h89
                clear h89
                subst e89
                refine ask_do rfl fun K hK => ?_
                go_simp
                refine (HRo1.out w' (HGw.out.trans hw')).mono ?_
                rintro e w3 ⟨v3, rfl, hs3, hg3⟩
                exact hK _ _ rfl (hs3.more fun _ _ _ => trivial) hg3
              -- op 10 (slot 91): move
              refine MonoR.step (Pv.eq (.slice (some ⟨gR, oR, none⟩) L cR)) [] (by kernel_rfl) (fun w' hw' => ?_) ?_
              · refine ask_do rfl fun K hK => ?_
                go_simp
                exact hK _ _ rfl rfl (World.grownBy.refl _ none)
              -- op 11 (slot 92): move
              refine MonoR.step (Pv.eq (.int .i64 (i : Int))) [] (by kernel_rfl) (fun w' hw' => ?_) ?_
              · refine ask_do rfl fun K hK => ?_
                go_simp
                exact hK _ _ rfl rfl (World.grownBy.refl _ none)
              -- op 12 (slot 93): indexAddr
              refine MonoR.step (Pv.eq (.pointer (some ⟨gR, oR + i, none⟩))) [(10, 91), (11, 92)] (by kernel_rfl) (fun w' hw' => ?_) ?_
              · intro x91 h91
                intro x92 h92
                have e91 : x91 = .slice (some ⟨gR, oR, none⟩) L cR := h91
                clear h91
                subst e91
                have e92 : x92 = .int .i64 (i : Int) := h92
                clear h92
                subst e92
                refine ask_do rfl fun K hK => ?_
                go_simp
                exact hK _ _ rfl rfl (World.grownBy.refl _ none)
              -- op 13 (slot 94): load
              refine MonoR.step (Pv.eq (.slice Ab t cb)) [(12, 93)] (by kernel_rfl) (fun w' hw' => ?_) ?_
              · intro x93 h93
                have e93 : x93 = .pointer (some ⟨gR, oR + i, none⟩) := h93
                clear h93
                subst e93
                refine ask_do rfl fun K hK => ?_
                obtain ⟨q0, q1, q2⟩ := HLD.out w' (HGw.out.trans hw')
                go_simp
                exact hK _ _ rfl rfl (World.grownBy.refl _ none)
              -- op 14 (slot 95): move
              refine MonoR.step (Pv.eq (.int .i64 ((j : Int) + 1))) [] (by kernel_rfl) (fun w' hw' => ?_) ?_
              · refine ask_do rfl fun K hK => ?_
                go_simp
                exact hK _ _ rfl rfl (World.grownBy.refl _ none)
              -- op 15 (slot 96): convert
              refine MonoR.step (Pv.eq (.int .u64 ((j : Int) + 1))) [(14, 95)] (by kernel_rfl) (fun w' hw' => ?_) ?_
              · intro x95 h95
                have e95 : x95 = .int .i64 ((j : Int) + 1) := h95
                clear h95
                subst e95
                refine ask_do rfl fun K hK => ?_
                go_simp
                exact hK _ _ rfl rfl (World.grownBy.refl _ none)
              -- op 16 (slot 97): fieldAddr
              refine MonoR.step (Pv.eq (.pointer (some ⟨w.heap.size, 1, none⟩))) [] (by kernel_rfl) (fun w' hw' => ?_) ?_
              · refine ask_do rfl fun K hK => ?_
                go_simp
                exact hK _ _ rfl rfl (World.grownBy.refl _ none)
              -- op 17 (slot 98): load
              refine MonoR.step (Pv.eq (.int .u64 p.Q)) [(16, 97)] (by kernel_rfl) (fun w' hw' => ?_) ?_
              · intro x97 h97
                have e97 : x97 = .pointer (some ⟨w.heap.size, 1, none⟩) := h97
                clear h97
                subst e97
                refine ask_do rfl fun K hK => ?_
                obtain ⟨q0, q1, q2⟩ := HLD.out w' (HGw.out.trans hw')
                go_simp
                exact hK _ _ rfl rfl (World.grownBy.refl _ none)
              -- op 18 (slot 99): call
              refine MonoR.step (slU a2) [(13, 94), (15, 96), (17, 98)] (by kernel_rfl) (fun w' hw' => ?_) ?_
              · intro x94 h94
                intro x96 h96
                intro x98 h98
                have e94 : x94 = .slice Ab t cb := h94
                clear h94
                subst e94
                have e96 : x96 = .int .u64 ((j : Int) + 1) := h96
                clear h96
                subst e96
                have e98 : x98 = .int .u64 p.Q := h98
                clear h98
                subst e98
                refine ask_do rfl fun K hK => ?_
                go_simp
                refine (HRo2.out w' (HGw.out.trans hw')).mono ?_
                rintro e w3 ⟨v3, rfl, hs3, hg3⟩
                exact hK _ _ rfl (hs3.more fun _ _ _ => trivial) hg3
              -- op 19 (slot 100): call
              refine MonoR.step (slP N1 yr) [(9, 90), (18, 99)] (by kernel_rfl) (fun w' hw' => ?_) ?_
              · intro x90 h90
                have h90 : Sl encU TT w' x90 a1 := h90
                obtain ⟨A90, c90, e90, k90, l90⟩ := h90.form
                subst e90
                intro x99 h99
                have h99 : Sl encU TT w' x99 a2 := h99
                obtain ⟨A99, c99, e99, k99, l99⟩ := h99.form
                subst e99
                refine ask_do rfl fun K hK => ?_
                go_simp
                refine (HPr.out _ _ w' h90 h99).mono ?_
                rintro e w3 ⟨v3, rfl, hs3, hg3⟩
                exact hK _ _ rfl (hs3.more fun b _ hb => Nat.le_trans (by rw [HN1.out]; exact hw'.size) hb) hg3
              -- op 20 (slot 101): buildSlice
              refine MonoR.step (blkP N1 yr) [(19, 100)] (by kernel_rfl) (fun w' hw' => ?_) ?_
              · intro x100 h100
                have h100 : Sl encP (fun b => N1 ≤ b) w' x100 yr := h100
                obtain ⟨A100, c100, e100, k100, l100⟩ := h100.form
                subst e100
                refine ask_do rfl fun K hK => ?_
                go_simp
                exact hK _ _ rfl ⟨_, _, _, _, rfl, Bk.new w' _ _, h100.kept (World.grownBy_alloc w' _ none)⟩ (World.grownBy_alloc w' _ none)
              
              intro w5 hw5
              intro y0 k0 y1 k1 y2 k2 y3 k3 y4 k4 y5 k5 y6 k6 y7 k7 y8 k8 y9 k9 y10 k10 y11 k11 y12 k12 y13 k13 y14 k14 y15 k15 y16 k16 y17 k17 y18 k18 y19 k19 y20 k20
              show wpList Tryz.prog _ _ _ _ w5
              simp only [Act.put, List.setIfInBounds_toArray, List.set_cons_zero, List.set_cons_succ]
              have e0 : y0 = .slice A16 n16 c16 := k0
              subst e0
              have k18' : ∃ A n c b, y20 = .slice (some ⟨b, 0, none⟩) 1 1 ∧ Bk w5 b 26 #[.slice A n c] ∧ Sl encP (fun b => N1 ≤ b) w5 (.slice A n c) yr := k20
              obtain ⟨Ay, ny, cy, by', ey, hky, hsy⟩ := k18'
              subst ey
              have HS5 := Lib.hid (HSw.out.kept hw5)
              have HG5 : Hid (wj.grownBy w5 none) := Lib.hid (HGw.out.trans hw5)
              have HZ5 : Hid (wj.heap.size ≤ w5.heap.size) := Lib.hid HG5.out.size
              have HKY := Lib.hid hky
              have HREP : Hid ((encS encP).rep (fun b => (wj.heap.size ≤ b ∧ some b ≠ (Value.slice A17 n17 c17).ownBlock) ∧ some b ≠ (Value.slice A16 n16 c16).ownBlock) w5 [.slice Ay ny cy] yr) := Lib.hid ⟨_, rfl, hsy.more fun b _ hb => by
                rw [HN1.out] at hb
                exact ⟨⟨Nat.le_trans HGw.out.size hb, fun e => absurd hb (Nat.not_le_of_lt (HSw.out.snd.lt b e.symm).2)⟩, fun e => absurd hb (Nat.not_le_of_lt (HSw.out.fst.lt b e.symm).2)⟩⟩
              clear hky hsy k0 k1 k2 k3 k4 k5 k6 k7 k8 k9 k10 k11 k12 k13 k14 k15 k16 k17 k18 k19 k20 hw5 HSw HGw HN1
              refine wpList_plain rfl fun K hK => ?_
              refine pushAt_core (E := encS encP) (y := yr) el_pairs HS5.out.fst HREP.out (Bk.one HKY.out) HLN16.out HZ5.out (HS5.out.new1 (fun _ h => Nat.le_trans HZ5.out h)) (.tmp 81) (.tmp 101) rfl rfl rfl ?_
              intro v6 w6 ha hgr hm
              refine hK _ _ ?_
              clear hK
              have HS6 := Lib.hid ((HS5.out.one ha hgr hm).kept (grown_drewN' w6 1))
              have HG6 : Hid (wj.grownBy w6.drew none) := Lib.hid ((grown_up HG5.out hgr (fun b e => (HS5.out.fst.lt b e).1)).trans (grown_drewN' w6 1))
              rw [← HN16.out] at HS6
              obtain ⟨A18, n18, c18, rfl⟩ := HS6.out.fst.sl.shape
              clear ha hgr hm HS5 HG5 HREP HKY HZ5 HN16
              obtain ⟨N2, hN2⟩ : ∃ y, y = w6.drew.heap.size := ⟨_, rfl⟩
              have HN2 : Hid (N2 = w6.drew.heap.size) := Lib.hid hN2
              clear hN2
              go_upto_region 18 with (fail)
              refine wp_region_mono 21 (by kernel_rfl) (by kernel_rfl) ?_
              -- op 0 (slot 103): move
              refine MonoR.step (Pv.eq (.slice A17 n17 c17)) [] (by kernel_rfl) (fun w' hw' => ?_) ?_
              · refine ask_do rfl fun K hK => ?_
                go_simp
                exact hK _ _ rfl rfl (World.grownBy.refl _ none)
              -- op 1 (slot 104): move
              refine MonoR.step (Pv.eq (.slice (some ⟨gF, oF, none⟩) L cF)) [] (by kernel_rfl) (fun w' hw' => ?_) ?_
              · refine ask_do rfl fun K hK => ?_
                go_simp
                exact hK _ _ rfl rfl (World.grownBy.refl _ none)
              -- op 2 (slot 105): move
              refine MonoR.step (Pv.eq (.int .i64 (i : Int))) [] (by kernel_rfl) (fun w' hw' => ?_) ?_
              · refine ask_do rfl fun K hK => ?_
                go_simp
                exact hK _ _ rfl rfl (World.grownBy.refl _ none)
              -- op 3 (slot 106): indexAddr
              refine MonoR.step (Pv.eq (.pointer (some ⟨gF, oF + i, none⟩))) [(1, 104), (2, 105)] (by kernel_rfl) (fun w' hw' => ?_) ?_
              · intro x104 h104
                intro x105 h105
                have e104 : x104 = .slice (some ⟨gF, oF, none⟩) L cF := h104
                clear h104
                subst e104
                have e105 : x105 = .int .i64 (i : Int) := h105
                clear h105
                subst e105
                refine ask_do rfl fun K hK => ?_
                go_simp
                exact hK _ _ rfl rfl (World.grownBy.refl _ none)
              -- op 4 (slot 107): load
              refine MonoR.step (Pv.eq (.slice Af t cf)) [(3, 106)] (by kernel_rfl) (fun w' hw' => ?_) ?_
              · intro x106 h106
                have e106 : x106 = .pointer (some ⟨gF, oF + i, none⟩) := h106
                clear h106
                subst e106
                refine ask_do rfl fun K hK => ?_
                obtain ⟨q0, q1, q2⟩ := HLD.out w' (HG6.out.trans hw')
                go_simp
                exact hK _ _ rfl rfl (World.grownBy.refl _ none)
              -- op 5 (slot 108): move
              refine MonoR.step (Pv.eq (.int .i64 ((j : Int) + 1))) [] (by kernel_rfl) (fun w' hw' => ?_) ?_
              · refine ask_do rfl fun K hK => ?_
                go_simp
                exact hK _ _ rfl rfl (World.grownBy.refl _ none)
              -- op 6 (slot 109): convert
              refine MonoR.step (Pv.eq (.int .u64 ((j : Int) + 1))) [(5, 108)] (by kernel_rfl) (fun w' hw' => ?_) ?_
              · intro x108 h108
                have e108 : x108 = .int .i64 ((j : Int) + 1) := h108
                clear h108
                subst e108
                refine ask_do rfl fun K hK => ?_
                go_simp
                exact hK _ _ rfl rfl (World.grownBy.refl _ none)
              -- op 7 (slot 110): fieldAddr
              refine MonoR.step (Pv.eq (.pointer (some ⟨w.heap.size, 1, none⟩))) [] (by kernel_rfl) (fun w' hw' => ?_) ?_
              · refine ask_do rfl fun K hK => ?_
                go_simp
                exact hK _ _ rfl rfl (World.grownBy.refl _ none)
              -- op 8 (slot 111): load
              refine MonoR.step (Pv.eq (.int .u64 p.Q)) [(7, 110)] (by kernel_rfl) (fun w' hw' => ?_) ?_
              · intro x110 h110
                have e110 : x110 = .pointer (some ⟨w.heap.size, 1, none⟩) := h110
                clear h110
                subst e110
                refine ask_do rfl fun K hK => ?_
                obtain ⟨q0, q1, q2⟩ := HLD.out w' (HG6.out.trans hw')
                go_simp
                exact hK _ _ rfl rfl (World.grownBy.refl _ none)
              -- op 9 (slot 112): call
              refine MonoR.step (slU b1) [(4, 107), (6, 109), (8, 111)] (by kernel_rfl) (fun w' hw' => ?_) ?_
              · intro x107 h107
                intro x109 h109
                intro x111 h111
                have e107 : x107 = .slice Af t cf := h107
                clear h107
                subst e107
                have e109 : x109 = .int .u64 ((j : Int) + 1) := h109
                clear h109
                subst e109
                have e111 : x111 = .int .u64 p.Q := h111
                clear h111
                subst e111
                refine ask_do rfl fun K hK => ?_
                go_simp
                refine (HCo1.out w' (HG6.out.trans hw')).mono ?_
                rintro e w3 ⟨v3, rfl, hs3, hg3⟩
                exact hK _ _ rfl (hs3.more fun _ _ _ => trivial) hg3
              -- op 10 (slot 113): move
              refine MonoR.step (Pv.eq (.slice (some ⟨gR, oR, none⟩) L cR)) [] (by kernel_rfl) (fun w' hw' => ?_) ?_
              · refine ask_do rfl fun K hK => ?_
                go_simp
                exact hK _ _ rfl rfl (World.grownBy.refl _ none)
              -- op 11 (slot 114): move
              refine MonoR.step (Pv.eq (.int .i64 (i : Int))) [] (by kernel_rfl) (fun w' hw' => ?_) ?_
              · refine ask_do rfl fun K hK => ?_
                go_simp
                exact hK _ _ rfl rfl (World.grownBy.refl _ none)
              -- op 12 (slot 115): indexAddr
              refine MonoR.step (Pv.eq (.pointer (some ⟨gR, oR + i, none⟩))) [(10, 113), (11, 114)] (by kernel_rfl) (fun w' hw' => ?_) ?_
              · intro x113 h113
                intro x114 h114
                have e113 : x113 = .slice (some ⟨gR, oR, none⟩) L cR := h113
                clear h113
                subst e113
                have e114 : x114 = .int .i64 (i : Int) := h114
                clear h114
                subst e114
                refine ask_do rfl fun K hK => ?_
                go_simp
                exact hK _ _ rfl rfl (World.grownBy.refl _ none)
              -- op 13 (slot 116): load
              refine MonoR.step (Pv.eq (.slice Ab t cb)) [(12, 115)] (by kernel_rfl) (fun w' hw' => ?_) ?_
              · intro x115 h115
                have e115 : x115 = .pointer (some ⟨gR, oR + i, none⟩) := h115
                clear h115
                subst e115
                refine ask_do rfl fun K hK => ?_
                obtain ⟨q0, q1, q2⟩ := HLD.out w' (HG6.out.trans hw')
                go_simp
                exact hK _ _ rfl rfl (World.grownBy.refl _ none)
              -- op 14 (slot 117): move
              refine MonoR.step (Pv.eq (.int .i64 ((j : Int) + 1))) [] (by kernel_rfl) (fun w' hw' => ?_) ?_
              · refine ask_do rfl fun K hK => ?_
                go_simp
                exact hK _ _ rfl rfl (World.grownBy.refl _ none)
              -- op 15 (slot 118): convert
              refine MonoR.step (Pv.eq (.int .u64 ((j : Int) + 1))) [(14, 117)] (by kernel_rfl) (fun w' hw' => ?_) ?_
              · intro x117 h117
                have e117 : x117 = .int .i64 ((j : Int) + 1) := h117
                clear h117
                subst e117
                refine ask_do rfl fun K hK => ?_
                go_simp
                exact hK _ _ rfl rfl (World.grownBy.refl _ none)
              -- op 16 (slot 119): fieldAddr
              refine MonoR.step (Pv.eq (.pointer (some ⟨w.heap.size, 1, none⟩))) [] (by kernel_rfl) (fun w' hw' => ?_) ?_
              · refine ask_do rfl fun K hK => ?_
                go_simp
                exact hK _ _ rfl rfl (World.grownBy.refl _ none)
              -- op 17 (slot 120): load
              refine MonoR.step (Pv.eq (.int .u64 p.Q)) [(16, 119)] (by kernel_rfl) (fun w' hw' => ?_) ?_
              · intro x119 h119
                have e119 : x119 = .pointer (some ⟨w.heap.size, 1, none⟩) := h119
                clear h119
                subst e119
                refine ask_do rfl fun K hK => ?_
                obtain ⟨q0, q1, q2⟩ := HLD.out w' (HG6.out.trans hw')
                go_simp
                exact hK _ _ rfl rfl (World.grownBy.refl _ none)
              -- op 18 (slot 121): call
              refine MonoR.step (slU b2) [(13, 116), (15, 118), (17, 120)] (by kernel_rfl) (fun w' hw' => ?_) ?_
              · intro x116 h116
                intro x118 h118
                intro x120 h120
                have e116 : x116 = .slice Ab t cb := h116
                clear h116
                subst e116
                have e118 : x118 = .int .u64 ((j : Int) + 1) := h118
                clear h118
                subst e118
                have e120 : x120 = .int .u64 p.Q := h120
                clear h120
                subst e120
                refine ask_do rfl fun K hK => ?_
                go_simp
                refine (HCo2.out w' (HG6.out.trans hw')).mono ?_
                rintro e w3 ⟨v3, rfl, hs3, hg3⟩
                exact hK _ _ rfl (hs3.more fun _ _ _ => trivial) hg3
              -- op 19 (slot 122): call
              refine MonoR.step (slP N2 yc) [(9, 112), (18, 121)] (by kernel_rfl) (fun w' hw' => ?_) ?_
              · intro x112 h112
                have h112 : Sl encU TT w' x112 b1 := h112
                obtain ⟨A112, c112, e112, k112, l112⟩ := h112.form
                subst e112
                intro x121 h121
                have h121 : Sl encU TT w' x121 b2 := h121
                obtain ⟨A121, c121, e121, k121, l121⟩ := h121.form
                subst e121
                refine ask_do rfl fun K hK => ?_
                go_simp
                refine (HPc.out _ _ w' h112 h121).mono ?_
                rintro e w3 ⟨v3, rfl, hs3, hg3⟩
                exact hK _ _ rfl (hs3.more fun b _ hb => Nat.le_trans (by rw [HN2.out]; exact hw'.size) hb) hg3
              -- op 20 (slot 123): buildSlice
              refine MonoR.step (blkP N2 yc) [(19, 122)] (by kernel_rfl) (fun w' hw' => ?_) ?_
              · intro x122 h122
                have h122 : Sl encP (fun b => N2 ≤ b) w' x122 yc := h122
                obtain ⟨A122, c122, e122, k122, l122⟩ := h122.form
                subst e122
                refine ask_do rfl fun K hK => ?_
                go_simp
                exact hK _ _ rfl ⟨_, _, _, _, rfl, Bk.new w' _ _, h122.kept (World.grownBy_alloc w' _ none)⟩ (World.grownBy_alloc w' _ none)
              
              intro w7 hw7
              intro y0 k0 y1 k1 y2 k2 y3 k3 y4 k4 y5 k5 y6 k6 y7 k7 y8 k8 y9 k9 y10 k10 y11 k11 y12 k12 y13 k13 y14 k14 y15 k15 y16 k16 y17 k17 y18 k18 y19 k19 y20 k20
              show wpList Tryz.prog _ _ _ _ w7
              simp only [Act.put, List.setIfInBounds_toArray, List.set_cons_zero, List.set_cons_succ]
              have e0 : y0 = .slice A17 n17 c17 := k0
              subst e0
              have k18' : ∃ A n c b, y20 = .slice (some ⟨b, 0, none⟩) 1 1 ∧ Bk w7 b 26 #[.slice A n c] ∧ Sl encP (fun b => N2 ≤ b) w7 (.slice A n c) yc := k20
              obtain ⟨Ay, ny, cy, by', ey, hky, hsy⟩ := k18'
              subst ey
              have HS7 := Lib.hid (HS6.out.kept hw7)
              have HG7 : Hid (wj.grownBy w7 none) := Lib.hid (HG6.out.trans hw7)
              have HZ7 : Hid (wj.heap.size ≤ w7.heap.size) := Lib.hid HG7.out.size
              have HKY := Lib.hid hky
              have HREP : Hid ((encS encP).rep (fun b => (wj.heap.size ≤ b ∧ some b ≠ (Value.slice A18 n18 c18).ownBlock) ∧ some b ≠ (Value.slice A17 n17 c17).ownBlock) w7 [.slice Ay ny cy] yc) := Lib.hid ⟨_, rfl, hsy.more fun b _ hb => by
                rw [HN2.out] at hb
                exact ⟨⟨Nat.le_trans HG6.out.size hb, fun e => absurd hb (Nat.not_le_of_lt (HS6.out.fst.lt b e.symm).2)⟩, fun e => absurd hb (Nat.not_le_of_lt (HS6.out.snd.lt b e.symm).2)⟩⟩
              clear hky hsy k0 k1 k2 k3 k4 k5 k6 k7 k8 k9 k10 k11 k12 k13 k14 k15 k16 k17 k18 k19 k20 hw7 HS6 HG6 HN2
              refine wpList_plain rfl fun K hK => ?_
              refine pushAt_core (E := encS encP) (y := yc) el_pairs HS7.out.snd HREP.out (Bk.one HKY.out) HLN17.out HZ7.out (HS7.out.new2 (fun _ h => Nat.le_trans HZ7.out h)) (.tmp 103) (.tmp 123) rfl rfl rfl ?_
              intro v8 w8 ha hgr hm
              refine hK _ _ ?_
              clear hK
              have HFIN : Hid (Side (encS encP) (encS encP) wj.heap.size 26 26 (fun b => wj.heap.size ≤ b) w8 (.slice A18 n18 c18) v8 ((List.range (i + 1)).map (rowP p.Q F R t ((j : Int) + 1))) ((List.range (i + 1)).map (colP p.Q F R t ((j : Int) + 1))) ∧ wj.grownBy w8 none) := Lib.hid ⟨by
                rw [HN17.out]
                exact HS7.out.two ha hgr hm, grown_up HG7.out hgr (fun b e => (HS7.out.snd.lt b e).1)⟩
              clear ha hgr hm HS7 HG7 HREP HKY HZ7 HN17 HRo1 HRo2 HCo1 HCo2 HPr HPc HLD
              go_wp2_with fail
              go_roundg q
              case measure => omega
              case rel => exact ⟨i + 1, by omega, by go_num, HFIN⟩
    | succ m =>
      have hin : (s : Int) < (L : Int) := by omega
      have hs0 : (0 : Int) ≤ (s : Int) := Int.natCast_nonneg s
      have hsl : s < l.length := by have := HLN.out; omega
      obtain ⟨gl, ol, cl, el, _, _, hcl0, hcl1, hul1, hul2⟩ := (HLX.out _ HG3.out).atP hsl
      injection el with el1 el2 el3
      subst el1 el3
      obtain ⟨kb, hkb⟩ : ∃ y, y = k0 + s * (2 * dd) := ⟨_, rfl⟩
      have hkm : kb + 2 * dd ≤ most := by
        have h1 : (s + 1) * (2 * dd) ≤ L * (2 * dd) := Nat.mul_le_mul_right _ (by omega)
        have h2 := HMO.out
        rw [Nat.add_mul, Nat.one_mul] at h1
        omega
      have HKN : Hid (k0 + (s + 1) * (2 * dd) = kb + dd + dd) := Lib.hid (by rw [hkb, Nat.add_mul, Nat.one_mul]; omega)
      have HFN : Hid (makeFs l p.Q dr t k0 (s + 1) = makeFs l p.Q dr t k0 s ++ [twoL l[s].1 p.Q dr t kb]) := Lib.hid (by
        rw [hkb, HDD.out]
        refine (hsnoc _ _).trans ?_
        show _ ++ [twoL (l[s]?.getD (0, 0)).1 p.Q dr t (k0 + s * (2 * (t * t - 1)))] = _
        rw [List.getElem?_eq_getElem hsl]
        rfl)
      have HRN : Hid (makeBs l p.Q dr t k0 (s + 1) = makeBs l p.Q dr t k0 s ++ [twoL l[s].2 p.Q dr t (kb + dd)]) := Lib.hid (by
        rw [hkb, HDD.out]
        refine (hsnoc _ _).trans ?_
        show _ ++ [twoL (l[s]?.getD (0, 0)).2 p.Q dr t (k0 + s * (2 * (t * t - 1)) + (t * t - 1))] = _
        rw [List.getElem?_eq_getElem hsl]
        rfl)
      rw [← hkb] at HI3
      have HLXX : Hid (∀ wx, w2.grownBy wx (some g) → wx.cell? ⟨gl, ol + s * 2, none⟩ = some (.int .u64 l[s].1) ∧ wx.cell? ⟨gl, ol + s * 2 + 1, none⟩ = some (.int .u64 l[s].2)) := Lib.hid (fun wx hg => by
        obtain ⟨gl', ol', cl', el', _, _, h0, h1, _, _⟩ := (HLX.out wx hg).atP hsl
        injection el' with e1 e2 e3
        injection e1 with e1
        injection e1 with e1 e4
        subst e1 e4
        exact ⟨h0, h1⟩)
      obtain ⟨x, hx⟩ : ∃ y, y = l[s] := ⟨_, rfl⟩
      rw [← hx] at HFN HRN hul1 hul2 HLXX
      obtain ⟨x1, x2⟩ := x
      simp only at HFN HRN hul1 hul2
      have HLXX : Hid (∀ wx, w2.grownBy wx (some g) → wx.cell? ⟨gl, ol + s * 2, none⟩ = some (.int .u64 x1) ∧ wx.cell? ⟨gl, ol + s * 2 + 1, none⟩ = some (.int .u64 x2)) := HLXX
      have HU := Lib.hid (And.intro hul1 hul2)
      obtain ⟨A10, n10, c10, rfl⟩ := HS0.out.fst.sl.shape
      obtain ⟨A11, n11, c11, rfl⟩ := HS0.out.snd.sl.shape
      obtain ⟨xs, hxs⟩ : ∃ y, y = makeFs l p.Q dr t k0 s := ⟨_, rfl⟩
      obtain ⟨ys, hys⟩ : ∃ y, y = makeBs l p.Q dr t k0 s := ⟨_, rfl⟩
      have HLF : Hid ((xs.length + 1) * 24 ≤ 140737488355328 ∧ (ys.length + 1) * 24 ≤ 140737488355328) := Lib.hid (by rw [hxs, hys]; simp [makeFs, makeBs]; omega)
      rw [← hxs, ← hys] at HS0
      rw [← hxs] at HFN
      rw [← hys] at HRN
      obtain ⟨y, hy⟩ : ∃ y, y = twoL x1 p.Q dr t kb := ⟨_, rfl⟩
      obtain ⟨z, hz⟩ : ∃ z, z = twoL x2 p.Q dr t (kb + dd) := ⟨_, rfl⟩
      rw [← hy] at HFN
      rw [← hz] at HRN
      have HTY : Hid (∀ W, TI kb W → Calls Tryz.prog 44 #[p.v, .int .u64 x1, .pointer pa] W fun e w' => ∃ v, e = .returned v ∧ Sl (encS encU) (fun b => W.heap.size ≤ b) w' v y ∧ TI (kb + dd) w' ∧ W.grownBy w' (some g)) := Lib.hid (fun W hi => by rw [hy]; exact HTW.out x1 kb W HU.out.1 (by omega) hi)
      have HTZ : Hid (∀ W, TI (kb + dd) W → Calls Tryz.prog 44 #[p.v, .int .u64 x2, .pointer pa] W fun e w' => ∃ v, e = .returned v ∧ Sl (encS encU) (fun b => W.heap.size ≤ b) w' v z ∧ TI (kb + dd + dd) w' ∧ W.grownBy w' (some g)) := Lib.hid (fun W hi => by rw [hz]; exact HTW.out x2 (kb + dd) W HU.out.2 (by omega) hi)
      have HOB2 : Hid (∀ b, bl b → b < w2.heap.size) := Lib.hid (fun b hb => by have := HOB.out b hb; have := HW2.out.1; omega)
      clear hkb hx hxs hys hy hz el2 hcl0 hcl1 hul1 hul2 hsl HLX HTW
      have HGd : Hid (wr.grownBy wr.drew none) := Lib.hid (grown_drewN' wr 1)
      have HGW2 : Hid (w2.grownBy wr.drew (some g)) := Lib.hid (HG3.out.trans (HGd.out.but _))
      obtain ⟨N0, hN0⟩ : ∃ y, y = wr.drew.heap.size := ⟨_, rfl⟩
      have HN0 : Hid (N0 = wr.drew.heap.size ∧ w2.heap.size ≤ N0) := Lib.hid ⟨hN0, by rw [hN0]; exact HGW2.out.size⟩
      have HOW : Hid ((∀ b, (Value.slice A10 n10 c10).ownBlock = some b → b < N0) ∧ (∀ b, (Value.slice A11 n11 c11).ownBlock = some b → b < N0)) := Lib.hid (by rw [hN0]; exact ⟨fun b e => (HS0.out.fst.lt b e).2, fun b e => (HS0.out.snd.lt b e).2⟩)
      have HC0 : Hid ((mkLt w2 N0 g TI HTI.out kb dd y (.slice A10 n10 c10) (.slice A11 n11 c11) xs ys).C [] wr.drew) := Lib.hid ⟨⟨HGW2.out, by rw [hN0]; exact Nat.le_refl _⟩, HTI.out _ _ _ HI3.out HGd.out, HS0.out.kept HGd.out⟩
      clear hN0 HS0 HI3
      go_upto_region 7 with (fail)
      refine wp_region_late (mkLt w2 N0 g TI HTI.out kb dd y (.slice A10 n10 c10) (.slice A11 n11 c11) xs ys) [8, 10] 11 (by kernel_rfl) (by kernel_rfl) (by kernel_rfl) HC0.out ?_
      -- op 0 (slot 43): move
      refine LateR.mono (Qv.eq (.slice A10 n10 c10)) [] (by kernel_rfl) (by rfl) rfl (fun vs w' hC => ?_) ?_
      · refine askl_do rfl fun K hK => ?_
        go_simp
        exact hK _ _ rfl ⟨rfl, World.grownBy.refl _ none⟩
      -- op 1 (slot 44): load
      refine LateR.mono (Qv.eq (p.v)) [] (by kernel_rfl) (by rfl) rfl (fun vs w' hC => ?_) ?_
      · refine askl_do rfl fun K hK => ?_
        have hp := (HPX.out w' hC.1.1).prule
        go_simp
        exact hK _ _ rfl ⟨rfl, World.grownBy.refl _ none⟩
      -- op 2 (slot 45): move
      refine LateR.mono (Qv.eq (.slice (some ⟨gl, ol, none⟩) L c)) [] (by kernel_rfl) (by rfl) rfl (fun vs w' hC => ?_) ?_
      · refine askl_do rfl fun K hK => ?_
        go_simp
        exact hK _ _ rfl ⟨rfl, World.grownBy.refl _ none⟩
      -- op 3 (slot 46): move
      refine LateR.mono (Qv.eq (.int .i64 (s : Int))) [] (by kernel_rfl) (by rfl) rfl (fun vs w' hC => ?_) ?_
      · refine askl_do rfl fun K hK => ?_
        go_simp
        exact hK _ _ rfl ⟨rfl, World.grownBy.refl _ none⟩
      -- op 4 (slot 47): indexAddr
      refine LateR.mono (Qv.eq (.pointer (some ⟨gl, ol + s * 2, none⟩))) [(2, 45), (3, 46)] (by kernel_rfl) (by rfl) rfl (fun vs w' hC => ?_) ?_
      · intro x45 h45
        intro x46 h46
        have e45 : x45 = .slice (some ⟨gl, ol, none⟩) L c := h45
        clear h45
        subst e45
        have e46 : x46 = .int .i64 (s : Int) := h46
        clear h46
        subst e46
        refine askl_do rfl fun K hK => ?_
        go_simp
        exact hK _ _ rfl ⟨rfl, World.grownBy.refl _ none⟩
      -- op 5 (slot 48): fieldAddr
      refine LateR.mono (Qv.eq (.pointer (some ⟨gl, ol + s * 2, none⟩))) [(4, 47)] (by kernel_rfl) (by rfl) rfl (fun vs w' hC => ?_) ?_
      · intro x47 h47
        have e47 : x47 = .pointer (some ⟨gl, ol + s * 2, none⟩) := h47
        clear h47
        subst e47
        refine askl_do rfl fun K hK => ?_
        go_simp
        exact hK _ _ rfl ⟨rfl, World.grownBy.refl _ none⟩
      -- op 6 (slot 49): load
      refine LateR.mono (Qv.eq (.int .u64 x1)) [(5, 48)] (by kernel_rfl) (by rfl) rfl (fun vs w' hC => ?_) ?_
      · intro x48 h48
        have e48 : x48 = .pointer (some ⟨gl, ol + s * 2, none⟩) := h48
        clear h48
        subst e48
        refine askl_do rfl fun K hK => ?_
        obtain ⟨q0, q1⟩ := HLXX.out w' hC.1.1
        go_simp
        exact hK _ _ rfl ⟨rfl, World.grownBy.refl _ none⟩
      -- op 7 (slot 50): move
      refine LateR.mono (Qv.eq (.pointer pa)) [] (by kernel_rfl) (by rfl) rfl (fun vs w' hC => ?_) ?_
      · refine askl_do rfl fun K hK => ?_
        go_simp
        exact hK _ _ rfl ⟨rfl, World.grownBy.refl _ none⟩
      -- op 8 (slot 51): call
      refine LateR.turn 0 [(1, 44), (6, 49), (7, 50)] (by kernel_rfl) rfl (fun vs w' hl hC => ?_) ?_
      · intro x44 h44
        intro x49 h49
        intro x50 h50
        have e44 : x44 = p.v := h44
        clear h44
        subst e44
        have e49 : x49 = .int .u64 x1 := h49
        clear h49
        subst e49
        have e50 : x50 = .pointer pa := h50
        clear h50
        subst e50
        refine askl_do rfl fun K hK => ?_
        obtain rfl : vs = [] := List.eq_nil_of_length_eq_zero hl
        obtain ⟨⟨g1, g2⟩, g3, g4⟩ := hC
        go_simp
        refine (HTY.out w' g3).mono ?_
        rintro e w3 ⟨v3, rfl, hs3, hi3, hg3⟩
        exact hK _ _ rfl ⟨trivial, ⟨g1.trans hg3, Nat.le_trans g2 hg3.size⟩, hi3, g4.keep hg3 (fun b hb e => by injection e with e; have := HW2.out; omega), hs3.more fun b _ hb => Nat.le_trans g2 hb⟩
      -- op 9 (slot 52): buildSlice
      refine LateR.mono (mkS) [(8, 51)] (by kernel_rfl) (by rfl) rfl (fun vs w' hC => ?_) ?_
      · intro x51 h51
        refine askl_do rfl fun K hK => ?_
        obtain ⟨Au, nu, cu, eu⟩ := mkLt_shape hC h51
        subst eu
        go_simp
        exact hK _ _ rfl ⟨fun e => ⟨_, _, h51, rfl, Bk.new w' _ _⟩, World.grownBy_alloc w' _ none⟩
      -- op 10 (slot 53): call
      refine LateR.turn 1 [(0, 43), (9, 52)] (by kernel_rfl) rfl (fun vs w' hl hC => ?_) ?_
      · intro x43 h43
        intro x52 h52
        have h52 : vs.length ≤ 1 → ∃ u b, vs[0]? = some u ∧ x52 = .slice (some ⟨b, 0, none⟩) 1 1 ∧ Bk w' b 32 #[u] := h52
        have e43 : x43 = .slice A10 n10 c10 := h43
        clear h43
        subst e43
        refine askl_do rfl fun K hK => ?_
        obtain ⟨u, rfl⟩ : ∃ u, vs = [u] := List.length_eq_one_iff.1 hl
        obtain ⟨⟨g1, g2⟩, g3, g4, g5⟩ := hC
        obtain ⟨u', b52, e51, e52, hk52⟩ := h52 (Nat.le_refl 1)
        have e51 : some u = some u' := e51
        injection e51 with e51
        subst e51 e52
        have HREP : (encS (encS encU)).rep (fun b => (w2.heap.size ≤ b ∧ some b ≠ (Value.slice A11 n11 c11).ownBlock) ∧ some b ≠ (Value.slice A10 n10 c10).ownBlock) w' [u] y := ⟨_, rfl, g5.more fun b _ hb => ⟨⟨Nat.le_trans HN0.out.2 hb, fun e => absurd hb (Nat.not_le_of_lt (HOW.out.2 b e.symm))⟩, fun e => absurd hb (Nat.not_le_of_lt (HOW.out.1 b e.symm))⟩⟩
        refine pushAt_core (E := encS (encS encU)) (y := y) el_rows g4.fst HREP (Bk.one hk52) HLF.out.1 g1.size (g4.new1 (fun _ h => Nat.le_trans g1.size h)) (.tmp 43) (.tmp 52) rfl rfl rfl ?_
        intro v3 w3 ha hgr hm
        exact hK _ _ rfl ⟨trivial, ⟨g1.andThen hgr (fun b e => .inl (g4.fst.lt b e).1), Nat.le_trans g2 hgr.size⟩, g5.shape, HT.out.keep g3 hgr (fun b e hb => by have := (g4.fst.lt b e).1; have := HOB2.out b hb; omega), g4.one ha hgr hm⟩
      intro vs w5 hvl hC5
      obtain ⟨v1, v2, rfl⟩ : ∃ v1 v2, vs = [v1, v2] := by
        match vs, hvl with
        | [a, b], _ => exact ⟨a, b, rfl⟩
      intro y0 r0 y1 r1 y2 r2 y3 r3 y4 r4 y5 r5 y6 r6 y7 r7 y8 r8 y9 r9 y10 r10
      show wpList Tryz.prog _ _ _ _ w5
      simp only [Act.put, List.setIfInBounds_toArray, List.set_cons_zero, List.set_cons_succ]
      have e10 : y10 = v2 := by have : some v2 = some y10 := r10; injection this with this; exact this.symm
      subst e10
      obtain ⟨⟨g1, g2⟩, _, g3, g4⟩ := hC5
      have HG5 : Hid (w2.grownBy w5.drew (some g)) := Lib.hid (g1.trans ((grown_drewN' w5 1).but _))
      have HI5 : Hid (TI (kb + dd) w5.drew) := Lib.hid (HTI.out _ _ _ g3 (grown_drewN' w5 1))
      rw [← HFN.out] at g4
      have HS5 := Lib.hid (g4.swap.kept (grown_drewN' w5 1))
      obtain ⟨B10, m10, d10, rfl⟩ := HS5.out.snd.sl.shape
      clear g1 g2 g3 g4 r0 r1 r2 r3 r4 r5 r6 r7 r8 r9 r10 HC0 HN0 HOW HTY
      obtain ⟨N1, hN1⟩ : ∃ y, y = w5.drew.heap.size := ⟨_, rfl⟩
      have HN1 : Hid (N1 = w5.drew.heap.size ∧ w2.heap.size ≤ N1) := Lib.hid ⟨hN1, by rw [hN1]; exact HG5.out.size⟩
      have HOW1 : Hid ((∀ b, (Value.slice A11 n11 c11).ownBlock = some b → b < N1) ∧ (∀ b, (Value.slice B10 m10 d10).ownBlock = some b → b < N1)) := Lib.hid (by rw [hN1]; exact ⟨fun b e => (HS5.out.fst.lt b e).2, fun b e => (HS5.out.snd.lt b e).2⟩)
      have HC1 : Hid ((mkLt w2 N1 g TI HTI.out (kb + dd) dd z (.slice A11 n11 c11) (.slice B10 m10 d10) ys (makeFs l p.Q dr t k0 (s + 1))).C [] w5.drew) := Lib.hid ⟨⟨HG5.out, by rw [hN1]; exact Nat.le_refl _⟩, HI5.out, HS5.out⟩
      clear hN1 HS5 HI5
      go_upto_region 8 with (fail)
      refine wp_region_late (mkLt w2 N1 g TI HTI.out (kb + dd) dd z (.slice A11 n11 c11) (.slice B10 m10 d10) ys (makeFs l p.Q dr t k0 (s + 1))) [8, 10] 11 (by kernel_rfl) (by kernel_rfl) (by kernel_rfl) HC1.out ?_
      -- op 0 (slot 54): move
      refine LateR.mono (Qv.eq (.slice A11 n11 c11)) [] (by kernel_rfl) (by rfl) rfl (fun vs w' hC => ?_) ?_
      · refine askl_do rfl fun K hK => ?_
        go_simp
        exact hK _ _ rfl ⟨rfl, World.grownBy.refl _ none⟩
      -- op 1 (slot 55): load
      refine LateR.mono (Qv.eq (p.v)) [] (by kernel_rfl) (by rfl) rfl (fun vs w' hC => ?_) ?_
      · refine askl_do rfl fun K hK => ?_
        have hp := (HPX.out w' hC.1.1).prule
        go_simp
        exact hK _ _ rfl ⟨rfl, World.grownBy.refl _ none⟩
      -- op 2 (slot 56): move
      refine LateR.mono (Qv.eq (.slice (some ⟨gl, ol, none⟩) L c)) [] (by kernel_rfl) (by rfl) rfl (fun vs w' hC => ?_) ?_
      · refine askl_do rfl fun K hK => ?_
        go_simp
        exact hK _ _ rfl ⟨rfl, World.grownBy.refl _ none⟩
      -- op 3 (slot 57): move
      refine LateR.mono (Qv.eq (.int .i64 (s : Int))) [] (by kernel_rfl) (by rfl) rfl (fun vs w' hC => ?_) ?_
      · refine askl_do rfl fun K hK => ?_
        go_simp
        exact hK _ _ rfl ⟨rfl, World.grownBy.refl _ none⟩
      -- op 4 (slot 58): indexAddr
      refine LateR.mono (Qv.eq (.pointer (some ⟨gl, ol + s * 2, none⟩))) [(2, 56), (3, 57)] (by kernel_rfl) (by rfl) rfl (fun vs w' hC => ?_) ?_
      · intro x56 h56
        intro x57 h57
        have e56 : x56 = .slice (some ⟨gl, ol, none⟩) L c := h56
        clear h56
        subst e56
        have e57 : x57 = .int .i64 (s : Int) := h57
        clear h57
        subst e57
        refine askl_do rfl fun K hK => ?_
        go_simp
        exact hK _ _ rfl ⟨rfl, World.grownBy.refl _ none⟩
      -- op 5 (slot 59): fieldAddr
      refine LateR.mono (Qv.eq (.pointer (some ⟨gl, ol + s * 2 + 1, none⟩))) [(4, 58)] (by kernel_rfl) (by rfl) rfl (fun vs w' hC => ?_) ?_
      · intro x58 h58
        have e58 : x58 = .pointer (some ⟨gl, ol + s * 2, none⟩) := h58
        clear h58
        subst e58
        refine askl_do rfl fun K hK => ?_
        go_simp
        exact hK _ _ rfl ⟨rfl, World.grownBy.refl _ none⟩
      -- op 6 (slot 60): load
      refine LateR.mono (Qv.eq (.int .u64 x2)) [(5, 59)] (by kernel_rfl) (by rfl) rfl (fun vs w' hC => ?_) ?_
      · intro x59 h59
        have e59 : x59 = .pointer (some ⟨gl, ol + s * 2 + 1, none⟩) := h59
        clear h59
        subst e59
        refine askl_do rfl fun K hK => ?_
        obtain ⟨q0, q1⟩ := HLXX.out w' hC.1.1
        go_simp
        exact hK _ _ rfl ⟨rfl, World.grownBy.refl _ none⟩
      -- op 7 (slot 61): move
      refine LateR.mono (Qv.eq (.pointer pa)) [] (by kernel_rfl) (by rfl) rfl (fun vs w' hC => ?_) ?_
      · refine askl_do rfl fun K hK => ?_
        go_simp
        exact hK _ _ rfl ⟨rfl, World.grownBy.refl _ none⟩
      -- op 8 (slot 62): call
      refine LateR.turn 0 [(1, 55), (6, 60), (7, 61)] (by kernel_rfl) rfl (fun vs w' hl hC => ?_) ?_
      · intro x55 h55
        intro x60 h60
        intro x61 h61
        have e55 : x55 = p.v := h55
        clear h55
        subst e55
        have e60 : x60 = .int .u64 x2 := h60
        clear h60
        subst e60
        have e61 : x61 = .pointer pa := h61
        clear h61
        subst e61
        refine askl_do rfl fun K hK => ?_
        obtain rfl : vs = [] := List.eq_nil_of_length_eq_zero hl
        obtain ⟨⟨g1, g2⟩, g3, g4⟩ := hC
        go_simp
        refine (HTZ.out w' g3).mono ?_
        rintro e w3 ⟨v3, rfl, hs3, hi3, hg3⟩
        exact hK _ _ rfl ⟨trivial, ⟨g1.trans hg3, Nat.le_trans g2 hg3.size⟩, hi3, g4.keep hg3 (fun b hb e => by injection e with e; have := HW2.out; omega), hs3.more fun b _ hb => Nat.le_trans g2 hb⟩
      -- op 9 (slot 63): buildSlice
      refine LateR.mono (mkS) [(8, 62)] (by kernel_rfl) (by rfl) rfl (fun vs w' hC => ?_) ?_
      · intro x62 h62
        refine askl_do rfl fun K hK => ?_
        obtain ⟨Au, nu, cu, eu⟩ := mkLt_shape hC h62
        subst eu
        go_simp
        exact hK _ _ rfl ⟨fun e => ⟨_, _, h62, rfl, Bk.new w' _ _⟩, World.grownBy_alloc w' _ none⟩
      -- op 10 (slot 64): call
      refine LateR.turn 1 [(0, 54), (9, 63)] (by kernel_rfl) rfl (fun vs w' hl hC => ?_) ?_
      · intro x54 h54
        intro x63 h63
        have h63 : vs.length ≤ 1 → ∃ u b, vs[0]? = some u ∧ x63 = .slice (some ⟨b, 0, none⟩) 1 1 ∧ Bk w' b 32 #[u] := h63
        have e54 : x54 = .slice A11 n11 c11 := h54
        clear h54
        subst e54
        refine askl_do rfl fun K hK => ?_
        obtain ⟨u, rfl⟩ : ∃ u, vs = [u] := List.length_eq_one_iff.1 hl
        obtain ⟨⟨g1, g2⟩, g3, g4, g5⟩ := hC
        obtain ⟨u', b52, e51, e52, hk52⟩ := h63 (Nat.le_refl 1)
        have e51 : some u = some u' := e51
        injection e51 with e51
        subst e51 e52
        have HREP : (encS (encS encU)).rep (fun b => (w2.heap.size ≤ b ∧ some b ≠ (Value.slice B10 m10 d10).ownBlock) ∧ some b ≠ (Value.slice A11 n11 c11).ownBlock) w' [u] z := ⟨_, rfl, g5.more fun b _ hb => ⟨⟨Nat.le_trans HN1.out.2 hb, fun e => absurd hb (Nat.not_le_of_lt (HOW1.out.2 b e.symm))⟩, fun e => absurd hb (Nat.not_le_of_lt (HOW1.out.1 b e.symm))⟩⟩
        refine pushAt_core (E := encS (encS encU)) (y := z) el_rows g4.fst HREP (Bk.one hk52) HLF.out.2 g1.size (g4.new1 (fun _ h => Nat.le_trans g1.size h)) (.tmp 54) (.tmp 63) rfl rfl rfl ?_
        intro v3 w3 ha hgr hm
        exact hK _ _ rfl ⟨trivial, ⟨g1.andThen hgr (fun b e => .inl (g4.fst.lt b e).1), Nat.le_trans g2 hgr.size⟩, g5.shape, HT.out.keep g3 hgr (fun b e hb => by have := (g4.fst.lt b e).1; have := HOB2.out b hb; omega), g4.one ha hgr hm⟩
      intro vs w7 hvl hC7
      obtain ⟨v1, v2, rfl⟩ : ∃ v1 v2, vs = [v1, v2] := by
        match vs, hvl with
        | [a, b], _ => exact ⟨a, b, rfl⟩
      intro y0 r0 y1 r1 y2 r2 y3 r3 y4 r4 y5 r5 y6 r6 y7 r7 y8 r8 y9 r9 y10 r10
      show wpList Tryz.prog _ _ _ _ w7
      simp only [Act.put, List.setIfInBounds_toArray, List.set_cons_zero, List.set_cons_succ]
      have e10 : y10 = v2 := by have : some v2 = some y10 := r10; injection this with this; exact this.symm
      subst e10
      have HFIN : Hid (Side (encS (encS encU)) (encS (encS encU)) w2.heap.size 32 32 (fun b => w2.heap.size ≤ b) w7 (.slice B10 m10 d10) y10 (makeFs l p.Q dr t k0 (s + 1)) (makeBs l p.Q dr t k0 (s + 1)) ∧ TI (k0 + (s + 1) * (2 * dd)) w7 ∧ w2.grownBy w7 (some g)) := Lib.hid (by
        obtain ⟨⟨g1, g2⟩, _, g3, g4⟩ := hC7
        rw [HRN.out, HKN.out]
        exact ⟨g4.swap, g3, g1⟩)
      clear hC7 r0 r1 r2 r3 r4 r5 r6 r7 r8 r9 r10 HC1 HN1 HOW1
      go_wp2_with fail
      go_roundg m
      case measure => omega
      case rel => exact ⟨s + 1, by omega, by go_num, HFIN⟩
end Go.Proofs.YtphbcfpiklmmeaaGreatDoor

namespace Go.Proofs.YtphbcfpiklmmeaaGreatDoor
open Go Go.RowKit

/-- A tape behind k draws below q. -/
def tsk (q : Int) (T : TS) : Nat → TS
  | 0 => T
  | k + 1 => (tsk q T k).next q
theorem tsnext_d (q : Int) (T : TS) : (T.next q).d = T.d + 1 := by
  obtain ⟨l, s, d⟩ := T
  cases l <;> rfl
theorem tsnext_ok {q : Int} {T : TS} (h : T.ok) (hd : T.d + 1 < 4611686018427387904) : (T.next q).ok := by
  obtain ⟨hx, hs, hd0, hd1⟩ := h
  obtain ⟨l, s, d⟩ := T
  cases l with
  | nil => exact ⟨by simp [TS.next], drawS_U64 q s hs, by simp [TS.next] at *; omega, by simpa [TS.next] using hd⟩
  | cons x l => exact ⟨fun y hy => hx y (by simp [TS.next] at hy; simp [hy]), hs, by simp [TS.next] at *; omega, by simpa [TS.next] using hd⟩
theorem tsk_ok {q : Int} {T : TS} (h : T.ok) : ∀ k : Nat, T.d + k < 4611686018427387904 → (tsk q T k).ok ∧ (tsk q T k).d = T.d + k
  | 0, _ => ⟨h, by simp [tsk]⟩
  | k + 1, hd => by
    obtain ⟨h1, h2⟩ := tsk_ok h k (by omega)
    refine ⟨tsnext_ok h1 (by omega), ?_⟩
    show ((tsk q T k).next q).d = _
    rw [tsnext_d, h2]
    omega
theorem tsk_ahead {q : Int} {T : TS} (h : ∀ x ∈ T.ahead, U64 x) : ∀ k : Nat, ∀ x ∈ (tsk q T k).ahead, U64 x
  | 0, x, hx => h x hx
  | k + 1, x, hx => by
    have ih := tsk_ahead (q := q) h k
    have hx : x ∈ ((tsk q T k).next q).ahead := hx
    generalize tsk q T k = T1 at ih hx
    obtain ⟨l, s, d⟩ := T1
    cases l with
    | nil => simp [TS.next] at hx
    | cons y l => exact ih x (by simp [TS.next] at hx; simp [hx])
theorem tp_ahead (b ga : Nat) (q : Int) (T : TS) (hT : T.ok) (hd : T.d ≤ 1000) (hq : U64 q) : Tp b q (fun k => (tsk q T k).val q) (fun k w => TapeIs w b ga (tsk q T k) ∧ ga < w.heap.size) (fun x => x = b ∨ x = ga) 1000000 where
  own := .inl rfl
  old := fun h e => by
    rcases e with e | e
    · subst e; exact h.1.lt
    · subst e; exact h.2
  val := fun k => by
    have ih := tsk_ahead (q := q) hT.1 k
    generalize tsk q T k = T1 at ih
    obtain ⟨l, s, d⟩ := T1
    cases l with
    | nil => exact drawX_U64 q s hq
    | cons x l => exact belowI_U64 _ _ (ih x (by simp)) hq
  keep := fun h hg hr => ⟨h.1.grown hg (fun e => hr b e.symm (.inl rfl)) (fun e => hr ga e.symm (.inr rfl)), Nat.lt_of_lt_of_le h.2 hg.size⟩
  next := fun {k w} hk h => (next_any b ga q (tsk q T k) w h.1 (tsk_ok hT k (by omega)).1 hq).mono fun _ _ ⟨h1, h2, h3⟩ => ⟨h1, ⟨h2, Nat.lt_of_lt_of_le h.2 h3.size⟩, h3⟩
end Go.Proofs.YtphbcfpiklmmeaaGreatDoor

namespace Go.Proofs.YtphbcfpiklmmeaaGreatDoor
open Go Go.RowKit Go.Shelf

def moB (p : Par) (l : List Int) : Bool := mayP p && decide ((l.length : Int) = secretsI p)
def moE (p : Par) (l : List Int) : Int := if moB p l then 0 else 1
def moK (p : Par) (l : List Int) : Nat := if moB p l then l.length * (2 * p.T.toNat + 1) else 0
def moS (p : Par) (l : List Int) (dr : Nat → Int) (k : Nat) : List (List (Int × Int)) := if moB p l then (List.range p.N.toNat).map fun i : Nat => dealtI p (dealFs l p.Q dr p.T.toNat k l.length) (dealRs p.Q dr p.T.toNat k l.length) ((i : Int) + 1) else []
def moC (p : Par) (l : List Int) (dr : Nat → Int) (k : Nat) : List (List Int) := if moB p l then comsI p (dealFs l p.Q dr p.T.toNat k l.length) (dealRs p.Q dr p.T.toNat k l.length) else []
def maB (p : Par) (l : List (Int × Int)) (n : Int) : Bool := mayP p && decide ((l.length : Int) = secretsI p) && decide (1 ≤ n ∧ n ≤ 7)
def maE (p : Par) (l : List (Int × Int)) (n : Int) : Int := if maB p l n then 0 else 1
def maK (p : Par) (l : List (Int × Int)) (n : Int) : Nat := if maB p l n then l.length * (2 * ((p.T + 1).toNat * (p.T + 1).toNat - 1)) else 0
def maM (p : Par) (l : List (Int × Int)) (n : Int) (dr : Nat → Int) (k : Nat) : List (List (List Int)) := if maB p l n then matI p (makeFs l p.Q dr (p.T + 1).toNat k l.length) (makeBs l p.Q dr (p.T + 1).toNat k l.length) else []
def maR (p : Par) (l : List (Int × Int)) (n : Int) (dr : Nat → Int) (k : Nat) : List (List (List (Int × Int))) := if maB p l n then (List.range n.toNat).map fun j : Nat => rowsP p.Q (makeFs l p.Q dr (p.T + 1).toNat k l.length) (makeBs l p.Q dr (p.T + 1).toNat k l.length) (p.T + 1).toNat ((j : Int) + 1) else []
def maC (p : Par) (l : List (Int × Int)) (n : Int) (dr : Nat → Int) (k : Nat) : List (List (List (Int × Int))) := if maB p l n then (List.range n.toNat).map fun j : Nat => colsP p.Q (makeFs l p.Q dr (p.T + 1).toNat k l.length) (makeBs l p.Q dr (p.T + 1).toNat k l.length) (p.T + 1).toNat ((j : Int) + 1) else []
theorem mo_small {p : Par} {n : Nat} (hm : mayP p = true) (hl : (n : Int) = secretsI p) : n ≤ 10 ∧ (p.T = 1 ∨ p.T = 2) := by
  obtain ⟨hq, _, _, n1, n2, n3, t1, t2, t3, hs, kk1, dd1⟩ := may_apart hm
  have hsec := smallB_secrets hs
  omega
theorem moK_le (p : Par) (l : List Int) : moK p l ≤ 50 := by
  unfold moK
  split
  · rename_i h
    simp only [moB, Bool.and_eq_true, decide_eq_true_eq] at h
    obtain ⟨h1, h2⟩ := mo_small h.1 h.2
    have : 2 * p.T.toNat + 1 ≤ 5 := by omega
    have := Nat.mul_le_mul h1 this
    omega
  · omega
theorem maK_le (p : Par) (l : List (Int × Int)) (n : Int) : maK p l n ≤ 160 := by
  unfold maK
  split
  · rename_i h
    simp only [maB, Bool.and_eq_true, decide_eq_true_eq] at h
    obtain ⟨h1, h2⟩ := mo_small h.1.1 h.1.2
    have h3 : (p.T + 1).toNat ≤ 3 := by omega
    have h4 := Nat.mul_le_mul h3 h3
    have : 2 * ((p.T + 1).toNat * (p.T + 1).toNat - 1) ≤ 16 := by omega
    have := Nat.mul_le_mul h1 this
    omega
  · omega
def MoTells (p : Par) (l : List Int) (dr : Nat → Int) (TI : Nat → World → Prop) (g k0 : Nat) (w : World) (e : Ending) (w' : World) : Prop :=
  ∃ vs vc, e = .returned (.tuple #[vs, vc, .int .i64 (moE p l)]) ∧ Sl (encS encP) (fun x => w.heap.size ≤ x) w' vs (moS p l dr k0) ∧ Sl (encS encU) (fun x => w.heap.size ≤ x) w' vc (moC p l dr k0) ∧ TI (k0 + moK p l) w' ∧ w.grownBy w' (some g)
def MaTells (p : Par) (l : List (Int × Int)) (n : Int) (dr : Nat → Int) (TI : Nat → World → Prop) (g k0 : Nat) (w : World) (e : Ending) (w' : World) : Prop :=
  ∃ vm vr vc, e = .returned (.tuple #[.agg #[vm, vr, vc], .int .i64 (maE p l n)]) ∧ Sl (encS (encS encU)) (fun x => w.heap.size ≤ x) w' vm (maM p l n dr k0) ∧ Sl (encS (encS encP)) (fun x => w.heap.size ≤ x) w' vr (maR p l n dr k0) ∧ Sl (encS (encS encP)) (fun x => w.heap.size ≤ x) w' vc (maC p l n dr k0) ∧ TI (k0 + maK p l n) w' ∧ w.grownBy w' (some g)
theorem dmodel_all (p : Par) (vl : Value) (l : List Int) (X : Nat → Prop) (w : World) {g : Nat} {dr : Nat → Int} {TI : Nat → World → Prop} {bl : Nat → Prop} (hT : Tp g p.Q dr TI bl 1000000) (hp : p.ok) (hTab : TabsAt w) (h : Sl encU X w vl l) (hX : ∀ b, X b → b ≠ g) (k0 : Nat) (hk : k0 ≤ 1000) (hI : TI k0 w) :
    Calls Tryz.prog 7 #[p.v, vl, .pointer (some ⟨g, 0, none⟩)] w (MoTells p l dr TI g k0 w) := by
  cases hb : moB p l with
  | false =>
    have hno : ¬ (mayP p = true ∧ (l.length : Int) = secretsI p) := by
      intro ⟨h1, h2⟩
      simp [moB, h1, h2] at hb
    refine (dmodel_no p vl l X _ w hp hTab h hno).mono fun e w' ⟨he, hg⟩ => ?_
    exact ⟨_, _, by rw [he, moE, hb]; rfl, by rw [moS, hb]; exact Sl.nil _ _ _, by rw [moC, hb]; exact Sl.nil _ _ _, by rw [moK, hb]; exact hT.keep hI hg (by simp), hg.but _⟩
  | true =>
    have hh := hb
    simp only [moB, Bool.and_eq_true, decide_eq_true_eq] at hh
    obtain ⟨h1, h2⟩ := mo_small hh.1 hh.2
    have hT0 : ((p.T.toNat : Nat) : Int) = p.T := by omega
    have hm5 : l.length * (2 * p.T.toNat + 1) ≤ 10 * 5 := Nat.mul_le_mul h1 (by omega)
    refine (dmodel_new p vl l X w hT hp hh.1 hTab h hX hh.2 k0 p.T.toNat hT0 hI (by omega)).mono fun e w' ⟨vs, vc, he, s1, s2, hi, hg⟩ => ?_
    refine ⟨vs, vc, by rw [he, moE, hb]; rfl, by rw [moS, hb]; exact s1, by rw [moC, hb]; exact s2, by rw [moK, hb]; exact hi, hg⟩
theorem rmodel_all (p : Par) (vl : Value) (l : List Int) (X : Nat → Prop) (w : World) {g : Nat} {dr : Nat → Int} {TI : Nat → World → Prop} {bl : Nat → Prop} (hT : RTp (some ⟨g, 0, none⟩) g p.Q dr TI bl 1000000) (hd : 0 < p.Q → ∀ k, 0 ≤ dr k ∧ dr k < p.Q) (hp : p.ok) (h : Sl encU X w vl l) (hX : ∀ b, X b → b ≠ g) (k0 : Nat) (hk : k0 ≤ 1000) (hI : TI k0 w) :
    Calls Tryz.prog 8 #[p.v, vl, .pointer (some ⟨g, 0, none⟩)] w (MoTells p l dr TI g k0 w) := by
  cases hb : moB p l with
  | false =>
    have hno : ¬ (mayP p = true ∧ (l.length : Int) = secretsI p) := by
      intro ⟨h1, h2⟩
      simp [moB, h1, h2] at hb
    refine (rmodel_no p vl l X _ w hp h hno).mono fun e w' ⟨he, hg⟩ => ?_
    exact ⟨_, _, by rw [he, moE, hb]; rfl, by rw [moS, hb]; exact Sl.nil _ _ _, by rw [moC, hb]; exact Sl.nil _ _ _, by rw [moK, hb]; exact hT.keep hI hg (by simp), hg.but _⟩
  | true =>
    have hh := hb
    simp only [moB, Bool.and_eq_true, decide_eq_true_eq] at hh
    obtain ⟨h1, h2⟩ := mo_small hh.1 hh.2
    have hq0 := mayB_pos (may_apart hh.1).1
    have fin : ∀ T : Nat, (T : Int) = p.T → ∀ e w', (∃ vs vc, e = .returned (.tuple #[vs, vc, .int .i64 0]) ∧ Sl (encS encP) (fun b => w.heap.size ≤ b) w' vs ((List.range p.N.toNat).map fun i : Nat => dealtI p (dealFs l p.Q dr T k0 l.length) (rdealRs dr T k0 l.length) ((i : Int) + 1)) ∧ Sl (encS encU) (fun b => w.heap.size ≤ b) w' vc (comsI p (dealFs l p.Q dr T k0 l.length) (rdealRs dr T k0 l.length)) ∧ TI (k0 + l.length * (2 * T + 1)) w' ∧ w.grownBy w' (some g)) → MoTells p l dr TI g k0 w e w' := by
      intro T hTT e w' ⟨vs, vc, he, s1, s2, hi, hg⟩
      obtain rfl : p.T.toNat = T := by omega
      rw [rdealRs_eq (hd hq0)] at s1 s2
      exact ⟨vs, vc, by rw [he, moE, hb]; rfl, by rw [moS, hb]; exact s1, by rw [moC, hb]; exact s2, by rw [moK, hb]; exact hi, hg⟩
    rcases h2 with h2 | h2
    · exact (rmodel1_any p vl l X w hT hp hh.1 h hX hh.2 k0 h2 hI (by omega)).mono (fin 1 (by omega))
    · exact (rmodel2_any p vl l X w hT hp hh.1 h hX hh.2 k0 h2 hI (by omega)).mono (fin 2 (by omega))
theorem dmake_all (p : Par) (vl : Value) (l : List (Int × Int)) (n : Int) (X : Nat → Prop) (w : World) {pa : Option Addr} {g : Nat} {dr : Nat → Int} {TI : Nat → World → Prop} {bl : Nat → Prop} (hT : TpP pa g p.Q dr TI bl 1000000) (hp : p.ok) (hTab : TabsAt w) (h : Sl encP X w vl l) (hX : ∀ b, X b → b ≠ g) (k0 : Nat) (hk : k0 ≤ 1000) (hI : TI k0 w) :
    Calls Tryz.prog 12 #[p.v, vl, .int .i64 n, .pointer pa] w (MaTells p l n dr TI g k0 w) := by
  cases hb : maB p l n with
  | false =>
    have hno : ¬ (mayP p = true ∧ (l.length : Int) = secretsI p ∧ 1 ≤ n ∧ n ≤ 7) := by
      intro ⟨h1, h2, h3, h4⟩
      simp [maB, h1, h2, h3, h4] at hb
    refine (dmake_no p vl l n X _ w hp hTab h hno).mono fun e w' ⟨he, hg⟩ => ?_
    exact ⟨_, _, _, by rw [he, maE, hb]; rfl, by rw [maM, hb]; exact Sl.nil _ _ _, by rw [maR, hb]; exact Sl.nil _ _ _, by rw [maC, hb]; exact Sl.nil _ _ _, by rw [maK, hb]; exact hT.keep hI hg (by simp), hg.but _⟩
  | true =>
    have hh := hb
    simp only [maB, Bool.and_eq_true, decide_eq_true_eq] at hh
    obtain ⟨h1, h2⟩ := mo_small hh.1.1 hh.1.2
    obtain ⟨m, rfl⟩ : ∃ m : Nat, n = (m : Int) := ⟨n.toNat, by omega⟩
    have ht0 : (((p.T + 1).toNat : Nat) : Int) = p.T + 1 := by omega
    have hmk := maK_le p l m
    rw [maK, hb] at hmk
    have hmk : l.length * (2 * ((p.T + 1).toNat * (p.T + 1).toNat - 1)) ≤ 160 := hmk
    refine (dmake_any p vl l m X w hT hp hh.1.1 hTab h hX hh.1.2 (by omega) k0 (p.T + 1).toNat ht0 hI (by omega)).mono fun e w' ⟨vm, vr, vc, he, s1, s2, s3, hi, hg⟩ => ?_
    exact ⟨vm, vr, vc, by rw [he, maE, hb]; rfl, by rw [maM, hb]; exact s1, by rw [maR, hb]; exact s2, by rw [maC, hb]; exact s3, by rw [maK, hb]; exact hi, hg⟩
theorem rmake_all (p : Par) (vl : Value) (l : List (Int × Int)) (n : Int) (X : Nat → Prop) (w : World) {pa : Option Addr} {g : Nat} {dr : Nat → Int} {TI : Nat → World → Prop} {bl : Nat → Prop} (hT : RTp pa g p.Q dr TI bl 1000000) (hp : p.ok) (h : Sl encP X w vl l) (hX : ∀ b, X b → b ≠ g) (k0 : Nat) (hk : k0 ≤ 1000) (hI : TI k0 w) :
    Calls Tryz.prog 13 #[p.v, vl, .int .i64 n, .pointer pa] w (MaTells p l n dr TI g k0 w) := by
  cases hb : maB p l n with
  | false =>
    have hno : ¬ (mayP p = true ∧ (l.length : Int) = secretsI p ∧ 1 ≤ n ∧ n ≤ 7) := by
      intro ⟨h1, h2, h3, h4⟩
      simp [maB, h1, h2, h3, h4] at hb
    refine (rmake_no p vl l n X _ w hp h hno).mono fun e w' ⟨he, hg⟩ => ?_
    exact ⟨_, _, _, by rw [he, maE, hb]; rfl, by rw [maM, hb]; exact Sl.nil _ _ _, by rw [maR, hb]; exact Sl.nil _ _ _, by rw [maC, hb]; exact Sl.nil _ _ _, by rw [maK, hb]; exact hT.keep hI hg (by simp), hg.but _⟩
  | true =>
    have hh := hb
    simp only [maB, Bool.and_eq_true, decide_eq_true_eq] at hh
    obtain ⟨h1, h2⟩ := mo_small hh.1.1 hh.1.2
    obtain ⟨m, rfl⟩ : ∃ m : Nat, n = (m : Int) := ⟨n.toNat, by omega⟩
    have ht0 : (((p.T + 1).toNat : Nat) : Int) = p.T + 1 := by omega
    have hmk := maK_le p l m
    rw [maK, hb] at hmk
    have hmk : l.length * (2 * ((p.T + 1).toNat * (p.T + 1).toNat - 1)) ≤ 160 := hmk
    refine (rmake_any p vl l m X w hT hp hh.1.1 h hX hh.1.2 (by omega) k0 (p.T + 1).toNat ht0 hI (by omega)).mono fun e w' ⟨vm, vr, vc, he, s1, s2, s3, hi, hg⟩ => ?_
    exact ⟨vm, vr, vc, by rw [he, maE, hb]; rfl, by rw [maM, hb]; exact s1, by rw [maR, hb]; exact s2, by rw [maC, hb]; exact s3, by rw [maK, hb]; exact hi, hg⟩
/-- The document's tape of which draws were told ahead. -/
theorem rtp_ahead (b ga : Nat) (q : Int) (T : TS) (hT : T.ok) (hd : T.d ≤ 1000) (hq : U64 q) : RTp (some ⟨b, 0, none⟩) b q (fun k => (tsk q T k).val q) (fun k w => RTapeIs w b ga (tsk q T k) ∧ ga < w.heap.size) (fun x => x = b ∨ x = ga) 1000000 where
  own := .inl rfl
  old := fun h e => by
    rcases e with e | e
    · subst e; exact h.1.lt
    · subst e; exact h.2
  val := (tp_ahead b ga q T hT hd hq).val
  keep := fun h hg hr => ⟨h.1.grown hg (fun e => hr b e.symm (.inl rfl)) (fun e => hr ga e.symm (.inr rfl)), Nat.lt_of_lt_of_le h.2 hg.size⟩
  next := fun {k w} a ha hk h => (rnext_any b ga q (tsk q T k) w h.1 (tsk_ok hT k (by omega)).1 hq).mono fun _ _ ⟨h1, h2, h3⟩ => ⟨h1, ⟨h2, Nat.lt_of_lt_of_le h.2 h3.size⟩, h3⟩
  nobody := fun e => by cases e
theorem tsk_bd {q : Int} {T : TS} (hT : T.ok) (hq : 0 < q) (k : Nat) : 0 ≤ (tsk q T k).val q ∧ (tsk q T k).val q < q := by
  have hb : ∀ x : Int, 0 ≤ belowI x q ∧ belowI x q < q := fun x => by
    unfold belowI
    rw [if_neg (by omega)]
    exact ⟨Int.emod_nonneg _ (by omega), Int.emod_lt_of_pos _ hq⟩
  generalize tsk q T k = T1
  obtain ⟨l, s, d⟩ := T1
  cases l with
  | nil => exact hb _
  | cons x l => exact hb _
/-- Nobody's tape: 0, whatever is asked. -/
theorem tp_none (g : Nat) (q : Int) (hn : ∀ w, Calls Tryz.prog 30 #[.pointer none, .int .u64 q] w fun e w' => e = .returned (.int .u64 0) ∧ w' = w) : TpP none g q (fun _ => 0) (fun _ w => g < w.heap.size) (fun x => x = g) 1000000 where
  own := rfl
  old := fun h e => by subst e; exact h
  val := fun _ => ⟨by decide, by decide⟩
  keep := fun h hg _ => Nat.lt_of_lt_of_le h hg.size
  next := fun {k w} _ h => (hn w).mono fun _ _ ⟨h1, h2⟩ => by subst h2; exact ⟨h1, h, World.grownBy.refl _ _⟩
theorem rtp_none (g : Nat) (q : Int) : RTp none g q (fun _ => 0) (fun _ w => g < w.heap.size) (fun x => x = g) 1000000 where
  own := rfl
  old := fun h e => by subst e; exact h
  val := fun _ => ⟨by decide, by decide⟩
  keep := fun h hg _ => Nat.lt_of_lt_of_le h hg.size
  next := fun a ha => by cases ha
  nobody := fun _ _ => ⟨rfl, fun _ h => h⟩
end Go.Proofs.YtphbcfpiklmmeaaGreatDoor

namespace Go.Proofs.YtphbcfpiklmmeaaGreatDoor
open Go Go.RowKit Go.Shelf

set_option maxRecDepth 100000 in
set_option maxHeartbeats 4000000 in
theorem dealings_eq (u1 u2 u3 v1 v2 v3 : Value) (M : List (List (List Int))) (R C : List (List (List (Int × Int)))) (X Y : Nat → Prop) (w : World) (a1 : Sl (encS (encS encU)) X w u1 M) (a2 : Sl (encS (encS encP)) X w u2 R) (a3 : Sl (encS (encS encP)) X w u3 C) (b1 : Sl (encS (encS encU)) Y w v1 M) (b2 : Sl (encS (encS encP)) Y w v2 R) (b3 : Sl (encS (encS encP)) Y w v3 C) :
    Calls Tryz.prog 14 #[.agg #[u1, u2, u3], .agg #[v1, v2, v3]] w fun e w' => e = .returned (.bool true) ∧ w.grownBy w' none := by
  obtain ⟨w0, hw0⟩ : ∃ y, y = (w.alloc (Obj.cells #[u1, u2, u3] 48)).alloc (Obj.cells #[v1, v2, v3] 48) := ⟨_, rfl⟩
  have HG0 : Hid (w.grownBy w0 none) := Lib.hid (by rw [hw0]; exact grown_two)
  have HA0 : Hid (Bk w0 w.heap.size 48 #[u1, u2, u3]) := Lib.hid (by rw [hw0]; exact (Bk.new w _ _).alloc _)
  have HB0 : Hid (Bk w0 (w.heap.size + 1) 48 #[v1, v2, v3]) := Lib.hid (by
    rw [hw0]
    have h := Bk.new (w.alloc (Obj.cells #[u1, u2, u3] 48)) 48 #[v1, v2, v3]
    rw [World.size_alloc] at h
    exact h)
  have HM := Lib.hid (fun (W : World) (hW : w0.grownBy W none) => mats_eq u1 v1 M X Y W (a1.kept (HG0.out.trans hW)) (b1.kept (HG0.out.trans hW)))
  have HR1 := Lib.hid (a2.kept HG0.out)
  have HR2 := Lib.hid (b2.kept HG0.out)
  have HC1 := Lib.hid (a3.kept HG0.out)
  have HC2 := Lib.hid (b3.kept HG0.out)
  obtain ⟨A1, n1, c1, rfl⟩ := a1.shape
  obtain ⟨B1, m1, d1, rfl⟩ := b1.shape
  obtain ⟨A2, c2, rfl, _, _⟩ := a2.form
  obtain ⟨B2, d2, rfl, _, _⟩ := b2.form
  obtain ⟨A3, c3, rfl, _, _⟩ := a3.form
  obtain ⟨B3, d3, rfl, _, _⟩ := b3.form
  clear a1 a2 a3 b1 b2 b3
  go_enter Tryz.func14, Tryz.ntmps14
  go_wp2_with fail
  rw [← hw0]
  clear hw0
  have p0 := HA0.out.cell 0
  have p1 := HA0.out.cell 1
  have p2 := HA0.out.cell 2
  have q0 := HB0.out.cell 0
  have q1 := HB0.out.cell 1
  have q2 := HB0.out.cell 2
  simp at p0 p1 p2 q0 q1 q2
  go_wp2_with fail
  refine (HM.out w0 (World.grownBy.refl _ none)).mono ?_
  rintro e w1 ⟨rfl, k1, rfl⟩
  have HS : Hid (∃ n, w0.drewN k1 = w0.drewN n) := Lib.hid ⟨k1, rfl⟩
  clear HM
  go_wp2_with fail
  go_loopg [5] R.length (fun g s5 wx => ∃ j : Nat, j + g = R.length ∧ s5 = .int .i64 j ∧ Hid (∃ n, wx = w0.drewN n))
  case atStart => exact ⟨0, by omega, rfl, HS⟩
  case round =>
    obtain ⟨j, hj, rfl, HX⟩ := hrel
    obtain ⟨n0, rfl⟩ := HX.out
    cases gk with
    | zero =>
      obtain rfl : j = R.length := by omega
      clear HX HS
      have HS2 : Hid (∃ n, w0.drewN n0 = w0.drewN n) := Lib.hid ⟨_, rfl⟩
      have hno : ¬ ((R.length : Int) < (R.length : Int)) := by omega
      go_wp2_with fail
      go_loopg [6] C.length (fun g s6 wx => ∃ j : Nat, j + g = C.length ∧ s6 = .int .i64 j ∧ Hid (∃ n, wx = w0.drewN n))
      case atStart => exact ⟨0, by omega, rfl, HS2⟩
      case round =>
        obtain ⟨j, hj, rfl, HX⟩ := hrel
        obtain ⟨n1', rfl⟩ := HX.out
        cases gk with
        | zero =>
          obtain rfl : j = C.length := by omega
          have HF : Hid (w.grownBy (w0.drewN n1') none) := Lib.hid (HG0.out.trans (grown_drewN' w0 n1'))
          clear HX HS2
          have hno2 : ¬ ((C.length : Int) < (C.length : Int)) := by omega
          go_wp2
          go_ret
          exact ⟨rfl, HF.out⟩
        | succ m =>
          have hjn : (j : Int) < (C.length : Int) := by omega
          have hj0 : (0 : Int) ≤ (j : Int) := Int.natCast_nonneg j
          have hjN : j < C.length := by omega
          obtain ⟨g1, o1, c1', t1, e1, _, _, a1, k1'⟩ := HC1.out.atS hjN
          injection e1 with e11 e12 e13
          subst e11 e13
          obtain ⟨g2, o2, c2', t2, e2, _, _, a2, k2'⟩ := HC2.out.atS hjN
          injection e2 with e21 e22 e23
          subst e21 e23
          have HN := Lib.hid (fun k => shares_eq t1 t2 C[j] X Y (w0.drewN k) (k1'.kept (grownBy_drewN (World.grownBy.refl w0 none) k)) (k2'.kept (grownBy_drewN (World.grownBy.refl w0 none) k)))
          obtain ⟨D1, l1, f1, rfl⟩ := k1'.shape
          obtain ⟨D2, l2, f2, rfl⟩ := k2'.shape
          clear HX HS2 e12 e22 k1' k2'
          go_wp2_with fail
          go_quiet ((go_at_call 9; exact quiet_add (HN.out _)))
          go_wp2_with fail
          go_roundg m
          case measure => omega
          case rel => exact ⟨j + 1, by omega, by go_num, Lib.hid ⟨_, rfl⟩⟩
    | succ m =>
      have hjn : (j : Int) < (R.length : Int) := by omega
      have hj0 : (0 : Int) ≤ (j : Int) := Int.natCast_nonneg j
      have hjN : j < R.length := by omega
      obtain ⟨g1, o1, c1', t1, e1, _, _, a1, k1'⟩ := HR1.out.atS hjN
      injection e1 with e11 e12 e13
      subst e11 e13
      obtain ⟨g2, o2, c2', t2, e2, _, _, a2, k2'⟩ := HR2.out.atS hjN
      injection e2 with e21 e22 e23
      subst e21 e23
      have HN := Lib.hid (fun k => shares_eq t1 t2 R[j] X Y (w0.drewN k) (k1'.kept (grownBy_drewN (World.grownBy.refl w0 none) k)) (k2'.kept (grownBy_drewN (World.grownBy.refl w0 none) k)))
      obtain ⟨D1, l1, f1, rfl⟩ := k1'.shape
      obtain ⟨D2, l2, f2, rfl⟩ := k2'.shape
      clear HX HS e12 e22 k1' k2'
      go_wp2_with fail
      go_quiet ((go_at_call 9; exact quiet_add (HN.out _)))
      go_wp2_with fail
      go_roundg m
      case measure => omega
      case rel => exact ⟨j + 1, by omega, by go_num, Lib.hid ⟨_, rfl⟩⟩
end Go.Proofs.YtphbcfpiklmmeaaGreatDoor

namespace Go.Proofs.YtphbcfpiklmmeaaGreatDoor
open Go.ChangeShapes Go.WideShapes Go.RowKit

set_option maxRecDepth 100000 in
theorem open_params {H : Type} {enc : TypeId × Value → H} {w : World} {base : Nat} {spare : Nat → Bool} {held : Bool} {r : Reach} {b0 : Nat} {v : Value} {d : DataW H} {pl : List MemPlace}
    (hv : Value.okWide Tryz.prog w r b0 24 v) (h : DataW.Trod enc Tryz.prog w base spare held 24 v d pl) : ∃ p : Par, v = p.v ∧ p.ok := by
  obtain ⟨cs, rfl, hsz⟩ := okWide_struct Tryz.underlying24 hv
  obtain ⟨l⟩ := cs
  have hc : Tryz.prog.cellsOf 24 = 12 := by kernel_rfl
  have cu : Tryz.prog.cellsOf 22 = 1 := by kernel_rfl
  have ci : Tryz.prog.cellsOf 3 = 1 := by kernel_rfl
  have cj : Tryz.prog.cellsOf 2 = 1 := by kernel_rfl
  match l, hsz.trans hc with
  | [c0, c1, c2, c3, c4, c5, c6, c7, c8, c9, c10, c11], _ =>
    obtain ⟨fuel, hf⟩ := h
    obtain ⟨xs, n, _, _, _, hlen, hg⟩ := DataW.trod_struct Tryz.underlying24 hf
    match xs, hlen with
    | [y0, y1, y2, y3, y4, y5, y6, y7, y8, y9, y10, y11], _ =>
      have g0 := hg 0 _ rfl
      have g1 := hg 1 _ rfl
      have g2 := hg 2 _ rfl
      have g3 := hg 3 _ rfl
      have g4 := hg 4 _ rfl
      have g5 := hg 5 _ rfl
      have g6 := hg 6 _ rfl
      have g7 := hg 7 _ rfl
      have g8 := hg 8 _ rfl
      have g9 := hg 9 _ rfl
      have g10 := hg 10 _ rfl
      have g11 := hg 11 _ rfl
      simp [Value.cells, cu, ci, cj] at g0 g1 g2 g3 g4 g5 g6 g7 g8 g9 g10 g11
      obtain ⟨a0, e0, _, w0⟩ := DataW.trod_int Tryz.underlying22 g0
      simp at e0
      obtain ⟨a1, e1, _, w1⟩ := DataW.trod_int Tryz.underlying22 g1
      simp at e1
      obtain ⟨a2, e2, _, w2⟩ := DataW.trod_int Tryz.underlying22 g2
      simp at e2
      obtain ⟨a3, e3, _, w3⟩ := DataW.trod_int Tryz.underlying22 g3
      simp at e3
      obtain ⟨a4, e4, _, w4⟩ := DataW.trod_int Tryz.underlying3 g4
      simp at e4
      obtain ⟨a5, e5, _, w5⟩ := DataW.trod_int Tryz.underlying3 g5
      simp at e5
      obtain ⟨a6, e6, _, w6⟩ := DataW.trod_int Tryz.underlying3 g6
      simp at e6
      obtain ⟨a7, e7, _, w7⟩ := DataW.trod_int Tryz.underlying3 g7
      simp at e7
      obtain ⟨a8, e8, _, w8⟩ := DataW.trod_int Tryz.underlying3 g8
      simp at e8
      obtain ⟨a9, e9, _, w9⟩ := DataW.trod_int Tryz.underlying3 g9
      simp at e9
      obtain ⟨a10, e10, _, w10⟩ := DataW.trod_int Tryz.underlying2 g10
      simp at e10
      obtain ⟨a11, e11, _, w11⟩ := DataW.trod_int Tryz.underlying2 g11
      simp at e11
      subst e0 e1 e2 e3 e4 e5 e6 e7 e8 e9 e10 e11
      exact ⟨⟨a0, a1, a2, a3, a4, a5, a6, a7, a8, a9, a10, a11⟩, rfl, ⟨u64_wf w0, u64_wf w1, u64_wf w2, u64_wf w3, i64_wf w4, i64_wf w5, i64_wf w6, i64_wf w7, i64_wf w8, i64_wf w9, i64_wf w10, i64_wf w11⟩⟩
theorem cells_u64 : Tryz.prog.cellsOf 22 = 1 := by kernel_rfl
theorem cells_pair : Tryz.prog.cellsOf 58 = 2 := by kernel_rfl
end Go.Proofs.YtphbcfpiklmmeaaGreatDoor

namespace Go.Proofs.YtphbcfpiklmmeaaGreatDoor
open Go.ChangeShapes Go.WideShapes Go.RowKit

/-- Whatever is read at this type, each of its slices no larger than the address space, reads so. -/
def ReadsZ {α : Type} (E : Enc α) (t : TypeId) (G : α → Prop) : Prop :=
  ∀ {H : Type} {enc : TypeId × Value → H} {w : World} {base : Nat} {spare : Nat → Bool} {held : Bool} {fuel : Nat} {cs : List Value} {x : DataW H × List MemPlace},
    DataW.trod enc Tryz.prog w base spare held fuel t cs = some x → (∀ b ∈ x.1.weights Tryz.prog t, b ≤ reachBytes) → ∃ a, E.rep (fun _ => True) w cs a ∧ G a
theorem Reads.z {α : Type} {E : Enc α} {t : TypeId} (h : Reads E t) : ReadsZ E t (fun _ => True) := fun ht _ => by
  obtain ⟨a, ha⟩ := h ht
  exact ⟨a, ha, trivial⟩
/-- Lists of no more than 2^44 things, each so. -/
def LG {α : Type} (G : α → Prop) (l : List α) : Prop := l.length ≤ 17592186044415 ∧ ∀ y ∈ l, G y
theorem weightsAll_mem {H : Type} {P : Program} {e : TypeId} {b : Nat} : ∀ {l : List (DataW H)} {d : DataW H}, d ∈ l → b ∈ d.weights P e → b ∈ DataW.weightsAll P e l
  | x :: l, d, hd, hb => by
    rw [DataW.weightsAll]
    rcases List.mem_cons.1 hd with rfl | hd
    · exact List.mem_append_left _ hb
    · exact List.mem_append_right _ (weightsAll_mem hd hb)
theorem reads_slZ {α : Type} {E : Enc α} {t e : TypeId} {G : α → Prop} (ht : Tryz.prog.underlying t = some (.slice e)) (hE : ReadsZ E e G) (hc : Tryz.prog.cellsOf e = E.size) (hb : 8 ≤ Tryz.prog.bytesOf e) : ReadsZ (encS E) t (LG G) := by
  intro H enc w base spare held fuel cs x h hz
  rcases Go.Deep.open_slice ht h with ⟨rfl, _⟩ | ⟨a, len, cap, m, n, D, Pl, rfl, _, hl, hm, hmm, rfl, hi⟩
  · exact ⟨[], ⟨_, rfl, Sl.nil _ _ _⟩, Nat.zero_le _, fun y hy => absurd hy (by simp)⟩
  · have hlm : len ≤ m := by rw [hmm]; split <;> omega
    have hzz : ∀ b ∈ DataW.weights Tryz.prog t (DataW.slice ((List.range len).map D) ((List.range (m - len)).map fun j => D (len + j))), b ≤ reachBytes := hz
    rw [DataW.weights, ht] at hzz
    have hz0 : (((List.range len).map D).length + ((List.range (m - len)).map fun j => D (len + j)).length) * Tryz.prog.bytesOf e ≤ reachBytes := hzz _ List.mem_cons_self
    have hlen8 : len ≤ 17592186044415 := by
      rw [List.length_map, List.length_map, List.length_range, List.length_range] at hz0
      have h1 : len * 8 ≤ (len + (m - len)) * Tryz.prog.bytesOf e := Nat.mul_le_mul (by omega) hb
      unfold reachBytes at hz0
      omega
    have hzi : ∀ i, i < len → ∀ b ∈ (D i).weights Tryz.prog e, b ≤ reachBytes := fun i hi b hb => hzz b (List.mem_cons_of_mem _ (List.mem_append_left _ (weightsAll_mem (List.mem_map.2 ⟨i, List.mem_range.2 hi, rfl⟩) hb)))
    have key : ∀ i, i < len → ∃ y, (∃ cs', E.rep (fun _ => True) w cs' y ∧ ∀ j, j < E.size → w.cell? (a.add (i * E.size + j)) = cs'[j]?) ∧ G y := by
      intro i hil
      obtain ⟨cs', hcell, htr⟩ := hi i (by omega)
      obtain ⟨y, hy, hG⟩ := hE htr (hzi i hil)
      obtain ⟨_, hlen, hat⟩ := World.cells?_some hcell
      rw [hc] at hat
      refine ⟨y, ⟨cs', hy, fun j hj => ?_⟩, hG⟩
      rw [← hat j hj, Go.Deep.add_add]
    have hcz : ∃ f : Fin len → α, ∀ i : Fin len, (∃ cs', E.rep (fun _ => True) w cs' (f i) ∧ ∀ j, j < E.size → w.cell? (a.add (i.1 * E.size + j)) = cs'[j]?) ∧ G (f i) :=
      ⟨fun i => Classical.choose (key i.1 i.2), fun i => Classical.choose_spec (key i.1 i.2)⟩
    obtain ⟨f, hf'⟩ := hcz
    have hf : ∀ i : Fin len, ∃ cs', E.rep (fun _ => True) w cs' (f i) ∧ ∀ j, j < E.size → w.cell? (a.add (i.1 * E.size + j)) = cs'[j]? := fun i => (hf' i).1
    have hlen : (List.ofFn f).length = len := List.length_ofFn
    refine ⟨List.ofFn f, ⟨_, rfl, some a, cap, by rw [hlen], by omega, by unfold maxLen at hm; omega, fun hn => ?_⟩, by rw [hlen]; exact hlen8, fun y hy => ?_⟩
    · have hpos : 0 < len := by rw [← hlen]; exact List.length_pos_iff.2 hn
      obtain ⟨cs0, hr0, hc0⟩ := hf ⟨0, hpos⟩
      have h00 := hc0 0 E.pos
      have hl0 := E.len hr0
      rw [List.getElem?_eq_getElem (by rw [hl0]; exact E.pos)] at h00
      obtain ⟨g, o, sp⟩ := a
      have hsp : sp = none := by simpa [Addr.add] using World.cell?_spot h00
      subst hsp
      have h00' : w.cell? ⟨g, o, none⟩ = some (cs0[0]'(by rw [hl0]; exact E.pos)) := by simpa [Addr.add] using h00
      have hgl : g < w.heap.size := by
        rcases Nat.lt_or_ge g w.heap.size with hlt | hge
        · exact hlt
        · simp [World.cell?, Array.getElem?_eq_none hge] at h00'
      refine ⟨g, o, rfl, hgl, trivial, fun i hi' => ?_⟩
      obtain ⟨cs', hr', hc'⟩ := hf ⟨i, by omega⟩
      refine ⟨cs', by simpa using hr', fun j u hu => ?_⟩
      have hj : j < E.size := by
        rw [← E.len hr']
        exact (List.getElem?_eq_some_iff.1 hu).1
      rw [← hu, ← hc' j hj]
      have : (⟨g, o, none⟩ : Addr).add (i * E.size + j) = ⟨g, o + i * E.size + j, none⟩ := by
        unfold Addr.add
        split
        · rename_i h0
          have : i * E.size + j = 0 := by simpa using h0
          rw [show o + i * E.size + j = o by omega]
        · rw [Nat.add_assoc]
      rw [this]
    · obtain ⟨i, rfl⟩ := List.mem_ofFn.1 hy
      exact (hf' i).2
/-- A slice that came in as an argument, within the bounds. -/
theorem open_slZ {α : Type} {E : Enc α} {t : TypeId} {G : List α → Prop} (hR : ReadsZ (encS E) t G) {H : Type} {enc : TypeId × Value → H} {w : World} {base : Nat} {spare : Nat → Bool} {held : Bool} {a : Option Addr} {len cap : Nat} {d : DataW H} {p : List MemPlace}
    (h : DataW.Trod enc Tryz.prog w base spare held t (.slice a len cap) d p) (hz : ∀ b ∈ d.weights Tryz.prog t, b ≤ reachBytes) : ∃ xs, Sl E (fun _ => True) w (.slice a len cap) xs ∧ G xs := by
  obtain ⟨fuel, hf⟩ := h
  obtain ⟨xs, ⟨v, e, hs⟩, hg⟩ := hR hf hz
  simp [Value.cells] at e
  exact ⟨xs, by rw [e]; exact hs, hg⟩
theorem weights_head {H : Type} {P : Program} {t : TypeId} {ts : List TypeId} {d : DataW H} {r : List (DataW H)} (h : (DataW.weightsEach P (t :: ts) (d :: r)).all (· ≤ reachBytes) = true) : ∀ b ∈ d.weights P t, b ≤ reachBytes := fun b hb => by
  have h2 := (List.all_eq_true.1 h) b (by rw [DataW.weightsEach]; exact List.mem_append_left _ hb)
  simpa using h2
theorem weights_tail {H : Type} {P : Program} {t : TypeId} {ts : List TypeId} {d : DataW H} {r : List (DataW H)} (h : (DataW.weightsEach P (t :: ts) (d :: r)).all (· ≤ reachBytes) = true) : (DataW.weightsEach P ts r).all (· ≤ reachBytes) = true :=
  List.all_eq_true.2 fun b hb => (List.all_eq_true.1 h) b (by rw [DataW.weightsEach]; exact List.mem_append_right _ hb)
theorem readsZ_nums : ReadsZ (encS encU) 25 (LG fun _ => True) := reads_slZ Tryz.underlying25 (Reads.z (reads_u64 Tryz.underlying22)) cells_u64 (of_decide_eq_true (by kernel_rfl))
theorem readsZ_pairs : ReadsZ (encS encP) 26 (LG fun _ => True) := reads_slZ Tryz.underlying26 (Reads.z (reads_pair Tryz.underlying58 ⟨rfl, rfl⟩ ⟨rfl, rfl⟩ Tryz.underlying22 cells_pair cells_u64)) cells_pair (of_decide_eq_true (by kernel_rfl))
end Go.Proofs.YtphbcfpiklmmeaaGreatDoor

namespace Go.Proofs.YtphbcfpiklmmeaaGreatDoor
open Go.RowKit
def tabL : List Int := [0, 1, 56, 2, 57, 49, 28, 3, 61, 58, 42, 50, 38, 29, 17, 4, 62, 47, 59, 36, 45, 43, 51, 22, 53, 39, 33, 30, 24, 18, 12, 5, 63, 55, 48, 27, 60, 41, 37, 16, 46, 35, 44, 21, 52, 32, 23, 11, 54, 26, 40, 15, 34, 20, 31, 10, 25, 14, 19, 9, 13, 8, 7, 6]
theorem tabZ' : ∀ j, j < 64 → tabL.getD j 0 = ((Lib.deBruijn64tab.getD j 0 : Nat) : Int) := by decide
theorem tabZ (j : Nat) (hj : j < Lib.deBruijn64tab.length) : tabL.getD j 0 = ((Lib.deBruijn64tab.getD j 0 : Nat) : Int) := tabZ' j hj
/-- What an initialiser lays into a variable's block. -/
def layCells (cs : Array Value) : Obj → Obj
  | .cells _ t f => .cells cs t f
  | o => o
end Go.Proofs.YtphbcfpiklmmeaaGreatDoor
