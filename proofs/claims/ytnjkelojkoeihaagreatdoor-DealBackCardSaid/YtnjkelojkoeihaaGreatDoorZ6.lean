/- deal.Make, walked (printed by mk_dealh.py). Lists that are not empty, at any depth, do not lie in a block of nil slices. consistorylaw18.dealt, walked (printed by mk_dltb.py). Slices of numbers and the blocks in which they do not lie. tape.Next with draws told ahead, At, New, slices.Clone, Of, walked. tape.Of, Next over any tape, Draws, walked. A tape of which draws were told ahead, told to what deals. deal.cut, walked. deal: small, secrets, paired, lists, OpenPairs, OpenComs, walked. deal: lists, OpenPairs, OpenComs, Open, walked. deal.Pairs, walked. -/
import Derived.Test.YtnjkelojkoeihaaGreatDoorZ5
import Derived.Lib.SliceRun
import Derived.Deep.LoopGhost
import Derived.Outline
import Derived.Deep.RegionHeld3
import Derived.Deep.DeepCutAuto
import Derived.Deep.QuietTactic
import Derived.BigQuiet
import Derived.Deep.OwnRows
import Derived.IntWalk
namespace Go.Proofs.YtnjkelojkoeihaaGreatDoor
open Go Go.RowKit Go.Shelf

theorem two_any {g : Nat} {dr : Nat → Int} {TI : Nat → World → Prop} {bl : Nat → Prop} {most : Nat} (p : Par) (hT : Tp g p.Q dr TI bl most) (x : Int) (t k : Nat) (w : World) (hx : U64 x) (hq : U64 p.Q) (hq0 : 0 < p.Q) (ht : (t : Int) = p.T + 1) (h2 : t = 2 ∨ t = 3) (hk : k + (t * t - 1) ≤ most) (hI : TI k w) :
    Calls Tryz.prog 89 #[p.v, .int .u64 x, .func (.func 80) #[.pointer (some ⟨g, 0, none⟩)] #[]] w fun e w' => ∃ v, e = .returned v ∧ Sl (encS encU) (fun b => w.heap.size ≤ b) w' v (twoL x p.Q dr t k) ∧ TI (k + (t * t - 1)) w' ∧ w.grownBy w' (some g) := by
  rcases h2 with rfl | rfl
  · exact two2_any p hT x k w hx hq hq0 (by omega) hk hI
  · exact two3_any p hT x k w hx hq hq0 (by omega) hk hI
set_option maxRecDepth 100000 in
set_option maxHeartbeats 8000000 in
theorem dmake_any (p : Par) (vl : Value) (l : List (Int × Int)) (n : Nat) (X : Nat → Prop) (w : World) {g : Nat} {dr : Nat → Int} {TI : Nat → World → Prop} {bl : Nat → Prop} {most : Nat} (hT : Tp g p.Q dr TI bl most) (hp : p.ok) (hm : mayP p = true) (hTab : TabsAt w) (h : Sl encP X w vl l) (hX : ∀ b, X b → b ≠ g) (hl : (l.length : Int) = secretsI p) (hn : 1 ≤ n ∧ n ≤ 7) (k0 t : Nat) (ht : (t : Int) = p.T + 1) (hI : TI k0 w) (hmost : k0 + l.length * (2 * (t * t - 1)) ≤ most) :
    Calls Tryz.prog 49 #[p.v, vl, .int .i64 n, .pointer (some ⟨g, 0, none⟩)] w fun e w' => ∃ vm vr vc, e = .returned (.tuple #[.agg #[vm, vr, vc], .int .i64 0]) ∧ Sl (encS (encS encU)) (fun b => w.heap.size ≤ b) w' vm (matI p (makeFs l p.Q dr t k0 l.length) (makeBs l p.Q dr t k0 l.length)) ∧ Sl (encS (encS encP)) (fun b => w.heap.size ≤ b) w' vr ((List.range n).map fun j : Nat => rowsP p.Q (makeFs l p.Q dr t k0 l.length) (makeBs l p.Q dr t k0 l.length) t ((j : Int) + 1)) ∧ Sl (encS (encS encP)) (fun b => w.heap.size ≤ b) w' vc ((List.range n).map fun j : Nat => colsP p.Q (makeFs l p.Q dr t k0 l.length) (makeBs l p.Q dr t k0 l.length) t ((j : Int) + 1)) ∧ TI (k0 + l.length * (2 * (t * t - 1))) w' ∧ w.grownBy w' (some g) := by
  have HT := Lib.hid hT
  have HP := Lib.hid hp
  have HX := Lib.hid hX
  obtain ⟨hq, _, _, n1, n2, n3, t1, t2, t3, hs, kk1, dd1⟩ := may_apart hm
  have hsec := smallB_secrets hs
  have HQ : Hid (U64 p.Q ∧ 0 < p.Q) := Lib.hid ⟨hp.Q, mayB_pos hq⟩
  have hL10 : l.length ≤ 10 := by omega
  have ht23 : t = 2 ∨ t = 3 := by omega
  have HT23 := Lib.hid ht23
  obtain ⟨hn1, hn7⟩ := hn
  obtain ⟨dd, hdd⟩ : ∃ y, y = t * t - 1 := ⟨_, rfl⟩
  rw [← hdd] at hmost ⊢
  have HDD := Lib.hid hdd
  obtain ⟨A, c, rfl, hl1, hl2⟩ := h.form
  have hGW : g < w.heap.size := hT.old hI hT.own
  have HGW := Lib.hid hGW
  have HOB : Hid (∀ b, bl b → b < w.heap.size) := Lib.hid (fun b hb => hT.old hI hb)
  obtain ⟨w0, hw0⟩ : ∃ y, y = (w.alloc (Obj.cells p.cells 24)).alloc (Obj.cells #[.slice none 0 0, .slice none 0 0, .slice none 0 0] 32) := ⟨_, rfl⟩
  have HG0 : Hid (w.grownBy w0 none) := Lib.hid (by rw [hw0]; exact grown_two)
  have HB0 : Hid (Bk w0 w.heap.size 24 p.cells) := Lib.hid (by rw [hw0]; exact (Bk.new w _ _).alloc _)
  have HR0 : Hid (Bk w0 (w.heap.size + 1) 32 #[.slice none 0 0, .slice none 0 0, .slice none 0 0]) := Lib.hid (by
    rw [hw0]
    have h := Bk.new (w.alloc (Obj.cells p.cells 24)) 32 #[.slice none 0 0, .slice none 0 0, .slice none 0 0]
    rw [World.size_alloc] at h
    exact h)
  have HI0 : Hid (TI k0 w0) := Lib.hid (hT.keep hI HG0.out (by simp))
  have HMY := Lib.hid (fun (w' : World) (hg : w0.grownBy w' none) => may_any p w' hp (hTab.kept (HG0.out.trans hg)))
  rw [hm] at HMY
  have HMAY := Lib.hid hm
  have HSEC := Lib.hid (dsecrets_any p)
  rw [← hl] at HSEC
  have HL := Lib.hid (h.kept HG0.out)
  have HTP := Lib.hid ht
  have HMO := Lib.hid hmost
  clear hT hp hX hq n1 n2 n3 t1 t2 t3 hs kk1 dd1 hsec hm hTab h hI ht hmost hl hGW hdd ht23
  go_enter Tryz.func49, Tryz.ntmps49
  go_wp2_with fail
  rw [← hw0]
  have hp0 := HB0.out.prule
  clear hw0
  go_wp2_with fail
  refine (HMY.out _ (World.grownBy.refl _ none)).mono ?_
  rintro e w1 ⟨rfl, hg⟩
  have HG1 : Hid (w0.grownBy w1 none) := Lib.hid hg
  have hp1 := (HB0.out.grown hg (by simp)).prule
  clear hg hp0 HMY
  go_wp2_with fail
  refine (HSEC.out _).mono ?_
  rintro e w2 ⟨rfl, hg⟩
  have HG2 : Hid (w0.grownBy w2 none) := Lib.hid (HG1.out.trans hg)
  clear hg hp1 HSEC
  have hn7' : ¬ ((n : Int) > 7) := by omega
  have hn1' : ¬ ((n : Int) < 1) := by omega
  go_upto_region 5 with (fail)
  have HB2 : Hid (Bk w2 w.heap.size 24 p.cells) := Lib.hid (HB0.out.grown HG2.out (by simp))
  have HR2 : Hid (Bk w2 (w.heap.size + 1) 32 #[.slice none 0 0, .slice none 0 0, .slice none 0 0]) := Lib.hid (HR0.out.grown HG2.out (by simp))
  have HI2 : Hid (TI k0 w2) := Lib.hid (HT.out.keep HI0.out HG2.out (by simp))
  have HW2 : Hid (w.heap.size + 1 < w2.heap.size ∧ g < w.heap.size) := Lib.hid ⟨HR2.out.lt, HGW.out⟩
  have HPX : Hid (∀ wx, w2.grownBy wx (some g) → Bk wx w.heap.size 24 p.cells) := Lib.hid (fun wx hg => HB2.out.grown hg (fun e => by injection e with e; have := HW2.out.2; omega))
  have HLX : Hid (∀ wx, w2.grownBy wx (some g) → Sl encP X wx (.slice A l.length c) l) := Lib.hid (fun wx hg => (HL.out.kept HG2.out).keep hg (fun b hb e => HX.out b hb (by injection e with e)))
  have HTW : Hid (∀ (x : Int) (k : Nat) (wx : World), U64 x → k + dd ≤ most → TI k wx → Calls Tryz.prog 89 #[p.v, .int .u64 x, .func (.func 80) #[.pointer (some ⟨g, 0, none⟩)] #[]] wx fun e w' => ∃ v, e = .returned v ∧ Sl (encS encU) (fun b => wx.heap.size ≤ b) w' v (twoL x p.Q dr t k) ∧ TI (k + dd) w' ∧ wx.grownBy w' (some g)) := Lib.hid (fun x k wx hx hk hi => by
    rw [HDD.out] at hk ⊢
    exact two_any p HT.out x t k wx hx HQ.out.1 HQ.out.2 HTP.out HT23.out hk hi)
  obtain ⟨L, hLL⟩ : ∃ y, y = l.length := ⟨_, rfl⟩
  have HLN := Lib.hid hLL
  rw [← hLL] at hL10 hl1 HMO HLX ⊢
  clear hLL
  go_loopg [10, 11, 40] L (fun gk s10 s11 s40 wx => ∃ s : Nat, s + gk = L ∧ s40 = .int .i64 s ∧ Hid (Side (encS (encS encU)) (encS (encS encU)) w2.heap.size 34 34 (fun b => w2.heap.size ≤ b) wx s10 s11 (makeFs l p.Q dr t k0 s) (makeBs l p.Q dr t k0 s) ∧ TI (k0 + s * (2 * dd)) wx ∧ w2.grownBy wx (some g)))
  case atStart => exact ⟨0, by omega, rfl, Lib.hid ⟨⟨Acc.nil _ _ _ _ _, Acc.nil _ _ _ _ _⟩, by simpa using HI2.out, World.grownBy.refl _ _⟩⟩
  case round =>
    obtain ⟨s, hsL, rfl, HXX⟩ := hrel
    have HS0 := Lib.hid HXX.out.1
    have HI3 := Lib.hid HXX.out.2.1
    have HG3 := Lib.hid HXX.out.2.2
    clear HXX
    have hp3 := (HPX.out _ HG3.out).prule
    cases gk with
    | zero =>
      have eL : L = s := by omega
      subst eL
      have hno : ¬ ((L : Int) < (L : Int)) := by omega
      obtain ⟨F, hF⟩ : ∃ y, y = makeFs l p.Q dr t k0 L := ⟨_, rfl⟩
      obtain ⟨R, hR⟩ : ∃ y, y = makeBs l p.Q dr t k0 L := ⟨_, rfl⟩
      rw [← hF, ← hR] at HS0
      have HFL : Hid (F.length = L ∧ R.length = L) := Lib.hid (by rw [hF, hR]; simp [makeFs, makeBs])
      have HSQ : Hid ((∀ M ∈ F, SqL t M) ∧ (∀ M ∈ R, SqL t M)) := Lib.hid (by rw [hF, hR]; exact ⟨makeFs_sq _ _ _ _ _ _ (by have := HT23.out; omega), makeBs_sq _ _ _ _ _ _ (by have := HT23.out; omega)⟩)
      have HFE := Lib.hid hF
      have HRE := Lib.hid hR
      obtain ⟨AF, cF, eF, _, _⟩ := HS0.out.fst.sl.form
      obtain ⟨AR, cR, eR, _, _⟩ := HS0.out.snd.sl.form
      rw [HFL.out.1] at eF
      rw [HFL.out.2] at eR
      subst eF eR
      have HMX := Lib.hid (callsIn_wide.1 <| matrix_in 6 (Nat.le_refl _) p (.slice AF L cF) (.slice AR L cR) F R TT wr HP.out (HS0.out.fst.sl.more fun _ _ _ => trivial) (HS0.out.snd.sl.more fun _ _ _ => trivial) (by rw [HFL.out.1]; omega) (by rw [HFL.out.2]; omega) (fun M hM => ⟨by rw [(HSQ.out.1 M hM).1]; have := HT23.out; omega, fun c hc => by rw [(HSQ.out.1 M hM).2 c hc]; have := HT23.out; omega⟩) (fun M hM => ⟨by rw [(HSQ.out.2 M hM).1]; have := HT23.out; omega, fun c hc => by rw [(HSQ.out.2 M hM).2 c hc]; have := HT23.out; omega⟩))
      clear hF hR HTW HLX HMO
      go_wp2_with fail
      refine HMX.out.mono ?_
      rintro e w3 ⟨vm, rfl, hsm, hgm⟩
      obtain ⟨Am, nm, cm, rfl⟩ := hsm.shape
      obtain ⟨w4, hw4⟩ : ∃ y, y = w3.alloc (Obj.cells #[.slice Am nm cm, .slice none 0 0, .slice none 0 0] 32) := ⟨_, rfl⟩
      obtain ⟨Bd, hBd⟩ : ∃ y, y = w3.heap.size := ⟨_, rfl⟩
      have HG34 : Hid (wr.grownBy w4 none) := Lib.hid (by rw [hw4]; exact hgm.trans (World.grownBy_alloc _ _ none))
      have HBD : Hid (Bk w4 Bd 32 #[.slice Am nm cm, .slice none 0 0, .slice none 0 0]) := Lib.hid (by rw [hw4, hBd]; exact Bk.new _ _ _)
      have HSZ4 : Hid (w4.heap.size = Bd + 1 ∧ wr.heap.size ≤ Bd ∧ w2.heap.size ≤ wr.heap.size) := Lib.hid (by rw [hw4, hBd, World.size_alloc]; exact ⟨rfl, hgm.size, HG3.out.size⟩)
      have HSM : Hid (Sl (encS (encS encU)) (fun b => w2.heap.size ≤ b ∧ b < Bd) w4 (.slice Am nm cm) (matI p F R)) := Lib.hid (by
        rw [hw4, hBd]
        exact (hsm.bounded.kept (World.grownBy_alloc _ _ none)).more fun b _ hb => ⟨Nat.le_trans HG3.out.size hb.1, hb.2⟩)
      have HF4 : Hid (Sl (encS (encS encU)) (fun b => b < Bd) w4 (.slice AF L cF) F) := Lib.hid ((HS0.out.fst.sl.bounded.kept HG34.out).more fun b _ hb => Nat.lt_of_lt_of_le hb.2 HSZ4.out.2.1)
      have HR4 : Hid (Sl (encS (encS encU)) (fun b => b < Bd) w4 (.slice AR L cR) R) := Lib.hid ((HS0.out.snd.sl.bounded.kept HG34.out).more fun b _ hb => Nat.lt_of_lt_of_le hb.2 HSZ4.out.2.1)
      have HI4 : Hid (TI (k0 + L * (2 * dd)) w4) := Lib.hid (HT.out.keep HI3.out HG34.out (by simp))
      have HG4 : Hid (w2.grownBy w4 (some g)) := Lib.hid (HG3.out.trans (HG34.out.but _))
      have HPD : Hid (∀ wx, w4.grownBy wx (some Bd) → Bk wx w.heap.size 24 p.cells) := Lib.hid (fun wx hg => (HPX.out _ HG4.out).grown hg (fun e => by injection e with e; have := HW2.out; have := HSZ4.out; omega))
      have HFX : Hid (∀ wx, w4.grownBy wx (some Bd) → Sl (encS (encS encU)) (fun b => b < Bd) wx (.slice AF L cF) F) := Lib.hid (fun wx hg => HF4.out.keep hg (fun b hb e => by injection e with e; omega))
      have HRX : Hid (∀ wx, w4.grownBy wx (some Bd) → Sl (encS (encS encU)) (fun b => b < Bd) wx (.slice AR L cR) R) := Lib.hid (fun wx hg => HR4.out.keep hg (fun b hb e => by injection e with e; omega))
      have HST : Hid (∃ vr vc, Bk w4 Bd 32 #[.slice Am nm cm, vr, vc] ∧ Side (encS (encS encP)) (encS (encS encP)) w4.heap.size 39 39 (fun b => w4.heap.size ≤ b) w4 vr vc ((List.range 0).map fun k : Nat => rowsP p.Q F R t ((k : Int) + 1)) ((List.range 0).map fun k : Nat => colsP p.Q F R t ((k : Int) + 1)) ∧ w4.grownBy w4 (some Bd)) := Lib.hid ⟨_, _, HBD.out, ⟨Acc.nil _ _ _ _ _, Acc.nil _ _ _ _ _⟩, World.grownBy.refl _ _⟩
      clear hsm hgm HMX HS0 HF4 HR4 HI3 HBD HG34 HPX HG3
      go_upto_region 12 with (fail)
      rw [← hw4, ← hBd]
      clear hw4 hBd hp3
      go_loopg [15] n (fun gk s15 wx => ∃ j : Nat, j + gk = n ∧ s15 = .int .u64 ((j : Int) + 1) ∧ Hid (∃ vr vc, Bk wx Bd 32 #[.slice Am nm cm, vr, vc] ∧ Side (encS (encS encP)) (encS (encS encP)) w4.heap.size 39 39 (fun b => w4.heap.size ≤ b) wx vr vc ((List.range j).map fun k : Nat => rowsP p.Q F R t ((k : Int) + 1)) ((List.range j).map fun k : Nat => colsP p.Q F R t ((k : Int) + 1)) ∧ w4.grownBy wx (some Bd)))
      case atStart => exact ⟨0, by omega, rfl, HST⟩
      case round =>
        rename World => wj
        obtain ⟨j, hjn, rfl, HDX⟩ := hrel
        obtain ⟨vr, vc, hbd, hsd, hgd⟩ := HDX.out
        have HBd := Lib.hid hbd
        have HSd := Lib.hid hsd
        have HGd := Lib.hid hgd
        clear hbd hsd hgd HDX HST
        obtain ⟨Ar1, nr1, cr1, rfl⟩ := HSd.out.fst.sl.shape
        obtain ⟨Ac1, nc1, cc1, rfl⟩ := HSd.out.snd.sl.shape
        have hwn : IntKind.u64.wrap (n : Int) = (n : Int) := IntWalk.u64_in _ (by omega)
        cases gk with
        | zero =>
          obtain rfl : j = n := by omega
          have hno2 : ¬ ((j : Int) + 1 ≤ (j : Int)) := by omega
          have HG24 : Hid (w2.grownBy wj (some g)) := Lib.hid (HG4.out.andThen HGd.out (fun b e => .inl (by injection e with e; have := HSZ4.out; omega)))
          have HR8 : Hid (Bk wj (w.heap.size + 1) 32 #[.slice none 0 0, .slice none 0 0, .slice none 0 0]) := Lib.hid (HR2.out.grown HG24.out (fun e => by injection e with e; have := HW2.out; omega))
          have c0 := HBd.out.cell 0
          have c1 := HBd.out.cell 1
          have c2 := HBd.out.cell 2
          have r0 := HR8.out.cell 0
          have r1 := HR8.out.cell 1
          have r2 := HR8.out.cell 2
          have f8 := HR8.out.free
          simp at c0 c1 c2 r0 r1 r2
          obtain ⟨wF, hwF⟩ : ∃ x, x = ((wj.setCell ⟨w.heap.size + 1, 0, none⟩ (.slice Am nm cm)).setCell ⟨w.heap.size + 1, 1, none⟩ (.slice Ar1 nr1 cr1)).setCell ⟨w.heap.size + 1, 2, none⟩ (.slice Ac1 nc1 cc1) := ⟨_, rfl⟩
          have HF8 : Hid (Bk wF (w.heap.size + 1) 32 #[.slice Am nm cm, .slice Ar1 nr1 cr1, .slice Ac1 nc1 cc1]) := Lib.hid (by rw [hwF]; exact ((HR8.out.set 0 _).set 1 _).set 2 _)
          have HGF : Hid (wj.grownBy wF (some (w.heap.size + 1))) := Lib.hid (by rw [hwF]; exact ((grownSet wj (w.heap.size + 1) 0 _).trans (grownSet _ (w.heap.size + 1) 1 _)).trans (grownSet _ (w.heap.size + 1) 2 _))
          have HFIN : Hid (Sl (encS (encS encU)) (fun b => w.heap.size ≤ b) wF (.slice Am nm cm) (matI p (makeFs l p.Q dr t k0 L) (makeBs l p.Q dr t k0 L)) ∧ Sl (encS (encS encP)) (fun b => w.heap.size ≤ b) wF (.slice Ar1 nr1 cr1) ((List.range j).map fun k : Nat => rowsP p.Q (makeFs l p.Q dr t k0 L) (makeBs l p.Q dr t k0 L) t ((k : Int) + 1)) ∧ Sl (encS (encS encP)) (fun b => w.heap.size ≤ b) wF (.slice Ac1 nc1 cc1) ((List.range j).map fun k : Nat => colsP p.Q (makeFs l p.Q dr t k0 L) (makeBs l p.Q dr t k0 L) t ((k : Int) + 1)) ∧ TI (k0 + L * (2 * dd)) wF ∧ w.grownBy wF (some g)) := Lib.hid (by
            rw [← HFE.out, ← HRE.out]
            have h2 := HW2.out
            have h4 := HSZ4.out
            refine ⟨?_, ?_, ?_, ?_, ?_⟩
            · exact ((HSM.out.keep HGd.out (fun b hb e => by injection e with e; omega)).keep HGF.out (fun b hb e => by injection e with e; omega)).more fun b _ hb => by have := hb.1; omega
            · exact (HSd.out.fst.sl.keep HGF.out (fun b hb e => by injection e with e; have := hb.1; omega)).more fun b _ hb => by have := hb.1; omega
            · exact (HSd.out.snd.sl.keep HGF.out (fun b hb e => by injection e with e; have := hb.1; omega)).more fun b _ hb => by have := hb.1; omega
            · exact HT.out.keep (HT.out.keep HI4.out HGd.out (fun b e hb => by injection e with e; have := HOB.out b hb; omega)) HGF.out (fun b e hb => by injection e with e; have := HOB.out b hb; omega)
            · exact (((HG0.out.trans HG2.out).but _).trans HG24.out).andThen HGF.out (fun b e => .inl (by injection e with e; omega)))
          clear HBd HSd HG24 HR8 HGF HSM
          go_wp2_with fail
          rw [← hwF]
          refine ⟨rfl, _, results_deal rfl _ rfl rfl HF8.out, ?_⟩
          refine ⟨_, _, _, rfl, ?_⟩
          rw [← HLN.out]
          exact HFIN.out
        | succ m =>
          have hj1 : (j : Int) + 1 ≤ (n : Int) := by omega
          have hj0 : (0 : Int) ≤ (j : Int) := Int.natCast_nonneg j
          have HIN : Hid (Side (encS encP) (encS encP) wj.heap.size 33 33 (fun b => wj.heap.size ≤ b) wj (.slice none 0 0) (.slice none 0 0) ((List.range 0).map (rowP p.Q F R t ((j : Int) + 1))) ((List.range 0).map (colP p.Q F R t ((j : Int) + 1))) ∧ wj.grownBy wj none) := Lib.hid ⟨⟨Acc.nil _ _ _ _ _, Acc.nil _ _ _ _ _⟩, World.grownBy.refl _ _⟩
          go_upto_region 16 with (fail)
          go_loopg [16, 17, 76] L (fun gk s16 s17 s76 wx => ∃ i : Nat, i + gk = L ∧ s76 = .int .i64 i ∧ Hid (Side (encS encP) (encS encP) wj.heap.size 33 33 (fun b => wj.heap.size ≤ b) wx s16 s17 ((List.range i).map (rowP p.Q F R t ((j : Int) + 1))) ((List.range i).map (colP p.Q F R t ((j : Int) + 1))) ∧ wj.grownBy wx none))
          case atStart => exact ⟨0, by omega, rfl, HIN⟩
          case round =>
            rename World => wi
            obtain ⟨i, hiL, rfl, HY⟩ := hrel
            have HSi := Lib.hid HY.out.1
            have HGi := Lib.hid HY.out.2
            clear HY HIN
            obtain ⟨A16, n16, c16, rfl⟩ := HSi.out.fst.sl.shape
            obtain ⟨A17, n17, c17, rfl⟩ := HSi.out.snd.sl.shape
            cases gk with
            | zero =>
              have eI : L = i := by omega
              subst eI
              have hno3 : ¬ ((L : Int) < (L : Int)) := by omega
              obtain ⟨y, hy⟩ : ∃ y, y = rowsP p.Q F R t ((j : Int) + 1) := ⟨_, rfl⟩
              obtain ⟨z, hz⟩ : ∃ z, z = colsP p.Q F R t ((j : Int) + 1) := ⟨_, rfl⟩
              obtain ⟨xs, hxs⟩ : ∃ xs, xs = (List.range j).map fun k : Nat => rowsP p.Q F R t ((k : Int) + 1) := ⟨_, rfl⟩
              obtain ⟨ys, hys⟩ : ∃ ys, ys = (List.range j).map fun k : Nat => colsP p.Q F R t ((k : Int) + 1) := ⟨_, rfl⟩
              have HXS : Hid ((List.range (j + 1)).map (fun k : Nat => rowsP p.Q F R t ((k : Int) + 1)) = xs ++ [y]) := Lib.hid (by rw [hsnoc, hxs, hy])
              have HYS : Hid ((List.range (j + 1)).map (fun k : Nat => colsP p.Q F R t ((k : Int) + 1)) = ys ++ [z]) := Lib.hid (by rw [hsnoc, hys, hz])
              have HGw : Hid (wj.grownBy wi.drew none) := Lib.hid (HGi.out.trans (grown_drewN' wi 1))
              obtain ⟨hi, hhi⟩ : ∃ y, y = wi.drew.heap.size := ⟨_, rfl⟩
              have HR1 : Hid ((encS (encS encP)).rep (fun b => wj.heap.size ≤ b ∧ b < hi) wi.drew [.slice A16 n16 c16] y) := Lib.hid ⟨_, rfl, by
                rw [hy]
                unfold rowsP
                rw [HFL.out.1, hhi]
                exact ((HSi.out.fst.sl.kept (grown_drewN' wi 1)).bounded).more fun b _ hb => ⟨hb.1.1, hb.2⟩⟩
              have HR2' : Hid ((encS (encS encP)).rep (fun b => wj.heap.size ≤ b ∧ b < hi) wi.drew [.slice A17 n17 c17] z) := Lib.hid ⟨_, rfl, by
                rw [hz]
                unfold colsP
                rw [HFL.out.1, hhi]
                exact ((HSi.out.snd.sl.kept (grown_drewN' wi 1)).bounded).more fun b _ hb => ⟨hb.1.1, hb.2⟩⟩
              have HWL : Hid (∀ b, (Value.slice Ar1 nr1 cr1).ownBlock = some b → b < wj.heap.size) := Lib.hid (fun b e => (HSd.out.fst.lt b e).2)
              have HBL : Hid (∀ b, (Value.slice Ac1 nc1 cc1).ownBlock = some b → b < wj.heap.size) := Lib.hid (fun b e => (HSd.out.snd.lt b e).2)
              have HD4 : Hid (Bd < w4.heap.size ∧ w4.heap.size ≤ wj.heap.size) := Lib.hid ⟨by have := HSZ4.out; omega, HGd.out.size⟩
              rw [← hxs, ← hys] at HSd
              have HC0 : Hid ((twLt (encS (encS encP)) 32 39 w4 Bd wj.heap.size hi #[.slice Am nm cm, .slice Ar1 nr1 cr1, .slice Ac1 nc1 cc1] (.slice Ar1 nr1 cr1) (.slice Ac1 nc1 cc1) (.slice A16 n16 c16) (.slice A17 n17 c17) xs ys y z).C [] wi.drew) := Lib.hid ⟨HGd.out.trans (HGw.out.but _), HBd.out.grown HGw.out (by simp), by rw [hhi]; exact Nat.le_refl _, HR1.out, HR2'.out, HSd.out.kept HGw.out⟩
              have HLD : Hid (∀ vs W, (twLt (encS (encS encP)) 32 39 w4 Bd wj.heap.size hi #[.slice Am nm cm, .slice Ar1 nr1 cr1, .slice Ac1 nc1 cc1] (.slice Ar1 nr1 cr1) (.slice Ac1 nc1 cc1) (.slice A16 n16 c16) (.slice A17 n17 c17) xs ys y z).C vs W → W.cell? ⟨Bd, 1, none⟩ = some (.slice Ar1 nr1 cr1) ∧ W.cell? ⟨Bd, 2, none⟩ = some (.slice Ac1 nc1 cc1)) := Lib.hid (fun vs W hC => ⟨hC.2.1.cell 1, hC.2.1.cell 2⟩)
              have HSZ : Hid (∀ vs W, (twLt (encS (encS encP)) 32 39 w4 Bd wj.heap.size hi #[.slice Am nm cm, .slice Ar1 nr1 cr1, .slice Ac1 nc1 cc1] (.slice Ar1 nr1 cr1) (.slice Ac1 nc1 cc1) (.slice A16 n16 c16) (.slice A17 n17 c17) xs ys y z).C vs W → wj.heap.size ≤ W.heap.size) := Lib.hid (fun vs W hC => Nat.le_trans (by rw [hhi]; exact HGw.out.size) hC.2.2.1)
              have HLX1 : Hid ((xs.length + 1) * 24 ≤ 140737488355328) := Lib.hid (by rw [hxs]; simp; omega)
              have HLX2 : Hid ((ys.length + 1) * 24 ≤ 140737488355328) := Lib.hid (by rw [hys]; simp; omega)
              clear hy hz hxs hys hhi HR1 HR2' HSi HBd
              go_upto_region 21 with (fail)
              refine wp_region_late (twLt (encS (encS encP)) 32 39 w4 Bd wj.heap.size hi #[.slice Am nm cm, .slice Ar1 nr1 cr1, .slice Ac1 nc1 cc1] (.slice Ar1 nr1 cr1) (.slice Ac1 nc1 cc1) (.slice A16 n16 c16) (.slice A17 n17 c17) xs ys y z) [4, 9] 11 (by kernel_rfl) (by kernel_rfl) (by kernel_rfl) HC0.out ?_
              -- op 0 (slot 120): fieldAddr
              refine LateR.mono (Qv.eq (.pointer (some ⟨Bd, 1, none⟩))) [] (by kernel_rfl) (by rfl) rfl (fun vs w' hC => ?_) ?_
              · refine askl_do rfl fun K hK => ?_
                go_simp
                exact hK _ _ rfl ⟨rfl, World.grownBy.refl _ none⟩
              -- op 1 (slot 121): load
              refine LateR.mono (Qv.eq (.slice Ar1 nr1 cr1)) [(0, 120)] (by kernel_rfl) (by rfl) rfl (fun vs w' hC => ?_) ?_
              · rintro _ rfl
                refine askl_do rfl fun K hK => ?_
                obtain ⟨q0, q1⟩ := HLD.out vs w' hC
                go_simp
                exact hK _ _ rfl ⟨rfl, World.grownBy.refl _ none⟩
              -- op 2 (slot 122): move
              refine LateR.mono (Qv.eq (.slice A16 n16 c16)) [] (by kernel_rfl) (by rfl) rfl (fun vs w' hC => ?_) ?_
              · refine askl_do rfl fun K hK => ?_
                go_simp
                exact hK _ _ rfl ⟨rfl, World.grownBy.refl _ none⟩
              -- op 3 (slot 123): buildSlice
              refine LateR.mono (twQ HWL.out HBL.out 39 (.slice A16 n16 c16)) [(2, 122)] (by kernel_rfl) (by rfl) rfl (fun vs w' hC => ?_) ?_
              · rintro _ rfl
                refine askl_do rfl fun K hK => ?_
                have hsz := HSZ.out vs w' hC
                go_simp
                exact hK _ _ rfl ⟨⟨_, rfl, hsz, Bk.new w' _ _⟩, World.grownBy_alloc w' _ none⟩
              -- op 4 (slot 124): call
              refine LateR.turn 0 [(1, 121), (3, 123)] (by kernel_rfl) rfl (fun vs w' hl hC => ?_) ?_
              · rintro _ rfl
                intro x123 h123
                have h123 : BlkQ wj.heap.size 39 (.slice A16 n16 c16) x123 w' := h123
                obtain ⟨b123, e123, hb123, hk123⟩ := h123
                subst e123
                refine askl_do rfl fun K hK => ?_
                obtain rfl : vs = [] := List.eq_nil_of_length_eq_zero hl
                have hsz := HSZ.out _ w' hC
                have hS1 : Side (encS (encS encP)) (encS (encS encP)) w4.heap.size 39 39 (fun b => w4.heap.size ≤ b) w' (.slice Ar1 nr1 cr1) (.slice Ac1 nc1 cc1) xs ys := hC.2.2.2.2.2
                refine pushAt_core (E := encS (encS encP)) (y := y) el_pairs2 hS1.fst (twLt_rep1 hC HWL.out HBL.out HD4.out.2) (Bk.one hk123) HLX1.out (Nat.le_trans HD4.out.2 hsz) (hS1.new1 (fun b hb => Nat.le_trans HD4.out.2 (Nat.le_trans hsz hb))) (.tmp 121) (.tmp 123) rfl rfl rfl ?_
                intro v3 w3 ha hgr hm
                exact hK _ _ rfl ⟨hgr, twLt_one hC ha hgr hm HWL.out HD4.out.1⟩
              -- op 5 (slot 125): fieldAddr
              refine LateR.mono (Qv.eq (.pointer (some ⟨Bd, 2, none⟩))) [] (by kernel_rfl) (by rfl) rfl (fun vs w' hC => ?_) ?_
              · refine askl_do rfl fun K hK => ?_
                go_simp
                exact hK _ _ rfl ⟨rfl, World.grownBy.refl _ none⟩
              -- op 6 (slot 126): load
              refine LateR.mono (Qv.eq (.slice Ac1 nc1 cc1)) [(5, 125)] (by kernel_rfl) (by rfl) rfl (fun vs w' hC => ?_) ?_
              · rintro _ rfl
                refine askl_do rfl fun K hK => ?_
                obtain ⟨q0, q1⟩ := HLD.out vs w' hC
                go_simp
                exact hK _ _ rfl ⟨rfl, World.grownBy.refl _ none⟩
              -- op 7 (slot 127): move
              refine LateR.mono (Qv.eq (.slice A17 n17 c17)) [] (by kernel_rfl) (by rfl) rfl (fun vs w' hC => ?_) ?_
              · refine askl_do rfl fun K hK => ?_
                go_simp
                exact hK _ _ rfl ⟨rfl, World.grownBy.refl _ none⟩
              -- op 8 (slot 128): buildSlice
              refine LateR.mono (twQ HWL.out HBL.out 39 (.slice A17 n17 c17)) [(7, 127)] (by kernel_rfl) (by rfl) rfl (fun vs w' hC => ?_) ?_
              · rintro _ rfl
                refine askl_do rfl fun K hK => ?_
                have hsz := HSZ.out vs w' hC
                go_simp
                exact hK _ _ rfl ⟨⟨_, rfl, hsz, Bk.new w' _ _⟩, World.grownBy_alloc w' _ none⟩
              -- op 9 (slot 129): call
              refine LateR.turn 1 [(6, 126), (8, 128)] (by kernel_rfl) rfl (fun vs w' hl hC => ?_) ?_
              · rintro _ rfl
                intro x128 h128
                have h128 : BlkQ wj.heap.size 39 (.slice A17 n17 c17) x128 w' := h128
                obtain ⟨b128, e128, hb128, hk128⟩ := h128
                subst e128
                refine askl_do rfl fun K hK => ?_
                obtain ⟨u, rfl⟩ : ∃ u, vs = [u] := List.length_eq_one_iff.1 hl
                have hsz := HSZ.out _ w' hC
                have hS1 : Side (encS (encS encP)) (encS (encS encP)) w4.heap.size 39 39 (fun b => w4.heap.size ≤ b) w' u (.slice Ac1 nc1 cc1) _ _ := hC.2.2.2.2.2.1
                refine pushAt_core (E := encS (encS encP)) (y := z) el_pairs2 hS1.snd (twLt_rep2 hC HBL.out HD4.out.2) (Bk.one hk128) HLX2.out (Nat.le_trans HD4.out.2 hsz) (hS1.new2 (fun b hb => Nat.le_trans HD4.out.2 (Nat.le_trans hsz hb))) (.tmp 126) (.tmp 128) rfl rfl rfl ?_
                intro v3 w3 ha hgr hm
                exact hK _ _ rfl ⟨hgr, twLt_two hC ha hgr hm HBL.out HD4.out.1⟩
              -- op 10 (slot 130): fieldAddr
              refine LateR.mono (Qv.eq (.pointer (some ⟨Bd, 1, none⟩))) [] (by kernel_rfl) (by rfl) rfl (fun vs w' hC => ?_) ?_
              · refine askl_do rfl fun K hK => ?_
                go_simp
                exact hK _ _ rfl ⟨rfl, World.grownBy.refl _ none⟩
              intro vs w5 hvl hC5
              obtain ⟨u, u2, rfl⟩ : ∃ u u2, vs = [u, u2] := by
                match vs, hvl with
                | [u, u2], _ => exact ⟨u, u2, rfl⟩
              intro y0 k0 y1 k1 y2 k2 y3 k3 y4 k4 y5 k5 y6 k6 y7 k7 y8 k8 y9 k9 y10 k10
              show wpList Tryz.prog _ _ _ _ w5
              simp only [Act.put, List.setIfInBounds_toArray, List.set_cons_zero, List.set_cons_succ]
              have e4 : y4 = u := by have : some u = some y4 := k4; injection this with this; exact this.symm
              have e9 : y9 = u2 := by have : some u2 = some y9 := k9; injection this with this; exact this.symm
              have e10 : y10 = .pointer (some ⟨Bd, 1, none⟩) := k10
              subst e4 e9 e10
              have HE5 := Lib.hid (twLt_end hC5 HD4.out.1)
              have hS5 : Side (encS (encS encP)) (encS (encS encP)) w4.heap.size 39 39 (fun b => w4.heap.size ≤ b) w5 y4 y9 _ _ := hC5.2.2.2.2.2
              obtain ⟨Au, nu, cu, rfl⟩ := hS5.fst.sl.shape
              obtain ⟨Av, nv, cv, rfl⟩ := hS5.snd.sl.shape
              have d0 := hC5.2.1.cell 0
              have d1 := hC5.2.1.cell 1
              have d2 := hC5.2.1.cell 2
              have fd := hC5.2.1.free
              simp at d0 d1 d2
              have HFIN : Hid (∃ vr vc, Bk ((w5.setCell ⟨Bd, 1, none⟩ (.slice Au nu cu)).setCell ⟨Bd, 2, none⟩ (.slice Av nv cv)) Bd 32 #[.slice Am nm cm, vr, vc] ∧ Side (encS (encS encP)) (encS (encS encP)) w4.heap.size 39 39 (fun b => w4.heap.size ≤ b) ((w5.setCell ⟨Bd, 1, none⟩ (.slice Au nu cu)).setCell ⟨Bd, 2, none⟩ (.slice Av nv cv)) vr vc ((List.range (j + 1)).map fun k : Nat => rowsP p.Q F R t ((k : Int) + 1)) ((List.range (j + 1)).map fun k : Nat => colsP p.Q F R t ((k : Int) + 1)) ∧ w4.grownBy ((w5.setCell ⟨Bd, 1, none⟩ (.slice Au nu cu)).setCell ⟨Bd, 2, none⟩ (.slice Av nv cv)) (some Bd)) := Lib.hid (by
                rw [HXS.out, HYS.out]
                exact ⟨_, _, HE5.out⟩)
              clear hC5 hS5 HE5 k0 k1 k2 k3 k4 k5 k6 k7 k8 k9 k10 HLD HSZ HC0 HSd
              have hwj : IntKind.u64.wrap ((j : Int) + 1 + 1) = (j : Int) + 1 + 1 := IntWalk.u64_in _ (by omega)
              go_wp2_with fail
              go_roundg m
              case measure => omega
              case rel => exact ⟨j + 1, by omega, by go_num, HFIN⟩
            | succ q =>
              have hiI : (i : Int) < (L : Int) := by omega
              have hi0 : (0 : Int) ≤ (i : Int) := Int.natCast_nonneg i
              have hiF : i < F.length := by rw [HFL.out.1]; omega
              have hiR : i < R.length := by rw [HFL.out.2]; omega
              obtain ⟨gF, oF, cF', uF, eF, q1, q2, hcF, hslF⟩ := (HFX.out _ HGd.out).atS hiF
              clear q1 q2
              injection eF with eF1 eF2 eF3
              clear eF2
              subst eF1 eF3
              obtain ⟨gR, oR, cR', uR, eR, q1, q2, hcR, hslR⟩ := (HRX.out _ HGd.out).atS hiR
              clear q1 q2
              injection eR with eR1 eR2 eR3
              clear eR2
              subst eR1 eR3
              obtain ⟨Af, cf, ef, q1, q2⟩ := hslF.form
              clear q1 q2
              obtain ⟨Ab, cb, eb, q1, q2⟩ := hslR.form
              clear q1 q2
              have HS1 : Hid (SqL t F[i]) := Lib.hid (HSQ.out.1 _ (List.getElem_mem hiF))
              have HS2 : Hid (SqL t R[i]) := Lib.hid (HSQ.out.2 _ (List.getElem_mem hiR))
              rw [HS1.out.1] at ef
              rw [HS2.out.1] at eb
              subst ef eb
              have HN16 : Hid ((List.range (i + 1)).map (rowP p.Q F R t ((j : Int) + 1)) = (List.range i).map (rowP p.Q F R t ((j : Int) + 1)) ++ [zipP (rowI p.Q F[i] ((j : Int) + 1)) (rowI p.Q R[i] ((j : Int) + 1)) t]) := Lib.hid (by
                rw [hsnoc]
                unfold rowP
                rw [List.getElem?_eq_getElem hiF, List.getElem?_eq_getElem hiR]
                rfl)
              have HN17 : Hid ((List.range (i + 1)).map (colP p.Q F R t ((j : Int) + 1)) = (List.range i).map (colP p.Q F R t ((j : Int) + 1)) ++ [zipP (colV p.Q F[i] ((j : Int) + 1)) (colV p.Q R[i] ((j : Int) + 1)) t]) := Lib.hid (by
                rw [hsnoc]
                unfold colP
                rw [List.getElem?_eq_getElem hiF, List.getElem?_eq_getElem hiR]
                rfl)
              have HUX : Hid (U64 ((j : Int) + 1)) := Lib.hid ⟨by omega, by omega⟩
              have HT100 : Hid (t ≤ 3) := Lib.hid (by have := HT23.out; omega)
              have HRo1 : Hid (∀ W, wj.grownBy W none → Calls Tryz.prog 92 #[.slice Af t cf, .int .u64 ((j : Int) + 1), .int .u64 p.Q] W (Gives encU (fun b => W.heap.size ≤ b) W (rowI p.Q F[i] ((j : Int) + 1)))) := Lib.hid (fun W hW => callsIn_wide.1 (row_in 6 (Nat.le_refl _) _ _ _ _ _ W (hslF.kept hW) HUX.out (by rw [HS1.out.1]; have := HT100.out; omega) (fun c hc => by rw [HS1.out.2 c hc]; have := HT100.out; omega)))
              have HRo2 : Hid (∀ W, wj.grownBy W none → Calls Tryz.prog 92 #[.slice Ab t cb, .int .u64 ((j : Int) + 1), .int .u64 p.Q] W (Gives encU (fun b => W.heap.size ≤ b) W (rowI p.Q R[i] ((j : Int) + 1)))) := Lib.hid (fun W hW => callsIn_wide.1 (row_in 6 (Nat.le_refl _) _ _ _ _ _ W (hslR.kept hW) HUX.out (by rw [HS2.out.1]; have := HT100.out; omega) (fun c hc => by rw [HS2.out.2 c hc]; have := HT100.out; omega)))
              have HCo1 : Hid (∀ W, wj.grownBy W none → Calls Tryz.prog 93 #[.slice Af t cf, .int .u64 ((j : Int) + 1), .int .u64 p.Q] W (Gives encU (fun b => W.heap.size ≤ b) W (colV p.Q F[i] ((j : Int) + 1)))) := Lib.hid (fun W hW => col_any _ _ _ _ _ W (hslF.kept hW) HUX.out (by rw [HS1.out.1]; have := HT100.out; omega))
              have HCo2 : Hid (∀ W, wj.grownBy W none → Calls Tryz.prog 93 #[.slice Ab t cb, .int .u64 ((j : Int) + 1), .int .u64 p.Q] W (Gives encU (fun b => W.heap.size ≤ b) W (colV p.Q R[i] ((j : Int) + 1)))) := Lib.hid (fun W hW => col_any _ _ _ _ _ W (hslR.kept hW) HUX.out (by rw [HS2.out.1]; have := HT100.out; omega))
              obtain ⟨a1, ha1⟩ : ∃ y, y = rowI p.Q F[i] ((j : Int) + 1) := ⟨_, rfl⟩
              obtain ⟨a2, ha2⟩ : ∃ y, y = rowI p.Q R[i] ((j : Int) + 1) := ⟨_, rfl⟩
              obtain ⟨b1, hb1⟩ : ∃ y, y = colV p.Q F[i] ((j : Int) + 1) := ⟨_, rfl⟩
              obtain ⟨b2, hb2⟩ : ∃ y, y = colV p.Q R[i] ((j : Int) + 1) := ⟨_, rfl⟩
              have HL1 : Hid (a1.length = t ∧ a2.length = t ∧ b1.length = t ∧ b2.length = t) := Lib.hid ⟨by rw [ha1]; exact rowI_sqL HS1.out _ _, by rw [ha2]; exact rowI_sqL HS2.out _ _, by rw [hb1]; exact colV_sqL HS1.out _ _, by rw [hb2]; exact colV_sqL HS2.out _ _⟩
              rw [← ha1] at HRo1 HN16
              rw [← ha2] at HRo2 HN16
              rw [← hb1] at HCo1 HN17
              rw [← hb2] at HCo2 HN17
              obtain ⟨yr, hyr⟩ : ∃ y, y = zipP a1 a2 t := ⟨_, rfl⟩
              obtain ⟨yc, hyc⟩ : ∃ y, y = zipP b1 b2 t := ⟨_, rfl⟩
              have HPr : Hid (∀ v1 v2 W, Sl encU TT W v1 a1 → Sl encU TT W v2 a2 → Calls Tryz.prog 91 #[v1, v2] W (Gives encP (fun b => W.heap.size ≤ b) W yr)) := Lib.hid (fun v1 v2 W h1 h2 => by rw [hyr]; exact dpairs2_any v1 v2 a1 a2 t TT TT W h1 h2 HL1.out.1 HL1.out.2.1 (by have := HT100.out; omega))
              have HPc : Hid (∀ v1 v2 W, Sl encU TT W v1 b1 → Sl encU TT W v2 b2 → Calls Tryz.prog 91 #[v1, v2] W (Gives encP (fun b => W.heap.size ≤ b) W yc)) := Lib.hid (fun v1 v2 W h1 h2 => by rw [hyc]; exact dpairs2_any v1 v2 b1 b2 t TT TT W h1 h2 HL1.out.2.2.1 HL1.out.2.2.2 (by have := HT100.out; omega))
              rw [← hyr] at HN16
              rw [← hyc] at HN17
              have hbp := HPD.out _ HGd.out
              have HLD : Hid (∀ W, wj.grownBy W none → W.cell? ⟨w.heap.size, 1, none⟩ = some (.int .u64 p.Q) ∧ W.cell? ⟨gF, oF + i, none⟩ = some (.slice Af t cf) ∧ W.cell? ⟨gR, oR + i, none⟩ = some (.slice Ab t cb)) := Lib.hid (fun W hW => ⟨(hbp.grown hW (by simp)).cell 1, cellK hcF hW (by simp), cellK hcR hW (by simp)⟩)
              have HLN16 : Hid ((((List.range i).map (rowP p.Q F R t ((j : Int) + 1))).length + 1) * 24 ≤ 140737488355328) := Lib.hid (by simp; omega)
              have HLN17 : Hid ((((List.range i).map (colP p.Q F R t ((j : Int) + 1))).length + 1) * 24 ≤ 140737488355328) := Lib.hid (by simp; omega)
              have HGw : Hid (wj.grownBy wi.drew none) := Lib.hid (HGi.out.trans (grown_drewN' wi 1))
              have HSw := Lib.hid (HSi.out.kept (grown_drewN' wi 1))
              obtain ⟨N1, hN1⟩ : ∃ y, y = wi.drew.heap.size := ⟨_, rfl⟩
              have HN1 : Hid (N1 = wi.drew.heap.size) := Lib.hid hN1
              clear ha1 ha2 hb1 hb2 hyr hyc hbp hcF hcR hslF hslR hN1 HSi HGi HS1 HS2
              clear hiF hiR
              go_upto_region 18 with (fail)
              refine wp_region_mono 19 (by kernel_rfl) (by kernel_rfl) ?_
              -- op 0 (slot 79): move
              refine MonoR.step (Pv.eq (.slice A16 n16 c16)) [] (by kernel_rfl) (fun w' hw' => ?_) ?_
              · refine ask_do rfl fun K hK => ?_
                go_simp
                exact hK _ _ rfl rfl (World.grownBy.refl _ none)
              -- op 1 (slot 80): move
              refine MonoR.step (Pv.eq (.slice (some ⟨gF, oF, none⟩) L cF)) [] (by kernel_rfl) (fun w' hw' => ?_) ?_
              · refine ask_do rfl fun K hK => ?_
                go_simp
                exact hK _ _ rfl rfl (World.grownBy.refl _ none)
              -- op 2 (slot 81): move
              refine MonoR.step (Pv.eq (.int .i64 (i : Int))) [] (by kernel_rfl) (fun w' hw' => ?_) ?_
              · refine ask_do rfl fun K hK => ?_
                go_simp
                exact hK _ _ rfl rfl (World.grownBy.refl _ none)
              -- op 3 (slot 82): indexAddr
              refine MonoR.step (Pv.eq (.pointer (some ⟨gF, oF + i, none⟩))) [(1, 80), (2, 81)] (by kernel_rfl) (fun w' hw' => ?_) ?_
              · rintro _ rfl
                rintro _ rfl
                refine ask_do rfl fun K hK => ?_
                go_simp
                exact hK _ _ rfl rfl (World.grownBy.refl _ none)
              -- op 4 (slot 83): load
              refine MonoR.step (Pv.eq (.slice Af t cf)) [(3, 82)] (by kernel_rfl) (fun w' hw' => ?_) ?_
              · rintro _ rfl
                refine ask_do rfl fun K hK => ?_
                obtain ⟨q0, q1, q2⟩ := HLD.out w' (HGw.out.trans hw')
                go_simp
                exact hK _ _ rfl rfl (World.grownBy.refl _ none)
              -- op 5 (slot 84): move
              refine MonoR.step (Pv.eq (.int .u64 ((j : Int) + 1))) [] (by kernel_rfl) (fun w' hw' => ?_) ?_
              · refine ask_do rfl fun K hK => ?_
                go_simp
                exact hK _ _ rfl rfl (World.grownBy.refl _ none)
              -- op 6 (slot 85): fieldAddr
              refine MonoR.step (Pv.eq (.pointer (some ⟨w.heap.size, 1, none⟩))) [] (by kernel_rfl) (fun w' hw' => ?_) ?_
              · refine ask_do rfl fun K hK => ?_
                go_simp
                exact hK _ _ rfl rfl (World.grownBy.refl _ none)
              -- op 7 (slot 86): load
              refine MonoR.step (Pv.eq (.int .u64 p.Q)) [(6, 85)] (by kernel_rfl) (fun w' hw' => ?_) ?_
              · rintro _ rfl
                refine ask_do rfl fun K hK => ?_
                obtain ⟨q0, q1, q2⟩ := HLD.out w' (HGw.out.trans hw')
                go_simp
                exact hK _ _ rfl rfl (World.grownBy.refl _ none)
              -- op 8 (slot 87): call
              refine MonoR.step (slU a1) [(4, 83), (5, 84), (7, 86)] (by kernel_rfl) (fun w' hw' => ?_) ?_
              · rintro _ rfl
                rintro _ rfl
                rintro _ rfl
                refine ask_do rfl fun K hK => ?_
                go_simp
                refine (HRo1.out w' (HGw.out.trans hw')).mono ?_
                rintro e w3 ⟨v3, rfl, hs3, hg3⟩
                exact hK _ _ rfl (hs3.more fun _ _ _ => trivial) hg3
              -- op 9 (slot 88): move
              refine MonoR.step (Pv.eq (.slice (some ⟨gR, oR, none⟩) L cR)) [] (by kernel_rfl) (fun w' hw' => ?_) ?_
              · refine ask_do rfl fun K hK => ?_
                go_simp
                exact hK _ _ rfl rfl (World.grownBy.refl _ none)
              -- op 10 (slot 89): move
              refine MonoR.step (Pv.eq (.int .i64 (i : Int))) [] (by kernel_rfl) (fun w' hw' => ?_) ?_
              · refine ask_do rfl fun K hK => ?_
                go_simp
                exact hK _ _ rfl rfl (World.grownBy.refl _ none)
              -- op 11 (slot 90): indexAddr
              refine MonoR.step (Pv.eq (.pointer (some ⟨gR, oR + i, none⟩))) [(9, 88), (10, 89)] (by kernel_rfl) (fun w' hw' => ?_) ?_
              · rintro _ rfl
                rintro _ rfl
                refine ask_do rfl fun K hK => ?_
                go_simp
                exact hK _ _ rfl rfl (World.grownBy.refl _ none)
              -- op 12 (slot 91): load
              refine MonoR.step (Pv.eq (.slice Ab t cb)) [(11, 90)] (by kernel_rfl) (fun w' hw' => ?_) ?_
              · rintro _ rfl
                refine ask_do rfl fun K hK => ?_
                obtain ⟨q0, q1, q2⟩ := HLD.out w' (HGw.out.trans hw')
                go_simp
                exact hK _ _ rfl rfl (World.grownBy.refl _ none)
              -- op 13 (slot 92): move
              refine MonoR.step (Pv.eq (.int .u64 ((j : Int) + 1))) [] (by kernel_rfl) (fun w' hw' => ?_) ?_
              · refine ask_do rfl fun K hK => ?_
                go_simp
                exact hK _ _ rfl rfl (World.grownBy.refl _ none)
              -- op 14 (slot 93): fieldAddr
              refine MonoR.step (Pv.eq (.pointer (some ⟨w.heap.size, 1, none⟩))) [] (by kernel_rfl) (fun w' hw' => ?_) ?_
              · refine ask_do rfl fun K hK => ?_
                go_simp
                exact hK _ _ rfl rfl (World.grownBy.refl _ none)
              -- op 15 (slot 94): load
              refine MonoR.step (Pv.eq (.int .u64 p.Q)) [(14, 93)] (by kernel_rfl) (fun w' hw' => ?_) ?_
              · rintro _ rfl
                refine ask_do rfl fun K hK => ?_
                obtain ⟨q0, q1, q2⟩ := HLD.out w' (HGw.out.trans hw')
                go_simp
                exact hK _ _ rfl rfl (World.grownBy.refl _ none)
              -- op 16 (slot 95): call
              refine MonoR.step (slU a2) [(12, 91), (13, 92), (15, 94)] (by kernel_rfl) (fun w' hw' => ?_) ?_
              · rintro _ rfl
                rintro _ rfl
                rintro _ rfl
                refine ask_do rfl fun K hK => ?_
                go_simp
                refine (HRo2.out w' (HGw.out.trans hw')).mono ?_
                rintro e w3 ⟨v3, rfl, hs3, hg3⟩
                exact hK _ _ rfl (hs3.more fun _ _ _ => trivial) hg3
              -- op 17 (slot 96): call
              refine MonoR.step (slP N1 yr) [(8, 87), (16, 95)] (by kernel_rfl) (fun w' hw' => ?_) ?_
              · intro x87 h87
                have h87 : Sl encU TT w' x87 a1 := h87
                obtain ⟨A87, c87, e87, k87, l87⟩ := h87.form
                subst e87
                intro x95 h95
                have h95 : Sl encU TT w' x95 a2 := h95
                obtain ⟨A95, c95, e95, k95, l95⟩ := h95.form
                subst e95
                refine ask_do rfl fun K hK => ?_
                go_simp
                refine (HPr.out _ _ w' h87 h95).mono ?_
                rintro e w3 ⟨v3, rfl, hs3, hg3⟩
                exact hK _ _ rfl (hs3.more fun b _ hb => Nat.le_trans (by rw [HN1.out]; exact hw'.size) hb) hg3
              -- op 18 (slot 97): buildSlice
              refine MonoR.step (blkP N1 yr) [(17, 96)] (by kernel_rfl) (fun w' hw' => ?_) ?_
              · intro x96 h96
                have h96 : Sl encP (fun b => N1 ≤ b) w' x96 yr := h96
                obtain ⟨A96, c96, e96, k96, l96⟩ := h96.form
                subst e96
                refine ask_do rfl fun K hK => ?_
                go_simp
                exact hK _ _ rfl ⟨_, _, _, _, rfl, Bk.new w' _ _, h96.kept (World.grownBy_alloc w' _ none)⟩ (World.grownBy_alloc w' _ none)
              
              intro w5 hw5
              intro y0 k0 y1 k1 y2 k2 y3 k3 y4 k4 y5 k5 y6 k6 y7 k7 y8 k8 y9 k9 y10 k10 y11 k11 y12 k12 y13 k13 y14 k14 y15 k15 y16 k16 y17 k17 y18 k18
              show wpList Tryz.prog _ _ _ _ w5
              simp only [Act.put, List.setIfInBounds_toArray, List.set_cons_zero, List.set_cons_succ]
              have e0 : y0 = .slice A16 n16 c16 := k0
              subst e0
              have k18' : ∃ A n c b, y18 = .slice (some ⟨b, 0, none⟩) 1 1 ∧ Bk w5 b 33 #[.slice A n c] ∧ Sl encP (fun b => N1 ≤ b) w5 (.slice A n c) yr := k18
              obtain ⟨Ay, ny, cy, by', ey, hky, hsy⟩ := k18'
              subst ey
              have HS5 := Lib.hid (HSw.out.kept hw5)
              have HG5 : Hid (wj.grownBy w5 none) := Lib.hid (HGw.out.trans hw5)
              have HZ5 : Hid (wj.heap.size ≤ w5.heap.size) := Lib.hid HG5.out.size
              have HKY := Lib.hid hky
              have HREP : Hid ((encS encP).rep (fun b => (wj.heap.size ≤ b ∧ some b ≠ (Value.slice A17 n17 c17).ownBlock) ∧ some b ≠ (Value.slice A16 n16 c16).ownBlock) w5 [.slice Ay ny cy] yr) := Lib.hid ⟨_, rfl, hsy.more fun b _ hb => by
                rw [HN1.out] at hb
                exact ⟨⟨Nat.le_trans HGw.out.size hb, fun e => absurd hb (Nat.not_le_of_lt (HSw.out.snd.lt b e.symm).2)⟩, fun e => absurd hb (Nat.not_le_of_lt (HSw.out.fst.lt b e.symm).2)⟩⟩
              clear hky hsy k0 k1 k2 k3 k4 k5 k6 k7 k8 k9 k10 k11 k12 k13 k14 k15 k16 k17 k18 hw5 HSw HGw HN1
              refine wpList_plain rfl fun K hK => ?_
              refine pushAt_core (E := encS encP) (y := yr) el_pairs HS5.out.fst HREP.out (Bk.one HKY.out) HLN16.out HZ5.out (HS5.out.new1 (fun _ h => Nat.le_trans HZ5.out h)) (.tmp 79) (.tmp 97) rfl rfl rfl ?_
              intro v6 w6 ha hgr hm
              refine hK _ _ ?_
              clear hK
              have HS6 := Lib.hid ((HS5.out.one ha hgr hm).kept (grown_drewN' w6 1))
              have HG6 : Hid (wj.grownBy w6.drew none) := Lib.hid ((grown_up HG5.out hgr (fun b e => (HS5.out.fst.lt b e).1)).trans (grown_drewN' w6 1))
              rw [← HN16.out] at HS6
              obtain ⟨A18, n18, c18, rfl⟩ := HS6.out.fst.sl.shape
              clear ha hgr hm HS5 HG5 HREP HKY HZ5 HN16
              obtain ⟨N2, hN2⟩ : ∃ y, y = w6.drew.heap.size := ⟨_, rfl⟩
              have HN2 : Hid (N2 = w6.drew.heap.size) := Lib.hid hN2
              clear hN2
              go_upto_region 19 with (fail)
              refine wp_region_mono 19 (by kernel_rfl) (by kernel_rfl) ?_
              -- op 0 (slot 99): move
              refine MonoR.step (Pv.eq (.slice A17 n17 c17)) [] (by kernel_rfl) (fun w' hw' => ?_) ?_
              · refine ask_do rfl fun K hK => ?_
                go_simp
                exact hK _ _ rfl rfl (World.grownBy.refl _ none)
              -- op 1 (slot 100): move
              refine MonoR.step (Pv.eq (.slice (some ⟨gF, oF, none⟩) L cF)) [] (by kernel_rfl) (fun w' hw' => ?_) ?_
              · refine ask_do rfl fun K hK => ?_
                go_simp
                exact hK _ _ rfl rfl (World.grownBy.refl _ none)
              -- op 2 (slot 101): move
              refine MonoR.step (Pv.eq (.int .i64 (i : Int))) [] (by kernel_rfl) (fun w' hw' => ?_) ?_
              · refine ask_do rfl fun K hK => ?_
                go_simp
                exact hK _ _ rfl rfl (World.grownBy.refl _ none)
              -- op 3 (slot 102): indexAddr
              refine MonoR.step (Pv.eq (.pointer (some ⟨gF, oF + i, none⟩))) [(1, 100), (2, 101)] (by kernel_rfl) (fun w' hw' => ?_) ?_
              · rintro _ rfl
                rintro _ rfl
                refine ask_do rfl fun K hK => ?_
                go_simp
                exact hK _ _ rfl rfl (World.grownBy.refl _ none)
              -- op 4 (slot 103): load
              refine MonoR.step (Pv.eq (.slice Af t cf)) [(3, 102)] (by kernel_rfl) (fun w' hw' => ?_) ?_
              · rintro _ rfl
                refine ask_do rfl fun K hK => ?_
                obtain ⟨q0, q1, q2⟩ := HLD.out w' (HG6.out.trans hw')
                go_simp
                exact hK _ _ rfl rfl (World.grownBy.refl _ none)
              -- op 5 (slot 104): move
              refine MonoR.step (Pv.eq (.int .u64 ((j : Int) + 1))) [] (by kernel_rfl) (fun w' hw' => ?_) ?_
              · refine ask_do rfl fun K hK => ?_
                go_simp
                exact hK _ _ rfl rfl (World.grownBy.refl _ none)
              -- op 6 (slot 105): fieldAddr
              refine MonoR.step (Pv.eq (.pointer (some ⟨w.heap.size, 1, none⟩))) [] (by kernel_rfl) (fun w' hw' => ?_) ?_
              · refine ask_do rfl fun K hK => ?_
                go_simp
                exact hK _ _ rfl rfl (World.grownBy.refl _ none)
              -- op 7 (slot 106): load
              refine MonoR.step (Pv.eq (.int .u64 p.Q)) [(6, 105)] (by kernel_rfl) (fun w' hw' => ?_) ?_
              · rintro _ rfl
                refine ask_do rfl fun K hK => ?_
                obtain ⟨q0, q1, q2⟩ := HLD.out w' (HG6.out.trans hw')
                go_simp
                exact hK _ _ rfl rfl (World.grownBy.refl _ none)
              -- op 8 (slot 107): call
              refine MonoR.step (slU b1) [(4, 103), (5, 104), (7, 106)] (by kernel_rfl) (fun w' hw' => ?_) ?_
              · rintro _ rfl
                rintro _ rfl
                rintro _ rfl
                refine ask_do rfl fun K hK => ?_
                go_simp
                refine (HCo1.out w' (HG6.out.trans hw')).mono ?_
                rintro e w3 ⟨v3, rfl, hs3, hg3⟩
                exact hK _ _ rfl (hs3.more fun _ _ _ => trivial) hg3
              -- op 9 (slot 108): move
              refine MonoR.step (Pv.eq (.slice (some ⟨gR, oR, none⟩) L cR)) [] (by kernel_rfl) (fun w' hw' => ?_) ?_
              · refine ask_do rfl fun K hK => ?_
                go_simp
                exact hK _ _ rfl rfl (World.grownBy.refl _ none)
              -- op 10 (slot 109): move
              refine MonoR.step (Pv.eq (.int .i64 (i : Int))) [] (by kernel_rfl) (fun w' hw' => ?_) ?_
              · refine ask_do rfl fun K hK => ?_
                go_simp
                exact hK _ _ rfl rfl (World.grownBy.refl _ none)
              -- op 11 (slot 110): indexAddr
              refine MonoR.step (Pv.eq (.pointer (some ⟨gR, oR + i, none⟩))) [(9, 108), (10, 109)] (by kernel_rfl) (fun w' hw' => ?_) ?_
              · rintro _ rfl
                rintro _ rfl
                refine ask_do rfl fun K hK => ?_
                go_simp
                exact hK _ _ rfl rfl (World.grownBy.refl _ none)
              -- op 12 (slot 111): load
              refine MonoR.step (Pv.eq (.slice Ab t cb)) [(11, 110)] (by kernel_rfl) (fun w' hw' => ?_) ?_
              · rintro _ rfl
                refine ask_do rfl fun K hK => ?_
                obtain ⟨q0, q1, q2⟩ := HLD.out w' (HG6.out.trans hw')
                go_simp
                exact hK _ _ rfl rfl (World.grownBy.refl _ none)
              -- op 13 (slot 112): move
              refine MonoR.step (Pv.eq (.int .u64 ((j : Int) + 1))) [] (by kernel_rfl) (fun w' hw' => ?_) ?_
              · refine ask_do rfl fun K hK => ?_
                go_simp
                exact hK _ _ rfl rfl (World.grownBy.refl _ none)
              -- op 14 (slot 113): fieldAddr
              refine MonoR.step (Pv.eq (.pointer (some ⟨w.heap.size, 1, none⟩))) [] (by kernel_rfl) (fun w' hw' => ?_) ?_
              · refine ask_do rfl fun K hK => ?_
                go_simp
                exact hK _ _ rfl rfl (World.grownBy.refl _ none)
              -- op 15 (slot 114): load
              refine MonoR.step (Pv.eq (.int .u64 p.Q)) [(14, 113)] (by kernel_rfl) (fun w' hw' => ?_) ?_
              · rintro _ rfl
                refine ask_do rfl fun K hK => ?_
                obtain ⟨q0, q1, q2⟩ := HLD.out w' (HG6.out.trans hw')
                go_simp
                exact hK _ _ rfl rfl (World.grownBy.refl _ none)
              -- op 16 (slot 115): call
              refine MonoR.step (slU b2) [(12, 111), (13, 112), (15, 114)] (by kernel_rfl) (fun w' hw' => ?_) ?_
              · rintro _ rfl
                rintro _ rfl
                rintro _ rfl
                refine ask_do rfl fun K hK => ?_
                go_simp
                refine (HCo2.out w' (HG6.out.trans hw')).mono ?_
                rintro e w3 ⟨v3, rfl, hs3, hg3⟩
                exact hK _ _ rfl (hs3.more fun _ _ _ => trivial) hg3
              -- op 17 (slot 116): call
              refine MonoR.step (slP N2 yc) [(8, 107), (16, 115)] (by kernel_rfl) (fun w' hw' => ?_) ?_
              · intro x107 h107
                have h107 : Sl encU TT w' x107 b1 := h107
                obtain ⟨A107, c107, e107, k107, l107⟩ := h107.form
                subst e107
                intro x115 h115
                have h115 : Sl encU TT w' x115 b2 := h115
                obtain ⟨A115, c115, e115, k115, l115⟩ := h115.form
                subst e115
                refine ask_do rfl fun K hK => ?_
                go_simp
                refine (HPc.out _ _ w' h107 h115).mono ?_
                rintro e w3 ⟨v3, rfl, hs3, hg3⟩
                exact hK _ _ rfl (hs3.more fun b _ hb => Nat.le_trans (by rw [HN2.out]; exact hw'.size) hb) hg3
              -- op 18 (slot 117): buildSlice
              refine MonoR.step (blkP N2 yc) [(17, 116)] (by kernel_rfl) (fun w' hw' => ?_) ?_
              · intro x116 h116
                have h116 : Sl encP (fun b => N2 ≤ b) w' x116 yc := h116
                obtain ⟨A116, c116, e116, k116, l116⟩ := h116.form
                subst e116
                refine ask_do rfl fun K hK => ?_
                go_simp
                exact hK _ _ rfl ⟨_, _, _, _, rfl, Bk.new w' _ _, h116.kept (World.grownBy_alloc w' _ none)⟩ (World.grownBy_alloc w' _ none)
              
              intro w7 hw7
              intro y0 k0 y1 k1 y2 k2 y3 k3 y4 k4 y5 k5 y6 k6 y7 k7 y8 k8 y9 k9 y10 k10 y11 k11 y12 k12 y13 k13 y14 k14 y15 k15 y16 k16 y17 k17 y18 k18
              show wpList Tryz.prog _ _ _ _ w7
              simp only [Act.put, List.setIfInBounds_toArray, List.set_cons_zero, List.set_cons_succ]
              have e0 : y0 = .slice A17 n17 c17 := k0
              subst e0
              have k18' : ∃ A n c b, y18 = .slice (some ⟨b, 0, none⟩) 1 1 ∧ Bk w7 b 33 #[.slice A n c] ∧ Sl encP (fun b => N2 ≤ b) w7 (.slice A n c) yc := k18
              obtain ⟨Ay, ny, cy, by', ey, hky, hsy⟩ := k18'
              subst ey
              have HS7 := Lib.hid (HS6.out.kept hw7)
              have HG7 : Hid (wj.grownBy w7 none) := Lib.hid (HG6.out.trans hw7)
              have HZ7 : Hid (wj.heap.size ≤ w7.heap.size) := Lib.hid HG7.out.size
              have HKY := Lib.hid hky
              have HREP : Hid ((encS encP).rep (fun b => (wj.heap.size ≤ b ∧ some b ≠ (Value.slice A18 n18 c18).ownBlock) ∧ some b ≠ (Value.slice A17 n17 c17).ownBlock) w7 [.slice Ay ny cy] yc) := Lib.hid ⟨_, rfl, hsy.more fun b _ hb => by
                rw [HN2.out] at hb
                exact ⟨⟨Nat.le_trans HG6.out.size hb, fun e => absurd hb (Nat.not_le_of_lt (HS6.out.fst.lt b e.symm).2)⟩, fun e => absurd hb (Nat.not_le_of_lt (HS6.out.snd.lt b e.symm).2)⟩⟩
              clear hky hsy k0 k1 k2 k3 k4 k5 k6 k7 k8 k9 k10 k11 k12 k13 k14 k15 k16 k17 k18 hw7 HS6 HG6 HN2
              refine wpList_plain rfl fun K hK => ?_
              refine pushAt_core (E := encS encP) (y := yc) el_pairs HS7.out.snd HREP.out (Bk.one HKY.out) HLN17.out HZ7.out (HS7.out.new2 (fun _ h => Nat.le_trans HZ7.out h)) (.tmp 99) (.tmp 117) rfl rfl rfl ?_
              intro v8 w8 ha hgr hm
              refine hK _ _ ?_
              clear hK
              have HFIN : Hid (Side (encS encP) (encS encP) wj.heap.size 33 33 (fun b => wj.heap.size ≤ b) w8 (.slice A18 n18 c18) v8 ((List.range (i + 1)).map (rowP p.Q F R t ((j : Int) + 1))) ((List.range (i + 1)).map (colP p.Q F R t ((j : Int) + 1))) ∧ wj.grownBy w8 none) := Lib.hid ⟨by
                rw [HN17.out]
                exact HS7.out.two ha hgr hm, grown_up HG7.out hgr (fun b e => (HS7.out.snd.lt b e).1)⟩
              clear ha hgr hm HS7 HG7 HREP HKY HZ7 HN17 HRo1 HRo2 HCo1 HCo2 HPr HPc HLD
              go_wp2_with fail
              go_roundg q
              case measure => omega
              case rel => exact ⟨i + 1, by omega, by go_num, HFIN⟩
    | succ m =>
      have hin : (s : Int) < (L : Int) := by omega
      have hsl : s < l.length := by have := HLN.out; omega
      obtain ⟨gl, ol, cl, el, _, _, hcl0, hcl1, hul1, hul2⟩ := (HLX.out _ HG3.out).atP hsl
      injection el with el1 el2 el3
      subst el1 el3
      obtain ⟨kb, hkb⟩ : ∃ y, y = k0 + s * (2 * dd) := ⟨_, rfl⟩
      have hkm : kb + 2 * dd ≤ most := by
        have h1 : (s + 1) * (2 * dd) ≤ L * (2 * dd) := Nat.mul_le_mul_right _ (by omega)
        have h2 := HMO.out
        rw [Nat.add_mul, Nat.one_mul] at h1
        omega
      have HKN : Hid (k0 + (s + 1) * (2 * dd) = kb + dd + dd) := Lib.hid (by rw [hkb, Nat.add_mul, Nat.one_mul]; omega)
      have HFN : Hid (makeFs l p.Q dr t k0 (s + 1) = makeFs l p.Q dr t k0 s ++ [twoL l[s].1 p.Q dr t kb]) := Lib.hid (by
        rw [hkb, HDD.out]
        refine (hsnoc _ _).trans ?_
        show _ ++ [twoL (l[s]?.getD (0, 0)).1 p.Q dr t (k0 + s * (2 * (t * t - 1)))] = _
        rw [List.getElem?_eq_getElem hsl]
        rfl)
      have HRN : Hid (makeBs l p.Q dr t k0 (s + 1) = makeBs l p.Q dr t k0 s ++ [twoL l[s].2 p.Q dr t (kb + dd)]) := Lib.hid (by
        rw [hkb, HDD.out]
        refine (hsnoc _ _).trans ?_
        show _ ++ [twoL (l[s]?.getD (0, 0)).2 p.Q dr t (k0 + s * (2 * (t * t - 1)) + (t * t - 1))] = _
        rw [List.getElem?_eq_getElem hsl]
        rfl)
      rw [← hkb] at HI3
      obtain ⟨x, hx⟩ : ∃ y, y = l[s] := ⟨_, rfl⟩
      rw [← hx] at HFN HRN hcl0 hcl1 hul1 hul2
      obtain ⟨x1, x2⟩ := x
      simp only at HFN HRN hcl0 hcl1 hul1 hul2
      obtain ⟨wa, hwa⟩ : ∃ y, y = wr.alloc (Obj.cells #[.int .u64 x1, .int .u64 x2] 58) := ⟨_, rfl⟩
      obtain ⟨Bb, hBb⟩ : ∃ y, y = wr.heap.size := ⟨_, rfl⟩
      have HGA : Hid (wr.grownBy wa none) := Lib.hid (by rw [hwa]; exact World.grownBy_alloc _ _ none)
      have HBA : Hid (Bk wa Bb 58 #[.int .u64 x1, .int .u64 x2]) := Lib.hid (by rw [hwa, hBb]; exact Bk.new _ _ _)
      have HIA : Hid (TI kb wa) := Lib.hid (HT.out.keep HI3.out HGA.out (by simp))
      have HSA := Lib.hid (HS0.out.kept HGA.out)
      have HGa : Hid (w2.grownBy wa (some g)) := Lib.hid (HG3.out.trans (HGA.out.but _))
      have HB1 := Lib.hid (HTW.out x1 kb wa hul1 (by omega) HIA.out)
      have HU2 := Lib.hid hul2
      obtain ⟨y, hy⟩ : ∃ y, y = twoL x1 p.Q dr t kb := ⟨_, rfl⟩
      rw [← hy] at HFN HB1
      obtain ⟨z, hz⟩ : ∃ y, y = twoL x2 p.Q dr t (kb + dd) := ⟨_, rfl⟩
      rw [← hz] at HRN
      have HZ := Lib.hid hz
      have HLF : Hid (((makeFs l p.Q dr t k0 s).length + 1) * 24 ≤ 140737488355328) := Lib.hid (by simp [makeFs]; omega)
      have HLR : Hid (((makeBs l p.Q dr t k0 s).length + 1) * 24 ≤ 140737488355328) := Lib.hid (by simp [makeBs]; omega)
      have HBb : Hid (w2.heap.size ≤ Bb ∧ (∀ r, u10.ownBlock = some r → r < Bb) ∧ (∀ r, u11.ownBlock = some r → r < Bb)) := Lib.hid (by rw [hBb]; exact ⟨HG3.out.size, fun r e => (HS0.out.fst.lt r e).2, fun r e => (HS0.out.snd.lt r e).2⟩)
      have HBs : Hid (Bb < wa.heap.size) := Lib.hid HBA.out.lt
      have hpa : ∀ o, (wr.alloc (Obj.cells #[.int .u64 x1, .int .u64 x2] 58)).cell? ⟨w.heap.size, o, none⟩ = (#[.int .u64 p.P, .int .u64 p.Q, .int .u64 p.G, .int .u64 p.H, .int .i64 p.Nodes, .int .i64 p.N, .int .i64 p.T, .int .i64 p.K, .int .i64 p.D, .int .i64 p.R, .int .i64 p.M, .int .i64 p.X] : Array Value)[o]? := by rw [← hwa]; exact (HPX.out _ HGa.out).prule
      have d0 : (wr.alloc (Obj.cells #[.int .u64 x1, .int .u64 x2] 58)).cell? ⟨wr.heap.size, 0, none⟩ = some (.int .u64 x1) := by rw [← hwa, ← hBb]; simpa using HBA.out.cell 0
      clear hkb hy hz el2 hx hul1 hul2 hsl
      go_wp2_with fail
      rw [← hwa, ← hBb]
      clear hwa hBb hp3 hcl0 hcl1
      refine HB1.out.mono ?_
      rintro e w3 ⟨v50, rfl, hs3, hi3, hg3⟩
      obtain ⟨A50, n50, c50, rfl⟩ := hs3.shape
      have HG4 : Hid (w2.grownBy w3 (some g)) := Lib.hid (HGa.out.trans hg3)
      have HI4 := Lib.hid hi3
      have HS4 := Lib.hid (HSA.out.keep hg3 (fun b hb e => by injection e with e; have := HW2.out; omega))
      have HBA4 := Lib.hid (HBA.out.grown hg3 (fun e => by injection e with e; have := HW2.out; have := HBb.out.1; omega))
      have HREP : Hid ((encS (encS encU)).rep (fun b => (w2.heap.size ≤ b ∧ some b ≠ u11.ownBlock) ∧ some b ≠ u10.ownBlock) w3 [.slice A50 n50 c50] y) := Lib.hid ⟨_, rfl, hs3.more fun b _ hb => ⟨⟨by have := HBb.out.1; have := HBs.out; omega, fun e => by have := HBb.out.2.2 b e.symm; have := HBs.out; omega⟩, fun e => by have := HBb.out.2.1 b e.symm; have := HBs.out; omega⟩⟩
      have HZ4 : Hid (w2.heap.size ≤ w3.heap.size) := Lib.hid HG4.out.size
      clear hs3 hi3 hg3 hpa d0
      go_wp2_with (at_builtin; refine wpList_push rfl (.tmp 44) (.tmp 51) rfl (E := encS (encS encU)) (y := y) el_rows HS4.out.fst rfl rfl HREP.out HLF.out HZ4.out (HS4.out.new1 (fun _ h => Nat.le_trans HZ4.out h)) ?_)
      intro v10 w4 ha hg hm
      have HS5 := Lib.hid (HS4.out.one ha hg hm)
      have HG5 : Hid (w2.grownBy w4 (some g)) := Lib.hid (HG4.out.andThen hg (fun j e => .inl (HS4.out.fst.lt j e).1))
      have HI5 : Hid (TI (kb + dd) w4) := Lib.hid (HT.out.keep HI4.out hg (fun b e hb => by have := (HS4.out.fst.lt b e).1; have := HOB.out b hb; have := HW2.out; omega))
      have HBA5 := Lib.hid (HBA4.out.grown hg (fun e => by have := HBb.out.2.1 _ e.symm; omega))
      clear ha hg hm
      have hp5 := (HPX.out _ HG5.out).prule
      have d1 := HBA5.out.cell 1
      simp at d1
      have HB7 := Lib.hid (HTW.out x2 (kb + dd) w4 HU2.out (by omega) HI5.out)
      rw [← HZ.out] at HB7
      go_wp2_with fail
      refine HB7.out.mono ?_
      rintro e w6 ⟨v59, rfl, hs6, hi6, hg6⟩
      obtain ⟨A59, n59, c59, rfl⟩ := hs6.shape
      have HG8 : Hid (w2.grownBy w6 (some g)) := Lib.hid (HG5.out.trans hg6)
      have HI8 := Lib.hid hi6
      have HS8 := Lib.hid (HS5.out.keep hg6 (fun b hb e => by injection e with e; have := HW2.out; omega))
      have HZ8 : Hid (w2.heap.size ≤ w6.heap.size) := Lib.hid HG8.out.size
      have HREP2 : Hid ((encS (encS encU)).rep (fun b => (w2.heap.size ≤ b ∧ some b ≠ v10.ownBlock) ∧ some b ≠ u11.ownBlock) w6 [.slice A59 n59 c59] z) := Lib.hid ⟨_, rfl, hs6.more fun b _ hb => ⟨⟨Nat.le_trans HG5.out.size hb, fun e => by have := (HS5.out.fst.lt b e.symm).2; omega⟩, fun e => by have := (HS5.out.snd.lt b e.symm).2; omega⟩⟩
      clear hs6 hi6 hg6 hp5 d1
      go_wp2_with (at_builtin; refine wpList_push rfl (.tmp 53) (.tmp 60) rfl (E := encS (encS encU)) (y := z) el_rows HS8.out.snd rfl rfl HREP2.out HLR.out HZ8.out (HS8.out.new2 (fun _ h => Nat.le_trans HZ8.out h)) ?_)
      intro v11 w7 ha hg hm
      have HFIN : Hid (Side (encS (encS encU)) (encS (encS encU)) w2.heap.size 34 34 (fun b => w2.heap.size ≤ b) w7 v10 v11 (makeFs l p.Q dr t k0 (s + 1)) (makeBs l p.Q dr t k0 (s + 1)) ∧ TI (k0 + (s + 1) * (2 * dd)) w7 ∧ w2.grownBy w7 (some g)) := Lib.hid ⟨by rw [HFN.out, HRN.out]; exact HS8.out.two ha hg hm, by
        rw [HKN.out]
        exact HT.out.keep HI8.out hg (fun b e hb => by have := (HS8.out.snd.lt b e).1; have := HOB.out b hb; have := HW2.out; omega), HG8.out.andThen hg (fun j e => .inl (HS8.out.snd.lt j e).1)⟩
      clear ha hg hm
      go_wp2_with fail
      go_roundg m
      case measure => omega
      case rel => exact ⟨s + 1, by omega, by go_num, HFIN⟩
end Go.Proofs.YtnjkelojkoeihaaGreatDoor

namespace Go.Proofs.YtnjkelojkoeihaaGreatDoor
open Go Go.RowKit

/-- What a thing's cells are: none of them, nor of what they lead to, lies in a block that holds u0 alone. -/
def Far {α : Type} (E : Enc α) (good : α → Prop) (u0 : Value) : Prop :=
  ∀ {X : Nat → Prop} {W : World} {cs : List Value} {x : α} (b : Nat), (∀ i u, W.cell? ⟨b, i, none⟩ = some u → u = u0) → E.rep X W cs x → good x → E.rep (fun g => X g ∧ g ≠ b) W cs x ∧ ∃ u, cs[0]? = some u ∧ u ≠ u0
theorem farU (A : Option Addr) (n c : Nat) : Far encU (fun _ => True) (.slice A n c) := fun b _ h _ => by
  obtain ⟨rfl, h2⟩ := h
  exact ⟨⟨rfl, h2⟩, _, rfl, by simp⟩
theorem farP (A : Option Addr) (n c : Nat) : Far encP (fun _ => True) (.slice A n c) := fun b _ h _ => by
  obtain ⟨rfl, h2⟩ := h
  exact ⟨⟨rfl, h2⟩, _, rfl, by simp⟩
theorem Far.sl {α : Type} {E : Enc α} {good : α → Prop} {u0 : Value} (h : Far E good u0) {X : Nat → Prop} {W : World} {v : Value} {xs : List α} {b : Nat} (hb : ∀ i u, W.cell? ⟨b, i, none⟩ = some u → u = u0) (hs : Sl E X W v xs) (hg : ∀ x ∈ xs, good x) : Sl E (fun g => X g ∧ g ≠ b) W v xs := by
  obtain ⟨A, c, e, h1, h2, h3⟩ := hs
  refine ⟨A, c, e, h1, h2, fun hne => ?_⟩
  obtain ⟨g, o, eA, hlt, hX, hi⟩ := h3 hne
  refine ⟨g, o, eA, hlt, ⟨hX, fun e => ?_⟩, fun i hi' => ?_⟩
  · have h0 : 0 < xs.length := List.length_pos_iff.2 hne
    obtain ⟨cs, hr, hc⟩ := hi 0 h0
    obtain ⟨_, u, hu, hne'⟩ := h b hb hr (hg _ (List.getElem_mem h0))
    have := hc 0 u hu
    rw [e] at this
    exact hne' (hb _ u this)
  · obtain ⟨cs, hr, hc⟩ := hi i hi'
    exact ⟨cs, (h b hb hr (hg _ (List.getElem_mem hi'))).1, hc⟩
theorem farS {α : Type} {E : Enc α} {good : α → Prop} (h : Far E good (.slice none 0 0)) : Far (encS E) (fun xs => xs ≠ [] ∧ ∀ x ∈ xs, good x) (.slice none 0 0) := fun b hb hr hg => by
  obtain ⟨v, rfl, hs⟩ := hr
  refine ⟨⟨v, rfl, h.sl hb hs hg.2⟩, v, rfl, fun e => ?_⟩
  obtain ⟨A, c, e', _⟩ := hs
  rw [e] at e'
  injection e' with _ e2 _
  exact hg.1 (List.length_eq_zero_iff.1 (by omega))
theorem nil_cells {W : World} {b : Nat} {t : TypeId} (h : Bk W b t #[.slice none 0 0, .slice none 0 0, .slice none 0 0]) : ∀ i u, W.cell? ⟨b, i, none⟩ = some u → u = .slice none 0 0 := fun i u hu => by
  rw [h.cell i] at hu
  match i, hu with
  | 0, hu => simpa using hu.symm
  | 1, hu => simpa using hu.symm
  | 2, hu => simpa using hu.symm
  | i + 3, hu => simp at hu
end Go.Proofs.YtnjkelojkoeihaaGreatDoor

namespace Go.Proofs.YtnjkelojkoeihaaGreatDoor
open Go Go.RowKit Go.Shelf

def dE0 (v x : Value) : Prop := ∃ b, x = .tuple #[v, b, .int .i64 0]
def dE1 (v x : Value) : Prop := ∃ a, x = .tuple #[a, v, .int .i64 0]
def dF0 (v x : Value) : Prop := x = .tuple #[v, .int .i64 0]
theorem dF0_eq {v u : Value} (h : dF0 v (.tuple #[u, .int .i64 0])) : v = u := by
  unfold dF0 at h
  injection h with h
  injection h with h
  injection h with h _
  exact h.symm
theorem tup3 {a b c x y z : Value} (h : Value.tuple #[a, b, c] = .tuple #[x, y, z]) : a = x ∧ b = y ∧ c = z := by
  injection h with h
  injection h with h
  injection h with h1 h
  injection h with h2 h
  injection h with h3 _
  exact ⟨h1, h2, h3⟩
/-- A dealing's three lists. -/
def DL (W : World) (a b c : Value) (M : List (List (List Int))) (Rs Cs : List (List (List (Int × Int)))) : Prop := Sl (encS (encS encU)) TT W a M ∧ Sl (encS (encS encP)) TT W b Rs ∧ Sl (encS (encS encP)) TT W c Cs
theorem DL.kept {W W' : World} {a b c : Value} {M : List (List (List Int))} {Rs Cs : List (List (List (Int × Int)))} (h : DL W a b c M Rs Cs) (hg : W.grownBy W' none) : DL W' a b c M Rs Cs := ⟨h.1.kept hg, h.2.1.kept hg, h.2.2.kept hg⟩
/-- None of them is empty. -/
structure DGood (M : List (List (List Int))) (Rs Cs : List (List (List (Int × Int)))) : Prop where
  m : ∀ x ∈ M, x ≠ [] ∧ ∀ y ∈ x, y ≠ [] ∧ ∀ z ∈ y, True
  r : ∀ x ∈ Rs, x ≠ [] ∧ ∀ y ∈ x, y ≠ [] ∧ ∀ z ∈ y, True
  c : ∀ x ∈ Cs, x ≠ [] ∧ ∀ y ∈ x, y ≠ [] ∧ ∀ z ∈ y, True
theorem sl_stored {α : Type} {E : Enc α} {good : α → Prop} (hf : Far E good (.slice none 0 0)) {X : Nat → Prop} {W W' : World} {v : Value} {xs : List α} {g : Nat} {ty : TypeId} (h : Sl E X W v xs) (hgd : ∀ x ∈ xs, good x) (hb : Bk W g ty #[.slice none 0 0, .slice none 0 0, .slice none 0 0]) (hg : W.grownBy W' (some g)) : Sl E X W' v xs :=
  ((hf.sl (nil_cells hb) h hgd).keep hg (fun b hb e => hb.2 (by injection e))).more fun _ _ hb => hb.1
theorem DL.stored {W W' : World} {a b c : Value} {M : List (List (List Int))} {Rs Cs : List (List (List (Int × Int)))} {g : Nat} {ty : TypeId} (h : DL W a b c M Rs Cs) (hd : DGood M Rs Cs) (hb : Bk W g ty #[.slice none 0 0, .slice none 0 0, .slice none 0 0]) (hg : W.grownBy W' (some g)) : DL W' a b c M Rs Cs :=
  ⟨sl_stored (farS (farS (farU none 0 0))) h.1 hd.m hb hg, sl_stored (farS (farS (farP none 0 0))) h.2.1 hd.r hb hg, sl_stored (farS (farS (farP none 0 0))) h.2.2 hd.c hb hg⟩
theorem dlt_good {p : Par} (hm : mayP p = true) (hq : U64 p.Q) (l : List Int) (seed i : Int) (n : Nat) : DGood (dltM p l seed i) ((List.range n).map fun j : Nat => dltRow p l seed i ((j : Int) + 1)) ((List.range n).map fun j : Nat => dltCol p l seed i ((j : Int) + 1)) := by
  obtain ⟨h1, h2, h3, h4, _⟩ := dlt_sizes hm
  refine ⟨fun M hM => ?_, fun M hM => ?_, fun M hM => ?_⟩
  · obtain ⟨a, b⟩ := dltM_rect hm hq l seed i M hM
    exact ⟨fun e => by subst e; simp at a, fun y hy => ⟨fun e => by subst e; have := b _ hy; simp at this, fun _ _ => trivial⟩⟩
  · obtain ⟨j, _, rfl⟩ := List.mem_map.1 hM
    exact ⟨fun e => by have := dltRow_len hm hq l seed i ((j : Int) + 1); rw [e] at this; simp at this; omega, fun y hy => ⟨fun e => by subst e; have := dltRow_in p l seed i _ _ hy; simp at this, fun _ _ => trivial⟩⟩
  · obtain ⟨j, _, rfl⟩ := List.mem_map.1 hM
    exact ⟨fun e => by have := dltCol_len hm hq l seed i ((j : Int) + 1); rw [e] at this; simp at this; omega, fun y hy => ⟨fun e => by subst e; have := dltCol_in p l seed i _ _ hy; simp at this, fun _ _ => trivial⟩⟩
/-- The tape, some draws made. -/
def TapeIn (p : Par) (seed : Int) (gt k : Nat) (W : World) : Prop := Bk W gt 114 #[.int .u64 (seedS p.Q seed k), .slice none 0 0, .int .i64 k]
def dTold2 (p : Par) (N gt : Nat) (seed : Int) (k : Nat) (SH : List (List (Int × Int))) (CM : List (List Int)) (x : Value) (W : World) : Prop := ∃ a b, x = .tuple #[a, b, .int .i64 0] ∧ Sl (encS encP) (fun k => N ≤ k) W a SH ∧ Sl (encS encU) (fun k => N ≤ k) W b CM ∧ TapeIn p seed gt k W
def dTold5 (M : List (List (List Int))) (Rs Cs : List (List (List (Int × Int)))) (x : Value) (cs : Array Value) (W : World) : Prop := ∃ a b c, x = .tuple #[.agg #[a, b, c], .int .i64 0] ∧ cs = #[a, b, c] ∧ DL W a b c M Rs Cs
theorem dOk2 (p : Par) (D : World) (gt : Nat) (hgt : gt < D.heap.size) (seed : Int) (k : Nat) (SH : List (List (Int × Int))) (CM : List (List Int)) : CallOk D (some gt) (TapeIn p seed gt 0) (dTold2 p D.heap.size gt seed k SH CM) where
  row := fun r e => by injection e with e; omega
  pre := fun h hg => h.grown hg (by simp)
  told := fun ⟨a, b, e, h1, h2, h3⟩ hg => ⟨a, b, e, h1.kept hg, h2.kept hg, h3.grown hg (by simp)⟩
theorem dOk5 (p : Par) (D : World) (gt : Nat) (hgt : gt < D.heap.size) (seed : Int) (k : Nat) {M : List (List (List Int))} {Rs Cs : List (List (List (Int × Int)))} (hd : DGood M Rs Cs) : BoxOk D (some gt) 32 #[.slice none 0 0, .slice none 0 0, .slice none 0 0] (TapeIn p seed gt k) (dTold5 M Rs Cs) where
  row := fun r e => by injection e with e; omega
  pre := fun h hg => h.grown hg (by simp)
  told := fun ⟨a, b, c, e, e2, h⟩ hg => ⟨a, b, c, e, e2, h.kept hg⟩
  store := fun ⟨a, b, c, e, e2, h⟩ hb _ hg => ⟨a, b, c, e, e2, h.stored hd hb hg⟩
/-- Where the worlds stand while the results are laid. -/
def d6Lt (D : World) (B : Nat) (a b c : Value) : FR.Lt where
  C vs W := D.grownBy W (some B) ∧ (vs = [] → Bk W B 32 #[.slice none 0 0, .slice none 0 0, .slice none 0 0]) ∧ (vs ≠ [] → 0 ∈ vs.map (·.1) ∧ Bk W B 32 #[a, b, c])
  R _ _ _ _ := True
  G W W' := W.grownBy W' none
  g := fun ⟨h1, h2, h3⟩ hg => ⟨h1.trans (hg.but _), fun e => (h2 e).grown hg (by simp), fun e => ⟨(h3 e).1, (h3 e).2.grown hg (by simp)⟩⟩
theorem d6_store {D : World} {B : Nat} {a b c u : Value} {vs : List (Nat × Value)} {W : World} (h : (d6Lt D B a b c).C vs W) (hv : vs = []) : (d6Lt D B a b c).C (vs ++ [(0, u)]) (((W.setCell ⟨B, 0, none⟩ a).setCell ⟨B, 1, none⟩ b).setCell ⟨B, 2, none⟩ c) := by
  subst hv
  obtain ⟨h1, h2, _⟩ := h
  exact ⟨((h1.trans (grownSet W B 0 a)).trans (grownSet _ B 1 b)).trans (grownSet _ B 2 c), fun e => by simp at e, fun _ => ⟨by simp, (((h2 rfl).set 0 a).set 1 b).set 2 c⟩⟩
theorem results_dealt {fn : Func} {W : World} {B : Nat} {a b c x y z : Value} (h : fn.results = #[.cell 10 32, .tmp 11, .tmp 12, .tmp 13]) (tmps : Array Value) (h8 : tmps.getD 10 undef = .pointer (some ⟨B, 0, none⟩)) (h9 : tmps.getD 11 undef = x) (h10 : tmps.getD 12 undef = y) (h11 : tmps.getD 13 undef = z) (hb : Bk W B 32 #[a, b, c]) : (results fn tmps).run Tryz.prog W = .ok (.tuple #[.agg #[a, b, c], x, y, z]) W := by
  have r1 := run_loadVar_row (P := Tryz.prog) W B 32 32 #[a, b, c] (0, 0) _ hb Tryz.underlying32 rfl (by kernel_rfl)
  have h8' : tmps[10]?.getD undef = .pointer (some ⟨B, 0, none⟩) := by simpa using h8
  have h9' : tmps[11]?.getD undef = x := by simpa using h9
  have h10' : tmps[12]?.getD undef = y := by simpa using h10
  have h11' : tmps[13]?.getD undef = z := by simpa using h11
  simp [results, h, h8', h9', h10', h11', asAddr, r1]
set_option maxRecDepth 100000 in
set_option maxHeartbeats 8000000 in
theorem dealt_any (p : Par) (v : Value) (l : List Int) (seed i : Int) (n : Nat) (w : World) (hp : p.ok) (hm : mayP p = true) (hT : TabsAt w) (h : Sl encU (fun _ => True) w v l) (hsd : U64 seed) (hi : 1 ≤ i ∧ i ≤ p.N) (hn : 1 ≤ n ∧ n ≤ 7) :
    Calls Tryz.prog 8 #[p.v, v, .int .u64 seed, .int .i64 i, .int .i64 n] w fun e w' => ∃ vm vr vc vs vk, e = .returned (.tuple #[.agg #[vm, vr, vc], vs, vk, .bool true]) ∧ DL w' vm vr vc (dltM p l seed i) ((List.range n).map fun j : Nat => dltRow p l seed i ((j : Int) + 1)) ((List.range n).map fun j : Nat => dltCol p l seed i ((j : Int) + 1)) ∧ Sl encP TT w' vs (dltX p l seed i) ∧ Sl (encS encU) TT w' vk (dltC p l seed) ∧ w.grownBy w' none := by
  have HP := Lib.hid hp
  have HMAY := Lib.hid hm
  have HTB := Lib.hid hT
  have HL := Lib.hid h.bounded
  have HSD := Lib.hid hsd
  have HQ : Hid (U64 p.Q) := Lib.hid hp.Q
  have HSZ := Lib.hid (dlt_sizes hm)
  have HGD := Lib.hid (dlt_good hm hp.Q l seed i n)
  obtain ⟨A, c, rfl, hl1, hl2⟩ := h.form
  obtain ⟨n0, hn0⟩ : ∃ y, y = l.length := ⟨_, rfl⟩
  rw [← hn0] at HL hl1 ⊢
  obtain ⟨i0, rfl⟩ : ∃ k : Nat, i = (k : Int) + 1 := ⟨(i - 1).toNat, by omega⟩
  obtain ⟨NN, hNN⟩ : ∃ k : Nat, k = p.N.toNat := ⟨_, rfl⟩
  have HNN : Hid (p.N.toNat = NN ∧ i0 < NN ∧ NN ≤ 7) := Lib.hid (by have := HSZ.out; omega)
  have hiN : (i0 : Int) < (NN : Int) := by have := HNN.out; omega
  have hi0 : (0 : Int) ≤ (i0 : Int) := Int.natCast_nonneg i0
  have hwi : IntKind.i64.wrap (i0 : Int) = (i0 : Int) := IntWalk.i64_in _ (by have := HNN.out; omega)
  have hn1 : 1 ≤ n := hn.1
  have hn7 : n ≤ 7 := hn.2
  obtain ⟨S, hS⟩ : ∃ y, y = dltS p l := ⟨_, rfl⟩
  have HSS : Hid (S = dltS p l ∧ S.length = dltN p) := Lib.hid ⟨hS, by rw [hS]; exact dltS_len p l⟩
  obtain ⟨SH, hSH⟩ : ∃ y, y = (List.range NN).map fun i : Nat => dltX p l seed ((i : Int) + 1) := ⟨_, rfl⟩
  have HSH := Lib.hid hSH
  obtain ⟨CM, hCM⟩ : ∃ y, y = dltC p l seed := ⟨_, rfl⟩
  have HCM := Lib.hid hCM
  obtain ⟨M, hM⟩ : ∃ y, y = dltM p l seed ((i0 : Int) + 1) := ⟨_, rfl⟩
  obtain ⟨Rs, hRs⟩ : ∃ y, y = (List.range n).map fun j : Nat => dltRow p l seed ((i0 : Int) + 1) ((j : Int) + 1) := ⟨_, rfl⟩
  obtain ⟨Cs, hCs⟩ : ∃ y, y = (List.range n).map fun j : Nat => dltCol p l seed ((i0 : Int) + 1) ((j : Int) + 1) := ⟨_, rfl⟩
  have HME : Hid (M = dltM p l seed ((i0 : Int) + 1) ∧ (Rs = (List.range n).map fun j : Nat => dltRow p l seed ((i0 : Int) + 1) ((j : Int) + 1)) ∧ (Cs = (List.range n).map fun j : Nat => dltCol p l seed ((i0 : Int) + 1) ((j : Int) + 1)) ∧ Rs.length = n ∧ Cs.length = n) := Lib.hid ⟨hM, hRs, hCs, by rw [hRs]; simp, by rw [hCs]; simp⟩
  rw [← hCM, ← hM, ← hRs, ← hCs]
  rw [← hM, ← hRs, ← hCs] at HGD
  obtain ⟨X, hX⟩ : ∃ y, y = dltX p l seed ((i0 : Int) + 1) := ⟨_, rfl⟩
  have HX : Hid (X = dltX p l seed ((i0 : Int) + 1) ∧ X.length = dltN p) := Lib.hid ⟨hX, by rw [hX]; exact dltX_len _ _ _ _⟩
  rw [← hX]
  obtain ⟨w0, hw0⟩ : ∃ y, y = (w.alloc (Obj.cells p.cells 24)).alloc (Obj.cells #[.slice none 0 0, .slice none 0 0, .slice none 0 0] 32) := ⟨_, rfl⟩
  have HG0 : Hid (w.grownBy w0 none) := Lib.hid (by rw [hw0]; exact grown_two)
  have HB0 : Hid (Bk w0 w.heap.size 24 p.cells) := Lib.hid (by rw [hw0]; exact (Bk.new w _ _).alloc _)
  have HR0 : Hid (Bk w0 (w.heap.size + 1) 32 #[.slice none 0 0, .slice none 0 0, .slice none 0 0]) := Lib.hid (by
    rw [hw0]
    have h := Bk.new (w.alloc (Obj.cells p.cells 24)) 32 #[.slice none 0 0, .slice none 0 0, .slice none 0 0]
    rw [World.size_alloc] at h
    exact h)
  have HW0 : Hid (w0.heap.size = w.heap.size + 2) := Lib.hid (by rw [hw0, World.size_alloc, World.size_alloc])
  clear h hp hm hT hsd hi hn hNN hn0 hS hSH hCM hM hRs hCs hX
  go_enter Tryz.func8, Tryz.ntmps8
  go_wp2_with fail
  rw [← hw0]
  clear hw0
  obtain ⟨gt, hgt⟩ : ∃ y, y = w0.heap.size := ⟨_, rfl⟩
  refine (new20_any seed w0).mono ?_
  rintro e w1 ⟨rfl, hw1⟩
  rw [← hgt]
  have HBT : Hid (TapeIn p seed gt 0 w1) := Lib.hid (by rw [hw1, hgt]; exact Bk.new w0 _ _)
  have HG1 : Hid (w0.grownBy w1 none) := Lib.hid (by rw [hw1]; exact World.grownBy_alloc _ _ none)
  have HGT : Hid (gt = w.heap.size + 2 ∧ w1.heap.size = w.heap.size + 3) := Lib.hid ⟨by rw [hgt, HW0.out], by rw [hw1, World.size_alloc, HW0.out]⟩
  clear hw1 hgt
  go_upto_region 2 with (fail)
  have HG1d : Hid (w.grownBy w1.drew none) := Lib.hid ((HG0.out.trans HG1.out).trans (grown_drewN' w1 1))
  have HNW : Hid (w1.drew.heap.size = w.heap.size + 3) := Lib.hid HGT.out.2
  have HOK := Lib.hid (dOk2 p w1.drew gt (by rw [HNW.out, HGT.out.1]; omega) seed (dltK p) SH CM)
  have HB1 : Hid (Bk w1.drew w.heap.size 24 p.cells) := Lib.hid (HB0.out.grown (HG1.out.trans (grown_drewN' w1 1)) (by simp))
  have HLD : Hid (∀ vs W, (callLt HOK.out).C vs W → ∀ o, W.cell? ⟨w.heap.size, o, none⟩ = (#[.int .u64 p.P, .int .u64 p.Q, .int .u64 p.G, .int .u64 p.H, .int .i64 p.Nodes, .int .i64 p.N, .int .i64 p.T, .int .i64 p.K, .int .i64 p.D, .int .i64 p.R, .int .i64 p.M, .int .i64 p.X] : Array Value)[o]?) := Lib.hid (fun vs W hC => by
    have hC : CallC _ _ _ _ vs W := hC
    exact (HB1.out.grown hC.g (fun e => by injection e with e; have := HGT.out.1; omega)).prule)
  have HSC : Hid (∀ W, w1.drew.grownBy W (some gt) → Calls Tryz.prog 48 #[p.v, .slice A n0 c] W (Gives encU (fun g => W.heap.size ≤ g) W S)) := Lib.hid (fun W hg => by
    have h := secrets18_any p (.slice A n0 c) l (fun g => True ∧ g < w.heap.size) W (dltN p) HSZ.out.2.2.2.2.1 HSZ.out.2.2.2.1 ((HL.out.kept HG1d.out).keep hg (fun b hb e => by injection e with e; have := HGT.out.1; have := hb.2; omega))
    rw [HSS.out.1]
    exact h)
  have HTP : Hid (Tp gt p.Q (dltD p seed) (fun k => TapeIn p seed gt k) (fun b => b = gt) 1000000) := Lib.hid (tp_own gt p.Q seed HSD.out HQ.out)
  have HDM : Hid (∀ v W, w1.drew.grownBy W (some gt) → TapeIn p seed gt 0 W → Sl encU (fun k => w1.drew.heap.size ≤ k) W v S → Calls Tryz.prog 30 #[p.v, v, .pointer (some ⟨gt, 0, none⟩)] W fun e w' => ∃ a b, e = .returned (.tuple #[a, b, .int .i64 0]) ∧ Sl (encS encP) (fun k => w1.drew.heap.size ≤ k) w' a SH ∧ Sl (encS encU) (fun k => w1.drew.heap.size ≤ k) w' b CM ∧ TapeIn p seed gt (dltK p) w' ∧ W.grownBy w' (some gt)) := Lib.hid (fun v W hg hb hs => by
    refine (dmodel_new p v S _ W HTP.out HP.out HMAY.out (HTB.out.kept (grown_up HG1d.out hg (fun r e => by injection e with e; have := HGT.out.1; omega))) hs (fun b hb => by have := HGT.out.1; have := HNW.out; omega) (by rw [HSS.out.2, HSZ.out.2.2.2.2.1]) 0 (dltT p) HSZ.out.2.2.2.2.2.1 hb (by
      have h1 := HSZ.out.2.2.2.1
      have h2 := HSZ.out.2.1
      have h3 : S.length * (2 * dltT p + 1) ≤ 10 * 5 := Nat.mul_le_mul (by rw [HSS.out.2]; exact h1) (by omega)
      omega)).mono ?_
    rintro e w' ⟨vs, vc, rfl, k1, k2, k3, k4⟩
    refine ⟨vs, vc, rfl, ?_, ?_, ?_, k4⟩
    · rw [HSH.out, ← HNN.out.1]
      rw [HSS.out.2, HSS.out.1] at k1
      exact k1.more fun k _ hk => Nat.le_trans hg.size hk
    · rw [HCM.out]
      rw [HSS.out.2, HSS.out.1] at k2
      exact k2.more fun k _ hk => Nat.le_trans hg.size hk
    · rw [HSS.out.2] at k3
      unfold dltK
      simpa using k3)
  refine FR.wp_region_late (callLt HOK.out) [5] 13 (by kernel_rfl) (by kernel_rfl) (by kernel_rfl) (CallC.start HBT.out) ?_
  -- op 0 (slot 23): load
  refine FR.LateR.mono (FR.Qv.eq (p.v)) [] (by kernel_rfl) (by rfl) (fun vs w' hC => ?_) ?_
  · refine FR.askl_do rfl fun K hK => ?_
    have hp := HLD.out vs w' hC
    go_simp
    exact hK _ _ rfl ⟨rfl, World.grownBy.refl _ none⟩
  -- op 1 (slot 24): load
  refine FR.LateR.mono (FR.Qv.eq (p.v)) [] (by kernel_rfl) (by rfl) (fun vs w' hC => ?_) ?_
  · refine FR.askl_do rfl fun K hK => ?_
    have hp := HLD.out vs w' hC
    go_simp
    exact hK _ _ rfl ⟨rfl, World.grownBy.refl _ none⟩
  -- op 2 (slot 25): move
  refine FR.LateR.mono (FR.Qv.eq (.slice A n0 c)) [] (by kernel_rfl) (by rfl) (fun vs w' hC => ?_) ?_
  · refine FR.askl_do rfl fun K hK => ?_
    go_simp
    exact hK _ _ rfl ⟨rfl, World.grownBy.refl _ none⟩
  -- op 3 (slot 26): call
  refine FR.LateR.mono (callS encU S) [(1, 24), (2, 25)] (by kernel_rfl) (by rfl) (fun vs w' hC => ?_) ?_
  · intro x24 h24
    intro x25 h25
    have e24 : x24 = p.v := h24
    clear h24
    subst e24
    have e25 : x25 = .slice A n0 c := h25
    clear h25
    subst e25
    refine FR.askl_do rfl fun K hK => ?_
    have hC : CallC _ _ _ _ vs w' := hC
    go_simp
    refine (HSC.out w' hC.g).mono ?_
    rintro e w3 ⟨v3, rfl, hs3, hg3⟩
    exact hK _ _ rfl ⟨hs3.more fun k _ hk => Nat.le_trans hC.g.size hk, hg3⟩
  -- op 4 (slot 27): move
  refine FR.LateR.mono (FR.Qv.eq (.pointer (some ⟨gt, 0, none⟩))) [] (by kernel_rfl) (by rfl) (fun vs w' hC => ?_) ?_
  · refine FR.askl_do rfl fun K hK => ?_
    go_simp
    exact hK _ _ rfl ⟨rfl, World.grownBy.refl _ none⟩
  -- op 5 (slot 28): call
  refine FR.LateR.turn 0 [(0, 23), (3, 26), (4, 27)] (by kernel_rfl) [] rfl (by kernel_rfl) (fun vs w' hn hr hC => ?_) ?_
  · intro x23 h23
    intro x26 h26
    have h26 : Sl encU (fun k => w1.drew.heap.size ≤ k) w' x26 S := h26
    intro x27 h27
    have e23 : x23 = p.v := h23
    clear h23
    subst e23
    have e27 : x27 = .pointer (some ⟨gt, 0, none⟩) := h27
    clear h27
    subst e27
    refine FR.askl_do rfl fun K hK => ?_
    have hC : CallC _ _ _ _ vs w' := hC
    go_simp
    refine (HDM.out x26 w' hC.g (hC.pre hn) h26).mono ?_
    rintro e w3 ⟨va, vb, rfl, k1, k2, k3, k4⟩
    exact hK _ _ rfl ⟨k4, CallC.call hC hn ⟨va, vb, rfl, k1, k2, k3⟩ k4⟩
  -- op 6 (slot 22): move
  refine FR.LateR.mono (callX) [(5, 28)] (by kernel_rfl) (by rfl) (fun vs w' hC => ?_) ?_
  · intro x28 h28
    refine FR.askl_do rfl fun K hK => ?_
    go_simp
    exact hK _ _ rfl ⟨h28, World.grownBy.refl _ none⟩
  -- op 7 (slot 29): extract
  refine FR.LateR.mono (callE dE0) [(6, 22)] (by kernel_rfl) (by rfl) (fun vs w' hC => ?_) ?_
  · intro x22 h22
    have h22 : (0, x22) ∈ vs := h22
    refine FR.askl_do rfl fun K hK => ?_
    have hC : CallC _ _ _ _ vs w' := hC
    obtain ⟨va, vb, rfl, hta, htb, htt⟩ := hC.told _ h22
    go_simp
    exact hK _ _ rfl ⟨⟨_, h22, vb, rfl⟩, World.grownBy.refl _ none⟩
  -- op 8 (slot 30): extract
  refine FR.LateR.mono (callE dE1) [(6, 22)] (by kernel_rfl) (by rfl) (fun vs w' hC => ?_) ?_
  · intro x22 h22
    have h22 : (0, x22) ∈ vs := h22
    refine FR.askl_do rfl fun K hK => ?_
    have hC : CallC _ _ _ _ vs w' := hC
    obtain ⟨va, vb, rfl, hta, htb, htt⟩ := hC.told _ h22
    go_simp
    exact hK _ _ rfl ⟨⟨_, h22, va, rfl⟩, World.grownBy.refl _ none⟩
  -- op 9 (slot 31): extract
  refine FR.LateR.mono (FR.Qv.eq (.int .i64 0)) [(6, 22)] (by kernel_rfl) (by rfl) (fun vs w' hC => ?_) ?_
  · intro x22 h22
    have h22 : (0, x22) ∈ vs := h22
    refine FR.askl_do rfl fun K hK => ?_
    have hC : CallC _ _ _ _ vs w' := hC
    obtain ⟨va, vb, rfl, hta, htb, htt⟩ := hC.told _ h22
    go_simp
    exact hK _ _ rfl ⟨rfl, World.grownBy.refl _ none⟩
  -- op 10 (slot 15): assign
  refine FR.LateR.mono (callE dE0) [(7, 29)] (by kernel_rfl) (by rfl) (fun vs w' hC => ?_) ?_
  · intro x29 h29
    have h29 : ∃ x, (0, x) ∈ vs ∧ dE0 x29 x := h29
    refine FR.askl_do rfl fun K hK => ?_
    go_simp
    exact hK _ _ rfl ⟨h29, World.grownBy.refl _ none⟩
  -- op 11 (slot 16): assign
  refine FR.LateR.mono (callE dE1) [(8, 30)] (by kernel_rfl) (by rfl) (fun vs w' hC => ?_) ?_
  · intro x30 h30
    have h30 : ∃ x, (0, x) ∈ vs ∧ dE1 x30 x := h30
    refine FR.askl_do rfl fun K hK => ?_
    go_simp
    exact hK _ _ rfl ⟨h30, World.grownBy.refl _ none⟩
  -- op 12 (slot 17): assign
  refine FR.LateR.mono (FR.Qv.eq (.int .i64 0)) [(9, 31)] (by kernel_rfl) (by rfl) (fun vs w' hC => ?_) ?_
  · intro x31 h31
    have e31 : x31 = .int .i64 0 := h31
    clear h31
    subst e31
    refine FR.askl_do rfl fun K hK => ?_
    go_simp
    exact hK _ _ rfl ⟨rfl, World.grownBy.refl _ none⟩
  intro vs w2 hvl hC2
  have hC2 : CallC _ _ _ _ vs w2 := hC2
  intro y0 k0 y1 k1 y2 k2 y3 k3 y4 k4 y5 k5 y6 k6 y7 k7 y8 k8 y9 k9 y10 k10 y11 k11 y12 k12
  show wpList Tryz.prog _ _ _ _ w2
  simp only [Act.put, List.setIfInBounds_toArray, List.set_cons_zero, List.set_cons_succ]
  have e12 : y12 = .int .i64 0 := k12
  subst e12
  obtain ⟨x10, hx10, b10, e10⟩ : ∃ x, (0, x) ∈ vs ∧ dE0 y10 x := k10
  obtain ⟨x11, hx11, a11, e11⟩ : ∃ x, (0, x) ∈ vs ∧ dE1 y11 x := k11
  obtain ⟨va, vb, eab, hsh, hcm, hti⟩ := hC2.told _ hx10
  obtain ⟨va', vb', eab', hsh', hcm', hti'⟩ := hC2.told _ hx11
  obtain ⟨q1, _, _⟩ := tup3 (e10.symm.trans eab)
  obtain ⟨_, q2, _⟩ := tup3 (e11.symm.trans eab')
  subst q1 q2
  have HG2 := Lib.hid hC2.g
  have HTI := Lib.hid hti
  clear k0 k1 k2 k3 k4 k5 k6 k7 k8 k9 hvl hC2 e10 e11 eab eab' hsh' hcm hti' hx10 hx11 HLD HSC HDM hti
  have hiS : i0 < SH.length := by rw [HSH.out, List.length_map, List.length_range]; exact HNN.out.2.1
  obtain ⟨gS, oS, cS, uS, eS, hSlt, hSX, hcS, hsS⟩ := hsh.atS hiS
  have hSHl : SH.length = NN := by rw [HSH.out]; simp
  rw [hSHl] at eS
  subst eS
  have hSX0 : SH[i0] = X := by
    rw [HX.out.1]
    simp [HSH.out]
  rw [hSX0] at hsS
  obtain ⟨Ax, nx, cx, rfl⟩ := hsS.shape
  obtain ⟨Ak, nk, ck, rfl⟩ := hcm'.shape
  have HCS := Lib.hid hcS
  have HSS2 := Lib.hid hsS
  have HCM2 := Lib.hid hcm'
  have HSX : Hid (w.heap.size + 3 ≤ gS) := Lib.hid (by rw [← HNW.out]; exact hSX)
  clear hsh hcS hsS hcm' hSX hSlt hSHl hSX0 hiS
  go_upto_region 5 with (fail)
  have HW2 : Hid (w.heap.size + 3 ≤ w2.drew.heap.size) := Lib.hid (by
    have := HG2.out.size
    rw [HNW.out] at this
    exact this)
  have HGd : Hid (w1.drew.grownBy w2.drew (some gt)) := Lib.hid (HG2.out.trans ((grown_drewN' w2 1).but _))
  have HD2 : Hid (w2.grownBy w2.drew none) := Lib.hid (grown_drewN' w2 1)
  have HOK := Lib.hid (dOk5 p w2.drew gt (by have := HGT.out.1; have := HW2.out; omega) seed (dltK p) HGD.out)
  have HTI2 : Hid (TapeIn p seed gt (dltK p) w2.drew) := Lib.hid (HTI.out.grown HD2.out (by simp))
  have HB2 : Hid (Bk w2.drew w.heap.size 24 p.cells) := Lib.hid (HB1.out.grown HGd.out (fun e => by injection e with e; have := HGT.out.1; omega))
  have HLD : Hid (∀ vs W, (boxLt HOK.out).C vs W → (∀ o, W.cell? ⟨w.heap.size, o, none⟩ = (#[.int .u64 p.P, .int .u64 p.Q, .int .u64 p.G, .int .u64 p.H, .int .i64 p.Nodes, .int .i64 p.N, .int .i64 p.T, .int .i64 p.K, .int .i64 p.D, .int .i64 p.R, .int .i64 p.M, .int .i64 p.X] : Array Value)[o]?) ∧ W.cell? ⟨gS, oS + i0, none⟩ = some (.slice Ax nx cx)) := Lib.hid (fun vs W hC => by
    have hC : BoxC _ _ _ _ _ _ vs W := hC
    exact ⟨(HB2.out.grown hC.g (fun e => by injection e with e; have := HGT.out.1; omega)).prule, cellK (cellK HCS.out HD2.out (by simp)) hC.g (fun e => by injection e with e; have := HGT.out.1; have := HSX.out; omega)⟩)
  have HMK : Hid (∀ W, w2.drew.grownBy W (some gt) → TapeIn p seed gt (dltK p) W → Calls Tryz.prog 49 #[p.v, .slice Ax nx cx, .int .i64 n, .pointer (some ⟨gt, 0, none⟩)] W fun e w' => ∃ a b c, e = .returned (.tuple #[.agg #[a, b, c], .int .i64 0]) ∧ DL w' a b c M Rs Cs ∧ W.grownBy w' (some gt)) := Lib.hid (fun W hg hb => by
    have hne : ∀ b, w1.drew.heap.size ≤ b → some b ≠ some gt := fun b hb e => by injection e with e; have := HGT.out.1; have := HNW.out; omega
    refine (dmake_any p (.slice Ax nx cx) X n _ W HTP.out HP.out HMAY.out (HTB.out.kept (grown_up HG1d.out (HGd.out.trans hg) (fun r e => by injection e with e; have := HGT.out.1; omega))) ((HSS2.out.kept HD2.out).keep hg hne) (fun b hb e => hne b hb (by rw [e])) (by rw [HX.out.2, HSZ.out.2.2.2.2.1]) ⟨hn1, hn7⟩ (dltK p) (dltT p + 1) (by have := HSZ.out.2.2.2.2.2.1; omega) hb (by
      have h1 := HSZ.out.2.2.2.1
      have h2 := HSZ.out.1
      have h3 := HSZ.out.2.1
      rw [HX.out.2]
      unfold dltK
      have ht : dltT p = 1 ∨ dltT p = 2 := by omega
      rcases ht with ht | ht
      · rw [ht]; omega
      · rw [ht]; omega)).mono ?_
    rintro e w' ⟨vm, vr, vc, rfl, k1, k2, k3, k4, k5⟩
    rw [HX.out.2, HX.out.1] at k1 k2 k3
    refine ⟨vm, vr, vc, rfl, ⟨?_, ?_, ?_⟩, k5⟩
    · rw [HME.out.1]
      exact k1.more fun _ _ _ => trivial
    · rw [HME.out.2.1]
      exact k2.more fun _ _ _ => trivial
    · rw [HME.out.2.2.1]
      exact k3.more fun _ _ _ => trivial)
  refine FR.wp_region_late (boxLt HOK.out) [8, 12, 13] 15 (by kernel_rfl) (by kernel_rfl) (by kernel_rfl) (BoxC.start HTI2.out) ?_
  -- op 0 (slot 36): load
  refine FR.LateR.mono (FR.Qv.eq (p.v)) [] (by kernel_rfl) (by rfl) (fun vs w' hC => ?_) ?_
  · refine FR.askl_do rfl fun K hK => ?_
    have qq := HLD.out vs w' hC
    have hp := qq.1
    have hs := qq.2
    clear qq
    go_simp
    exact hK _ _ rfl ⟨rfl, World.grownBy.refl _ none⟩
  -- op 1 (slot 37): move
  refine FR.LateR.mono (FR.Qv.eq (.slice (some ⟨gS, oS, none⟩) NN cS)) [] (by kernel_rfl) (by rfl) (fun vs w' hC => ?_) ?_
  · refine FR.askl_do rfl fun K hK => ?_
    go_simp
    exact hK _ _ rfl ⟨rfl, World.grownBy.refl _ none⟩
  -- op 2 (slot 38): move
  refine FR.LateR.mono (FR.Qv.eq (.int .i64 ((i0 : Int) + 1))) [] (by kernel_rfl) (by rfl) (fun vs w' hC => ?_) ?_
  · refine FR.askl_do rfl fun K hK => ?_
    go_simp
    exact hK _ _ rfl ⟨rfl, World.grownBy.refl _ none⟩
  -- op 3 (slot 39): binOp
  refine FR.LateR.mono (FR.Qv.eq (.int .i64 (i0 : Int))) [(2, 38)] (by kernel_rfl) (by rfl) (fun vs w' hC => ?_) ?_
  · intro x38 h38
    have e38 : x38 = .int .i64 ((i0 : Int) + 1) := h38
    clear h38
    subst e38
    refine FR.askl_do rfl fun K hK => ?_
    go_simp
    exact hK _ _ rfl ⟨rfl, World.grownBy.refl _ none⟩
  -- op 4 (slot 40): indexAddr
  refine FR.LateR.mono (FR.Qv.eq (.pointer (some ⟨gS, oS + i0, none⟩))) [(1, 37), (3, 39)] (by kernel_rfl) (by rfl) (fun vs w' hC => ?_) ?_
  · intro x37 h37
    intro x39 h39
    have e37 : x37 = .slice (some ⟨gS, oS, none⟩) NN cS := h37
    clear h37
    subst e37
    have e39 : x39 = .int .i64 (i0 : Int) := h39
    clear h39
    subst e39
    refine FR.askl_do rfl fun K hK => ?_
    go_simp
    exact hK _ _ rfl ⟨rfl, World.grownBy.refl _ none⟩
  -- op 5 (slot 41): load
  refine FR.LateR.mono (FR.Qv.eq (.slice Ax nx cx)) [(4, 40)] (by kernel_rfl) (by rfl) (fun vs w' hC => ?_) ?_
  · intro x40 h40
    have e40 : x40 = .pointer (some ⟨gS, oS + i0, none⟩) := h40
    clear h40
    subst e40
    refine FR.askl_do rfl fun K hK => ?_
    have qq := HLD.out vs w' hC
    have hp := qq.1
    have hs := qq.2
    clear qq
    go_simp
    exact hK _ _ rfl ⟨rfl, World.grownBy.refl _ none⟩
  -- op 6 (slot 42): move
  refine FR.LateR.mono (FR.Qv.eq (.int .i64 (n : Int))) [] (by kernel_rfl) (by rfl) (fun vs w' hC => ?_) ?_
  · refine FR.askl_do rfl fun K hK => ?_
    go_simp
    exact hK _ _ rfl ⟨rfl, World.grownBy.refl _ none⟩
  -- op 7 (slot 43): move
  refine FR.LateR.mono (FR.Qv.eq (.pointer (some ⟨gt, 0, none⟩))) [] (by kernel_rfl) (by rfl) (fun vs w' hC => ?_) ?_
  · refine FR.askl_do rfl fun K hK => ?_
    go_simp
    exact hK _ _ rfl ⟨rfl, World.grownBy.refl _ none⟩
  -- op 8 (slot 44): call
  refine FR.LateR.turn 0 [(0, 36), (5, 41), (6, 42), (7, 43)] (by kernel_rfl) [] rfl (by kernel_rfl) (fun vs w' hn hr hC => ?_) ?_
  · intro x36 h36
    intro x41 h41
    intro x42 h42
    intro x43 h43
    have e36 : x36 = p.v := h36
    clear h36
    subst e36
    have e41 : x41 = .slice Ax nx cx := h41
    clear h41
    subst e41
    have e42 : x42 = .int .i64 (n : Int) := h42
    clear h42
    subst e42
    have e43 : x43 = .pointer (some ⟨gt, 0, none⟩) := h43
    clear h43
    subst e43
    refine FR.askl_do rfl fun K hK => ?_
    have hC : BoxC _ _ _ _ _ _ vs w' := hC
    go_simp
    refine (HMK.out w' hC.g (hC.pre hn)).mono ?_
    rintro e w3 ⟨va, vb, vc, rfl, k1, k2⟩
    exact hK _ _ rfl ⟨trivial, BoxC.call HOK.out hC hn (cs := #[va, vb, vc]) ⟨va, vb, vc, rfl, rfl, k1⟩ k2⟩
  -- op 9 (slot 35): move
  refine FR.LateR.mono (boxX) [(8, 44)] (by kernel_rfl) (by rfl) (fun vs w' hC => ?_) ?_
  · intro x44 h44
    refine FR.askl_do rfl fun K hK => ?_
    go_simp
    exact hK _ _ rfl ⟨h44, World.grownBy.refl _ none⟩
  -- op 10 (slot 45): extract
  refine FR.LateR.mono (boxE dF0) [(9, 35)] (by kernel_rfl) (by rfl) (fun vs w' hC => ?_) ?_
  · intro x35 h35
    have h35 : (0, x35) ∈ vs := h35
    refine FR.askl_do rfl fun K hK => ?_
    have hC : BoxC _ _ _ _ _ _ vs w' := hC
    obtain ⟨cs, va, vb, vc, rfl, htt⟩ := hC.told _ h35
    go_simp
    exact hK _ _ rfl ⟨⟨_, h35, rfl⟩, World.grownBy.refl _ none⟩
  -- op 11 (slot 46): extract
  refine FR.LateR.mono (FR.Qv.eq (.int .i64 0)) [(9, 35)] (by kernel_rfl) (by rfl) (fun vs w' hC => ?_) ?_
  · intro x35 h35
    have h35 : (0, x35) ∈ vs := h35
    refine FR.askl_do rfl fun K hK => ?_
    have hC : BoxC _ _ _ _ _ _ vs w' := hC
    obtain ⟨cs, va, vb, vc, rfl, htt⟩ := hC.told _ h35
    go_simp
    exact hK _ _ rfl ⟨rfl, World.grownBy.refl _ none⟩
  -- op 12 (slot 18): alloc
  refine FR.LateR.turn 1 [] (by kernel_rfl) [] rfl (by kernel_rfl) (fun vs w' hn hr hC => ?_) ?_
  · refine FR.askl_do rfl fun K hK => ?_
    have hC : BoxC _ _ _ _ _ _ vs w' := hC
    go_simp
    exact hK _ _ rfl ⟨trivial, BoxC.alloc HOK.out hC hn⟩
  -- op 13 (slot None): store
  refine FR.LateR.turn 2 [(12, 18), (10, 45)] (by kernel_rfl) [0, 1] rfl (by kernel_rfl) (fun vs w' hn hr hC => ?_) ?_
  · intro x18 h18
    intro x45 h45
    have h45 : ∃ x, (0, x) ∈ vs ∧ dF0 x45 x := h45
    refine FR.askl_do rfl fun K hK => ?_
    have hC : BoxC _ _ _ _ _ _ vs w' := hC
    obtain ⟨x, hx, hfx⟩ := h45
    obtain ⟨cs, ht⟩ := hC.told _ hx
    have ht' := ht
    obtain ⟨va, vb, vc, e1, e2, hd⟩ := ht
    subst e1
    obtain rfl : x45 = .agg #[va, vb, vc] := dF0_eq hfx
    obtain ⟨g, eg, hl, hz, _⟩ := hC.box _ h18
    subst eg
    have hb := hz hn
    have f0 := hb.cell 0
    have f1 := hb.cell 1
    have f2 := hb.cell 2
    have ff := hb.free
    simp at f0 f1 f2
    have hst := BoxC.stored HOK.out hC hn (u := undef) hx ht' h18 (e2 ▸ ((hb.set 0 va).set 1 vb).set 2 vc) (((grownSet w' g 0 va).trans (grownSet _ g 1 vb)).trans (grownSet _ g 2 vc))
    obtain ⟨A1, n1, c1, rfl⟩ := hd.1.shape
    obtain ⟨A2, n2, c2, rfl⟩ := hd.2.1.shape
    obtain ⟨A3, n3, c3, rfl⟩ := hd.2.2.shape
    clear ht' hfx hx hd
    go_simp
    exact hK _ _ rfl ⟨trivial, hst⟩
  -- op 14 (slot 19): assign
  refine FR.LateR.mono (FR.Qv.eq (.int .i64 0)) [(11, 46)] (by kernel_rfl) (by rfl) (fun vs w' hC => ?_) ?_
  · intro x46 h46
    have e46 : x46 = .int .i64 0 := h46
    clear h46
    subst e46
    refine FR.askl_do rfl fun K hK => ?_
    go_simp
    exact hK _ _ rfl ⟨rfl, World.grownBy.refl _ none⟩
  intro vs w5 hvl hC5
  have hC5 : BoxC _ _ _ _ _ _ vs w5 := hC5
  intro y0 k0 y1 k1 y2 k2 y3 k3 y4 k4 y5 k5 y6 k6 y7 k7 y8 k8 y9 k9 y10 k10 y11 k11 y12 k12 y13 k13 y14 k14
  show wpList Tryz.prog _ _ _ _ w5
  simp only [Act.put, List.setIfInBounds_toArray, List.set_cons_zero, List.set_cons_succ]
  have e14 : y14 = .int .i64 0 := k14
  subst e14
  obtain ⟨g18, x18, cs18, e18, hl18, hx18, ht18, hb18, hg18⟩ := hC5.fin hvl.2 k12
  subst e18
  obtain ⟨va, vb, vc, _, ec, hd⟩ := ht18
  subst ec
  obtain ⟨Am, nm, cm, rfl⟩ := hd.1.shape
  obtain ⟨Ar, cr, er, _, _⟩ := hd.2.1.form
  obtain ⟨Ac, cc, ec, _, _⟩ := hd.2.2.form
  rw [HME.out.2.2.2.1] at er
  rw [HME.out.2.2.2.2] at ec
  subst er ec
  have HD5 := Lib.hid hd
  have HG5 := Lib.hid hg18
  have HB18 := Lib.hid hb18
  have HL18 : Hid (w.heap.size + 3 ≤ g18) := Lib.hid (Nat.le_trans HW2.out hl18)
  clear k0 k1 k2 k3 k4 k5 k6 k7 k8 k9 k10 k11 k12 k13 k14 hvl hC5 hl18 hx18 hd hb18 hg18 HLD HMK HTI2 HTI
  go_upto_region 6 with (fail)
  have HD5d : Hid (w5.grownBy w5.drew none) := Lib.hid (grown_drewN' w5 1)
  have hngt : ∀ b, w.heap.size + 3 ≤ b → some b ≠ some gt := fun b hb e => by injection e with e; have := HGT.out.1; omega
  have HNG := Lib.hid hngt
  have HG25 : Hid (w1.drew.grownBy w5.drew (some gt)) := Lib.hid ((HGd.out.trans HG5.out).trans (HD5d.out.but _))
  have HR5 : Hid (Bk w5.drew (w.heap.size + 1) 32 #[.slice none 0 0, .slice none 0 0, .slice none 0 0]) := Lib.hid (((HR0.out.grown HG1.out (by simp)).grown (grown_drewN' w1 1) (by simp)).grown HG25.out (fun e => by injection e with e; have := HGT.out.1; omega))
  have HCS5 : Hid (w5.drew.cell? ⟨gS, oS + i0, none⟩ = some (.slice Ax nx cx)) := Lib.hid (cellK (cellK (cellK HCS.out HD2.out (by simp)) HG5.out (hngt _ HSX.out)) HD5d.out (by simp))
  have HSS5 : Hid (Sl encP (fun k => w1.drew.heap.size ≤ k) w5.drew (.slice Ax nx cx) X) := Lib.hid (((HSS2.out.kept HD2.out).keep HG5.out (fun b hb => hngt b (by rw [← HNW.out]; exact hb))).kept HD5d.out)
  have HCM5 : Hid (Sl (encS encU) (fun k => w1.drew.heap.size ≤ k) w5.drew (.slice Ak nk ck) CM) := Lib.hid (((HCM2.out.kept HD2.out).keep HG5.out (fun b hb => hngt b (by rw [← HNW.out]; exact hb))).kept HD5d.out)
  clear hngt
  have HLD : Hid (∀ vs W, (d6Lt w5.drew (w.heap.size + 1) (.slice Am nm cm) (.slice Ar n cr) (.slice Ac n cc)).C vs W → W.cell? ⟨g18, 0, none⟩ = some (.slice Am nm cm) ∧ W.cell? ⟨g18, 1, none⟩ = some (.slice Ar n cr) ∧ W.cell? ⟨g18, 2, none⟩ = some (.slice Ac n cc) ∧ W.cell? ⟨gS, oS + i0, none⟩ = some (.slice Ax nx cx)) := Lib.hid (fun vs W hC => by
    have hb := (HB18.out.grown HD5d.out (by simp)).grown hC.1 (fun e => by injection e with e; have := HL18.out; omega)
    exact ⟨by simpa using hb.cell 0, by simpa using hb.cell 1, by simpa using hb.cell 2, cellK HCS5.out hC.1 (fun e => by injection e with e; have := HSX.out; omega)⟩)
  refine FR.wp_region_late (d6Lt w5.drew (w.heap.size + 1) (.slice Am nm cm) (.slice Ar n cr) (.slice Ac n cc)) [23] 27 (by kernel_rfl) (by kernel_rfl) (by kernel_rfl) ⟨World.grownBy.refl _ _, fun _ => HR5.out, fun h => absurd rfl h⟩ ?_
  -- op 0 (slot 47): load
  refine FR.LateR.mono (FR.Qv.eq (.agg #[.slice Am nm cm, .slice Ar n cr, .slice Ac n cc])) [] (by kernel_rfl) (by rfl) (fun vs w' hC => ?_) ?_
  · refine FR.askl_do rfl fun K hK => ?_
    have qq := HLD.out vs w' hC
    have d0 := qq.1
    have d1 := qq.2.1
    have d2 := qq.2.2.1
    have hs := qq.2.2.2
    clear qq
    go_simp
    exact hK _ _ rfl ⟨rfl, World.grownBy.refl _ none⟩
  -- op 1 (slot 48): move
  refine FR.LateR.mono (FR.Qv.eq (.slice (some ⟨gS, oS, none⟩) NN cS)) [] (by kernel_rfl) (by rfl) (fun vs w' hC => ?_) ?_
  · refine FR.askl_do rfl fun K hK => ?_
    go_simp
    exact hK _ _ rfl ⟨rfl, World.grownBy.refl _ none⟩
  -- op 2 (slot 49): move
  refine FR.LateR.mono (FR.Qv.eq (.int .i64 ((i0 : Int) + 1))) [] (by kernel_rfl) (by rfl) (fun vs w' hC => ?_) ?_
  · refine FR.askl_do rfl fun K hK => ?_
    go_simp
    exact hK _ _ rfl ⟨rfl, World.grownBy.refl _ none⟩
  -- op 3 (slot 50): binOp
  refine FR.LateR.mono (FR.Qv.eq (.int .i64 (i0 : Int))) [(2, 49)] (by kernel_rfl) (by rfl) (fun vs w' hC => ?_) ?_
  · intro x49 h49
    have e49 : x49 = .int .i64 ((i0 : Int) + 1) := h49
    clear h49
    subst e49
    refine FR.askl_do rfl fun K hK => ?_
    go_simp
    exact hK _ _ rfl ⟨rfl, World.grownBy.refl _ none⟩
  -- op 4 (slot 51): indexAddr
  refine FR.LateR.mono (FR.Qv.eq (.pointer (some ⟨gS, oS + i0, none⟩))) [(1, 48), (3, 50)] (by kernel_rfl) (by rfl) (fun vs w' hC => ?_) ?_
  · intro x48 h48
    intro x50 h50
    have e48 : x48 = .slice (some ⟨gS, oS, none⟩) NN cS := h48
    clear h48
    subst e48
    have e50 : x50 = .int .i64 (i0 : Int) := h50
    clear h50
    subst e50
    refine FR.askl_do rfl fun K hK => ?_
    go_simp
    exact hK _ _ rfl ⟨rfl, World.grownBy.refl _ none⟩
  -- op 5 (slot 52): load
  refine FR.LateR.mono (FR.Qv.eq (.slice Ax nx cx)) [(4, 51)] (by kernel_rfl) (by rfl) (fun vs w' hC => ?_) ?_
  · intro x51 h51
    have e51 : x51 = .pointer (some ⟨gS, oS + i0, none⟩) := h51
    clear h51
    subst e51
    refine FR.askl_do rfl fun K hK => ?_
    have qq := HLD.out vs w' hC
    have d0 := qq.1
    have d1 := qq.2.1
    have d2 := qq.2.2.1
    have hs := qq.2.2.2
    clear qq
    go_simp
    exact hK _ _ rfl ⟨rfl, World.grownBy.refl _ none⟩
  -- op 6 (slot 53): move
  refine FR.LateR.mono (FR.Qv.eq (.slice Ak nk ck)) [] (by kernel_rfl) (by rfl) (fun vs w' hC => ?_) ?_
  · refine FR.askl_do rfl fun K hK => ?_
    go_simp
    exact hK _ _ rfl ⟨rfl, World.grownBy.refl _ none⟩
  -- op 7 (slot 54): move
  refine FR.LateR.mono (FR.Qv.eq (.int .i64 0)) [] (by kernel_rfl) (by rfl) (fun vs w' hC => ?_) ?_
  · refine FR.askl_do rfl fun K hK => ?_
    go_simp
    exact hK _ _ rfl ⟨rfl, World.grownBy.refl _ none⟩
  -- op 8 (slot 55): binOp
  refine FR.LateR.mono (FR.Qv.eq (.bool true)) [(7, 54)] (by kernel_rfl) (by rfl) (fun vs w' hC => ?_) ?_
  · intro x54 h54
    have e54 : x54 = .int .i64 0 := h54
    clear h54
    subst e54
    refine FR.askl_do rfl fun K hK => ?_
    go_simp
    exact hK _ _ rfl ⟨rfl, World.grownBy.refl _ none⟩
  -- op 9 (slot 56): move
  refine FR.LateR.mono (FR.Qv.eq (.bool true)) [(8, 55)] (by kernel_rfl) (by rfl) (fun vs w' hC => ?_) ?_
  · intro x55 h55
    have e55 : x55 = .bool true := h55
    clear h55
    subst e55
    refine FR.askl_do rfl fun K hK => ?_
    go_simp
    exact hK _ _ rfl ⟨rfl, World.grownBy.refl _ none⟩
  -- op 10 (slot 57): fieldAddr [(9, 'true')]
  refine FR.LateR.mono (FR.Qv.eq (.pointer (some ⟨g18, 1, none⟩))) [(9, 56)] (by kernel_rfl) (by rfl) (fun vs w' hC => ?_) ?_
  · intro x56 h56
    have e56 : x56 = .bool true := h56
    clear h56
    subst e56
    refine FR.askl_do (by kernel_rfl) fun K hK => ?_
    go_simp
    exact hK _ _ rfl ⟨rfl, World.grownBy.refl _ none⟩
  -- op 11 (slot 58): load [(9, 'true')]
  refine FR.LateR.mono (FR.Qv.eq (.slice Ar n cr)) [(9, 56), (10, 57)] (by kernel_rfl) (by rfl) (fun vs w' hC => ?_) ?_
  · intro x56 h56
    intro x57 h57
    have e56 : x56 = .bool true := h56
    clear h56
    subst e56
    have e57 : x57 = .pointer (some ⟨g18, 1, none⟩) := h57
    clear h57
    subst e57
    refine FR.askl_do (by kernel_rfl) fun K hK => ?_
    have qq := HLD.out vs w' hC
    have d0 := qq.1
    have d1 := qq.2.1
    have d2 := qq.2.2.1
    have hs := qq.2.2.2
    clear qq
    go_simp
    exact hK _ _ rfl ⟨rfl, World.grownBy.refl _ none⟩
  -- op 12 (slot 59): call [(9, 'true')]
  refine FR.LateR.mono (FR.Qv.eq (.int .i64 (n : Int))) [(9, 56), (11, 58)] (by kernel_rfl) (by rfl) (fun vs w' hC => ?_) ?_
  · intro x56 h56
    intro x58 h58
    have e56 : x56 = .bool true := h56
    clear h56
    subst e56
    have e58 : x58 = .slice Ar n cr := h58
    clear h58
    subst e58
    refine FR.askl_do (by kernel_rfl) fun K hK => ?_
    go_simp
    exact hK _ _ rfl ⟨rfl, World.grownBy.refl _ none⟩
  -- op 13 (slot 60): move [(9, 'true')]
  refine FR.LateR.mono (FR.Qv.eq (.int .i64 (n : Int))) [(9, 56)] (by kernel_rfl) (by rfl) (fun vs w' hC => ?_) ?_
  · intro x56 h56
    have e56 : x56 = .bool true := h56
    clear h56
    subst e56
    refine FR.askl_do (by kernel_rfl) fun K hK => ?_
    go_simp
    exact hK _ _ rfl ⟨rfl, World.grownBy.refl _ none⟩
  -- op 14 (slot 61): binOp [(9, 'true')]
  refine FR.LateR.mono (FR.Qv.eq (.bool true)) [(9, 56), (12, 59), (13, 60)] (by kernel_rfl) (by rfl) (fun vs w' hC => ?_) ?_
  · intro x56 h56
    intro x59 h59
    intro x60 h60
    have e56 : x56 = .bool true := h56
    clear h56
    subst e56
    have e59 : x59 = .int .i64 (n : Int) := h59
    clear h59
    subst e59
    have e60 : x60 = .int .i64 (n : Int) := h60
    clear h60
    subst e60
    refine FR.askl_do (by kernel_rfl) fun K hK => ?_
    go_simp
    exact hK _ _ rfl ⟨rfl, World.grownBy.refl _ none⟩
  -- op 15 (slot 62): pick
  refine FR.LateR.mono (FR.Qv.eq (.bool true)) [(9, 56), (14, 61)] (by kernel_rfl) (by rfl) (fun vs w' hC => ?_) ?_
  · intro x56 h56
    intro x61 h61
    have e56 : x56 = .bool true := h56
    clear h56
    subst e56
    have e61 : x61 = .bool true := h61
    clear h61
    subst e61
    refine FR.askl_do rfl fun K hK => ?_
    go_simp
    exact hK _ _ rfl ⟨rfl, World.grownBy.refl _ none⟩
  -- op 16 (slot 63): move
  refine FR.LateR.mono (FR.Qv.eq (.bool true)) [(15, 62)] (by kernel_rfl) (by rfl) (fun vs w' hC => ?_) ?_
  · intro x62 h62
    have e62 : x62 = .bool true := h62
    clear h62
    subst e62
    refine FR.askl_do rfl fun K hK => ?_
    go_simp
    exact hK _ _ rfl ⟨rfl, World.grownBy.refl _ none⟩
  -- op 17 (slot 64): fieldAddr [(16, 'true')]
  refine FR.LateR.mono (FR.Qv.eq (.pointer (some ⟨g18, 2, none⟩))) [(16, 63)] (by kernel_rfl) (by rfl) (fun vs w' hC => ?_) ?_
  · intro x63 h63
    have e63 : x63 = .bool true := h63
    clear h63
    subst e63
    refine FR.askl_do (by kernel_rfl) fun K hK => ?_
    go_simp
    exact hK _ _ rfl ⟨rfl, World.grownBy.refl _ none⟩
  -- op 18 (slot 65): load [(16, 'true')]
  refine FR.LateR.mono (FR.Qv.eq (.slice Ac n cc)) [(16, 63), (17, 64)] (by kernel_rfl) (by rfl) (fun vs w' hC => ?_) ?_
  · intro x63 h63
    intro x64 h64
    have e63 : x63 = .bool true := h63
    clear h63
    subst e63
    have e64 : x64 = .pointer (some ⟨g18, 2, none⟩) := h64
    clear h64
    subst e64
    refine FR.askl_do (by kernel_rfl) fun K hK => ?_
    have qq := HLD.out vs w' hC
    have d0 := qq.1
    have d1 := qq.2.1
    have d2 := qq.2.2.1
    have hs := qq.2.2.2
    clear qq
    go_simp
    exact hK _ _ rfl ⟨rfl, World.grownBy.refl _ none⟩
  -- op 19 (slot 66): call [(16, 'true')]
  refine FR.LateR.mono (FR.Qv.eq (.int .i64 (n : Int))) [(16, 63), (18, 65)] (by kernel_rfl) (by rfl) (fun vs w' hC => ?_) ?_
  · intro x63 h63
    intro x65 h65
    have e63 : x63 = .bool true := h63
    clear h63
    subst e63
    have e65 : x65 = .slice Ac n cc := h65
    clear h65
    subst e65
    refine FR.askl_do (by kernel_rfl) fun K hK => ?_
    go_simp
    exact hK _ _ rfl ⟨rfl, World.grownBy.refl _ none⟩
  -- op 20 (slot 67): move [(16, 'true')]
  refine FR.LateR.mono (FR.Qv.eq (.int .i64 (n : Int))) [(16, 63)] (by kernel_rfl) (by rfl) (fun vs w' hC => ?_) ?_
  · intro x63 h63
    have e63 : x63 = .bool true := h63
    clear h63
    subst e63
    refine FR.askl_do (by kernel_rfl) fun K hK => ?_
    go_simp
    exact hK _ _ rfl ⟨rfl, World.grownBy.refl _ none⟩
  -- op 21 (slot 68): binOp [(16, 'true')]
  refine FR.LateR.mono (FR.Qv.eq (.bool true)) [(16, 63), (19, 66), (20, 67)] (by kernel_rfl) (by rfl) (fun vs w' hC => ?_) ?_
  · intro x63 h63
    intro x66 h66
    intro x67 h67
    have e63 : x63 = .bool true := h63
    clear h63
    subst e63
    have e66 : x66 = .int .i64 (n : Int) := h66
    clear h66
    subst e66
    have e67 : x67 = .int .i64 (n : Int) := h67
    clear h67
    subst e67
    refine FR.askl_do (by kernel_rfl) fun K hK => ?_
    go_simp
    exact hK _ _ rfl ⟨rfl, World.grownBy.refl _ none⟩
  -- op 22 (slot 69): pick
  refine FR.LateR.mono (FR.Qv.eq (.bool true)) [(16, 63), (21, 68)] (by kernel_rfl) (by rfl) (fun vs w' hC => ?_) ?_
  · intro x63 h63
    intro x68 h68
    have e63 : x63 = .bool true := h63
    clear h63
    subst e63
    have e68 : x68 = .bool true := h68
    clear h68
    subst e68
    refine FR.askl_do rfl fun K hK => ?_
    go_simp
    exact hK _ _ rfl ⟨rfl, World.grownBy.refl _ none⟩
  -- op 23 (slot None): store
  refine FR.LateR.turn 0 [(0, 47)] (by kernel_rfl) [] rfl (by kernel_rfl) (fun vs w' hn hr hC => ?_) ?_
  · intro x47 h47
    have e47 : x47 = .agg #[.slice Am nm cm, .slice Ar n cr, .slice Ac n cc] := h47
    clear h47
    subst e47
    refine FR.askl_do rfl fun K hK => ?_
    have hvs : vs = [] := by
      cases vs with
      | nil => rfl
      | cons a vs => exact absurd (hC.2.2 (by simp)).1 hn
    have hb := hC.2.1 hvs
    have f0 := hb.cell 0
    have f1 := hb.cell 1
    have f2 := hb.cell 2
    have ff := hb.free
    simp at f0 f1 f2
    have hst := d6_store (u := undef) hC hvs
    clear hvs
    go_simp
    exact hK _ _ rfl ⟨trivial, hst⟩
  -- op 24 (slot 11): assign
  refine FR.LateR.mono (FR.Qv.eq (.slice Ax nx cx)) [(5, 52)] (by kernel_rfl) (by rfl) (fun vs w' hC => ?_) ?_
  · intro x52 h52
    have e52 : x52 = .slice Ax nx cx := h52
    clear h52
    subst e52
    refine FR.askl_do rfl fun K hK => ?_
    go_simp
    exact hK _ _ rfl ⟨rfl, World.grownBy.refl _ none⟩
  -- op 25 (slot 12): assign
  refine FR.LateR.mono (FR.Qv.eq (.slice Ak nk ck)) [(6, 53)] (by kernel_rfl) (by rfl) (fun vs w' hC => ?_) ?_
  · intro x53 h53
    have e53 : x53 = .slice Ak nk ck := h53
    clear h53
    subst e53
    refine FR.askl_do rfl fun K hK => ?_
    go_simp
    exact hK _ _ rfl ⟨rfl, World.grownBy.refl _ none⟩
  -- op 26 (slot 13): assign
  refine FR.LateR.mono (FR.Qv.eq (.bool true)) [(22, 69)] (by kernel_rfl) (by rfl) (fun vs w' hC => ?_) ?_
  · intro x69 h69
    have e69 : x69 = .bool true := h69
    clear h69
    subst e69
    refine FR.askl_do rfl fun K hK => ?_
    go_simp
    exact hK _ _ rfl ⟨rfl, World.grownBy.refl _ none⟩
  intro vs w6 hvl hC6
  intro y0 k0 y1 k1 y2 k2 y3 k3 y4 k4 y5 k5 y6 k6 y7 k7 y8 k8 y9 k9 y10 k10 y11 k11 y12 k12 y13 k13 y14 k14 y15 k15 y16 k16 y17 k17 y18 k18 y19 k19 y20 k20 y21 k21 y22 k22 y23 k23 y24 k24 y25 k25 y26 k26
  show wpList Tryz.prog _ _ _ _ w6
  simp only [Act.put, List.setIfInBounds_toArray, List.set_cons_zero, List.set_cons_succ]
  have e24 : y24 = .slice Ax nx cx := k24
  have e25 : y25 = .slice Ak nk ck := k25
  have e26 : y26 = .bool true := k26
  subst e24 e25 e26
  obtain ⟨hg6, _, hb6⟩ := hC6
  have hne : vs ≠ [] := fun e => by
    have := (hvl.2 0).1 (by decide)
    rw [e] at this
    cases this
  have HB6 := Lib.hid (hb6 hne).2
  have HFIN : Hid (DL w6 (.slice Am nm cm) (.slice Ar n cr) (.slice Ac n cc) M Rs Cs ∧ Sl encP TT w6 (.slice Ax nx cx) X ∧ Sl (encS encU) TT w6 (.slice Ak nk ck) CM ∧ w.grownBy w6 none) := Lib.hid ⟨(HD5.out.kept HD5d.out).stored HGD.out HR5.out hg6,
    (HSS5.out.keep hg6 (fun b hb e => by injection e with e; have := HNW.out; omega)).more fun _ _ _ => trivial,
    (HCM5.out.keep hg6 (fun b hb e => by injection e with e; have := HNW.out; omega)).more fun _ _ _ => trivial,
    grown_up (grown_up HG1d.out HG25.out (fun r e => by injection e with e; have := HGT.out.1; omega)) hg6 (fun r e => by injection e with e; omega)⟩
  clear k0 k1 k2 k3 k4 k5 k6 k7 k8 k9 k10 k11 k12 k13 k14 k15 k16 k17 k18 k19 k20 k21 k22 k23 k24 k25 k26 hvl hg6 hb6 hne HLD HD5 HB18 HR5 HCS5 HSS5 HCM5
  go_wp2_with fail
  refine ⟨rfl, _, results_dealt rfl _ rfl rfl rfl rfl HB6.out, ?_⟩
  exact ⟨_, _, _, _, _, rfl, HFIN.out⟩
end Go.Proofs.YtnjkelojkoeihaaGreatDoor

namespace Go.Proofs.YtnjkelojkoeihaaGreatDoor
open Go Go.RowKit

/-- Numbers do not lie in a block in which no two of them stand side by side. -/
theorem sl_apartU {X : Nat → Prop} {W : World} {v : Value} {S : List Int} (h : Sl encU X W v S) (h2 : 2 ≤ S.length) {b : Nat} {t : TypeId} {cs : Array Value} (hb : Bk W b t cs) (hc : ∀ i a c, cs[i]? = some (.int .u64 a) → cs[i + 1]? = some (.int .u64 c) → False) : Sl encU (fun g => g ≠ b) W v S := by
  obtain ⟨A, c, e, h3, h4, h5⟩ := h
  refine ⟨A, c, e, h3, h4, fun hn => ?_⟩
  obtain ⟨g, o, eA, lt, _, hi⟩ := h5 hn
  refine ⟨g, o, eA, lt, fun eg => ?_, hi⟩
  subst eg
  obtain ⟨c0, ⟨r0, _⟩, k0⟩ := hi 0 (by omega)
  obtain ⟨c1, ⟨r1, _⟩, k1⟩ := hi 1 (by omega)
  have q0 := k0 0 (.int .u64 S[0]) (by rw [r0]; rfl)
  have q1 := k1 0 (.int .u64 S[1]) (by rw [r1]; rfl)
  rw [hb.cell] at q0 q1
  exact hc o _ _ (by simpa [encU] using q0) (by simpa [encU] using q1)
/-- No two numbers side by side. -/
def NoTwo (cs : Array Value) : Prop := ∀ i a c, cs[i]? = some (.int .u64 a) → cs[i + 1]? = some (.int .u64 c) → False
theorem tape_ints (A : Option Addr) (n c0 : Nat) (s d : Int) : NoTwo #[.int .u64 s, .slice A n c0, .int .i64 d]
  | 0, a, c, _, h => by simp at h
  | 1, a, c, h, _ => by simp at h
  | 2, a, c, h, _ => by simp at h
  | n + 3, a, c, h, _ => by simp at h
end Go.Proofs.YtnjkelojkoeihaaGreatDoor

namespace Go.Proofs.YtnjkelojkoeihaaGreatDoor
open Go.RowKit

set_option maxHeartbeats 400000 in
theorem next_ahead (b g o n c : Nat) (x : Int) (s d q : Int) (w : World) (hx : U64 x) (hq : U64 q) (hd0 : 0 ≤ d) (hd : d < 4611686018427387904)
    (hb : Bk w b 114 #[.int .u64 s, .slice (some ⟨g, o, none⟩) (n + 1) c, .int .i64 d]) (hc : w.cell? ⟨g, o, none⟩ = some (.int .u64 x)) (hgb : g ≠ b) (_hn : n + 1 ≤ c) (h1c : 1 < c) (hcm : c ≤ 9223372036854775807) :
    Calls Tryz.prog 80 #[.pointer (some ⟨b, 0, none⟩), .int .u64 q] w fun e w' => e = .returned (.int .u64 (belowI x q)) ∧ Bk w' b 114 #[.int .u64 s, .slice (some ⟨g, o + 1, none⟩) n (c - 1), .int .i64 (d + 1)] ∧ w.grownBy w' (some b) := by
  have c1 : w.cell? ⟨b, 1, none⟩ = some (.slice (some ⟨g, o, none⟩) (n + 1) c) := hb.cell 1
  have c2 : w.cell? ⟨b, 2, none⟩ = some (.int .i64 d) := hb.cell 2
  have f1 : w.frozen? ⟨b, 1, none⟩ = false := hb.free 1
  have f2 : w.frozen? ⟨b, 2, none⟩ = false := hb.free 2
  have HB := Lib.hid hb
  have HL := Lib.hid (fun w => below_any x q w hx hq)
  have hne : ¬ (b = g) := fun h => hgb h.symm
  clear hb hx hq
  go_enter Tryz.func80, Tryz.ntmps80
  go_wp2_with fail
  refine (HL.out _).mono ?_
  rintro e w' ⟨rfl, n1, rfl⟩
  go_wp2
  go_ret
  refine ⟨rfl, ?_, ?_⟩
  · exact Bk.drewN (((HB.out.set 2 _).set 1 _).of_eq rfl) _
  · exact grownBy_drewN (grownBy_set (grownBy_set (World.grownBy.refl w _) 2 _) 1 _) _

set_option maxHeartbeats 400000 in
theorem next_last (b g o : Nat) (x : Int) (s d q : Int) (w : World) (hx : U64 x) (hq : U64 q) (hd0 : 0 ≤ d) (hd : d < 4611686018427387904)
    (hb : Bk w b 114 #[.int .u64 s, .slice (some ⟨g, o, none⟩) 1 1, .int .i64 d]) (hc : w.cell? ⟨g, o, none⟩ = some (.int .u64 x)) (hgb : g ≠ b) :
    Calls Tryz.prog 80 #[.pointer (some ⟨b, 0, none⟩), .int .u64 q] w fun e w' => e = .returned (.int .u64 (belowI x q)) ∧ Bk w' b 114 #[.int .u64 s, .slice (some ⟨g, o, none⟩) 0 0, .int .i64 (d + 1)] ∧ w.grownBy w' (some b) := by
  have c1 : w.cell? ⟨b, 1, none⟩ = some (.slice (some ⟨g, o, none⟩) 1 1) := hb.cell 1
  have c2 : w.cell? ⟨b, 2, none⟩ = some (.int .i64 d) := hb.cell 2
  have f1 : w.frozen? ⟨b, 1, none⟩ = false := hb.free 1
  have f2 : w.frozen? ⟨b, 2, none⟩ = false := hb.free 2
  have HB := Lib.hid hb
  have HL := Lib.hid (fun w => below_any x q w hx hq)
  have hne : ¬ (b = g) := fun h => hgb h.symm
  clear hb hx hq
  go_enter Tryz.func80, Tryz.ntmps80
  go_wp2_with fail
  refine (HL.out _).mono ?_
  rintro e w' ⟨rfl, n1, rfl⟩
  go_wp2
  go_ret
  refine ⟨rfl, ?_, ?_⟩
  · exact Bk.drewN (((HB.out.set 2 _).set 1 _).of_eq rfl) _
  · exact grownBy_drewN (grownBy_set (grownBy_set (World.grownBy.refl w _) 2 _) 1 _) _

set_option maxHeartbeats 400000 in
theorem new_any (s : Int) (w : World) :
    Calls Tryz.prog 47 #[.int .u64 s] w fun e w' => e = .returned (.pointer (some ⟨w.heap.size, 0, none⟩)) ∧ w' = w.alloc (.cells #[.int .u64 s, .slice none 0 0, .int .i64 0] 114) := by
  go_enter Tryz.func47, Tryz.ntmps47
  go_wp2_with fail
  go_ret
  exact ⟨rfl, rfl⟩

theorem eq_nil (w : World) (A : Option Addr) (n c : Nat) : (binOp .eql 25 (.slice A n c) (.slice none 0 0)).run Tryz.prog w = .ok (.bool A.isNone) w :=
  Lib.run_eql_slice_nil w _ 22 A n c 0 0 Tryz.underlying25
/-- What a copy of numbers leaves: a slice of its own that reads as they do. -/
def Cloned (w : World) (l : List Int) (e : Ending) (w' : World) : Prop := ∃ A c, e = .returned (.slice A l.length c) ∧ Rd w' A (nums l) ∧ l.length ≤ c ∧ c ≤ 9223372036854775807 ∧ (∀ g o, A = some ⟨g, o, none⟩ → w.heap.size ≤ g ∧ g < w'.heap.size) ∧ w.grownBy w' none
theorem cloned_of {w w0 w1 : World} {l : List Int} {v : Value} {n : Nat} {row : Option Nat} (hn : n = l.length) (hown : w1.ownsRow w.heap.size 22 1 v n (nums l)) (hg0 : w.grownBy w0 none) (hg : w0.grownBy w1 row) (hr : ∀ g, row = some g → w.heap.size ≤ g) : Cloned w l (.returned v) w1 := by
  subst hn
  have hG := grown_up hg0 hg hr
  rcases hown.2 with ⟨hv, h0⟩ | ⟨g, cap, cur, hv, hb, hh, hnc, hcm, _, _⟩
  · subst hv
    refine ⟨none, 0, by rw [h0], ?_, by omega, by omega, by simp, hG⟩
    have : l = [] := List.eq_nil_of_length_eq_zero h0
    subst this
    exact Rd.nil _ _
  · subst hv
    exact ⟨_, cap, rfl, Rd.own hown, hnc, hcm, fun g' o e => by injection e with e; injection e with e1 e2 e3; subst e1; exact ⟨hb, Bk.lt hh⟩, hG⟩

set_option maxHeartbeats 400000 in
theorem clone_some (x : Addr) (c : Nat) (l : List Int) (w : World) (hr : Rd w (some x) (nums l)) (hn : l.length * 8 ≤ 140737488351232) :
    Calls Tryz.prog 83 #[.slice (some x) l.length c] w (Cloned w l) := by
  obtain ⟨i0, hi, hz0, hz1, hz2⟩ := info_parts u64_info
  have heq := fun w => eq_nil w (some x) l.length c
  have hown := World.ownsRow_made (base := w.heap.size) (e := 22) (size := 1) w #[] 0 (Nat.le_refl _) (Nat.zero_le _) rfl
  have hr1 : Rd (w.alloc (.cells #[] 22)) (some x) (nums l) := hr.grown (World.grownBy_alloc w _ none) (by simp)
  have hc := hr1.addr
  go_enter Tryz.func83, Tryz.ntmps83
  go_wp2_with (at_builtin; refine wpList_append_own _ rfl (.tmp 5) (.tmp 6) 25 rfl w.heap.size 22 i0 (.int .u64 0) 1 8 Tryz.underlying25 hi hz0 hz1 hz2 rfl (by decide) _ _ _ rfl hown x l.length c (nums l) rfl (by simp [nums]) hc (nums_one l) (by unfold maxLen; omega) (by omega) (by simp) ?_)
  intro v' w1 hown1 hgrow _
  have HO := Lib.hid hown1
  have HG := Lib.hid hgrow
  clear hown1 hgrow hc hr1 hown
  go_wp2
  go_ret
  exact cloned_of (by simp) HO.out (World.grownBy_alloc w _ none) HG.out (by simp [Value.ownBlock])

theorem clone_none (c : Nat) (w : World) :
    Calls Tryz.prog 83 #[.slice none 0 c] w fun e w' => e = .returned (.slice none 0 0) ∧ w' = w := by
  have heq := fun w => eq_nil w none 0 c
  go_enter Tryz.func83, Tryz.ntmps83
  go_wp2
  go_ret
  exact ⟨rfl, rfl⟩

/-- The slice value v reads as the numbers l. -/
def SlIs (w : World) (v : Value) (l : List Int) : Prop := ∃ A c, v = .slice A l.length c ∧ Rd w A (nums l) ∧ l.length ≤ c ∧ c ≤ 9223372036854775807
theorem SlIs.kept {w w' : World} {v : Value} {l : List Int} (h : SlIs w v l) (hg : w.grownBy w' none) : SlIs w' v l := by
  obtain ⟨A, c, e, hr, h1, h2⟩ := h
  exact ⟨A, c, e, hr.grown hg (by simp), h1, h2⟩
theorem clone_any (v : Value) (l : List Int) (w : World) (h : SlIs w v l) (hn : l.length * 8 ≤ 140737488351232) :
    Calls Tryz.prog 83 #[v] w (Cloned w l) := by
  obtain ⟨A, c, rfl, hr, _, _⟩ := h
  cases A with
  | none =>
    have hl : l = [] := by
      cases l with
      | nil => rfl
      | cons x l => obtain ⟨g, o, e, _⟩ := hr (by simp [nums]); cases e
    subst hl
    refine (clone_none c w).mono ?_
    rintro e w' ⟨rfl, rfl⟩
    exact ⟨none, 0, rfl, Rd.nil _ _, Nat.le_refl _, by omega, by simp, World.grownBy.refl _ _⟩
  | some x => exact clone_some x c l w hr hn
end Go.Proofs.YtnjkelojkoeihaaGreatDoor

namespace Go.Proofs.YtnjkelojkoeihaaGreatDoor
open Go.RowKit

theorem TapeIs.grown {w w' : World} {b ga : Nat} {T : TS} {row : Option Nat} (h : TapeIs w b ga T) (hg : w.grownBy w' row) (hb : some b ≠ row) (ha : some ga ≠ row) : TapeIs w' b ga T := by
  obtain ⟨A, c, hk, h1, h2, h3⟩ := h
  refine ⟨A, c, hk.grown hg hb, h1, h2, fun hn => ?_⟩
  obtain ⟨h4, h5, o, h6, h7⟩ := h3 hn
  exact ⟨h4, Nat.lt_of_lt_of_le h5 hg.size, o, h6, fun j u hu => (World.cell?_of_block (w := w) (hg.block ga h5 ha)).trans (h7 j u hu)⟩
/-- Behind a call that leaves all old memory alone. -/
theorem TapeIs.kept {w w' : World} {b ga : Nat} {T : TS} (h : TapeIs w b ga T) (hg : w.grownBy w' none) : TapeIs w' b ga T :=
  h.grown hg (by simp) (by simp)
theorem TapeIs.lt {w : World} {b ga : Nat} {T : TS} (h : TapeIs w b ga T) : b < w.heap.size := by
  obtain ⟨A, c, hk, _⟩ := h
  exact hk.lt

def TapeMade (w : World) (T : TS) (e : Ending) (w' : World) : Prop := ∃ b ga, e = .returned (.pointer (some ⟨b, 0, none⟩)) ∧ TapeIs w' b ga T ∧ w.heap.size ≤ b ∧ w.heap.size ≤ ga ∧ ga < w'.heap.size ∧ w.grownBy w' none

theorem new_made (s : Int) (w : World) : Calls Tryz.prog 47 #[.int .u64 s] w (TapeMade w ⟨[], s, 0⟩) := by
  refine (new_any s w).mono ?_
  rintro e w' ⟨rfl, rfl⟩
  have hb : Bk (w.alloc (.cells #[.int .u64 s, .slice none 0 0, .int .i64 0] 114)) w.heap.size 114 #[.int .u64 s, .slice none 0 0, .int .i64 0] := Bk.new w _ _
  exact ⟨w.heap.size, w.heap.size, rfl, ⟨none, 0, hb, Nat.le_refl _, by omega, fun h => absurd rfl h⟩, Nat.le_refl _, Nat.le_refl _, by simp, World.grownBy_alloc w _ none⟩

set_option maxHeartbeats 400000 in
theorem of_made (v : Value) (l : List Int) (s : Int) (w : World) (h : SlIs w v l) (hn : l.length * 8 ≤ 140737488351232) :
    Calls Tryz.prog 31 #[v, .int .u64 s] w (TapeMade w ⟨l, s, 0⟩) := by
  have HC := Lib.hid (clone_any v l w h hn)
  clear h
  go_enter Tryz.func31, Tryz.ntmps31
  go_wp2_with fail
  refine HC.out.mono ?_
  rintro e w1 ⟨A, c, rfl, hr, h1, h2, h3, hg⟩
  have HX := Lib.hid (And.intro hr (And.intro h1 (And.intro h2 (And.intro h3 hg))))
  clear hr h1 h2 h3 hg
  go_wp2
  go_ret
  obtain ⟨hr, h1, h2, h3, hg⟩ := HX.out
  have hb : Bk (w1.alloc (.cells #[.int .u64 s, .slice A l.length c, .int .i64 0] 114)) w1.heap.size 114 #[.int .u64 s, .slice A l.length c, .int .i64 0] := Bk.new w1 _ _
  by_cases h0 : l = []
  · subst h0
    exact ⟨w1.heap.size, w1.heap.size, rfl, ⟨A, c, hb, h1, h2, fun h => absurd rfl h⟩, hg.size, hg.size, by simp, grown_up hg (World.grownBy_alloc w1 _ none) (by simp)⟩
  · have hr2 : Rd (w1.alloc (.cells #[.int .u64 s, .slice A l.length c, .int .i64 0] 114)) A (nums l) := hr.grown (World.grownBy_alloc w1 _ none) (by simp)
    obtain ⟨g, o, e, _, hcell⟩ := hr2 (by simpa [nums] using h0)
    have hlt := h3 g o e
    exact ⟨w1.heap.size, g, rfl, ⟨A, c, hb, h1, h2, fun _ => ⟨by omega, by simp; omega, o, e, hcell⟩⟩, hg.size, hlt.1, by simp; omega, grown_up hg (World.grownBy_alloc w1 _ none) (by simp)⟩

/-- What a draw leaves. -/
def Drawn (w : World) (b ga : Nat) (q : Int) (T : TS) (e : Ending) (w' : World) : Prop := e = .returned (.int .u64 (T.val q)) ∧ TapeIs w' b ga (T.next q) ∧ w.grownBy w' (some b)
theorem next_any (b ga : Nat) (q : Int) (T : TS) (w : World) (h : TapeIs w b ga T) (hT : T.ok) (hq : U64 q) :
    Calls Tryz.prog 80 #[.pointer (some ⟨b, 0, none⟩), .int .u64 q] w (Drawn w b ga q T) := by
  obtain ⟨hx, hs, hd0, hd1⟩ := hT
  obtain ⟨A, c, hk, h1, h2, h3⟩ := h
  obtain ⟨l, s, d⟩ := T
  cases l with
  | nil =>
    refine (next_own b A c s d q w hs hq hd0 hd1 hk).mono ?_
    rintro e w' ⟨rfl, hk', hg⟩
    exact ⟨rfl, ⟨A, c, hk', h1, h2, fun h => absurd rfl h⟩, hg⟩
  | cons x l =>
    obtain ⟨hne, hlt, o, rfl, hc⟩ := h3 (by simp)
    have hc0 : w.cell? ⟨ga, o, none⟩ = some (.int .u64 x) := hc 0 _ rfl
    simp only [List.length_cons] at hk h1
    by_cases hlast : 1 < c
    · refine (next_ahead b ga o l.length c x s d q w (hx x (by simp)) hq hd0 hd1 hk hc0 hne (by simpa using h1) hlast h2).mono ?_
      rintro e w' ⟨rfl, hk', hg⟩
      refine ⟨rfl, ⟨_, c - 1, hk', by simp only [TS.next]; omega, by omega, fun _ => ⟨hne, Nat.lt_of_lt_of_le hlt hg.size, o + 1, rfl, fun j u hu => ?_⟩⟩, hg⟩
      rw [World.cell?_of_block (w := w) (hg.block ga hlt (by simpa using hne)), show o + 1 + j = o + (j + 1) by omega]
      exact hc (j + 1) u (by simpa [nums, TS.next] using hu)
    · have hl : l = [] := List.eq_nil_of_length_eq_zero (by omega)
      subst hl
      have hc1 : c = 1 := by simp at h1; omega
      subst hc1
      refine (next_last b ga o x s d q w (hx x (by simp)) hq hd0 hd1 hk hc0 hne).mono ?_
      rintro e w' ⟨rfl, hk', hg⟩
      exact ⟨rfl, ⟨_, 0, hk', Nat.le_refl _, by omega, fun h => absurd rfl h⟩, hg⟩
end Go.Proofs.YtnjkelojkoeihaaGreatDoor

namespace Go.Proofs.YtnjkelojkoeihaaGreatDoor
open Go Go.RowKit

/-- A tape behind k draws below q. -/
def tsk (q : Int) (T : TS) : Nat → TS
  | 0 => T
  | k + 1 => (tsk q T k).next q
theorem tsnext_d (q : Int) (T : TS) : (T.next q).d = T.d + 1 := by
  obtain ⟨l, s, d⟩ := T
  cases l <;> rfl
theorem tsnext_ok {q : Int} {T : TS} (h : T.ok) (hd : T.d + 1 < 4611686018427387904) : (T.next q).ok := by
  obtain ⟨hx, hs, hd0, hd1⟩ := h
  obtain ⟨l, s, d⟩ := T
  cases l with
  | nil => exact ⟨by simp [TS.next], drawS_U64 q s hs, by simp [TS.next] at *; omega, by simpa [TS.next] using hd⟩
  | cons x l => exact ⟨fun y hy => hx y (by simp [TS.next] at hy; simp [hy]), hs, by simp [TS.next] at *; omega, by simpa [TS.next] using hd⟩
theorem tsk_ok {q : Int} {T : TS} (h : T.ok) : ∀ k : Nat, T.d + k < 4611686018427387904 → (tsk q T k).ok ∧ (tsk q T k).d = T.d + k
  | 0, _ => ⟨h, by simp [tsk]⟩
  | k + 1, hd => by
    obtain ⟨h1, h2⟩ := tsk_ok h k (by omega)
    refine ⟨tsnext_ok h1 (by omega), ?_⟩
    show ((tsk q T k).next q).d = _
    rw [tsnext_d, h2]
    omega
theorem tsk_ahead {q : Int} {T : TS} (h : ∀ x ∈ T.ahead, U64 x) : ∀ k : Nat, ∀ x ∈ (tsk q T k).ahead, U64 x
  | 0, x, hx => h x hx
  | k + 1, x, hx => by
    have ih := tsk_ahead (q := q) h k
    have hx : x ∈ ((tsk q T k).next q).ahead := hx
    generalize tsk q T k = T1 at ih hx
    obtain ⟨l, s, d⟩ := T1
    cases l with
    | nil => simp [TS.next] at hx
    | cons y l => exact ih x (by simp [TS.next] at hx; simp [hx])
theorem tp_ahead (b ga : Nat) (q : Int) (T : TS) (hT : T.ok) (hd : T.d ≤ 1000) (hq : U64 q) : Tp b q (fun k => (tsk q T k).val q) (fun k w => TapeIs w b ga (tsk q T k) ∧ ga < w.heap.size) (fun x => x = b ∨ x = ga) 1000000 where
  own := .inl rfl
  old := fun h e => by
    rcases e with e | e
    · subst e; exact h.1.lt
    · subst e; exact h.2
  val := fun k => by
    have ih := tsk_ahead (q := q) hT.1 k
    generalize tsk q T k = T1 at ih
    obtain ⟨l, s, d⟩ := T1
    cases l with
    | nil => exact drawX_U64 q s hq
    | cons x l => exact belowI_U64 _ _ (ih x (by simp)) hq
  keep := fun h hg hr => ⟨h.1.grown hg (fun e => hr b e.symm (.inl rfl)) (fun e => hr ga e.symm (.inr rfl)), Nat.lt_of_lt_of_le h.2 hg.size⟩
  next := fun {k w} hk h => (next_any b ga q (tsk q T k) w h.1 (tsk_ok hT k (by omega)).1 hq).mono fun _ _ ⟨h1, h2, h3⟩ => ⟨h1, ⟨h2, Nat.lt_of_lt_of_le h.2 h3.size⟩, h3⟩
end Go.Proofs.YtnjkelojkoeihaaGreatDoor

namespace Go.Proofs.YtnjkelojkoeihaaGreatDoor
open Go.RowKit


set_option maxHeartbeats 400000 in
theorem cutU_any (v : Value) (l : List Int) (n k : Nat) (X Y : Nat → Prop) (w : World) (h : Sl encU X w v l) (hn : 1 ≤ n) (hl : l.length = k * n) (hb : l.length ≤ 100000) (hY : ∀ g, w.heap.size ≤ g → Y g) (hXY : ∀ cs y w', Enc.rep encU (fun g => X g ∧ g < w.heap.size) w' cs y → Enc.rep encU (fun g => Y g ∧ g < w.heap.size) w' cs y) :
    Calls Tryz.prog 72 #[v, .int .i64 n] w (Gives (encW encU) Y w (chk n l k)) := by
  have hk : k ≤ 100000 := by
    have : k * 1 ≤ k * n := Nat.mul_le_mul_left k hn
    omega
  have hn2 : k ≠ 0 → n ≤ 100000 := fun h0 => by
    have : 1 * n ≤ k * n := Nat.mul_le_mul_right n (by omega)
    omega
  have HL := Lib.hid hl
  have HN2 := Lib.hid hn2
  have HY := Lib.hid hY
  have HXY := Lib.hid hXY
  have HST : Hid (Sl encU X w v (l.drop (0 * n)) ∧ Acc (encW encU) w.heap.size 25 Y w (.slice none 0 0) (chk n l 0) ∧ w.grownBy w none) := Lib.hid ⟨by simpa using h, Acc.nil _ _ _ _ _, World.grownBy.refl w none⟩
  clear h hl hn2 hY hXY hb
  go_enter Tryz.func72, Tryz.ntmps72
  go_wp2_with fail
  go_loopg [0, 5] k (fun g s0 s5 wx => ∃ j : Nat, j + g = k ∧ Hid (Sl encU X w s0 (l.drop (j * n)) ∧ Acc (encW encU) w.heap.size 25 Y wx s5 (chk n l j) ∧ w.grownBy wx none))
  case atStart => exact ⟨0, by omega, HST⟩
  case round =>
    obtain ⟨j, hj, HX⟩ := hrel
    cases gk with
    | zero =>
      obtain rfl : j = k := by omega
      obtain ⟨hs, hacc, hg⟩ := HX.out
      obtain ⟨A, c, rfl, _, _⟩ := hs.form
      have h0 : (l.drop (j * n)).length = 0 := by rw [List.length_drop, HL.out]; omega
      rw [h0]
      have HR : Hid (Sl (encW encU) Y wr u5 (chk n l j)) := Lib.hid hacc.sl
      have HG := Lib.hid hg
      clear hs hacc hg HX h0 HST
      go_wp2
      go_ret
      exact ⟨_, rfl, HR.out, HG.out⟩
    | succ m =>
      obtain ⟨hs, hacc, hg⟩ := HX.out
      have hmul : (j + 1 + m) * n = j * n + n + m * n := by rw [Nat.add_mul, Nat.add_mul, Nat.one_mul]
      have hlen : l.length = j * n + n + m * n := by rw [HL.out, ← hj, ← hmul]; congr 1; omega
      have hd : (l.drop (j * n)).length = n + m * n := by rw [List.length_drop]; omega
      obtain ⟨A, c, e0, hc1, hc2⟩ := hs.form
      subst e0
      obtain ⟨ga, oa, eA, hga, _⟩ := hs.addr (by omega)
      subst eA
      have HTK : Hid (Sl encU X w (.slice (some ⟨ga, oa, none⟩) n c) ((l.drop (j * n)).take n)) := Lib.hid (hs.take n (by omega))
      have HDR : Hid (Sl encU X w (.slice (some ⟨ga, oa + n, none⟩) (n + m * n - n) (c - n)) (l.drop ((j + 1) * n))) := Lib.hid (by
        rw [hd] at hs
        have := hs.drop n (by omega)
        rwa [List.drop_drop, show j * n + n = (j + 1) * n by rw [Nat.add_mul, Nat.one_mul], show n * Enc.size encU = n from Nat.mul_one n] at this)
      have HD0 : Hid (m = 0 → l.drop ((j + 1) * n) = []) := Lib.hid (fun hm => List.drop_eq_nil_of_le (by rw [hlen, hm, Nat.add_mul]; omega))
      have HTL : Hid (((l.drop (j * n)).take n).length = n) := Lib.hid (by rw [List.length_take, hd]; omega)
      rw [hd] at hc1 ⊢
      have hn3 : n ≤ 100000 := HN2.out (by omega)
      have HAC := Lib.hid hacc
      have HG := Lib.hid hg
      have HSN := Lib.hid (chk_succ n l j)
      have HCL := Lib.hid (chk_length n l j)
      obtain ⟨q, hq⟩ : ∃ q, q = n + m * n := ⟨_, rfl⟩
      rw [← hq] at hc1 ⊢
      have hqn : n ≤ q := by omega
      clear hs hacc hg HX hd hlen hmul HST
      have HQ := Lib.hid hq
      have i1 : (0 : Int) < (q : Int) := by omega
      have i2 : (n : Int) ≤ (q : Int) := by omega
      have i3 : (n : Int) ≤ (c : Int) := by omega
      have i4 : (0 : Int) ≤ (n : Int) := by omega
      clear hq
      have HOW : Hid (∀ g, u5.ownBlock = some g → w.heap.size ≤ g ∧ g < wr.heap.size) := Lib.hid HAC.out.lt
      have HZ : Hid (∀ cs y, Enc.rep encU (fun g => X g ∧ g < w.heap.size) (wr.alloc (.cells #[] 22)) cs y → Enc.rep encU (fun g => (Y g ∧ some g ≠ u5.ownBlock) ∧ some g ≠ (Value.slice (some ⟨wr.heap.size, 0, none⟩) 0 0).ownBlock) (wr.alloc (.cells #[] 22)) cs y) :=
        Lib.hid (fun cs y hr => Enc.more _ (HXY.out _ _ _ hr) fun g _ hg => ⟨⟨hg.1, fun e => by have := HOW.out g e.symm; have := hg.2; omega⟩, fun e => by simp [Value.ownBlock] at e; have := hg.2; have := HG.out.size; omega⟩)
      have HSB : Hid (Sl encU (fun g => X g ∧ g < w.heap.size) (wr.alloc (.cells #[] 22)) (.slice (some ⟨ga, oa, none⟩) n c) ((l.drop (j * n)).take n)) := Lib.hid (HTK.out.bounded.kept (HG.out.trans (World.grownBy_alloc wr _ none)))
      have HBY : Hid ((([] : List Int).length + ((l.drop (j * n)).take n).length) * 8 ≤ 140737488355328) := Lib.hid (by rw [HTL.out]; simp; omega)
      have HNX : Hid (∀ g, (wr.alloc (.cells #[] 22)).heap.size ≤ g → Y g ∧ some g ≠ u5.ownBlock) := Lib.hid (fun g hg => ⟨HY.out g (by have := HG.out.size; simp at hg; omega), fun e => by have := HOW.out g e.symm; simp at hg; omega⟩)
      go_wp2_with (at_builtin; refine wpList_apps rfl (.tmp 13) (.tmp 16) rfl (E := encU) el_u64 (Acc.made _ wr 22 (Nat.le_refl _) (fun g => Y g ∧ some g ≠ u5.ownBlock) ⟨HY.out _ HG.out.size, fun e => by have := HOW.out _ e.symm; omega⟩) rfl rfl HSB.out HZ.out HBY.out (by simp) HNX.out ?_)
      intro v1 w1 hacc1 hg1 hm1
      obtain ⟨A1, c1, e1, _, _⟩ := hacc1.sl.form
      rw [HTL.out] at e1
      subst e1
      have HA1 := Lib.hid hacc1
      have HG1 : Hid (wr.grownBy w1 none) := Lib.hid (grown_up (World.grownBy_alloc wr _ none) hg1 (fun g e => by simp [Value.ownBlock] at e; omega))
      have HREP : Hid (Enc.rep (encW encU) (fun g => Y g ∧ some g ≠ u5.ownBlock) w1 [.slice A1 n c1] ((l.drop (j * n)).take n)) := Lib.hid (by
        have hn0 : 0 < ((l.drop (j * n)).take n).length := by rw [HTL.out]; omega
        exact ⟨_, rfl, hacc1.sl, hacc1.wr hn0⟩)
      clear hacc1 hg1 hm1
      have HLB : Hid (((chk n l j).length + 1) * 24 ≤ 140737488355328) := Lib.hid (by rw [HCL.out]; omega)
      have HAC1 := Lib.hid (HAC.out.kept HG1.out)
      have HG2 := Lib.hid (HG.out.trans HG1.out)
      have HBS : Hid (w.heap.size ≤ w1.heap.size) := Lib.hid HG2.out.size
      have HNY : Hid (∀ g, w1.heap.size ≤ g → Y g) := Lib.hid (fun g hg => HY.out g (Nat.le_trans HBS.out hg))
      go_wp2_with (at_builtin; refine wpList_push rfl (.tmp 12) (.tmp 18) rfl (E := encW encU) el_nums HAC1.out rfl rfl HREP.out HLB.out HBS.out HNY.out ?_)
      intro v2 w2 hacc2 hg2 hm2
      have HG3 : Hid (w.grownBy w2 none) := Lib.hid (grown_up HG2.out hg2 (fun g e => (HAC1.out.lt g e).1))
      have HG4 : Hid (wr.grownBy w2 u5.ownBlock) := Lib.hid ((grown_weak HG1.out).trans hg2)
      have HA2 : Hid (Acc (encW encU) w.heap.size 25 Y w2 v2 (chk n l (j + 1))) := Lib.hid (by rw [HSN.out]; exact hacc2)
      clear hacc2 hg2 hm2
      have HE : Hid (c = n → l.drop ((j + 1) * n) = []) := Lib.hid (fun hcn => HD0.out (by
        rcases Nat.eq_zero_or_pos m with h | h
        · exact h
        · have := Nat.mul_le_mul h (Nat.le_refl n)
          have := HQ.out
          omega))
      have HDR2 : Hid (Sl encU X w (.slice (some ⟨ga, oa + n, none⟩) (q - n) (c - n)) (l.drop ((j + 1) * n))) := Lib.hid (by rw [HQ.out]; exact HDR.out)
      clear HDR
      go_wp2_with fail
      all_goals
        go_roundg m
        case measure => omega
        case rel => first | exact ⟨j + 1, by omega, Lib.hid ⟨HDR2.out, HA2.out, HG3.out⟩⟩ | exact ⟨j + 1, by omega, Lib.hid ⟨by rw [HE.out (by assumption), show q - n = 0 by omega]; exact Sl.empty _ _ _ _ _ (by omega), HA2.out, HG3.out⟩⟩

set_option maxHeartbeats 400000 in
theorem cutR_any (v : Value) (l : List (List Int)) (n k : Nat) (X Y : Nat → Prop) (w : World) (h : Sl (encW encU) X w v l) (hn : 1 ≤ n) (hl : l.length = k * n) (hb : l.length ≤ 100000) (hY : ∀ g, w.heap.size ≤ g → Y g) (hXY : ∀ cs y w', Enc.rep (encW encU) (fun g => X g ∧ g < w.heap.size) w' cs y → Enc.rep (encW encU) (fun g => Y g ∧ g < w.heap.size) w' cs y) :
    Calls Tryz.prog 71 #[v, .int .i64 n] w (Gives (encW (encW encU)) Y w (chk n l k)) := by
  have hk : k ≤ 100000 := by
    have : k * 1 ≤ k * n := Nat.mul_le_mul_left k hn
    omega
  have hn2 : k ≠ 0 → n ≤ 100000 := fun h0 => by
    have : 1 * n ≤ k * n := Nat.mul_le_mul_right n (by omega)
    omega
  have HL := Lib.hid hl
  have HN2 := Lib.hid hn2
  have HY := Lib.hid hY
  have HXY := Lib.hid hXY
  have HST : Hid (Sl (encW encU) X w v (l.drop (0 * n)) ∧ Acc (encW (encW encU)) w.heap.size 34 Y w (.slice none 0 0) (chk n l 0) ∧ w.grownBy w none) := Lib.hid ⟨by simpa using h, Acc.nil _ _ _ _ _, World.grownBy.refl w none⟩
  clear h hl hn2 hY hXY hb
  go_enter Tryz.func71, Tryz.ntmps71
  go_wp2_with fail
  go_loopg [0, 5] k (fun g s0 s5 wx => ∃ j : Nat, j + g = k ∧ Hid (Sl (encW encU) X w s0 (l.drop (j * n)) ∧ Acc (encW (encW encU)) w.heap.size 34 Y wx s5 (chk n l j) ∧ w.grownBy wx none))
  case atStart => exact ⟨0, by omega, HST⟩
  case round =>
    obtain ⟨j, hj, HX⟩ := hrel
    cases gk with
    | zero =>
      obtain rfl : j = k := by omega
      obtain ⟨hs, hacc, hg⟩ := HX.out
      obtain ⟨A, c, rfl, _, _⟩ := hs.form
      have h0 : (l.drop (j * n)).length = 0 := by rw [List.length_drop, HL.out]; omega
      rw [h0]
      have HR : Hid (Sl (encW (encW encU)) Y wr u5 (chk n l j)) := Lib.hid hacc.sl
      have HG := Lib.hid hg
      clear hs hacc hg HX h0 HST
      go_wp2
      go_ret
      exact ⟨_, rfl, HR.out, HG.out⟩
    | succ m =>
      obtain ⟨hs, hacc, hg⟩ := HX.out
      have hmul : (j + 1 + m) * n = j * n + n + m * n := by rw [Nat.add_mul, Nat.add_mul, Nat.one_mul]
      have hlen : l.length = j * n + n + m * n := by rw [HL.out, ← hj, ← hmul]; congr 1; omega
      have hd : (l.drop (j * n)).length = n + m * n := by rw [List.length_drop]; omega
      obtain ⟨A, c, e0, hc1, hc2⟩ := hs.form
      subst e0
      obtain ⟨ga, oa, eA, hga, _⟩ := hs.addr (by omega)
      subst eA
      have HTK : Hid (Sl (encW encU) X w (.slice (some ⟨ga, oa, none⟩) n c) ((l.drop (j * n)).take n)) := Lib.hid (hs.take n (by omega))
      have HDR : Hid (Sl (encW encU) X w (.slice (some ⟨ga, oa + n, none⟩) (n + m * n - n) (c - n)) (l.drop ((j + 1) * n))) := Lib.hid (by
        rw [hd] at hs
        have := hs.drop n (by omega)
        rwa [List.drop_drop, show j * n + n = (j + 1) * n by rw [Nat.add_mul, Nat.one_mul], show n * Enc.size (encW encU) = n from Nat.mul_one n] at this)
      have HD0 : Hid (m = 0 → l.drop ((j + 1) * n) = []) := Lib.hid (fun hm => List.drop_eq_nil_of_le (by rw [hlen, hm, Nat.add_mul]; omega))
      have HTL : Hid (((l.drop (j * n)).take n).length = n) := Lib.hid (by rw [List.length_take, hd]; omega)
      rw [hd] at hc1 ⊢
      have hn3 : n ≤ 100000 := HN2.out (by omega)
      have HAC := Lib.hid hacc
      have HG := Lib.hid hg
      have HSN := Lib.hid (chk_succ n l j)
      have HCL := Lib.hid (chk_length n l j)
      obtain ⟨q, hq⟩ : ∃ q, q = n + m * n := ⟨_, rfl⟩
      rw [← hq] at hc1 ⊢
      have hqn : n ≤ q := by omega
      clear hs hacc hg HX hd hlen hmul HST
      have HQ := Lib.hid hq
      have i1 : (0 : Int) < (q : Int) := by omega
      have i2 : (n : Int) ≤ (q : Int) := by omega
      have i3 : (n : Int) ≤ (c : Int) := by omega
      have i4 : (0 : Int) ≤ (n : Int) := by omega
      clear hq
      have HOW : Hid (∀ g, u5.ownBlock = some g → w.heap.size ≤ g ∧ g < wr.heap.size) := Lib.hid HAC.out.lt
      have HZ : Hid (∀ cs y, Enc.rep (encW encU) (fun g => X g ∧ g < w.heap.size) (wr.alloc (.cells #[] 25)) cs y → Enc.rep (encW encU) (fun g => (Y g ∧ some g ≠ u5.ownBlock) ∧ some g ≠ (Value.slice (some ⟨wr.heap.size, 0, none⟩) 0 0).ownBlock) (wr.alloc (.cells #[] 25)) cs y) :=
        Lib.hid (fun cs y hr => Enc.more _ (HXY.out _ _ _ hr) fun g _ hg => ⟨⟨hg.1, fun e => by have := HOW.out g e.symm; have := hg.2; omega⟩, fun e => by simp [Value.ownBlock] at e; have := hg.2; have := HG.out.size; omega⟩)
      have HSB : Hid (Sl (encW encU) (fun g => X g ∧ g < w.heap.size) (wr.alloc (.cells #[] 25)) (.slice (some ⟨ga, oa, none⟩) n c) ((l.drop (j * n)).take n)) := Lib.hid (HTK.out.bounded.kept (HG.out.trans (World.grownBy_alloc wr _ none)))
      have HBY : Hid ((([] : List (List Int)).length + ((l.drop (j * n)).take n).length) * 24 ≤ 140737488355328) := Lib.hid (by rw [HTL.out]; simp; omega)
      have HNX : Hid (∀ g, (wr.alloc (.cells #[] 25)).heap.size ≤ g → Y g ∧ some g ≠ u5.ownBlock) := Lib.hid (fun g hg => ⟨HY.out g (by have := HG.out.size; simp at hg; omega), fun e => by have := HOW.out g e.symm; simp at hg; omega⟩)
      go_wp2_with (at_builtin; refine wpList_apps rfl (.tmp 13) (.tmp 16) rfl (E := (encW encU)) el_nums (Acc.made _ wr 25 (Nat.le_refl _) (fun g => Y g ∧ some g ≠ u5.ownBlock) ⟨HY.out _ HG.out.size, fun e => by have := HOW.out _ e.symm; omega⟩) rfl rfl HSB.out HZ.out HBY.out (by simp) HNX.out ?_)
      intro v1 w1 hacc1 hg1 hm1
      obtain ⟨A1, c1, e1, _, _⟩ := hacc1.sl.form
      rw [HTL.out] at e1
      subst e1
      have HA1 := Lib.hid hacc1
      have HG1 : Hid (wr.grownBy w1 none) := Lib.hid (grown_up (World.grownBy_alloc wr _ none) hg1 (fun g e => by simp [Value.ownBlock] at e; omega))
      have HREP : Hid (Enc.rep (encW (encW encU)) (fun g => Y g ∧ some g ≠ u5.ownBlock) w1 [.slice A1 n c1] ((l.drop (j * n)).take n)) := Lib.hid (by
        have hn0 : 0 < ((l.drop (j * n)).take n).length := by rw [HTL.out]; omega
        exact ⟨_, rfl, hacc1.sl, hacc1.wr hn0⟩)
      clear hacc1 hg1 hm1
      have HLB : Hid (((chk n l j).length + 1) * 24 ≤ 140737488355328) := Lib.hid (by rw [HCL.out]; omega)
      have HAC1 := Lib.hid (HAC.out.kept HG1.out)
      have HG2 := Lib.hid (HG.out.trans HG1.out)
      have HBS : Hid (w.heap.size ≤ w1.heap.size) := Lib.hid HG2.out.size
      have HNY : Hid (∀ g, w1.heap.size ≤ g → Y g) := Lib.hid (fun g hg => HY.out g (Nat.le_trans HBS.out hg))
      go_wp2_with (at_builtin; refine wpList_push rfl (.tmp 12) (.tmp 18) rfl (E := encW (encW encU)) el_rows HAC1.out rfl rfl HREP.out HLB.out HBS.out HNY.out ?_)
      intro v2 w2 hacc2 hg2 hm2
      have HG3 : Hid (w.grownBy w2 none) := Lib.hid (grown_up HG2.out hg2 (fun g e => (HAC1.out.lt g e).1))
      have HG4 : Hid (wr.grownBy w2 u5.ownBlock) := Lib.hid ((grown_weak HG1.out).trans hg2)
      have HA2 : Hid (Acc (encW (encW encU)) w.heap.size 34 Y w2 v2 (chk n l (j + 1))) := Lib.hid (by rw [HSN.out]; exact hacc2)
      clear hacc2 hg2 hm2
      have HE : Hid (c = n → l.drop ((j + 1) * n) = []) := Lib.hid (fun hcn => HD0.out (by
        rcases Nat.eq_zero_or_pos m with h | h
        · exact h
        · have := Nat.mul_le_mul h (Nat.le_refl n)
          have := HQ.out
          omega))
      have HDR2 : Hid (Sl (encW encU) X w (.slice (some ⟨ga, oa + n, none⟩) (q - n) (c - n)) (l.drop ((j + 1) * n))) := Lib.hid (by rw [HQ.out]; exact HDR.out)
      clear HDR
      go_wp2_with fail
      all_goals
        go_roundg m
        case measure => omega
        case rel => first | exact ⟨j + 1, by omega, Lib.hid ⟨HDR2.out, HA2.out, HG3.out⟩⟩ | exact ⟨j + 1, by omega, Lib.hid ⟨by rw [HE.out (by assumption), show q - n = 0 by omega]; exact Sl.empty _ _ _ _ _ (by omega), HA2.out, HG3.out⟩⟩

set_option maxHeartbeats 400000 in
theorem cutP_any (v : Value) (l : List (Int × Int)) (n k : Nat) (X Y : Nat → Prop) (w : World) (h : Sl encP X w v l) (hn : 1 ≤ n) (hl : l.length = k * n) (hb : l.length ≤ 100000) (hY : ∀ g, w.heap.size ≤ g → Y g) (hXY : ∀ cs y w', Enc.rep encP (fun g => X g ∧ g < w.heap.size) w' cs y → Enc.rep encP (fun g => Y g ∧ g < w.heap.size) w' cs y) :
    Calls Tryz.prog 108 #[v, .int .i64 n] w (Gives (encW encP) Y w (chk n l k)) := by
  have hk : k ≤ 100000 := by
    have : k * 1 ≤ k * n := Nat.mul_le_mul_left k hn
    omega
  have hn2 : k ≠ 0 → n ≤ 100000 := fun h0 => by
    have : 1 * n ≤ k * n := Nat.mul_le_mul_right n (by omega)
    omega
  have HL := Lib.hid hl
  have HN2 := Lib.hid hn2
  have HY := Lib.hid hY
  have HXY := Lib.hid hXY
  have HST : Hid (Sl encP X w v (l.drop (0 * n)) ∧ Acc (encW encP) w.heap.size 33 Y w (.slice none 0 0) (chk n l 0) ∧ w.grownBy w none) := Lib.hid ⟨by simpa using h, Acc.nil _ _ _ _ _, World.grownBy.refl w none⟩
  clear h hl hn2 hY hXY hb
  go_enter Tryz.func108, Tryz.ntmps108
  go_wp2_with fail
  go_loopg [0, 5] k (fun g s0 s5 wx => ∃ j : Nat, j + g = k ∧ Hid (Sl encP X w s0 (l.drop (j * n)) ∧ Acc (encW encP) w.heap.size 33 Y wx s5 (chk n l j) ∧ w.grownBy wx none))
  case atStart => exact ⟨0, by omega, HST⟩
  case round =>
    obtain ⟨j, hj, HX⟩ := hrel
    cases gk with
    | zero =>
      obtain rfl : j = k := by omega
      obtain ⟨hs, hacc, hg⟩ := HX.out
      obtain ⟨A, c, rfl, _, _⟩ := hs.form
      have h0 : (l.drop (j * n)).length = 0 := by rw [List.length_drop, HL.out]; omega
      rw [h0]
      have HR : Hid (Sl (encW encP) Y wr u5 (chk n l j)) := Lib.hid hacc.sl
      have HG := Lib.hid hg
      clear hs hacc hg HX h0 HST
      go_wp2
      go_ret
      exact ⟨_, rfl, HR.out, HG.out⟩
    | succ m =>
      obtain ⟨hs, hacc, hg⟩ := HX.out
      have hmul : (j + 1 + m) * n = j * n + n + m * n := by rw [Nat.add_mul, Nat.add_mul, Nat.one_mul]
      have hlen : l.length = j * n + n + m * n := by rw [HL.out, ← hj, ← hmul]; congr 1; omega
      have hd : (l.drop (j * n)).length = n + m * n := by rw [List.length_drop]; omega
      obtain ⟨A, c, e0, hc1, hc2⟩ := hs.form
      subst e0
      obtain ⟨ga, oa, eA, hga, _⟩ := hs.addr (by omega)
      subst eA
      have HTK : Hid (Sl encP X w (.slice (some ⟨ga, oa, none⟩) n c) ((l.drop (j * n)).take n)) := Lib.hid (hs.take n (by omega))
      have HDR : Hid (Sl encP X w (.slice (some ⟨ga, oa + n * 2, none⟩) (n + m * n - n) (c - n)) (l.drop ((j + 1) * n))) := Lib.hid (by
        rw [hd] at hs
        have := hs.drop n (by omega)
        rwa [List.drop_drop, show j * n + n = (j + 1) * n by rw [Nat.add_mul, Nat.one_mul]] at this)
      have HD0 : Hid (m = 0 → l.drop ((j + 1) * n) = []) := Lib.hid (fun hm => List.drop_eq_nil_of_le (by rw [hlen, hm, Nat.add_mul]; omega))
      have HTL : Hid (((l.drop (j * n)).take n).length = n) := Lib.hid (by rw [List.length_take, hd]; omega)
      rw [hd] at hc1 ⊢
      have hn3 : n ≤ 100000 := HN2.out (by omega)
      have HAC := Lib.hid hacc
      have HG := Lib.hid hg
      have HSN := Lib.hid (chk_succ n l j)
      have HCL := Lib.hid (chk_length n l j)
      obtain ⟨q, hq⟩ : ∃ q, q = n + m * n := ⟨_, rfl⟩
      rw [← hq] at hc1 ⊢
      have hqn : n ≤ q := by omega
      clear hs hacc hg HX hd hlen hmul HST
      have HQ := Lib.hid hq
      have i1 : (0 : Int) < (q : Int) := by omega
      have i2 : (n : Int) ≤ (q : Int) := by omega
      have i3 : (n : Int) ≤ (c : Int) := by omega
      have i4 : (0 : Int) ≤ (n : Int) := by omega
      clear hq
      have HOW : Hid (∀ g, u5.ownBlock = some g → w.heap.size ≤ g ∧ g < wr.heap.size) := Lib.hid HAC.out.lt
      have HZ : Hid (∀ cs y, Enc.rep encP (fun g => X g ∧ g < w.heap.size) (wr.alloc (.cells #[] 58)) cs y → Enc.rep encP (fun g => (Y g ∧ some g ≠ u5.ownBlock) ∧ some g ≠ (Value.slice (some ⟨wr.heap.size, 0, none⟩) 0 0).ownBlock) (wr.alloc (.cells #[] 58)) cs y) :=
        Lib.hid (fun cs y hr => Enc.more _ (HXY.out _ _ _ hr) fun g _ hg => ⟨⟨hg.1, fun e => by have := HOW.out g e.symm; have := hg.2; omega⟩, fun e => by simp [Value.ownBlock] at e; have := hg.2; have := HG.out.size; omega⟩)
      have HSB : Hid (Sl encP (fun g => X g ∧ g < w.heap.size) (wr.alloc (.cells #[] 58)) (.slice (some ⟨ga, oa, none⟩) n c) ((l.drop (j * n)).take n)) := Lib.hid (HTK.out.bounded.kept (HG.out.trans (World.grownBy_alloc wr _ none)))
      have HBY : Hid ((([] : List (Int × Int)).length + ((l.drop (j * n)).take n).length) * 16 ≤ 140737488355328) := Lib.hid (by rw [HTL.out]; simp; omega)
      have HNX : Hid (∀ g, (wr.alloc (.cells #[] 58)).heap.size ≤ g → Y g ∧ some g ≠ u5.ownBlock) := Lib.hid (fun g hg => ⟨HY.out g (by have := HG.out.size; simp at hg; omega), fun e => by have := HOW.out g e.symm; simp at hg; omega⟩)
      go_wp2_with (at_builtin; refine wpList_apps rfl (.tmp 13) (.tmp 16) rfl (E := encP) el_pair (Acc.made _ wr 58 (Nat.le_refl _) (fun g => Y g ∧ some g ≠ u5.ownBlock) ⟨HY.out _ HG.out.size, fun e => by have := HOW.out _ e.symm; omega⟩) rfl rfl HSB.out HZ.out HBY.out (by simp) HNX.out ?_)
      intro v1 w1 hacc1 hg1 hm1
      obtain ⟨A1, c1, e1, _, _⟩ := hacc1.sl.form
      rw [HTL.out] at e1
      subst e1
      have HA1 := Lib.hid hacc1
      have HG1 : Hid (wr.grownBy w1 none) := Lib.hid (grown_up (World.grownBy_alloc wr _ none) hg1 (fun g e => by simp [Value.ownBlock] at e; omega))
      have HREP : Hid (Enc.rep (encW encP) (fun g => Y g ∧ some g ≠ u5.ownBlock) w1 [.slice A1 n c1] ((l.drop (j * n)).take n)) := Lib.hid (by
        have hn0 : 0 < ((l.drop (j * n)).take n).length := by rw [HTL.out]; omega
        exact ⟨_, rfl, hacc1.sl, hacc1.wr hn0⟩)
      clear hacc1 hg1 hm1
      have HLB : Hid (((chk n l j).length + 1) * 24 ≤ 140737488355328) := Lib.hid (by rw [HCL.out]; omega)
      have HAC1 := Lib.hid (HAC.out.kept HG1.out)
      have HG2 := Lib.hid (HG.out.trans HG1.out)
      have HBS : Hid (w.heap.size ≤ w1.heap.size) := Lib.hid HG2.out.size
      have HNY : Hid (∀ g, w1.heap.size ≤ g → Y g) := Lib.hid (fun g hg => HY.out g (Nat.le_trans HBS.out hg))
      go_wp2_with (at_builtin; refine wpList_push rfl (.tmp 12) (.tmp 18) rfl (E := encW encP) el_pairs HAC1.out rfl rfl HREP.out HLB.out HBS.out HNY.out ?_)
      intro v2 w2 hacc2 hg2 hm2
      have HG3 : Hid (w.grownBy w2 none) := Lib.hid (grown_up HG2.out hg2 (fun g e => (HAC1.out.lt g e).1))
      have HG4 : Hid (wr.grownBy w2 u5.ownBlock) := Lib.hid ((grown_weak HG1.out).trans hg2)
      have HA2 : Hid (Acc (encW encP) w.heap.size 33 Y w2 v2 (chk n l (j + 1))) := Lib.hid (by rw [HSN.out]; exact hacc2)
      clear hacc2 hg2 hm2
      have HE : Hid (c = n → l.drop ((j + 1) * n) = []) := Lib.hid (fun hcn => HD0.out (by
        rcases Nat.eq_zero_or_pos m with h | h
        · exact h
        · have := Nat.mul_le_mul h (Nat.le_refl n)
          have := HQ.out
          omega))
      have HDR2 : Hid (Sl encP X w (.slice (some ⟨ga, oa + n * 2, none⟩) (q - n) (c - n)) (l.drop ((j + 1) * n))) := Lib.hid (by rw [HQ.out]; exact HDR.out)
      clear HDR
      go_wp2_with fail
      all_goals
        go_roundg m
        case measure => omega
        case rel => first | exact ⟨j + 1, by omega, Lib.hid ⟨HDR2.out, HA2.out, HG3.out⟩⟩ | exact ⟨j + 1, by omega, Lib.hid ⟨by rw [HE.out (by assumption), show q - n = 0 by omega]; exact Sl.empty _ _ _ _ _ (by omega), HA2.out, HG3.out⟩⟩

end Go.Proofs.YtnjkelojkoeihaaGreatDoor

namespace Go.Proofs.YtnjkelojkoeihaaGreatDoor
open Go.RowKit

def dsmallB (p : Par) : Bool := decide (0 ≤ p.K) && decide (p.K ≤ 2) && decide (0 ≤ p.D) && decide (p.D ≤ 4) && decide (0 ≤ p.T) && decide (p.T ≤ 2)
theorem dsmallB_iff (p : Par) : dsmallB p = true ↔ 0 ≤ p.K ∧ p.K ≤ 2 ∧ 0 ≤ p.D ∧ p.D ≤ 4 ∧ 0 ≤ p.T ∧ p.T ≤ 2 := by
  simp [dsmallB, and_assoc]
theorem small_yes (p : Par) (w : World) (h : dsmallB p = true) : Calls Tryz.prog 69 #[p.v] w fun e w' => e = .returned (.bool true) ∧ w.grownBy w' none := by
  obtain ⟨a, b, c, d, e, f⟩ := (dsmallB_iff p).1 h
  clear h
  go_enter Tryz.func69, Tryz.ntmps69
  go_wp2_with fail
  all_goals
    go_ret
    exact ⟨rfl, World.grownBy_alloc w _ none⟩
theorem small_no (p : Par) (w : World) (h : dsmallB p = false) : Calls Tryz.prog 69 #[p.v] w fun e w' => e = .returned (.bool false) ∧ w.grownBy w' none := by
  have hn : ¬ (0 ≤ p.K ∧ p.K ≤ 2 ∧ 0 ≤ p.D ∧ p.D ≤ 4 ∧ 0 ≤ p.T ∧ p.T ≤ 2) := fun k => by rw [(dsmallB_iff p).2 k] at h; cases h
  clear h
  by_cases a : 0 ≤ p.K
  · by_cases c : 0 ≤ p.D
    · by_cases e : 0 ≤ p.T
      · by_cases b : p.K ≤ 2
        · by_cases d : p.D ≤ 4
          · have f : ¬ p.T ≤ 2 := by omega
            clear hn
            go_enter Tryz.func69, Tryz.ntmps69
            go_wp2_with fail
            all_goals (first | (go_ret; exact ⟨rfl, World.grownBy_alloc w _ none⟩) | (exfalso; omega))
          · clear hn
            go_enter Tryz.func69, Tryz.ntmps69
            go_wp2_with fail
            all_goals (first | (go_ret; exact ⟨rfl, World.grownBy_alloc w _ none⟩) | (exfalso; omega))
        · clear hn
          go_enter Tryz.func69, Tryz.ntmps69
          go_wp2_with fail
          all_goals (first | (go_ret; exact ⟨rfl, World.grownBy_alloc w _ none⟩) | (exfalso; omega))
      · clear hn
        go_enter Tryz.func69, Tryz.ntmps69
        go_wp2_with fail
        all_goals (first | (go_ret; exact ⟨rfl, World.grownBy_alloc w _ none⟩) | (exfalso; omega))
    · clear hn
      go_enter Tryz.func69, Tryz.ntmps69
      go_wp2_with fail
      all_goals (first | (go_ret; exact ⟨rfl, World.grownBy_alloc w _ none⟩) | (exfalso; omega))
  · clear hn
    go_enter Tryz.func69, Tryz.ntmps69
    go_wp2_with fail
    all_goals (first | (go_ret; exact ⟨rfl, World.grownBy_alloc w _ none⟩) | (exfalso; omega))
theorem dlret_i64 {a b : Int} (h : a = b) : Ending.returned (.int .i64 a) = .returned (.int .i64 b) := by rw [h]
def secI (p : Par) : Int := p.K * (p.D + 1)
theorem secI_bds {p : Par} (h : dsmallB p = true) : 0 ≤ secI p ∧ secI p ≤ 10 := by
  obtain ⟨a, b, c, d, e, f⟩ := (dsmallB_iff p).1 h
  have h1 : p.K * (p.D + 1) ≤ 2 * 5 := Int.mul_le_mul b (by omega) (by omega) (by omega)
  have h2 : 0 ≤ p.K * (p.D + 1) := Int.mul_nonneg a (by omega)
  unfold secI
  omega
theorem dlsecrets_any (p : Par) (w : World) (h : dsmallB p = true) : Calls Tryz.prog 70 #[p.v] w fun e w' => e = .returned (.int .i64 (secI p)) ∧ w.grownBy w' none := by
  obtain ⟨a, b, c, d, e, f⟩ := (dsmallB_iff p).1 h
  have HE : Hid (p.K * (p.D + 1) = secI p) := Lib.hid rfl
  have h1 : p.K * (p.D + 1) ≤ 2 * 5 := Int.mul_le_mul b (by omega) (by omega) (by omega)
  have h2 : 0 ≤ p.K * (p.D + 1) := Int.mul_nonneg a (by omega)
  clear h
  go_enter Tryz.func70, Tryz.ntmps70
  go_wp2_with fail
  go_ret
  exact ⟨dlret_i64 HE.out, World.grownBy_alloc w _ none⟩
theorem rsecrets_any (p : Par) (w : World) (h : dsmallB p = true) : Calls Tryz.prog 88 #[p.v] w fun e w' => e = .returned (.int .i64 (secI p)) ∧ w.grownBy w' none := by
  obtain ⟨a, b, c, d, e, f⟩ := (dsmallB_iff p).1 h
  have HE : Hid (p.K * (p.D + 1) = secI p) := Lib.hid rfl
  have h1 : p.K * (p.D + 1) ≤ 2 * 5 := Int.mul_le_mul b (by omega) (by omega) (by omega)
  have h2 : 0 ≤ p.K * (p.D + 1) := Int.mul_nonneg a (by omega)
  clear h
  go_enter Tryz.func88, Tryz.ntmps88
  go_wp2_with fail
  go_ret
  exact ⟨dlret_i64 HE.out, World.grownBy_alloc w _ none⟩
theorem pairedf_any (v : Value) (a b : Int) (X : Nat → Prop) (w : World) (h : Sl encU X w v [a, b]) : Calls Tryz.prog 110 #[v] w fun e w' => e = .returned (.agg #[.int .u64 a, .int .u64 b]) ∧ w.grownBy w' none := by
  have H := Lib.hid h
  obtain ⟨A, c, rfl, hc1, hc2⟩ := h.form
  obtain ⟨g, o, c', e, hg, _, h0, _⟩ := H.out.atU (k := 0) (by simp)
  injection e with e1 e2 e3
  subst e1 e3
  obtain ⟨g', o', c'', e, _, _, h1, _⟩ := H.out.atU (k := 1) (by simp)
  injection e with e1 e2 e3
  injection e1 with e1
  injection e1 with e1 e4
  subst e1 e4
  simp only [List.getElem_cons_zero, List.getElem_cons_succ, Nat.add_zero] at h0 h1
  have h2 : ([a, b].length : Nat) = 2 := rfl
  rw [h2]
  have n0 := World.new_ne w _ h0
  have n1 := World.new_ne w _ h1
  have z0 := fun n => (zero_pair w n).1
  have z1 := fun n => (zero_pair w n).2.1
  have z2 := fun n => (zero_pair w n).2.2.1
  have z3 := fun n => (zero_pair w n).2.2.2
  clear h e2 e3 h2 hc1
  go_enter Tryz.func110, Tryz.ntmps110
  go_wp2_with fail
  go_region_held3 (fun w' => w'.cell? ⟨g, o, none⟩ = some (.int .u64 a) ∧ w'.cell? ⟨g, o + 1, none⟩ = some (.int .u64 b)) (go_keep) (fail)
  go_wp2_with fail
  refine bodyPost_ret (v := .agg #[.int .u64 a, .int .u64 b]) (by simp [results, Tryz.results110, go_sem]) rfl ⟨rfl, ?_⟩
  exact grownBy_drewN (World.grownBy_alloc w _ none) 1
def pairOf (l : List Int) : Int × Int := (l[0]?.getD 0, l[1]?.getD 0)
theorem map_take_snoc {α β : Type} (f : α → β) (l : List α) (j : Nat) (h : j < l.length) : (l.take (j + 1)).map f = (l.take j).map f ++ [f l[j]] := by
  rw [List.take_succ_eq_append_getElem h, List.map_append]
  rfl
theorem pairOf_rep {X : Nat → Prop} {w : World} {v : Value} {l : List Int} (h : Sl encU X w v l) (h2 : l.length = 2) : U64 (pairOf l).1 ∧ U64 (pairOf l).2 ∧ l = [(pairOf l).1, (pairOf l).2] := by
  match l, h2 with
  | [a, b], _ =>
    obtain ⟨_, _, _, _, _, _, _, u0⟩ := h.atU (k := 0) (by simp)
    obtain ⟨_, _, _, _, _, _, _, u1⟩ := h.atU (k := 1) (by simp)
    exact ⟨u0, u1, rfl⟩
theorem pairedf_of (v : Value) (l : List Int) (X : Nat → Prop) (w : World) (h : Sl encU X w v l) (h2 : l.length = 2) : Calls Tryz.prog 110 #[v] w fun e w' => e = .returned (.agg #[.int .u64 (pairOf l).1, .int .u64 (pairOf l).2]) ∧ w.grownBy w' none := by
  obtain ⟨_, _, q⟩ := pairOf_rep h h2
  exact pairedf_any v _ _ X w (q ▸ h)
set_option maxHeartbeats 400000 in
theorem eachp_any (v : Value) (ls : List (List Int)) (X : Nat → Prop) (w : World) (h : Sl (encS encU) X w v ls) (h2 : ∀ l ∈ ls, l.length = 2) (hb : ls.length ≤ 100000) :
    Calls Tryz.prog 109 #[v, .func (.func 110) #[] #[]] w (Gives encP (fun g => w.heap.size ≤ g) w (ls.map pairOf)) := by
  have H := Lib.hid h
  have H2 := Lib.hid h2
  have HST : Hid (Acc encP w.heap.size 58 (fun g => w.heap.size ≤ g) w (.slice none 0 0) ((ls.take 0).map pairOf) ∧ w.grownBy w none) := Lib.hid ⟨Acc.nil _ _ _ _ _, World.grownBy.refl w none⟩
  obtain ⟨A, c, rfl, hc1, hc2⟩ := h.form
  clear h h2
  go_enter Tryz.func109, Tryz.ntmps109
  go_wp2_with fail
  go_loopg [5, 10] ls.length (fun g s5 s10 wx => ∃ j : Nat, j + g = ls.length ∧ s10 = .int .i64 j ∧ Hid (Acc encP w.heap.size 58 (fun g => w.heap.size ≤ g) wx s5 ((ls.take j).map pairOf) ∧ w.grownBy wx none))
  case atStart => exact ⟨0, by omega, rfl, HST⟩
  case round =>
    obtain ⟨j, hj, rfl, HX⟩ := hrel
    cases gk with
    | zero =>
      obtain rfl : j = ls.length := by omega
      have HR : Hid (Sl encP (fun g => w.heap.size ≤ g) wr u5 (ls.map pairOf)) := Lib.hid (by have := HX.out.1.sl; rwa [List.take_length] at this)
      have HG := Lib.hid HX.out.2
      clear HX HST
      go_wp2
      go_ret
      exact ⟨_, rfl, HR.out, HG.out⟩
    | succ m =>
      have hjn : (j : Int) < (ls.length : Int) := by omega
      have hjN : j < ls.length := by omega
      obtain ⟨hacc, hg⟩ := HX.out
      obtain ⟨g, o, c', u, e, _, _, hcu, hsu⟩ := (H.out.kept hg).atS hjN
      injection e with e1 e2 e3
      subst e1 e3
      obtain ⟨A1, c1, e1, _, _⟩ := hsu.form
      have h2j := H2.out _ (List.getElem_mem hjN)
      rw [h2j] at e1
      subst e1
      obtain ⟨q1, q2, _⟩ := pairOf_rep hsu h2j
      have HSN := Lib.hid (map_take_snoc pairOf ls j hjN)
      have HF := Lib.hid (pairedf_of _ ls[j] X wr hsu h2j)
      have HREP : Hid (U64 (pairOf ls[j]).1 ∧ U64 (pairOf ls[j]).2) := Lib.hid ⟨q1, q2⟩
      have HAC := Lib.hid hacc
      have HG := Lib.hid hg
      have HLB : Hid ((((ls.take j).map pairOf).length + 1) * 16 ≤ 140737488355328) := Lib.hid (by simp; omega)
      clear hacc hg hsu e2 q1 q2 h2j HX HST
      generalize pairOf ls[j] = pj at *
      go_wp2_with fail
      refine HF.out.mono ?_
      rintro e' w1 ⟨rfl, hg1⟩
      have HG1 := Lib.hid hg1
      have HG2 := Lib.hid (HG.out.trans hg1)
      have HA1 := Lib.hid (HAC.out.kept hg1)
      clear hg1
      go_wp2_with (at_builtin; refine wpList_pushG rfl (.tmp 14) (.tmp 18) rfl (E := encP) el_pair HG2.out HA1.out (fun _ h => h) ⟨rfl, HREP.out⟩ HLB.out rfl rfl ?_)
      intro v2 w2 hacc2 hg2 _
      have HFIN : Hid (Acc encP w.heap.size 58 (fun g => w.heap.size ≤ g) w2 v2 ((ls.take (j + 1)).map pairOf) ∧ w.grownBy w2 none) := Lib.hid ⟨by rw [HSN.out]; simpa using hacc2, hg2⟩
      clear hacc2 hg2
      go_wp2_with fail
      go_roundg m
      case measure => omega
      case rel => exact ⟨j + 1, by omega, by go_num, HFIN⟩
/-- The pairs that numbers are, k of them. -/
def prsI (l : List Int) (k : Nat) : List (Int × Int) := (chk 2 l k).map pairOf
theorem prsI_length (l : List Int) (k : Nat) : (prsI l k).length = k := by simp [prsI, chk_length]
set_option maxHeartbeats 400000 in
theorem paired_any (v : Value) (l : List Int) (k : Nat) (X : Nat → Prop) (w : World) (h : Sl encU X w v l) (hl : l.length = k * 2) (hb : l.length ≤ 100000) :
    Calls Tryz.prog 74 #[v] w (Gives encP (fun g => w.heap.size ≤ g) w (prsI l k)) := by
  have HC := Lib.hid (cutU_any v l 2 k X (fun _ => True) w h (by decide) hl hb (fun _ _ => trivial) (fun _ _ _ h => h))
  have HK : Hid (k ≤ 100000) := Lib.hid (by omega)
  have H2 : Hid (∀ x ∈ chk 2 l k, x.length = 2) := Lib.hid (fun x hx => by
    obtain ⟨j, hj, rfl⟩ := List.mem_map.1 hx
    have hj' : j < k := by simpa using hj
    rw [List.length_take, List.length_drop, hl]
    omega)
  clear h hl hb
  go_enter Tryz.func74, Tryz.ntmps74
  go_wp2_with fail
  refine HC.out.mono ?_
  rintro e w1 ⟨v1, rfl, hs, hg⟩
  have HG := Lib.hid hg
  have HE := Lib.hid (eachp_any v1 (chk 2 l k) _ w1 hs.plain H2.out (by rw [chk_length]; exact HK.out))
  clear hs hg
  go_wp2_with fail
  refine HE.out.mono ?_
  rintro e w2 ⟨v2, rfl, hs, hg⟩
  have HFIN : Hid (Sl encP (fun g => w.heap.size ≤ g) w2 v2 (prsI l k) ∧ w.grownBy w2 none) := Lib.hid ⟨hs.more (fun g _ hg' => Nat.le_trans HG.out.size hg'), HG.out.trans hg⟩
  clear hs hg
  go_wp2
  go_ret
  exact ⟨_, rfl, HFIN.out.1, HFIN.out.2⟩
end Go.Proofs.YtnjkelojkoeihaaGreatDoor

namespace Go.Proofs.YtnjkelojkoeihaaGreatDoor
open Go.RowKit

/-- n lists of so many things each. -/
def lstI {α : Type} (l : List α) (n each : Nat) : List (List α) := chk each l n
set_option maxHeartbeats 400000 in
theorem lists_any (v : Value) (l : List (Int × Int)) (n k : Nat) (X Y : Nat → Prop) (w : World) (h : Sl encP X w v l) (hl : l.length = n * k) (hn : n ≤ 100) (hk : k ≤ 100) (hY : ∀ g, w.heap.size ≤ g → Y g) :
    Calls Tryz.prog 73 #[v, .int .i64 n, .int .i64 k] w (Gives (encS encP) Y w (chk k l n)) := by
  have hlb : l.length ≤ 100000 := by
    have : n * k ≤ 100 * 100 := Nat.mul_le_mul hn hk
    omega
  by_cases h0 : k = 0
  · subst h0
    have HE : Hid (chk 0 l n = List.replicate n []) := Lib.hid (by simp [chk, List.map_const'])
    obtain ⟨A, c, rfl, _, _⟩ := h.form
    have hmk := run_make_row' (P := Tryz.prog) 39 33 (.slice none 0 0) 24 Tryz.underlying39 info_pairs rfl .i64 .i64 n (by omega) (by omega)
    have HN := Lib.hid (And.intro hn (hY _ (Nat.le_refl _)))
    clear h hl hlb hY
    go_enter Tryz.func73, Tryz.ntmps73
    go_wp2
    go_ret
    have hb : Bk (w.alloc (.cells (madeCells #[.slice none 0 0] n) 33)) w.heap.size 33 (madeCells #[.slice none 0 0] n) := Bk.new w _ _
    exact ⟨_, rfl, by rw [HE.out]; exact Sl.nils encP Y hb HN.out.2 (by have := HN.out.1; omega), World.grownBy_alloc w _ none⟩
  · have hk1 : 1 ≤ k := by omega
    have hkI : ((k : Int) == 0) = false := by simp; omega
    have HC := Lib.hid (cutP_any v l k n X Y w h hk1 hl hlb hY (fun _ _ _ h => h))
    clear h hl hY hlb h0
    go_enter Tryz.func73, Tryz.ntmps73
    go_wp2_with fail
    refine HC.out.mono ?_
    rintro e w1 ⟨v1, rfl, hs, hg⟩
    have HS := Lib.hid hs.plain
    have HG := Lib.hid hg
    clear hs hg
    go_wp2
    go_ret
    exact ⟨_, rfl, HS.out, HG.out⟩
/-- What OpenPairs tells: nothing but an error, or the pairs. -/
def opE (p : Par) (n : Nat) : Int := if dsmallB p = true then (if (n : Int) = 2 * secI p then 0 else 4) else 1
def opL (p : Par) (l : List Int) : List (Int × Int) := if opE p l.length = 0 then prsI l (secI p).toNat else []
set_option maxHeartbeats 400000 in
theorem openPairs_any (p : Par) (v : Value) (l : List Int) (X : Nat → Prop) (w : World) (h : Sl encU X w v l) (_hb : l.length ≤ 1500) :
    Calls Tryz.prog 24 #[p.v, v] w (GivesE encP (fun g => w.heap.size ≤ g) w (opL p l) (opE p l.length)) := by
  have H := Lib.hid h
  obtain ⟨A, c, rfl, _, _⟩ := h.form
  have HB0 : Hid (Bk (w.alloc (Obj.cells p.cells 24)) w.heap.size 24 p.cells) := Lib.hid (Bk.new w _ _)
  have HG0 : Hid (w.grownBy (w.alloc (Obj.cells p.cells 24)) none) := Lib.hid (World.grownBy_alloc w _ none)
  clear h
  cases hs : dsmallB p with
  | false =>
    have HE : Hid (opE p l.length = 1 ∧ opL p l = []) := Lib.hid (by simp [opL, opE, hs])
    have HC := Lib.hid (fun w => small_no p w hs)
    clear hs
    go_enter Tryz.func24, Tryz.ntmps24
    go_wp2_with fail
    refine (HC.out _).mono ?_
    rintro e w1 ⟨rfl, hg⟩
    have HG := hidTrans hg HG0
    clear hg
    go_wp2
    go_ret2
    rw [HE.out.1, HE.out.2]
    exact ⟨_, rfl, Sl.nil _ _ _, HG.out⟩
  | true =>
    have HC := Lib.hid (fun w => small_yes p w hs)
    have HS := Lib.hid (fun w => dlsecrets_any p w hs)
    obtain ⟨b1, b2⟩ := secI_bds hs
    by_cases hl : (l.length : Int) = 2 * secI p
    · have HE : Hid (opE p l.length = 0 ∧ opL p l = prsI l (secI p).toNat) := Lib.hid (by simp [opL, opE, hs, hl])
      have hd : ((l.length : Int) != 2 * secI p) = false := by simpa using hl
      have HP := Lib.hid (fun (w' : World) (hw : w.grownBy w' none) => paired_any _ l (secI p).toNat X w' (H.out.kept hw) (by omega) (by omega))
      clear hs hl
      go_enter Tryz.func24, Tryz.ntmps24
      go_wp2_with fail
      refine (HC.out _).mono ?_
      rintro e w1 ⟨rfl, hg⟩
      have HG1 := hidTrans hg HG0
      have HB1 := bkGrown hg HB0
      have hp1 := HB1.out.prule
      clear hg
      go_wp2_with fail
      refine (HS.out _).mono ?_
      rintro e w2 ⟨rfl, hg⟩
      have HG2 := hidTrans hg HG1
      clear hg hp1
      generalize secI p = q at *
      go_wp2_with fail
      refine (HP.out _ HG2.out).mono ?_
      rintro e w3 ⟨v3, rfl, hs3, hg3⟩
      have HFIN : Hid (Sl encP (fun g => w.heap.size ≤ g) w3 v3 (prsI l q.toNat) ∧ w.grownBy w3 none) := Lib.hid ⟨hs3.more (fun g _ h => Nat.le_trans HG2.out.size h), HG2.out.trans hg3⟩
      clear hs3 hg3
      go_wp2
      go_ret2
      rw [HE.out.1, HE.out.2]
      exact ⟨_, rfl, HFIN.out.1, HFIN.out.2⟩
    · have HE : Hid (opE p l.length = 4 ∧ opL p l = []) := Lib.hid (by simp [opL, opE, hs, hl])
      have hd : ((l.length : Int) != 2 * secI p) = true := by simpa using hl
      clear hs hl
      go_enter Tryz.func24, Tryz.ntmps24
      go_wp2_with fail
      refine (HC.out _).mono ?_
      rintro e w1 ⟨rfl, hg⟩
      have HG1 := hidTrans hg HG0
      have HB1 := bkGrown hg HB0
      have hp1 := HB1.out.prule
      clear hg
      go_wp2_with fail
      refine (HS.out _).mono ?_
      rintro e w2 ⟨rfl, hg⟩
      have HG2 := hidTrans hg HG1
      clear hg hp1
      generalize secI p = q at *
      go_wp2
      go_ret2
      rw [HE.out.1, HE.out.2]
      exact ⟨_, rfl, Sl.nil _ _ _, HG2.out⟩
/-- What OpenComs tells. -/
def ocE (p : Par) (n : Nat) : Int := if dsmallB p = true then (if (n : Int) = (p.T + 1) * secI p then 0 else 4) else 1
def ocL (p : Par) (l : List Int) : List (List Int) := if ocE p l.length = 0 then chk (p.T + 1).toNat l (secI p).toNat else []
theorem sec_nat {p : Par} (h : dsmallB p = true) : ∃ q t : Nat, secI p = (q : Int) ∧ p.T + 1 = (t : Int) ∧ q ≤ 10 ∧ 1 ≤ t ∧ t ≤ 3 := by
  obtain ⟨a, b, c, d, e, f⟩ := (dsmallB_iff p).1 h
  obtain ⟨h1, h2⟩ := secI_bds h
  exact ⟨(secI p).toNat, (p.T + 1).toNat, by omega, by omega, by omega, by omega, by omega⟩
set_option maxHeartbeats 400000 in
theorem openComs_any (p : Par) (v : Value) (l : List Int) (X : Nat → Prop) (w : World) (h : Sl encU X w v l) (_hb : l.length ≤ 1500) :
    Calls Tryz.prog 26 #[p.v, v] w (GivesE (encW encU) (fun g => w.heap.size ≤ g) w (ocL p l) (ocE p l.length)) := by
  have H := Lib.hid h
  obtain ⟨A, c, rfl, _, _⟩ := h.form
  have HB0 : Hid (Bk (w.alloc (Obj.cells p.cells 24)) w.heap.size 24 p.cells) := Lib.hid (Bk.new w _ _)
  have HG0 : Hid (w.grownBy (w.alloc (Obj.cells p.cells 24)) none) := Lib.hid (World.grownBy_alloc w _ none)
  clear h
  cases hs : dsmallB p with
  | false =>
    have HE : Hid (ocE p l.length = 1 ∧ ocL p l = []) := Lib.hid (by simp [ocL, ocE, hs])
    have HC := Lib.hid (fun w => small_no p w hs)
    clear hs
    go_enter Tryz.func26, Tryz.ntmps26
    go_wp2_with fail
    refine (HC.out _).mono ?_
    rintro e w1 ⟨rfl, hg⟩
    have HG := hidTrans hg HG0
    clear hg
    go_wp2
    go_ret2
    rw [HE.out.1, HE.out.2]
    exact ⟨_, rfl, Sl.nil _ _ _, HG.out⟩
  | true =>
    have HC := Lib.hid (fun w => small_yes p w hs)
    have HS := Lib.hid (fun w => dlsecrets_any p w hs)
    obtain ⟨q, t, hq, ht, q1, t1, t2⟩ := sec_nat hs
    have HQ := Lib.hid hq
    have HT := Lib.hid ht
    have m1 : (t : Int) * (q : Int) ≤ 3 * 10 := Int.mul_le_mul (by omega) (by omega) (by omega) (by omega)
    have m0 : 0 ≤ (t : Int) * (q : Int) := Int.mul_nonneg (by omega) (by omega)
    have k1 : IntKind.i64.wrap (p.T + 1) = (t : Int) := by rw [ht]; exact IntWalk.i64_in _ (by omega)
    have k2 : IntKind.i64.wrap ((t : Int) * (q : Int)) = (t : Int) * (q : Int) := IntWalk.i64_in _ (by omega)
    by_cases hl : (l.length : Int) = (t : Int) * (q : Int)
    · have HE : Hid (ocE p l.length = 0 ∧ ocL p l = chk t l q) := Lib.hid (by simp [ocL, ocE, hs, hl, hq, ht])
      have hd : ((l.length : Int) != (t : Int) * (q : Int)) = false := by simpa using hl
      have hl2 : l.length = q * t := by rw [Nat.mul_comm]; exact_mod_cast hl
      have HP := Lib.hid (fun (w' : World) (hw : w.grownBy w' none) => cutU_any _ l t q X (fun g => w.heap.size ≤ g) w' (H.out.kept hw) t1 hl2 (by omega) (fun g h => Nat.le_trans hw.size h) (fun _ _ _ h => h))
      rw [hq] at HS
      clear hs hl hl2 hq m0 m1 ht
      go_enter Tryz.func26, Tryz.ntmps26
      go_wp2_with fail
      refine (HC.out _).mono ?_
      rintro e w1 ⟨rfl, hg⟩
      have HG1 := hidTrans hg HG0
      have HB1 := bkGrown hg HB0
      have hp1 := HB1.out.prule
      have hs1 := HB1.out.lt
      clear hg
      go_wp2_with fail
      have HG4 : Hid (w.grownBy w1.drew none) := Lib.hid (grownBy_drewN HG1.out 1)
      have HB4 : Hid (Bk w1.drew w.heap.size 24 p.cells) := Lib.hid (HB1.out.drewN 1)
      go_region_held3 (fun w' => ∀ o, w'.cell? ⟨w.heap.size, o, none⟩ = (#[.int .u64 p.P, .int .u64 p.Q, .int .u64 p.G, .int .u64 p.H, .int .i64 p.Nodes, .int .i64 p.N, .int .i64 p.T, .int .i64 p.K, .int .i64 p.D, .int .i64 p.R, .int .i64 p.M, .int .i64 p.X] : Array Value)[o]?) (first | assumption | exact rule_alloc (by assumption) (by assumption) _ | go_keep) (first
        | (go_at_call 70; (with_reducible refine (HS.out _).mono ?_); rintro e' w' ⟨rfl, hg⟩; have HGx := hidTrans hg (by assumption); have HBx := bkGrown hg (by assumption); have hpx := HBx.out.prule; have hsx := HBx.out.lt; clear hg))
      go_wp2_with fail
      refine (HP.out _ HGx.out).mono ?_
      rintro e w3 ⟨v3, rfl, hs3, hg3⟩
      have HFIN := Lib.hid (And.intro hs3 (HGx.out.trans hg3))
      clear hs3 hg3
      go_wp2
      go_ret2
      rw [HE.out.1, HE.out.2]
      exact ⟨_, rfl, HFIN.out.1, HFIN.out.2⟩
    · have HE : Hid (ocE p l.length = 4 ∧ ocL p l = []) := Lib.hid (by simp [ocL, ocE, hs, hl, hq, ht])
      have hd : ((l.length : Int) != (t : Int) * (q : Int)) = true := by simpa using hl
      rw [hq] at HS
      clear hs hl hq m0 m1 ht
      go_enter Tryz.func26, Tryz.ntmps26
      go_wp2_with fail
      refine (HC.out _).mono ?_
      rintro e w1 ⟨rfl, hg⟩
      have HG1 := hidTrans hg HG0
      have HB1 := bkGrown hg HB0
      have hp1 := HB1.out.prule
      have hs1 := HB1.out.lt
      clear hg
      go_wp2_with fail
      have HG4 : Hid (w.grownBy w1.drew none) := Lib.hid (grownBy_drewN HG1.out 1)
      have HB4 : Hid (Bk w1.drew w.heap.size 24 p.cells) := Lib.hid (HB1.out.drewN 1)
      go_region_held3 (fun w' => ∀ o, w'.cell? ⟨w.heap.size, o, none⟩ = (#[.int .u64 p.P, .int .u64 p.Q, .int .u64 p.G, .int .u64 p.H, .int .i64 p.Nodes, .int .i64 p.N, .int .i64 p.T, .int .i64 p.K, .int .i64 p.D, .int .i64 p.R, .int .i64 p.M, .int .i64 p.X] : Array Value)[o]?) (first | assumption | exact rule_alloc (by assumption) (by assumption) _ | go_keep) (first
        | (go_at_call 70; (with_reducible refine (HS.out _).mono ?_); rintro e' w' ⟨rfl, hg⟩; have HGx := hidTrans hg (by assumption); have HBx := bkGrown hg (by assumption); have hpx := HBx.out.prule; have hsx := HBx.out.lt; clear hg))
      go_wp2_with fail
      go_ret2
      rw [HE.out.1, HE.out.2]
      exact ⟨_, rfl, Sl.nil _ _ _, HGx.out⟩
/-- What Open tells. -/
def opnE (p : Par) (n : Nat) (k : Int) : Int := if dsmallB p = true ∧ 0 ≤ k ∧ k ≤ 3 then (if (n : Int) = secI p * (p.T + 1) * (p.T + 1) + 2 * (2 * secI p * k) then 0 else 4) else 1
def opnM (p : Par) (l : List Int) (k : Int) : List (List (List Int)) := if opnE p l.length k = 0 then chk (p.T + 1).toNat (chk (p.T + 1).toNat (l.take ((secI p).toNat * (p.T + 1).toNat * (p.T + 1).toNat)) ((secI p).toNat * (p.T + 1).toNat)) (secI p).toNat else []
def opnA (p : Par) (l : List Int) (k : Int) : List (List (Int × Int)) := if opnE p l.length k = 0 then chk k.toNat (prsI ((l.drop ((secI p).toNat * (p.T + 1).toNat * (p.T + 1).toNat)).take (2 * (secI p).toNat * k.toNat)) ((secI p).toNat * k.toNat)) (secI p).toNat else []
def opnB (p : Par) (l : List Int) (k : Int) : List (List (Int × Int)) := if opnE p l.length k = 0 then chk k.toNat (prsI (l.drop ((secI p).toNat * (p.T + 1).toNat * (p.T + 1).toNat + 2 * (secI p).toNat * k.toNat)) ((secI p).toNat * k.toNat)) (secI p).toNat else []
def Gives4 (Y : Nat → Prop) (w : World) (m : List (List (List Int))) (a b : List (List (Int × Int))) (n : Int) (e : Ending) (w' : World) : Prop :=
  ∃ vm va vb, e = .returned (.tuple #[vm, va, vb, .int .i64 n]) ∧ Sl (encW (encW encU)) Y w' vm m ∧ Sl (encS encP) Y w' va a ∧ Sl (encS encP) Y w' vb b ∧ w.grownBy w' none
set_option maxHeartbeats 1000000 in
theorem open_any (p : Par) (v : Value) (l : List Int) (k : Int) (X : Nat → Prop) (w : World) (h : Sl encU X w v l) (hb : l.length ≤ 1500) (hk : I64 k) :
    Calls Tryz.prog 20 #[p.v, v, .int .i64 k] w (Gives4 (fun g => w.heap.size ≤ g) w (opnM p l k) (opnA p l k) (opnB p l k) (opnE p l.length k)) := by
  have H := Lib.hid h
  obtain ⟨A, c, rfl, hlc, hcm⟩ := h.form
  have HB0 : Hid (Bk (w.alloc (Obj.cells p.cells 24)) w.heap.size 24 p.cells) := Lib.hid (Bk.new w _ _)
  have HG0 : Hid (w.grownBy (w.alloc (Obj.cells p.cells 24)) none) := Lib.hid (World.grownBy_alloc w _ none)
  have hp0 := HB0.out.prule
  obtain ⟨k0, k1⟩ := hk
  clear h
  cases hs : dsmallB p with
  | false =>
    have HE : Hid (opnE p l.length k = 1 ∧ opnM p l k = [] ∧ opnA p l k = [] ∧ opnB p l k = []) := Lib.hid (by simp [opnM, opnA, opnB, opnE, hs])
    have HC := Lib.hid (fun w => small_no p w hs)
    clear hs
    go_enter Tryz.func20, Tryz.ntmps20
    go_wp2_with fail
    refine (HC.out _).mono ?_
    rintro e w1 ⟨rfl, hg⟩
    have HG := hidTrans hg HG0
    clear hg
    go_wp2
    refine bodyPost_ret (v := .tuple #[.slice none 0 0, .slice none 0 0, .slice none 0 0, .int .i64 1]) (by simp [results, Tryz.results20, go_sem]) rfl ?_
    rw [HE.out.1, HE.out.2.1, HE.out.2.2.1, HE.out.2.2.2]
    exact ⟨_, _, _, rfl, Sl.nil _ _ _, Sl.nil _ _ _, Sl.nil _ _ _, HG.out⟩
  | true =>
    have HC := Lib.hid (fun w => small_yes p w hs)
    by_cases hk3 : 0 ≤ k ∧ k ≤ 3
    · obtain ⟨k2, k3⟩ := hk3
      have HS := Lib.hid (fun w => dlsecrets_any p w hs)
      obtain ⟨kk, rfl⟩ := Int.eq_ofNat_of_zero_le k2
      obtain ⟨q, t, hq, ht, q1, t1, t2⟩ := sec_nat hs
      obtain ⟨qt, hqt⟩ : ∃ n, n = q * t := ⟨_, rfl⟩
      obtain ⟨F, hF⟩ : ∃ n, n = qt * t := ⟨_, rfl⟩
      obtain ⟨M, hM⟩ : ∃ n, n = 2 * q * kk := ⟨_, rfl⟩
      have bqt : qt ≤ 30 := by rw [hqt]; exact Nat.mul_le_mul q1 t2
      have bF : F ≤ 90 := by rw [hF]; exact Nat.mul_le_mul bqt t2
      have bM : M ≤ 60 := by rw [hM]; exact Nat.mul_le_mul (Nat.mul_le_mul_left 2 q1) (show kk ≤ 3 by omega)
      have k1' : IntKind.i64.wrap (p.T + 1) = (t : Int) := by rw [ht]; exact IntWalk.i64_in _ (by omega)
      have e1 : (q : Int) * (t : Int) = (qt : Int) := by rw [hqt]; simp
      have e2 : (qt : Int) * (t : Int) = (F : Int) := by rw [hF]; simp
      have e3 : 2 * (q : Int) * (kk : Int) = (M : Int) := by rw [hM]; simp
      rw [hq] at HS
      have HC4 : opnE p l.length (kk : Int) = if (l.length : Int) = F + 2 * M then 0 else 4 := by
        simp only [opnE, hs, hq, ht, e1, e2, e3]
        simp [k2, k3]
      have ht1 : (p.T + 1).toNat = t := by omega
      have hq1 : (secI p).toNat = q := by omega
      by_cases hl : (l.length : Int) = F + 2 * M
      · rw [if_pos hl] at HC4
        have HEM : Hid (opnM p l kk = chk t (chk t (l.take F) qt) q) := Lib.hid (by simp only [opnM, HC4, ht1, hq1, if_true]; rw [← hqt, ← hF])
        have HEA : Hid (opnA p l kk = chk kk (prsI ((l.drop F).take M) (q * kk)) q) := Lib.hid (by simp only [opnA, HC4, ht1, hq1, if_true, Int.toNat_natCast]; rw [← hqt, ← hF, ← hM])
        have HEB : Hid (opnB p l kk = chk kk (prsI (l.drop (F + M)) (q * kk)) q) := Lib.hid (by simp only [opnB, HC4, ht1, hq1, if_true, Int.toNat_natCast]; rw [← hqt, ← hF, ← hM])
        have HE0 := Lib.hid HC4
        have hll : l.length = F + 2 * M := by omega
        have hMq : M = (q * kk) * 2 := by rw [hM, Nat.mul_assoc, Nat.mul_comm]
        have hqk : q * kk ≤ 30 := Nat.mul_le_mul q1 (show kk ≤ 3 by omega)
        have hd0 : l.drop F = [] → l.length ≤ F := fun h => by have := congrArg List.length h; simp at this; omega
        by_cases hz : l.length = 0
        · obtain rfl : F = 0 := by omega
          obtain rfl : M = 0 := by omega
          have hl0 : l = [] := List.eq_nil_of_length_eq_zero hz
          have HS1 : Hid (Sl encU X w (.slice A 0 c) (l.take 0)) := Lib.hid (Sl.empty _ _ _ _ _ hcm)
          clear hd0
          by_cases hc0 : c = 0
          · subst hc0
            have e2' : (qt : Int) * (t : Int) = 0 := e2
            have e3' : 2 * (q : Int) * (kk : Int) = 0 := e3
            clear e2 e3 bF bM
            have HS2 : Hid (Sl encU X w (.slice A 0 0) ((l.drop 0).take 0)) := Lib.hid (by rw [hl0]; exact Sl.empty _ _ _ _ _ (by omega))
            have HS3 : Hid (Sl encU X w (.slice A 0 0) (l.drop (0 + 0))) := Lib.hid (by rw [hl0]; exact Sl.empty _ _ _ _ _ (by omega))
            have H1 := Lib.hid (fun (w' : World) (hw : w.grownBy w' none) => cutU_any _ (l.take 0) t qt X (fun g => w.heap.size ≤ g) w' (HS1.out.kept hw) t1 (by rw [List.length_take, ← hF]; simp) (by rw [List.length_take]; omega) (fun g h => Nat.le_trans hw.size h) (fun _ _ _ h => h))
            have H2 := Lib.hid (fun (v : Value) (w' : World) (hw : w.grownBy w' none) (hv : Sl (encW encU) (fun g => w.heap.size ≤ g) w' v (chk t (l.take 0) qt)) => cutR_any v _ t q _ (fun g => w.heap.size ≤ g) w' hv t1 (by rw [chk_length, hqt]) (by rw [chk_length]; omega) (fun g h => Nat.le_trans hw.size h) (fun _ _ _ h => h))
            have H3 := Lib.hid (fun (w' : World) (hw : w.grownBy w' none) => paired_any _ ((l.drop 0).take 0) (q * kk) X w' (HS2.out.kept hw) (by rw [List.length_take, ← hMq]; simp) (by rw [List.length_take, List.length_drop]; omega))
            have H4 := Lib.hid (fun (w' : World) (hw : w.grownBy w' none) => paired_any _ (l.drop (0 + 0)) (q * kk) X w' (HS3.out.kept hw) (by rw [List.length_drop, ← hMq]; omega) (by rw [List.length_drop]; omega))
            have H5 := Lib.hid (fun (v : Value) (ps : List (Int × Int)) (w' : World) (hw : w.grownBy w' none) (Z : Nat → Prop) (hv : Sl encP Z w' v ps) (hps : ps.length = q * kk) => lists_any v ps q kk Z (fun g => w.heap.size ≤ g) w' hv hps (by omega) (by omega) (fun g h => Nat.le_trans hw.size h))
            have hd : ((l.length : Int) != 0) = false := by simpa using hl
            have i1 : (0 : Int) ≤ (l.length : Int) := by omega
            have i2 : (0 : Int) + (0 : Int) ≤ (l.length : Int) := by omega
            have i3 : (l.length : Int) ≤ ((0 : Nat) : Int) := by omega
            have i4 : (0 : Int) + 2 * (0 : Int) ≤ ((0 : Nat) : Int) := by omega
            have HMM := Lib.hid hMq
            clear hs hl hq ht hqt hF hM HC4 ht1 hq1 hll hMq hz hlc
            go_enter Tryz.func20, Tryz.ntmps20
            go_wp2_with fail
            refine (HC.out _).mono ?_
            rintro e w1 ⟨rfl, hg⟩
            have HG1 := hidTrans hg HG0
            have HB1 := bkGrown hg HB0
            have hp1 := HB1.out.prule
            have hs1 := HB1.out.lt
            clear hg hp0
            go_wp2_with fail
            have HG4 : Hid (w.grownBy w1.drew none) := Lib.hid (grownBy_drewN HG1.out 1)
            have HB4 : Hid (Bk w1.drew w.heap.size 24 p.cells) := Lib.hid (HB1.out.drewN 1)
            go_region_held3 (fun w' => ∀ o, w'.cell? ⟨w.heap.size, o, none⟩ = (#[.int .u64 p.P, .int .u64 p.Q, .int .u64 p.G, .int .u64 p.H, .int .i64 p.Nodes, .int .i64 p.N, .int .i64 p.T, .int .i64 p.K, .int .i64 p.D, .int .i64 p.R, .int .i64 p.M, .int .i64 p.X] : Array Value)[o]?) (first | assumption | exact rule_alloc (by assumption) (by assumption) _ | go_keep) (first
              | (go_at_call 70; (with_reducible refine (HS.out _).mono ?_); rintro e' w' ⟨rfl, hg⟩; have HGx := hidTrans hg (by assumption); have HBx := bkGrown hg (by assumption); have hpx := HBx.out.prule; have hsx := HBx.out.lt; clear hg))
            go_wp2_with fail
            refine (H1.out _ HGx.out).mono ?_
            rintro e w3 ⟨v3, rfl, hs3, hg3⟩
            have HG3 := Lib.hid (HGx.out.trans hg3)
            have HV3 := Lib.hid hs3
            clear hs3 hg3
            go_wp2_with fail
            refine (H2.out _ _ HG3.out HV3.out).mono ?_
            rintro e w4 ⟨v4, rfl, hs4, hg4⟩
            have HG4 := Lib.hid (HG3.out.trans hg4)
            have HV4 := Lib.hid hs4
            clear hs4 hg4 HV3
            go_wp2_with fail
            refine (H3.out _ HG4.out).mono ?_
            rintro e w5 ⟨v5, rfl, hs5, hg5⟩
            have HG5 := Lib.hid (HG4.out.trans hg5)
            have HV5 := Lib.hid hs5
            have HV4' := Lib.hid (HV4.out.kept hg5)
            clear hs5 hg5 HV4
            go_wp2_with fail
            refine (H5.out _ _ _ HG5.out _ HV5.out (prsI_length _ _)).mono ?_
            rintro e w6 ⟨v6, rfl, hs6, hg6⟩
            have HG6 := Lib.hid (HG5.out.trans hg6)
            have HV6 := Lib.hid hs6
            have HV4 := Lib.hid (HV4'.out.kept hg6)
            clear hs6 hg6 HV4' HV5
            go_wp2_with fail
            refine (H4.out _ HG6.out).mono ?_
            rintro e w7 ⟨v7, rfl, hs7, hg7⟩
            have HG7 := Lib.hid (HG6.out.trans hg7)
            have HV7 := Lib.hid hs7
            have HV4' := Lib.hid (HV4.out.kept hg7)
            have HV6' := Lib.hid (HV6.out.kept hg7)
            clear hs7 hg7 HV4 HV6
            go_wp2_with fail
            refine (H5.out _ _ _ HG7.out _ HV7.out (prsI_length _ _)).mono ?_
            rintro e w8 ⟨v8, rfl, hs8, hg8⟩
            have HG8 := Lib.hid (HG7.out.trans hg8)
            have HV8 := Lib.hid hs8
            have HV4 := Lib.hid (HV4'.out.kept hg8)
            have HV6 := Lib.hid (HV6'.out.kept hg8)
            clear hs8 hg8 HV4' HV6' HV7
            go_wp2
            refine bodyPost_ret (v := .tuple #[v4, v6, v8, .int .i64 0]) (by simp [results, Tryz.results20, go_sem]) rfl ?_
            rw [HE0.out, HEM.out, HEA.out, HEB.out]
            exact ⟨_, _, _, rfl, HV4.out, HV6.out, HV8.out, HG8.out⟩
          · have x0 : ¬ c = 0 := hc0
            have e2' : (qt : Int) * (t : Int) = 0 := e2
            have e3' : 2 * (q : Int) * (kk : Int) = 0 := e3
            clear e2 e3 bF bM
            have HS2 : Hid (Sl encU X w (.slice A 0 c) ((l.drop 0).take 0)) := Lib.hid (by rw [hl0]; exact Sl.empty _ _ _ _ _ hcm)
            have HS3 : Hid (Sl encU X w (.slice A 0 c) (l.drop (0 + 0))) := Lib.hid (by rw [hl0]; exact Sl.empty _ _ _ _ _ hcm)
            have H1 := Lib.hid (fun (w' : World) (hw : w.grownBy w' none) => cutU_any _ (l.take 0) t qt X (fun g => w.heap.size ≤ g) w' (HS1.out.kept hw) t1 (by rw [List.length_take, ← hF]; simp) (by rw [List.length_take]; omega) (fun g h => Nat.le_trans hw.size h) (fun _ _ _ h => h))
            have H2 := Lib.hid (fun (v : Value) (w' : World) (hw : w.grownBy w' none) (hv : Sl (encW encU) (fun g => w.heap.size ≤ g) w' v (chk t (l.take 0) qt)) => cutR_any v _ t q _ (fun g => w.heap.size ≤ g) w' hv t1 (by rw [chk_length, hqt]) (by rw [chk_length]; omega) (fun g h => Nat.le_trans hw.size h) (fun _ _ _ h => h))
            have H3 := Lib.hid (fun (w' : World) (hw : w.grownBy w' none) => paired_any _ ((l.drop 0).take 0) (q * kk) X w' (HS2.out.kept hw) (by rw [List.length_take, ← hMq]; simp) (by rw [List.length_take, List.length_drop]; omega))
            have H4 := Lib.hid (fun (w' : World) (hw : w.grownBy w' none) => paired_any _ (l.drop (0 + 0)) (q * kk) X w' (HS3.out.kept hw) (by rw [List.length_drop, ← hMq]; omega) (by rw [List.length_drop]; omega))
            have H5 := Lib.hid (fun (v : Value) (ps : List (Int × Int)) (w' : World) (hw : w.grownBy w' none) (Z : Nat → Prop) (hv : Sl encP Z w' v ps) (hps : ps.length = q * kk) => lists_any v ps q kk Z (fun g => w.heap.size ≤ g) w' hv hps (by omega) (by omega) (fun g h => Nat.le_trans hw.size h))
            have hd : ((l.length : Int) != 0) = false := by simpa using hl
            have i1 : (0 : Int) ≤ (l.length : Int) := by omega
            have i2 : (0 : Int) + (0 : Int) ≤ (l.length : Int) := by omega
            have i3 : (l.length : Int) ≤ (c : Int) := by omega
            have i4 : (0 : Int) + 2 * (0 : Int) ≤ (c : Int) := by omega
            have HMM := Lib.hid hMq
            clear hs hl hq ht hqt hF hM HC4 ht1 hq1 hll hMq hz hlc
            go_enter Tryz.func20, Tryz.ntmps20
            go_wp2_with fail
            refine (HC.out _).mono ?_
            rintro e w1 ⟨rfl, hg⟩
            have HG1 := hidTrans hg HG0
            have HB1 := bkGrown hg HB0
            have hp1 := HB1.out.prule
            have hs1 := HB1.out.lt
            clear hg hp0
            go_wp2_with fail
            have HG4 : Hid (w.grownBy w1.drew none) := Lib.hid (grownBy_drewN HG1.out 1)
            have HB4 : Hid (Bk w1.drew w.heap.size 24 p.cells) := Lib.hid (HB1.out.drewN 1)
            go_region_held3 (fun w' => ∀ o, w'.cell? ⟨w.heap.size, o, none⟩ = (#[.int .u64 p.P, .int .u64 p.Q, .int .u64 p.G, .int .u64 p.H, .int .i64 p.Nodes, .int .i64 p.N, .int .i64 p.T, .int .i64 p.K, .int .i64 p.D, .int .i64 p.R, .int .i64 p.M, .int .i64 p.X] : Array Value)[o]?) (first | assumption | exact rule_alloc (by assumption) (by assumption) _ | go_keep) (first
              | (go_at_call 70; (with_reducible refine (HS.out _).mono ?_); rintro e' w' ⟨rfl, hg⟩; have HGx := hidTrans hg (by assumption); have HBx := bkGrown hg (by assumption); have hpx := HBx.out.prule; have hsx := HBx.out.lt; clear hg))
            go_wp2_with fail
            refine (H1.out _ HGx.out).mono ?_
            rintro e w3 ⟨v3, rfl, hs3, hg3⟩
            have HG3 := Lib.hid (HGx.out.trans hg3)
            have HV3 := Lib.hid hs3
            clear hs3 hg3
            go_wp2_with fail
            refine (H2.out _ _ HG3.out HV3.out).mono ?_
            rintro e w4 ⟨v4, rfl, hs4, hg4⟩
            have HG4 := Lib.hid (HG3.out.trans hg4)
            have HV4 := Lib.hid hs4
            clear hs4 hg4 HV3
            go_wp2_with fail
            refine (H3.out _ HG4.out).mono ?_
            rintro e w5 ⟨v5, rfl, hs5, hg5⟩
            have HG5 := Lib.hid (HG4.out.trans hg5)
            have HV5 := Lib.hid hs5
            have HV4' := Lib.hid (HV4.out.kept hg5)
            clear hs5 hg5 HV4
            go_wp2_with fail
            refine (H5.out _ _ _ HG5.out _ HV5.out (prsI_length _ _)).mono ?_
            rintro e w6 ⟨v6, rfl, hs6, hg6⟩
            have HG6 := Lib.hid (HG5.out.trans hg6)
            have HV6 := Lib.hid hs6
            have HV4 := Lib.hid (HV4'.out.kept hg6)
            clear hs6 hg6 HV4' HV5
            go_wp2_with fail
            refine (H4.out _ HG6.out).mono ?_
            rintro e w7 ⟨v7, rfl, hs7, hg7⟩
            have HG7 := Lib.hid (HG6.out.trans hg7)
            have HV7 := Lib.hid hs7
            have HV4' := Lib.hid (HV4.out.kept hg7)
            have HV6' := Lib.hid (HV6.out.kept hg7)
            clear hs7 hg7 HV4 HV6
            go_wp2_with fail
            refine (H5.out _ _ _ HG7.out _ HV7.out (prsI_length _ _)).mono ?_
            rintro e w8 ⟨v8, rfl, hs8, hg8⟩
            have HG8 := Lib.hid (HG7.out.trans hg8)
            have HV8 := Lib.hid hs8
            have HV4 := Lib.hid (HV4'.out.kept hg8)
            have HV6 := Lib.hid (HV6'.out.kept hg8)
            clear hs8 hg8 HV4' HV6' HV7
            go_wp2
            refine bodyPost_ret (v := .tuple #[v4, v6, v8, .int .i64 0]) (by simp [results, Tryz.results20, go_sem]) rfl ?_
            rw [HE0.out, HEM.out, HEA.out, HEB.out]
            exact ⟨_, _, _, rfl, HV4.out, HV6.out, HV8.out, HG8.out⟩
        · obtain ⟨ga, oa, eA, _, _⟩ := H.out.addr (by omega)
          subst eA
          have HS1 : Hid (Sl encU X w (.slice (some ⟨ga, oa, none⟩) F c) (l.take F)) := Lib.hid (H.out.take F (by omega))
          clear hd0
          by_cases hcF : F = c
          · obtain rfl : M = 0 := by omega
            subst hcF
            have e3' : 2 * (q : Int) * (kk : Int) = 0 := e3
            clear e3 bM
            have HS2 : Hid (Sl encU X w (.slice (some ⟨ga, oa, none⟩) 0 0) ((l.drop F).take 0)) := Lib.hid (by rw [List.take_zero]; exact Sl.empty _ _ _ _ _ (by omega))
            have HS3 : Hid (Sl encU X w (.slice (some ⟨ga, oa, none⟩) (l.length - F) 0) (l.drop (F + 0))) := Lib.hid (by rw [List.drop_eq_nil_of_le (by omega), show l.length - F = 0 by omega]; exact Sl.empty _ _ _ _ _ (by omega))
            have H1 := Lib.hid (fun (w' : World) (hw : w.grownBy w' none) => cutU_any _ (l.take F) t qt X (fun g => w.heap.size ≤ g) w' (HS1.out.kept hw) t1 (by rw [List.length_take, ← hF]; omega) (by rw [List.length_take]; omega) (fun g h => Nat.le_trans hw.size h) (fun _ _ _ h => h))
            have H2 := Lib.hid (fun (v : Value) (w' : World) (hw : w.grownBy w' none) (hv : Sl (encW encU) (fun g => w.heap.size ≤ g) w' v (chk t (l.take F) qt)) => cutR_any v _ t q _ (fun g => w.heap.size ≤ g) w' hv t1 (by rw [chk_length, hqt]) (by rw [chk_length]; omega) (fun g h => Nat.le_trans hw.size h) (fun _ _ _ h => h))
            have H3 := Lib.hid (fun (w' : World) (hw : w.grownBy w' none) => paired_any _ ((l.drop F).take 0) (q * kk) X w' (HS2.out.kept hw) (by rw [List.length_take, ← hMq]; simp) (by rw [List.length_take, List.length_drop]; omega))
            have H4 := Lib.hid (fun (w' : World) (hw : w.grownBy w' none) => paired_any _ (l.drop (F + 0)) (q * kk) X w' (HS3.out.kept hw) (by rw [List.length_drop, ← hMq]; omega) (by rw [List.length_drop]; omega))
            have H5 := Lib.hid (fun (v : Value) (ps : List (Int × Int)) (w' : World) (hw : w.grownBy w' none) (Z : Nat → Prop) (hv : Sl encP Z w' v ps) (hps : ps.length = q * kk) => lists_any v ps q kk Z (fun g => w.heap.size ≤ g) w' hv hps (by omega) (by omega) (fun g h => Nat.le_trans hw.size h))
            have hd : ((l.length : Int) != (F : Int)) = false := by simpa using hl
            have i1 : (F : Int) ≤ (l.length : Int) := by omega
            have i2 : (F : Int) + (0 : Int) ≤ (l.length : Int) := by omega
            have i3 : (l.length : Int) ≤ (F : Int) := by omega
            have i4 : (F : Int) + 2 * (0 : Int) ≤ (F : Int) := by omega
            have HMM := Lib.hid hMq
            clear hs hl hq ht hqt hF hM HC4 ht1 hq1 hll hMq hz hlc
            go_enter Tryz.func20, Tryz.ntmps20
            go_wp2_with fail
            refine (HC.out _).mono ?_
            rintro e w1 ⟨rfl, hg⟩
            have HG1 := hidTrans hg HG0
            have HB1 := bkGrown hg HB0
            have hp1 := HB1.out.prule
            have hs1 := HB1.out.lt
            clear hg hp0
            go_wp2_with fail
            have HG4 : Hid (w.grownBy w1.drew none) := Lib.hid (grownBy_drewN HG1.out 1)
            have HB4 : Hid (Bk w1.drew w.heap.size 24 p.cells) := Lib.hid (HB1.out.drewN 1)
            go_region_held3 (fun w' => ∀ o, w'.cell? ⟨w.heap.size, o, none⟩ = (#[.int .u64 p.P, .int .u64 p.Q, .int .u64 p.G, .int .u64 p.H, .int .i64 p.Nodes, .int .i64 p.N, .int .i64 p.T, .int .i64 p.K, .int .i64 p.D, .int .i64 p.R, .int .i64 p.M, .int .i64 p.X] : Array Value)[o]?) (first | assumption | exact rule_alloc (by assumption) (by assumption) _ | go_keep) (first
              | (go_at_call 70; (with_reducible refine (HS.out _).mono ?_); rintro e' w' ⟨rfl, hg⟩; have HGx := hidTrans hg (by assumption); have HBx := bkGrown hg (by assumption); have hpx := HBx.out.prule; have hsx := HBx.out.lt; clear hg))
            go_wp2_with fail
            refine (H1.out _ HGx.out).mono ?_
            rintro e w3 ⟨v3, rfl, hs3, hg3⟩
            have HG3 := Lib.hid (HGx.out.trans hg3)
            have HV3 := Lib.hid hs3
            clear hs3 hg3
            go_wp2_with fail
            refine (H2.out _ _ HG3.out HV3.out).mono ?_
            rintro e w4 ⟨v4, rfl, hs4, hg4⟩
            have HG4 := Lib.hid (HG3.out.trans hg4)
            have HV4 := Lib.hid hs4
            clear hs4 hg4 HV3
            go_wp2_with fail
            refine (H3.out _ HG4.out).mono ?_
            rintro e w5 ⟨v5, rfl, hs5, hg5⟩
            have HG5 := Lib.hid (HG4.out.trans hg5)
            have HV5 := Lib.hid hs5
            have HV4' := Lib.hid (HV4.out.kept hg5)
            clear hs5 hg5 HV4
            go_wp2_with fail
            refine (H5.out _ _ _ HG5.out _ HV5.out (prsI_length _ _)).mono ?_
            rintro e w6 ⟨v6, rfl, hs6, hg6⟩
            have HG6 := Lib.hid (HG5.out.trans hg6)
            have HV6 := Lib.hid hs6
            have HV4 := Lib.hid (HV4'.out.kept hg6)
            clear hs6 hg6 HV4' HV5
            go_wp2_with fail
            refine (H4.out _ HG6.out).mono ?_
            rintro e w7 ⟨v7, rfl, hs7, hg7⟩
            have HG7 := Lib.hid (HG6.out.trans hg7)
            have HV7 := Lib.hid hs7
            have HV4' := Lib.hid (HV4.out.kept hg7)
            have HV6' := Lib.hid (HV6.out.kept hg7)
            clear hs7 hg7 HV4 HV6
            go_wp2_with fail
            refine (H5.out _ _ _ HG7.out _ HV7.out (prsI_length _ _)).mono ?_
            rintro e w8 ⟨v8, rfl, hs8, hg8⟩
            have HG8 := Lib.hid (HG7.out.trans hg8)
            have HV8 := Lib.hid hs8
            have HV4 := Lib.hid (HV4'.out.kept hg8)
            have HV6 := Lib.hid (HV6'.out.kept hg8)
            clear hs8 hg8 HV4' HV6' HV7
            go_wp2
            refine bodyPost_ret (v := .tuple #[v4, v6, v8, .int .i64 0]) (by simp [results, Tryz.results20, go_sem]) rfl ?_
            rw [HE0.out, HEM.out, HEA.out, HEB.out]
            exact ⟨_, _, _, rfl, HV4.out, HV6.out, HV8.out, HG8.out⟩
          · have hcF' : ¬ c = F := fun e => hcF e.symm
            have x1 : ¬ c = F := hcF'
            have x2 : ¬ c = F + M := by omega
            clear hcF
            have HS2 : Hid (Sl encU X w (.slice (some ⟨ga, oa + F, none⟩) M (c - F)) ((l.drop F).take M)) := Lib.hid (by
              have := (H.out.drop F (by omega)).take M (by rw [List.length_drop]; omega)
              rwa [show F * encU.size = F from Nat.mul_one F] at this)
            have HS3 : Hid (Sl encU X w (.slice (some ⟨ga, oa + (F + M), none⟩) (l.length - (F + M)) (c - (F + M))) (l.drop (F + M))) := Lib.hid (by
              have := H.out.drop (F + M) (by omega)
              rwa [show (F + M) * encU.size = F + M from Nat.mul_one (F + M)] at this)
            have H1 := Lib.hid (fun (w' : World) (hw : w.grownBy w' none) => cutU_any _ (l.take F) t qt X (fun g => w.heap.size ≤ g) w' (HS1.out.kept hw) t1 (by rw [List.length_take, ← hF]; omega) (by rw [List.length_take]; omega) (fun g h => Nat.le_trans hw.size h) (fun _ _ _ h => h))
            have H2 := Lib.hid (fun (v : Value) (w' : World) (hw : w.grownBy w' none) (hv : Sl (encW encU) (fun g => w.heap.size ≤ g) w' v (chk t (l.take F) qt)) => cutR_any v _ t q _ (fun g => w.heap.size ≤ g) w' hv t1 (by rw [chk_length, hqt]) (by rw [chk_length]; omega) (fun g h => Nat.le_trans hw.size h) (fun _ _ _ h => h))
            have H3 := Lib.hid (fun (w' : World) (hw : w.grownBy w' none) => paired_any _ ((l.drop F).take M) (q * kk) X w' (HS2.out.kept hw) (by rw [List.length_take, List.length_drop, ← hMq]; omega) (by rw [List.length_take, List.length_drop]; omega))
            have H4 := Lib.hid (fun (w' : World) (hw : w.grownBy w' none) => paired_any _ (l.drop (F + M)) (q * kk) X w' (HS3.out.kept hw) (by rw [List.length_drop, ← hMq]; omega) (by rw [List.length_drop]; omega))
            have H5 := Lib.hid (fun (v : Value) (ps : List (Int × Int)) (w' : World) (hw : w.grownBy w' none) (Z : Nat → Prop) (hv : Sl encP Z w' v ps) (hps : ps.length = q * kk) => lists_any v ps q kk Z (fun g => w.heap.size ≤ g) w' hv hps (by omega) (by omega) (fun g h => Nat.le_trans hw.size h))
            have hd : ((l.length : Int) != (F : Int) + 2 * (M : Int)) = false := by simpa using hl
            have i1 : (F : Int) ≤ (l.length : Int) := by omega
            have i2 : (F : Int) + (M : Int) ≤ (l.length : Int) := by omega
            have i3 : (l.length : Int) ≤ (c : Int) := by omega
            have i4 : (F : Int) + 2 * (M : Int) ≤ (c : Int) := by omega
            have HMM := Lib.hid hMq
            clear hs hl hq ht hqt hF hM HC4 ht1 hq1 hll hMq hz hlc
            go_enter Tryz.func20, Tryz.ntmps20
            go_wp2_with fail
            refine (HC.out _).mono ?_
            rintro e w1 ⟨rfl, hg⟩
            have HG1 := hidTrans hg HG0
            have HB1 := bkGrown hg HB0
            have hp1 := HB1.out.prule
            have hs1 := HB1.out.lt
            clear hg hp0
            go_wp2_with fail
            have HG4 : Hid (w.grownBy w1.drew none) := Lib.hid (grownBy_drewN HG1.out 1)
            have HB4 : Hid (Bk w1.drew w.heap.size 24 p.cells) := Lib.hid (HB1.out.drewN 1)
            go_region_held3 (fun w' => ∀ o, w'.cell? ⟨w.heap.size, o, none⟩ = (#[.int .u64 p.P, .int .u64 p.Q, .int .u64 p.G, .int .u64 p.H, .int .i64 p.Nodes, .int .i64 p.N, .int .i64 p.T, .int .i64 p.K, .int .i64 p.D, .int .i64 p.R, .int .i64 p.M, .int .i64 p.X] : Array Value)[o]?) (first | assumption | exact rule_alloc (by assumption) (by assumption) _ | go_keep) (first
              | (go_at_call 70; (with_reducible refine (HS.out _).mono ?_); rintro e' w' ⟨rfl, hg⟩; have HGx := hidTrans hg (by assumption); have HBx := bkGrown hg (by assumption); have hpx := HBx.out.prule; have hsx := HBx.out.lt; clear hg))
            go_wp2_with fail
            refine (H1.out _ HGx.out).mono ?_
            rintro e w3 ⟨v3, rfl, hs3, hg3⟩
            have HG3 := Lib.hid (HGx.out.trans hg3)
            have HV3 := Lib.hid hs3
            clear hs3 hg3
            go_wp2_with fail
            refine (H2.out _ _ HG3.out HV3.out).mono ?_
            rintro e w4 ⟨v4, rfl, hs4, hg4⟩
            have HG4 := Lib.hid (HG3.out.trans hg4)
            have HV4 := Lib.hid hs4
            clear hs4 hg4 HV3
            go_wp2_with fail
            refine (H3.out _ HG4.out).mono ?_
            rintro e w5 ⟨v5, rfl, hs5, hg5⟩
            have HG5 := Lib.hid (HG4.out.trans hg5)
            have HV5 := Lib.hid hs5
            have HV4' := Lib.hid (HV4.out.kept hg5)
            clear hs5 hg5 HV4
            go_wp2_with fail
            refine (H5.out _ _ _ HG5.out _ HV5.out (prsI_length _ _)).mono ?_
            rintro e w6 ⟨v6, rfl, hs6, hg6⟩
            have HG6 := Lib.hid (HG5.out.trans hg6)
            have HV6 := Lib.hid hs6
            have HV4 := Lib.hid (HV4'.out.kept hg6)
            clear hs6 hg6 HV4' HV5
            go_wp2_with fail
            refine (H4.out _ HG6.out).mono ?_
            rintro e w7 ⟨v7, rfl, hs7, hg7⟩
            have HG7 := Lib.hid (HG6.out.trans hg7)
            have HV7 := Lib.hid hs7
            have HV4' := Lib.hid (HV4.out.kept hg7)
            have HV6' := Lib.hid (HV6.out.kept hg7)
            clear hs7 hg7 HV4 HV6
            go_wp2_with fail
            refine (H5.out _ _ _ HG7.out _ HV7.out (prsI_length _ _)).mono ?_
            rintro e w8 ⟨v8, rfl, hs8, hg8⟩
            have HG8 := Lib.hid (HG7.out.trans hg8)
            have HV8 := Lib.hid hs8
            have HV4 := Lib.hid (HV4'.out.kept hg8)
            have HV6 := Lib.hid (HV6'.out.kept hg8)
            clear hs8 hg8 HV4' HV6' HV7
            go_wp2
            refine bodyPost_ret (v := .tuple #[v4, v6, v8, .int .i64 0]) (by simp [results, Tryz.results20, go_sem]) rfl ?_
            rw [HE0.out, HEM.out, HEA.out, HEB.out]
            exact ⟨_, _, _, rfl, HV4.out, HV6.out, HV8.out, HG8.out⟩
      · have HC5 : opnE p l.length (kk : Int) = 4 := by rw [HC4, if_neg hl]
        have HEM : Hid (opnE p l.length (kk : Int) = 4 ∧ opnM p l kk = [] ∧ opnA p l kk = [] ∧ opnB p l kk = []) := Lib.hid (by simp [opnM, opnA, opnB, HC5])
        have hd : ((l.length : Int) != (F : Int) + 2 * (M : Int)) = true := by simpa using hl
        clear hs hl hq ht hqt hF hM HC4 HC5 ht1 hq1 hlc
        go_enter Tryz.func20, Tryz.ntmps20
        go_wp2_with fail
        refine (HC.out _).mono ?_
        rintro e w1 ⟨rfl, hg⟩
        have HG1 := hidTrans hg HG0
        have HB1 := bkGrown hg HB0
        have hp1 := HB1.out.prule
        have hs1 := HB1.out.lt
        clear hg hp0
        go_wp2_with fail
        have HG4 : Hid (w.grownBy w1.drew none) := Lib.hid (grownBy_drewN HG1.out 1)
        have HB4 : Hid (Bk w1.drew w.heap.size 24 p.cells) := Lib.hid (HB1.out.drewN 1)
        go_region_held3 (fun w' => ∀ o, w'.cell? ⟨w.heap.size, o, none⟩ = (#[.int .u64 p.P, .int .u64 p.Q, .int .u64 p.G, .int .u64 p.H, .int .i64 p.Nodes, .int .i64 p.N, .int .i64 p.T, .int .i64 p.K, .int .i64 p.D, .int .i64 p.R, .int .i64 p.M, .int .i64 p.X] : Array Value)[o]?) (first | assumption | exact rule_alloc (by assumption) (by assumption) _ | go_keep) (first
          | (go_at_call 70; (with_reducible refine (HS.out _).mono ?_); rintro e' w' ⟨rfl, hg⟩; have HGx := hidTrans hg (by assumption); have HBx := bkGrown hg (by assumption); have hpx := HBx.out.prule; have hsx := HBx.out.lt; clear hg))
        go_wp2
        refine bodyPost_ret (v := .tuple #[.slice none 0 0, .slice none 0 0, .slice none 0 0, .int .i64 4]) (by simp [results, Tryz.results20, go_sem]) rfl ?_
        rw [HEM.out.1, HEM.out.2.1, HEM.out.2.2.1, HEM.out.2.2.2]
        exact ⟨_, _, _, rfl, Sl.nil _ _ _, Sl.nil _ _ _, Sl.nil _ _ _, HGx.out⟩
    · have HE : Hid (opnE p l.length k = 1 ∧ opnM p l k = [] ∧ opnA p l k = [] ∧ opnB p l k = []) := Lib.hid (by simp only [opnM, opnA, opnB, opnE]; simp [hs, hk3])
      have hp1 : True := trivial
      clear hs
      by_cases hkn : 0 ≤ k
      · have hkx : 3 < k := by omega
        clear hk3
        go_enter Tryz.func20, Tryz.ntmps20
        go_wp2_with fail
        refine (HC.out _).mono ?_
        rintro e w1 ⟨rfl, hg⟩
        have HG := hidTrans hg HG0
        clear hg
        go_wp2
        refine bodyPost_ret (v := .tuple #[.slice none 0 0, .slice none 0 0, .slice none 0 0, .int .i64 1]) (by simp [results, Tryz.results20, go_sem]) rfl ?_
        rw [HE.out.1, HE.out.2.1, HE.out.2.2.1, HE.out.2.2.2]
        exact ⟨_, _, _, rfl, Sl.nil _ _ _, Sl.nil _ _ _, Sl.nil _ _ _, HG.out⟩
      · have hkx : k < 0 := by omega
        clear hk3 hkn
        go_enter Tryz.func20, Tryz.ntmps20
        go_wp2_with fail
        refine (HC.out _).mono ?_
        rintro e w1 ⟨rfl, hg⟩
        have HG := hidTrans hg HG0
        clear hg
        go_wp2
        refine bodyPost_ret (v := .tuple #[.slice none 0 0, .slice none 0 0, .slice none 0 0, .int .i64 1]) (by simp [results, Tryz.results20, go_sem]) rfl ?_
        rw [HE.out.1, HE.out.2.1, HE.out.2.2.1, HE.out.2.2.2]
        exact ⟨_, _, _, rfl, Sl.nil _ _ _, Sl.nil _ _ _, Sl.nil _ _ _, HG.out⟩
end Go.Proofs.YtnjkelojkoeihaaGreatDoor

namespace Go.Proofs.YtnjkelojkoeihaaGreatDoor
open Go Go.RowKit

theorem pairsOne_any (x : Int × Int) (w : World) (hx : U64 x.1 ∧ U64 x.2) :
    Calls Tryz.prog 79 #[.agg #[.int .u64 x.1, .int .u64 x.2]] w (Gives encU (fun g => w.heap.size ≤ g) w [x.1, x.2]) := by
  have HX := Lib.hid hx
  have HS : Hid (Sl encU (fun g => w.heap.size ≤ g) ((w.alloc (Obj.cells #[.int .u64 x.1, .int .u64 x.2] 58)).alloc (.cells #[.int .u64 x.1, .int .u64 x.2] 22)) (.slice (some ⟨w.heap.size + 1, 0, none⟩) 2 2) [x.1, x.2]) := Lib.hid (by
    have h := Bk.new (w.alloc (Obj.cells #[.int .u64 x.1, .int .u64 x.2] 58)) 22 #[.int .u64 x.1, .int .u64 x.2]
    rw [World.size_alloc] at h
    exact Sl.block (xs := [x.1, x.2]) h (by omega) [[.int .u64 x.1], [.int .u64 x.2]] rfl (fun i hi hi' => by
      match i, hi with
      | 0, _ => exact ⟨rfl, HX.out.1⟩
      | 1, _ => exact ⟨rfl, HX.out.2⟩) rfl (Nat.le_refl _) (by decide))
  obtain ⟨a, b⟩ := x
  clear hx
  go_enter Tryz.func79, Tryz.ntmps79
  go_wp2
  go_ret
  exact ⟨_, rfl, HS.out, grown_two⟩
set_option maxHeartbeats 1000000 in
theorem eachPairs_any (v : Value) (l : List (Int × Int)) (X : Nat → Prop) (w : World) (h : Sl encP X w v l) (hb : l.length ≤ 1000) :
    Calls Tryz.prog 78 #[v, .func (.func 79) #[] #[]] w (Gives (encS encU) (fun g => w.heap.size ≤ g) w (l.map fun x => [x.1, x.2])) := by
  have H := Lib.hid h
  have HB := Lib.hid hb
  obtain ⟨A, c, rfl, hc1, hc2⟩ := h.form
  clear h hb
  go_enter Tryz.func78, Tryz.ntmps78
  go_wp2_with fail
  go_loopg [5, 10] l.length (fun g s5 s10 wx => ∃ j : Nat, j + g = l.length ∧ s10 = .int .i64 j ∧ Hid (Acc (encS encU) w.heap.size 25 (fun g => w.heap.size ≤ g) wx s5 ((l.take j).map fun x => [x.1, x.2]) ∧ w.grownBy wx none))
  case atStart => exact ⟨0, by omega, rfl, Lib.hid ⟨Acc.nil _ _ _ _ _, World.grownBy.refl _ none⟩⟩
  case round =>
    obtain ⟨j, hj, rfl, HX⟩ := hrel
    cases gk with
    | zero =>
      obtain rfl : j = l.length := by omega
      have HR : Hid (Sl (encS encU) (fun g => w.heap.size ≤ g) wr u5 (l.map fun x => [x.1, x.2]) ∧ w.grownBy wr none) := Lib.hid ⟨by have := HX.out.1.sl; rwa [List.take_length] at this, HX.out.2⟩
      clear HX
      go_wp2
      go_ret
      exact ⟨_, rfl, HR.out.1, HR.out.2⟩
    | succ m =>
      have hjn : (j : Int) < (l.length : Int) := by omega
      have hjN : j < l.length := by omega
      obtain ⟨hacc, hg⟩ := HX.out
      obtain ⟨g, o, c', e, _, _, hc0, hc1', hu1, hu2⟩ := (H.out.kept hg).atP hjN
      injection e with e1 e2 e3
      subst e1 e3
      have HSN : Hid ((l.take (j + 1)).map (fun x => [x.1, x.2]) = (l.take j).map (fun x => [x.1, x.2]) ++ [[l[j].1, l[j].2]]) := Lib.hid (by rw [List.take_succ_eq_append_getElem hjN, List.map_append]; rfl)
      have HU := Lib.hid (And.intro hu1 hu2)
      have HAC := Lib.hid hacc
      have HG := Lib.hid hg
      have HLB : Hid ((((l.take j).map fun x => [x.1, x.2]).length + 1) * 24 ≤ 140737488355328) := Lib.hid (by have := HB.out; simp; omega)
      obtain ⟨y, hy⟩ : ∃ y, y = l[j] := ⟨_, rfl⟩
      rw [← hy] at HSN HU hc0 hc1'
      obtain ⟨wa, hwa⟩ : ∃ y2, y2 = wr.alloc (Obj.cells #[.int .u64 y.1, .int .u64 y.2] 58) := ⟨_, rfl⟩
      have HGA : Hid (wr.grownBy wa none) := Lib.hid (by rw [hwa]; exact World.grownBy_alloc _ _ none)
      have hbx : Bk wa wr.heap.size 58 #[.int .u64 y.1, .int .u64 y.2] := by rw [hwa]; exact Bk.new _ _ _
      have HC := Lib.hid (pairsOne_any y wa HU.out)
      obtain ⟨ya, yb⟩ := y
      simp only at hc0 hc1' HC HSN hwa hbx
      have d0 := hbx.cell 0
      have d1 := hbx.cell 1
      simp at d0 d1
      clear hacc hg HX hu1 hu2 e2 hy hbx
      generalize l.length = n at *
      go_wp2_with fail
      rw [← hwa]
      clear hwa
      refine HC.out.mono ?_
      rintro e w1 ⟨v1, rfl, hs1, hg1⟩
      obtain ⟨A1, c1, e1, _, _⟩ := hs1.form
      subst e1
      have HG1 : Hid (w.grownBy w1 none) := Lib.hid (HG.out.trans (HGA.out.trans hg1))
      have HAC1 := Lib.hid (HAC.out.kept (HGA.out.trans hg1))
      have HREP : Hid ((encS encU).rep (fun g => w.heap.size ≤ g ∧ some g ≠ u5.ownBlock) w1 [.slice A1 2 c1] [ya, yb]) := Lib.hid ⟨_, rfl, hs1.more fun g _ h => ⟨Nat.le_trans (HG.out.trans HGA.out).size h, fun e => by have h1 := (HAC.out.lt g e.symm).2; have h2 := HGA.out.size; omega⟩⟩
      clear hs1 hg1 d0 d1 hc0 hc1'
      go_wp2_with (at_builtin; refine wpList_pushG rfl (.tmp 14) (.tmp 18) rfl (E := encS encU) (y := [ya, yb]) el_nums HG1.out HAC1.out (fun _ h => h) HREP.out HLB.out rfl rfl ?_)
      intro v2 w2 hacc2 hg2 hgo
      have HFIN : Hid (Acc (encS encU) w.heap.size 25 (fun g => w.heap.size ≤ g) w2 v2 ((l.take (j + 1)).map fun x => [x.1, x.2]) ∧ w.grownBy w2 none) := Lib.hid ⟨by rw [HSN.out]; simpa using hacc2, hg2⟩
      clear hacc2 hg2 hgo
      go_wp2_with fail
      go_roundg m
      case measure => omega
      case rel => exact ⟨j + 1, by omega, by go_num, HFIN⟩
set_option maxHeartbeats 1000000 in
theorem flatU_any (v : Value) (ls : List (List Int)) (X : Nat → Prop) (w : World) (h : Sl (encS encU) X w v ls) (hb : ls.length ≤ 1000) (hb2 : ∀ x ∈ ls, x.length ≤ 1000) :
    Calls Tryz.prog 75 #[v] w (Gives encU (fun g => w.heap.size ≤ g) w ls.flatten) := by
  have H := Lib.hid h
  have HB2 := Lib.hid hb2
  have HB := Lib.hid hb
  obtain ⟨A, c, rfl, hc1, hc2⟩ := h.form
  have HLN : Hid (∀ j, (ls.take j).flatten.length ≤ j * 1000) := Lib.hid (fun j => by
    induction j with
    | zero => simp
    | succ j ih =>
      rcases Nat.lt_or_ge j ls.length with h | h
      · rw [List.take_succ_eq_append_getElem h, List.flatten_append, List.length_append]
        have h1 := hb2 _ (List.getElem_mem h)
        have h2 : [ls[j]].flatten.length = ls[j].length := by simp
        rw [h2, Nat.add_mul]
        exact Nat.add_le_add ih (by rw [Nat.one_mul]; exact h1)
      · rw [List.take_of_length_le (show ls.length ≤ j + 1 from Nat.le_succ_of_le h)]
        rw [List.take_of_length_le h] at ih
        exact Nat.le_trans ih (Nat.mul_le_mul_right _ (Nat.le_succ j)))
  clear h hb hb2
  go_enter Tryz.func75, Tryz.ntmps75
  go_wp2_with fail
  go_loopg [3, 8] ls.length (fun g s3 s8 wx => ∃ j : Nat, j + g = ls.length ∧ s8 = .int .i64 j ∧ Hid (Acc encU w.heap.size 22 (fun g => w.heap.size ≤ g) wx s3 (ls.take j).flatten ∧ w.grownBy wx none))
  case atStart => exact ⟨0, by omega, rfl, Lib.hid ⟨Acc.nil _ _ _ _ _, World.grownBy.refl _ none⟩⟩
  case round =>
    obtain ⟨j, hj, rfl, HX⟩ := hrel
    cases gk with
    | zero =>
      obtain rfl : j = ls.length := by omega
      have HR : Hid (Sl encU (fun g => w.heap.size ≤ g) wr u3 ls.flatten ∧ w.grownBy wr none) := Lib.hid ⟨by have := HX.out.1.sl; rwa [List.take_length] at this, HX.out.2⟩
      clear HX
      go_wp2
      go_ret
      exact ⟨_, rfl, HR.out.1, HR.out.2⟩
    | succ m =>
      have hjn : (j : Int) < (ls.length : Int) := by omega
      have hjN : j < ls.length := by omega
      obtain ⟨hacc, hg⟩ := HX.out
      obtain ⟨g, o, c', u, e, _, _, hcu, hu⟩ := (H.out.kept hg).atS hjN
      injection e with e1 e2 e3
      subst e1 e3
      have HSN : Hid ((ls.take (j + 1)).flatten = (ls.take j).flatten ++ ls[j]) := Lib.hid (by rw [List.take_succ_eq_append_getElem hjN, List.flatten_append]; simp)
      have HAC := Lib.hid hacc
      have HG := Lib.hid hg
      obtain ⟨A1, c1, e1, _, _⟩ := hu.form
      have HLB : Hid (((ls.take j).flatten.length + ls[j].length) * 8 ≤ 140737488355328) := Lib.hid (by have h1 := HLN.out j; have h2 := HB.out; have h3 := HB2.out _ (List.getElem_mem hjN); omega)
      have HSZ : Hid (w.heap.size ≤ wr.heap.size) := Lib.hid hg.size
      have HU := Lib.hid hu
      clear hacc hg HX hu e2
      obtain ⟨y, hy⟩ : ∃ y, y = ls[j] := ⟨_, rfl⟩
      rw [← hy] at e1 HSN HLB HU
      clear hy
      obtain ⟨ny, hny⟩ : ∃ y2, y2 = y.length := ⟨_, rfl⟩
      rw [← hny] at e1
      subst e1
      clear hny
      go_wp2_with (at_builtin; refine wpList_apps rfl (.tmp 12) (.tmp 13) rfl (E := encU) el_u64 HAC.out rfl rfl HU.out (fun _ _ h => h) HLB.out HSZ.out (fun _ h => Nat.le_trans HSZ.out h) ?_)
      intro v2 w2 hacc2 hg2 hm2
      have HFIN : Hid (Acc encU w.heap.size 22 (fun g => w.heap.size ≤ g) w2 v2 (ls.take (j + 1)).flatten ∧ w.grownBy w2 none) := Lib.hid ⟨by rw [HSN.out]; exact hacc2, grown_up HG.out hg2 (fun k e => (HAC.out.lt k e).1)⟩
      clear hacc2 hg2 hm2
      go_wp2_with fail
      go_roundg m
      case measure => omega
      case rel => exact ⟨j + 1, by omega, by go_num, HFIN⟩
theorem dpairs_any (v : Value) (l : List (Int × Int)) (X : Nat → Prop) (w : World) (h : Sl encP X w v l) (hb : l.length ≤ 1000) :
    Calls Tryz.prog 25 #[v] w (Gives encU (fun g => w.heap.size ≤ g) w (l.map fun x => [x.1, x.2]).flatten) := by
  have HE := Lib.hid (eachPairs_any v l X w h hb)
  have HF := Lib.hid (fun u Y w' (hs : Sl (encS encU) Y w' u (l.map fun x => [x.1, x.2])) => flatU_any u _ Y w' hs (by simpa using hb) (fun x hx => by obtain ⟨y, _, rfl⟩ := List.mem_map.1 hx; simp))
  obtain ⟨A, c, rfl, _, _⟩ := h.form
  clear h
  go_enter Tryz.func25, Tryz.ntmps25
  go_wp2_with fail
  refine HE.out.mono ?_
  rintro e w1 ⟨v1, rfl, hs1, hg1⟩
  have HG1 := Lib.hid hg1
  have HS1 := Lib.hid hs1
  clear hs1 hg1
  go_wp2_with fail
  refine (HF.out _ _ _ HS1.out).mono ?_
  rintro e w2 ⟨v2, rfl, hs2, hg2⟩
  have HR : Hid (Sl encU (fun g => w.heap.size ≤ g) w2 v2 (l.map fun x => [x.1, x.2]).flatten ∧ w.grownBy w2 none) := Lib.hid ⟨hs2.more fun g _ h => Nat.le_trans HG1.out.size h, HG1.out.trans hg2⟩
  clear hs2 hg2
  go_wp2
  go_ret
  exact ⟨_, rfl, HR.out⟩
end Go.Proofs.YtnjkelojkoeihaaGreatDoor
