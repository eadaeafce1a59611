/- deal.Make, walked (printed by mk_dealh.py). deal.Model and deal.Make where they refuse. What DealNames (closed) reckons: its values, by the kernel. A region that draws its order, in which some operations (the late ones: calls, appends, stores) turn what lay there, in whichever order they come (printed by mk_free.py from XLate). A drawn region that calls, lays a block, and stores into it what the call told (d, e := f(..) of a struct that lies in memory): the call and the block come in either order. Draws alone leave the memory as it was; the table of bits as it is listed. -/
import Derived.Test.YthicondcjeipfaaGreatDoorZ4
import Derived.ProofKit
namespace Go.Proofs.YthicondcjeipfaaGreatDoor
open Go Go.RowKit Go.Shelf

theorem two_any {pa : Option Addr} {g : Nat} {dr : Nat → Int} {TI : Nat → World → Prop} {bl : Nat → Prop} {most : Nat} (p : Par) (hT : TpP pa g p.Q dr TI bl most) (x : Int) (t k : Nat) (w : World) (hx : U64 x) (hq : U64 p.Q) (hq0 : 0 < p.Q) (ht : (t : Int) = p.T + 1) (h2 : t = 2 ∨ t = 3) (hk : k + (t * t - 1) ≤ most) (hI : TI k w) :
    Calls Tryz.prog 26 #[p.v, .int .u64 x, .func (.func 27) #[.pointer pa] #[]] w fun e w' => ∃ v, e = .returned v ∧ Sl (encS encU) (fun b => w.heap.size ≤ b) w' v (twoL x p.Q dr t k) ∧ TI (k + (t * t - 1)) w' ∧ w.grownBy w' (some g) := by
  rcases h2 with rfl | rfl
  · exact two2_any p hT x k w hx hq hq0 (by omega) hk hI
  · exact two3_any p hT x k w hx hq hq0 (by omega) hk hI
set_option maxRecDepth 100000 in
set_option maxHeartbeats 8000000 in
theorem dmake_any (p : Par) (vl : Value) (l : List (Int × Int)) (n : Nat) (X : Nat → Prop) (w : World) {pa : Option Addr} {g : Nat} {dr : Nat → Int} {TI : Nat → World → Prop} {bl : Nat → Prop} {most : Nat} (hT : TpP pa g p.Q dr TI bl most) (hp : p.ok) (hm : mayP p = true) (hTab : TabsAt w) (h : Sl encP X w vl l) (hX : ∀ b, X b → b ≠ g) (hl : (l.length : Int) = secretsI p) (hn : 1 ≤ n ∧ n ≤ 7) (k0 t : Nat) (ht : (t : Int) = p.T + 1) (hI : TI k0 w) (hmost : k0 + l.length * (2 * (t * t - 1)) ≤ most) :
    Calls Tryz.prog 7 #[p.v, vl, .int .i64 n, .pointer pa] w fun e w' => ∃ vm vr vc, e = .returned (.tuple #[.agg #[vm, vr, vc], .int .i64 0]) ∧ Sl (encS (encS encU)) (fun b => w.heap.size ≤ b) w' vm (matI p (makeFs l p.Q dr t k0 l.length) (makeBs l p.Q dr t k0 l.length)) ∧ Sl (encS (encS encP)) (fun b => w.heap.size ≤ b) w' vr ((List.range n).map fun j : Nat => rowsP p.Q (makeFs l p.Q dr t k0 l.length) (makeBs l p.Q dr t k0 l.length) t ((j : Int) + 1)) ∧ Sl (encS (encS encP)) (fun b => w.heap.size ≤ b) w' vc ((List.range n).map fun j : Nat => colsP p.Q (makeFs l p.Q dr t k0 l.length) (makeBs l p.Q dr t k0 l.length) t ((j : Int) + 1)) ∧ TI (k0 + l.length * (2 * (t * t - 1))) w' ∧ w.grownBy w' (some g) := by
  have HT := Lib.hid hT
  have HP := Lib.hid hp
  have HX := Lib.hid hX
  obtain ⟨hq, _, _, n1, n2, n3, t1, t2, t3, hs, kk1, dd1⟩ := may_apart hm
  have hsec := smallB_secrets hs
  have HQ : Hid (U64 p.Q ∧ 0 < p.Q) := Lib.hid ⟨hp.Q, mayB_pos hq⟩
  have hL10 : l.length ≤ 10 := by omega
  have ht23 : t = 2 ∨ t = 3 := by omega
  have HT23 := Lib.hid ht23
  obtain ⟨hn1, hn7⟩ := hn
  obtain ⟨dd, hdd⟩ : ∃ y, y = t * t - 1 := ⟨_, rfl⟩
  rw [← hdd] at hmost ⊢
  have HDD := Lib.hid hdd
  obtain ⟨A, c, rfl, hl1, hl2⟩ := h.form
  have hGW : g < w.heap.size := hT.old hI hT.own
  have HGW := Lib.hid hGW
  have HOB : Hid (∀ b, bl b → b < w.heap.size) := Lib.hid (fun b hb => hT.old hI hb)
  obtain ⟨w0, hw0⟩ : ∃ y, y = (w.alloc (Obj.cells p.cells 24)).alloc (Obj.cells #[.slice none 0 0, .slice none 0 0, .slice none 0 0] 33) := ⟨_, rfl⟩
  have HG0 : Hid (w.grownBy w0 none) := Lib.hid (by rw [hw0]; exact grown_two)
  have HB0 : Hid (Bk w0 w.heap.size 24 p.cells) := Lib.hid (by rw [hw0]; exact (Bk.new w _ _).alloc _)
  have HR0 : Hid (Bk w0 (w.heap.size + 1) 33 #[.slice none 0 0, .slice none 0 0, .slice none 0 0]) := Lib.hid (by
    rw [hw0]
    have h := Bk.new (w.alloc (Obj.cells p.cells 24)) 33 #[.slice none 0 0, .slice none 0 0, .slice none 0 0]
    rw [World.size_alloc] at h
    exact h)
  have HI0 : Hid (TI k0 w0) := Lib.hid (hT.keep hI HG0.out (by simp))
  have HMY := Lib.hid (fun (w' : World) (hg : w0.grownBy w' none) => may_any p w' hp (hTab.kept (HG0.out.trans hg)))
  rw [hm] at HMY
  have HMAY := Lib.hid hm
  have HSEC := Lib.hid (dsecrets_any p)
  rw [← hl] at HSEC
  have HL := Lib.hid (h.kept HG0.out)
  have HTP := Lib.hid ht
  have HMO := Lib.hid hmost
  clear hT hp hX hq n1 n2 n3 t1 t2 t3 hs kk1 dd1 hsec hm hTab h hI ht hmost hl hGW hdd ht23
  go_enter Tryz.func7, Tryz.ntmps7
  go_wp2_with fail
  rw [← hw0]
  have hp0 := HB0.out.prule
  clear hw0
  go_wp2_with fail
  refine (HMY.out _ (World.grownBy.refl _ none)).mono ?_
  rintro e w1 ⟨rfl, hg⟩
  have HG1 : Hid (w0.grownBy w1 none) := Lib.hid hg
  have hp1 := (HB0.out.grown hg (by simp)).prule
  clear hg hp0 HMY
  go_wp2_with fail
  refine (HSEC.out _).mono ?_
  rintro e w2 ⟨rfl, hg⟩
  have HG2 : Hid (w0.grownBy w2 none) := Lib.hid (HG1.out.trans hg)
  clear hg hp1 HSEC
  have hn7' : ¬ ((n : Int) > 7) := by omega
  have hn1' : ¬ ((n : Int) < 1) := by omega
  go_upto_region 5 with (fail)
  have HB2 : Hid (Bk w2 w.heap.size 24 p.cells) := Lib.hid (HB0.out.grown HG2.out (by simp))
  have HR2 : Hid (Bk w2 (w.heap.size + 1) 33 #[.slice none 0 0, .slice none 0 0, .slice none 0 0]) := Lib.hid (HR0.out.grown HG2.out (by simp))
  have HI2 : Hid (TI k0 w2) := Lib.hid (HT.out.keep HI0.out HG2.out (by simp))
  have HW2 : Hid (w.heap.size + 1 < w2.heap.size ∧ g < w.heap.size) := Lib.hid ⟨HR2.out.lt, HGW.out⟩
  have HPX : Hid (∀ wx, w2.grownBy wx (some g) → Bk wx w.heap.size 24 p.cells) := Lib.hid (fun wx hg => HB2.out.grown hg (fun e => by injection e with e; have := HW2.out.2; omega))
  have HLX : Hid (∀ wx, w2.grownBy wx (some g) → Sl encP X wx (.slice A l.length c) l) := Lib.hid (fun wx hg => (HL.out.kept HG2.out).keep hg (fun b hb e => HX.out b hb (by injection e with e)))
  have HTW : Hid (∀ (x : Int) (k : Nat) (wx : World), U64 x → k + dd ≤ most → TI k wx → Calls Tryz.prog 26 #[p.v, .int .u64 x, .func (.func 27) #[.pointer pa] #[]] wx fun e w' => ∃ v, e = .returned v ∧ Sl (encS encU) (fun b => wx.heap.size ≤ b) w' v (twoL x p.Q dr t k) ∧ TI (k + dd) w' ∧ wx.grownBy w' (some g)) := Lib.hid (fun x k wx hx hk hi => by
    rw [HDD.out] at hk ⊢
    exact two_any p HT.out x t k wx hx HQ.out.1 HQ.out.2 HTP.out HT23.out hk hi)
  obtain ⟨L, hLL⟩ : ∃ y, y = l.length := ⟨_, rfl⟩
  have HLN := Lib.hid hLL
  rw [← hLL] at hL10 hl1 HMO HLX ⊢
  clear hLL
  go_loopg [10, 11, 40] L (fun gk s10 s11 s40 wx => ∃ s : Nat, s + gk = L ∧ s40 = .int .i64 s ∧ Hid (Side (encS (encS encU)) (encS (encS encU)) w2.heap.size 47 47 (fun b => w2.heap.size ≤ b) wx s10 s11 (makeFs l p.Q dr t k0 s) (makeBs l p.Q dr t k0 s) ∧ TI (k0 + s * (2 * dd)) wx ∧ w2.grownBy wx (some g)))
  case atStart => exact ⟨0, by omega, rfl, Lib.hid ⟨⟨Acc.nil _ _ _ _ _, Acc.nil _ _ _ _ _⟩, by simpa using HI2.out, World.grownBy.refl _ _⟩⟩
  case round =>
    obtain ⟨s, hsL, rfl, HXX⟩ := hrel
    have HS0 := Lib.hid HXX.out.1
    have HI3 := Lib.hid HXX.out.2.1
    have HG3 := Lib.hid HXX.out.2.2
    clear HXX
    have hp3 := (HPX.out _ HG3.out).prule
    cases gk with
    | zero =>
      have eL : L = s := by omega
      subst eL
      have hno : ¬ ((L : Int) < (L : Int)) := by omega
      obtain ⟨F, hF⟩ : ∃ y, y = makeFs l p.Q dr t k0 L := ⟨_, rfl⟩
      obtain ⟨R, hR⟩ : ∃ y, y = makeBs l p.Q dr t k0 L := ⟨_, rfl⟩
      rw [← hF, ← hR] at HS0
      have HFL : Hid (F.length = L ∧ R.length = L) := Lib.hid (by rw [hF, hR]; simp [makeFs, makeBs])
      have HSQ : Hid ((∀ M ∈ F, SqL t M) ∧ (∀ M ∈ R, SqL t M)) := Lib.hid (by rw [hF, hR]; exact ⟨makeFs_sq _ _ _ _ _ _ (by have := HT23.out; omega), makeBs_sq _ _ _ _ _ _ (by have := HT23.out; omega)⟩)
      have HFE := Lib.hid hF
      have HRE := Lib.hid hR
      obtain ⟨AF, cF, eF, _, _⟩ := HS0.out.fst.sl.form
      obtain ⟨AR, cR, eR, _, _⟩ := HS0.out.snd.sl.form
      rw [HFL.out.1] at eF
      rw [HFL.out.2] at eR
      subst eF eR
      have HMX := Lib.hid (callsIn_wide.1 <| matrix_in 6 (Nat.le_refl _) p (.slice AF L cF) (.slice AR L cR) F R TT wr HP.out (HS0.out.fst.sl.more fun _ _ _ => trivial) (HS0.out.snd.sl.more fun _ _ _ => trivial) (by rw [HFL.out.1]; omega) (by rw [HFL.out.2]; omega) (fun M hM => ⟨by rw [(HSQ.out.1 M hM).1]; have := HT23.out; omega, fun c hc => by rw [(HSQ.out.1 M hM).2 c hc]; have := HT23.out; omega⟩) (fun M hM => ⟨by rw [(HSQ.out.2 M hM).1]; have := HT23.out; omega, fun c hc => by rw [(HSQ.out.2 M hM).2 c hc]; have := HT23.out; omega⟩))
      clear hF hR HTW HLX HMO
      go_wp2_with fail
      refine HMX.out.mono ?_
      rintro e w3 ⟨vm, rfl, hsm, hgm⟩
      obtain ⟨Am, nm, cm, rfl⟩ := hsm.shape
      obtain ⟨w4, hw4⟩ : ∃ y, y = w3.alloc (Obj.cells #[.slice Am nm cm, .slice none 0 0, .slice none 0 0] 33) := ⟨_, rfl⟩
      obtain ⟨Bd, hBd⟩ : ∃ y, y = w3.heap.size := ⟨_, rfl⟩
      have HG34 : Hid (wr.grownBy w4 none) := Lib.hid (by rw [hw4]; exact hgm.trans (World.grownBy_alloc _ _ none))
      have HBD : Hid (Bk w4 Bd 33 #[.slice Am nm cm, .slice none 0 0, .slice none 0 0]) := Lib.hid (by rw [hw4, hBd]; exact Bk.new _ _ _)
      have HSZ4 : Hid (w4.heap.size = Bd + 1 ∧ wr.heap.size ≤ Bd ∧ w2.heap.size ≤ wr.heap.size) := Lib.hid (by rw [hw4, hBd, World.size_alloc]; exact ⟨rfl, hgm.size, HG3.out.size⟩)
      have HSM : Hid (Sl (encS (encS encU)) (fun b => w2.heap.size ≤ b ∧ b < Bd) w4 (.slice Am nm cm) (matI p F R)) := Lib.hid (by
        rw [hw4, hBd]
        exact (hsm.bounded.kept (World.grownBy_alloc _ _ none)).more fun b _ hb => ⟨Nat.le_trans HG3.out.size hb.1, hb.2⟩)
      have HF4 : Hid (Sl (encS (encS encU)) (fun b => b < Bd) w4 (.slice AF L cF) F) := Lib.hid ((HS0.out.fst.sl.bounded.kept HG34.out).more fun b _ hb => Nat.lt_of_lt_of_le hb.2 HSZ4.out.2.1)
      have HR4 : Hid (Sl (encS (encS encU)) (fun b => b < Bd) w4 (.slice AR L cR) R) := Lib.hid ((HS0.out.snd.sl.bounded.kept HG34.out).more fun b _ hb => Nat.lt_of_lt_of_le hb.2 HSZ4.out.2.1)
      have HI4 : Hid (TI (k0 + L * (2 * dd)) w4) := Lib.hid (HT.out.keep HI3.out HG34.out (by simp))
      have HG4 : Hid (w2.grownBy w4 (some g)) := Lib.hid (HG3.out.trans (HG34.out.but _))
      have HPD : Hid (∀ wx, w4.grownBy wx (some Bd) → Bk wx w.heap.size 24 p.cells) := Lib.hid (fun wx hg => (HPX.out _ HG4.out).grown hg (fun e => by injection e with e; have := HW2.out; have := HSZ4.out; omega))
      have HFX : Hid (∀ wx, w4.grownBy wx (some Bd) → Sl (encS (encS encU)) (fun b => b < Bd) wx (.slice AF L cF) F) := Lib.hid (fun wx hg => HF4.out.keep hg (fun b hb e => by injection e with e; omega))
      have HRX : Hid (∀ wx, w4.grownBy wx (some Bd) → Sl (encS (encS encU)) (fun b => b < Bd) wx (.slice AR L cR) R) := Lib.hid (fun wx hg => HR4.out.keep hg (fun b hb e => by injection e with e; omega))
      have HST : Hid (∃ vr vc, Bk w4 Bd 33 #[.slice Am nm cm, vr, vc] ∧ Side (encS (encS encP)) (encS (encS encP)) w4.heap.size 41 41 (fun b => w4.heap.size ≤ b) w4 vr vc ((List.range 0).map fun k : Nat => rowsP p.Q F R t ((k : Int) + 1)) ((List.range 0).map fun k : Nat => colsP p.Q F R t ((k : Int) + 1)) ∧ w4.grownBy w4 (some Bd)) := Lib.hid ⟨_, _, HBD.out, ⟨Acc.nil _ _ _ _ _, Acc.nil _ _ _ _ _⟩, World.grownBy.refl _ _⟩
      clear hsm hgm HMX HS0 HF4 HR4 HI3 HBD HG34 HPX HG3
      go_upto_region 12 with (fail)
      rw [← hw4, ← hBd]
      clear hw4 hBd hp3
      go_loopg [15] n (fun gk s15 wx => ∃ j : Nat, j + gk = n ∧ s15 = .int .u64 ((j : Int) + 1) ∧ Hid (∃ vr vc, Bk wx Bd 33 #[.slice Am nm cm, vr, vc] ∧ Side (encS (encS encP)) (encS (encS encP)) w4.heap.size 41 41 (fun b => w4.heap.size ≤ b) wx vr vc ((List.range j).map fun k : Nat => rowsP p.Q F R t ((k : Int) + 1)) ((List.range j).map fun k : Nat => colsP p.Q F R t ((k : Int) + 1)) ∧ w4.grownBy wx (some Bd)))
      case atStart => exact ⟨0, by omega, rfl, HST⟩
      case round =>
        rename World => wj
        obtain ⟨j, hjn, rfl, HDX⟩ := hrel
        obtain ⟨vr, vc, hbd, hsd, hgd⟩ := HDX.out
        have HBd := Lib.hid hbd
        have HSd := Lib.hid hsd
        have HGd := Lib.hid hgd
        clear hbd hsd hgd HDX HST
        obtain ⟨Ar1, nr1, cr1, rfl⟩ := HSd.out.fst.sl.shape
        obtain ⟨Ac1, nc1, cc1, rfl⟩ := HSd.out.snd.sl.shape
        have hwn : IntKind.u64.wrap (n : Int) = (n : Int) := IntWalk.u64_in _ (by omega)
        cases gk with
        | zero =>
          obtain rfl : j = n := by omega
          have hno2 : ¬ ((j : Int) + 1 ≤ (j : Int)) := by omega
          have HG24 : Hid (w2.grownBy wj (some g)) := Lib.hid (HG4.out.andThen HGd.out (fun b e => .inl (by injection e with e; have := HSZ4.out; omega)))
          have HR8 : Hid (Bk wj (w.heap.size + 1) 33 #[.slice none 0 0, .slice none 0 0, .slice none 0 0]) := Lib.hid (HR2.out.grown HG24.out (fun e => by injection e with e; have := HW2.out; omega))
          have c0 := HBd.out.cell 0
          have c1 := HBd.out.cell 1
          have c2 := HBd.out.cell 2
          have r0 := HR8.out.cell 0
          have r1 := HR8.out.cell 1
          have r2 := HR8.out.cell 2
          have f8 := HR8.out.free
          simp at c0 c1 c2 r0 r1 r2
          obtain ⟨wF, hwF⟩ : ∃ x, x = ((wj.setCell ⟨w.heap.size + 1, 0, none⟩ (.slice Am nm cm)).setCell ⟨w.heap.size + 1, 1, none⟩ (.slice Ar1 nr1 cr1)).setCell ⟨w.heap.size + 1, 2, none⟩ (.slice Ac1 nc1 cc1) := ⟨_, rfl⟩
          have HF8 : Hid (Bk wF (w.heap.size + 1) 33 #[.slice Am nm cm, .slice Ar1 nr1 cr1, .slice Ac1 nc1 cc1]) := Lib.hid (by rw [hwF]; exact ((HR8.out.set 0 _).set 1 _).set 2 _)
          have HGF : Hid (wj.grownBy wF (some (w.heap.size + 1))) := Lib.hid (by rw [hwF]; exact ((grownSet wj (w.heap.size + 1) 0 _).trans (grownSet _ (w.heap.size + 1) 1 _)).trans (grownSet _ (w.heap.size + 1) 2 _))
          have HFIN : Hid (Sl (encS (encS encU)) (fun b => w.heap.size ≤ b) wF (.slice Am nm cm) (matI p (makeFs l p.Q dr t k0 L) (makeBs l p.Q dr t k0 L)) ∧ Sl (encS (encS encP)) (fun b => w.heap.size ≤ b) wF (.slice Ar1 nr1 cr1) ((List.range j).map fun k : Nat => rowsP p.Q (makeFs l p.Q dr t k0 L) (makeBs l p.Q dr t k0 L) t ((k : Int) + 1)) ∧ Sl (encS (encS encP)) (fun b => w.heap.size ≤ b) wF (.slice Ac1 nc1 cc1) ((List.range j).map fun k : Nat => colsP p.Q (makeFs l p.Q dr t k0 L) (makeBs l p.Q dr t k0 L) t ((k : Int) + 1)) ∧ TI (k0 + L * (2 * dd)) wF ∧ w.grownBy wF (some g)) := Lib.hid (by
            rw [← HFE.out, ← HRE.out]
            have h2 := HW2.out
            have h4 := HSZ4.out
            refine ⟨?_, ?_, ?_, ?_, ?_⟩
            · exact ((HSM.out.keep HGd.out (fun b hb e => by injection e with e; omega)).keep HGF.out (fun b hb e => by injection e with e; omega)).more fun b _ hb => by have := hb.1; omega
            · exact (HSd.out.fst.sl.keep HGF.out (fun b hb e => by injection e with e; have := hb.1; omega)).more fun b _ hb => by have := hb.1; omega
            · exact (HSd.out.snd.sl.keep HGF.out (fun b hb e => by injection e with e; have := hb.1; omega)).more fun b _ hb => by have := hb.1; omega
            · exact HT.out.keep (HT.out.keep HI4.out HGd.out (fun b e hb => by injection e with e; have := HOB.out b hb; omega)) HGF.out (fun b e hb => by injection e with e; have := HOB.out b hb; omega)
            · exact (((HG0.out.trans HG2.out).but _).trans HG24.out).andThen HGF.out (fun b e => .inl (by injection e with e; omega)))
          clear HBd HSd HG24 HR8 HGF HSM
          go_wp2_with fail
          rw [← hwF]
          refine ⟨rfl, _, results_deal rfl _ rfl rfl HF8.out, ?_⟩
          refine ⟨_, _, _, rfl, ?_⟩
          rw [← HLN.out]
          exact HFIN.out
        | succ m =>
          have hj1 : (j : Int) + 1 ≤ (n : Int) := by omega
          have hj0 : (0 : Int) ≤ (j : Int) := Int.natCast_nonneg j
          have HIN : Hid (Side (encS encP) (encS encP) wj.heap.size 39 39 (fun b => wj.heap.size ≤ b) wj (.slice none 0 0) (.slice none 0 0) ((List.range 0).map (rowP p.Q F R t ((j : Int) + 1))) ((List.range 0).map (colP p.Q F R t ((j : Int) + 1))) ∧ wj.grownBy wj none) := Lib.hid ⟨⟨Acc.nil _ _ _ _ _, Acc.nil _ _ _ _ _⟩, World.grownBy.refl _ _⟩
          go_upto_region 16 with (fail)
          go_loopg [16, 17, 76] L (fun gk s16 s17 s76 wx => ∃ i : Nat, i + gk = L ∧ s76 = .int .i64 i ∧ Hid (Side (encS encP) (encS encP) wj.heap.size 39 39 (fun b => wj.heap.size ≤ b) wx s16 s17 ((List.range i).map (rowP p.Q F R t ((j : Int) + 1))) ((List.range i).map (colP p.Q F R t ((j : Int) + 1))) ∧ wj.grownBy wx none))
          case atStart => exact ⟨0, by omega, rfl, HIN⟩
          case round =>
            rename World => wi
            obtain ⟨i, hiL, rfl, HY⟩ := hrel
            have HSi := Lib.hid HY.out.1
            have HGi := Lib.hid HY.out.2
            clear HY HIN
            obtain ⟨A16, n16, c16, rfl⟩ := HSi.out.fst.sl.shape
            obtain ⟨A17, n17, c17, rfl⟩ := HSi.out.snd.sl.shape
            cases gk with
            | zero =>
              have eI : L = i := by omega
              subst eI
              have hno3 : ¬ ((L : Int) < (L : Int)) := by omega
              obtain ⟨y, hy⟩ : ∃ y, y = rowsP p.Q F R t ((j : Int) + 1) := ⟨_, rfl⟩
              obtain ⟨z, hz⟩ : ∃ z, z = colsP p.Q F R t ((j : Int) + 1) := ⟨_, rfl⟩
              obtain ⟨xs, hxs⟩ : ∃ xs, xs = (List.range j).map fun k : Nat => rowsP p.Q F R t ((k : Int) + 1) := ⟨_, rfl⟩
              obtain ⟨ys, hys⟩ : ∃ ys, ys = (List.range j).map fun k : Nat => colsP p.Q F R t ((k : Int) + 1) := ⟨_, rfl⟩
              have HXS : Hid ((List.range (j + 1)).map (fun k : Nat => rowsP p.Q F R t ((k : Int) + 1)) = xs ++ [y]) := Lib.hid (by rw [hsnoc, hxs, hy])
              have HYS : Hid ((List.range (j + 1)).map (fun k : Nat => colsP p.Q F R t ((k : Int) + 1)) = ys ++ [z]) := Lib.hid (by rw [hsnoc, hys, hz])
              have HGw : Hid (wj.grownBy wi.drew none) := Lib.hid (HGi.out.trans (grown_drewN' wi 1))
              obtain ⟨hi, hhi⟩ : ∃ y, y = wi.drew.heap.size := ⟨_, rfl⟩
              have HR1 : Hid ((encS (encS encP)).rep (fun b => wj.heap.size ≤ b ∧ b < hi) wi.drew [.slice A16 n16 c16] y) := Lib.hid ⟨_, rfl, by
                rw [hy]
                unfold rowsP
                rw [HFL.out.1, hhi]
                exact ((HSi.out.fst.sl.kept (grown_drewN' wi 1)).bounded).more fun b _ hb => ⟨hb.1.1, hb.2⟩⟩
              have HR2' : Hid ((encS (encS encP)).rep (fun b => wj.heap.size ≤ b ∧ b < hi) wi.drew [.slice A17 n17 c17] z) := Lib.hid ⟨_, rfl, by
                rw [hz]
                unfold colsP
                rw [HFL.out.1, hhi]
                exact ((HSi.out.snd.sl.kept (grown_drewN' wi 1)).bounded).more fun b _ hb => ⟨hb.1.1, hb.2⟩⟩
              have HWL : Hid (∀ b, (Value.slice Ar1 nr1 cr1).ownBlock = some b → b < wj.heap.size) := Lib.hid (fun b e => (HSd.out.fst.lt b e).2)
              have HBL : Hid (∀ b, (Value.slice Ac1 nc1 cc1).ownBlock = some b → b < wj.heap.size) := Lib.hid (fun b e => (HSd.out.snd.lt b e).2)
              have HD4 : Hid (Bd < w4.heap.size ∧ w4.heap.size ≤ wj.heap.size) := Lib.hid ⟨by have := HSZ4.out; omega, HGd.out.size⟩
              rw [← hxs, ← hys] at HSd
              have HC0 : Hid ((twLt (encS (encS encP)) 33 41 w4 Bd wj.heap.size hi #[.slice Am nm cm, .slice Ar1 nr1 cr1, .slice Ac1 nc1 cc1] (.slice Ar1 nr1 cr1) (.slice Ac1 nc1 cc1) (.slice A16 n16 c16) (.slice A17 n17 c17) xs ys y z).C [] wi.drew) := Lib.hid ⟨HGd.out.trans (HGw.out.but _), HBd.out.grown HGw.out (by simp), by rw [hhi]; exact Nat.le_refl _, HR1.out, HR2'.out, HSd.out.kept HGw.out⟩
              have HLD : Hid (∀ vs W, (twLt (encS (encS encP)) 33 41 w4 Bd wj.heap.size hi #[.slice Am nm cm, .slice Ar1 nr1 cr1, .slice Ac1 nc1 cc1] (.slice Ar1 nr1 cr1) (.slice Ac1 nc1 cc1) (.slice A16 n16 c16) (.slice A17 n17 c17) xs ys y z).C vs W → W.cell? ⟨Bd, 1, none⟩ = some (.slice Ar1 nr1 cr1) ∧ W.cell? ⟨Bd, 2, none⟩ = some (.slice Ac1 nc1 cc1)) := Lib.hid (fun vs W hC => ⟨hC.2.1.cell 1, hC.2.1.cell 2⟩)
              have HSZ : Hid (∀ vs W, (twLt (encS (encS encP)) 33 41 w4 Bd wj.heap.size hi #[.slice Am nm cm, .slice Ar1 nr1 cr1, .slice Ac1 nc1 cc1] (.slice Ar1 nr1 cr1) (.slice Ac1 nc1 cc1) (.slice A16 n16 c16) (.slice A17 n17 c17) xs ys y z).C vs W → wj.heap.size ≤ W.heap.size) := Lib.hid (fun vs W hC => Nat.le_trans (by rw [hhi]; exact HGw.out.size) hC.2.2.1)
              have HLX1 : Hid ((xs.length + 1) * 24 ≤ 140737488355328) := Lib.hid (by rw [hxs]; simp; omega)
              have HLX2 : Hid ((ys.length + 1) * 24 ≤ 140737488355328) := Lib.hid (by rw [hys]; simp; omega)
              clear hy hz hxs hys hhi HR1 HR2' HSi HBd
              go_upto_region 21 with (fail)
              refine wp_region_late (twLt (encS (encS encP)) 33 41 w4 Bd wj.heap.size hi #[.slice Am nm cm, .slice Ar1 nr1 cr1, .slice Ac1 nc1 cc1] (.slice Ar1 nr1 cr1) (.slice Ac1 nc1 cc1) (.slice A16 n16 c16) (.slice A17 n17 c17) xs ys y z) [4, 9] 11 (by kernel_rfl) (by kernel_rfl) (by kernel_rfl) HC0.out ?_
              -- op 0 (slot 120): fieldAddr
              refine LateR.mono (Qv.eq (.pointer (some ⟨Bd, 1, none⟩))) [] (by kernel_rfl) (by rfl) rfl (fun vs w' hC => ?_) ?_
              · refine askl_do rfl fun K hK => ?_
                go_simp
                exact hK _ _ rfl ⟨rfl, World.grownBy.refl _ none⟩
              -- op 1 (slot 121): load
              refine LateR.mono (Qv.eq (.slice Ar1 nr1 cr1)) [(0, 120)] (by kernel_rfl) (by rfl) rfl (fun vs w' hC => ?_) ?_
              · rintro _ rfl
                refine askl_do rfl fun K hK => ?_
                obtain ⟨q0, q1⟩ := HLD.out vs w' hC
                go_simp
                exact hK _ _ rfl ⟨rfl, World.grownBy.refl _ none⟩
              -- op 2 (slot 122): move
              refine LateR.mono (Qv.eq (.slice A16 n16 c16)) [] (by kernel_rfl) (by rfl) rfl (fun vs w' hC => ?_) ?_
              · refine askl_do rfl fun K hK => ?_
                go_simp
                exact hK _ _ rfl ⟨rfl, World.grownBy.refl _ none⟩
              -- op 3 (slot 123): buildSlice
              refine LateR.mono (twQ HWL.out HBL.out 41 (.slice A16 n16 c16)) [(2, 122)] (by kernel_rfl) (by rfl) rfl (fun vs w' hC => ?_) ?_
              · rintro _ rfl
                refine askl_do rfl fun K hK => ?_
                have hsz := HSZ.out vs w' hC
                go_simp
                exact hK _ _ rfl ⟨⟨_, rfl, hsz, Bk.new w' _ _⟩, World.grownBy_alloc w' _ none⟩
              -- op 4 (slot 124): call
              refine LateR.turn 0 [(1, 121), (3, 123)] (by kernel_rfl) rfl (fun vs w' hl hC => ?_) ?_
              · rintro _ rfl
                intro x123 h123
                have h123 : BlkQ wj.heap.size 41 (.slice A16 n16 c16) x123 w' := h123
                obtain ⟨b123, e123, hb123, hk123⟩ := h123
                subst e123
                refine askl_do rfl fun K hK => ?_
                obtain rfl : vs = [] := List.eq_nil_of_length_eq_zero hl
                have hsz := HSZ.out _ w' hC
                have hS1 : Side (encS (encS encP)) (encS (encS encP)) w4.heap.size 41 41 (fun b => w4.heap.size ≤ b) w' (.slice Ar1 nr1 cr1) (.slice Ac1 nc1 cc1) xs ys := hC.2.2.2.2.2
                refine pushAt_core (E := encS (encS encP)) (y := y) el_pairs2 hS1.fst (twLt_rep1 hC HWL.out HBL.out HD4.out.2) (Bk.one hk123) HLX1.out (Nat.le_trans HD4.out.2 hsz) (hS1.new1 (fun b hb => Nat.le_trans HD4.out.2 (Nat.le_trans hsz hb))) (.tmp 121) (.tmp 123) rfl rfl rfl ?_
                intro v3 w3 ha hgr hm
                exact hK _ _ rfl ⟨hgr, twLt_one hC ha hgr hm HWL.out HD4.out.1⟩
              -- op 5 (slot 125): fieldAddr
              refine LateR.mono (Qv.eq (.pointer (some ⟨Bd, 2, none⟩))) [] (by kernel_rfl) (by rfl) rfl (fun vs w' hC => ?_) ?_
              · refine askl_do rfl fun K hK => ?_
                go_simp
                exact hK _ _ rfl ⟨rfl, World.grownBy.refl _ none⟩
              -- op 6 (slot 126): load
              refine LateR.mono (Qv.eq (.slice Ac1 nc1 cc1)) [(5, 125)] (by kernel_rfl) (by rfl) rfl (fun vs w' hC => ?_) ?_
              · rintro _ rfl
                refine askl_do rfl fun K hK => ?_
                obtain ⟨q0, q1⟩ := HLD.out vs w' hC
                go_simp
                exact hK _ _ rfl ⟨rfl, World.grownBy.refl _ none⟩
              -- op 7 (slot 127): move
              refine LateR.mono (Qv.eq (.slice A17 n17 c17)) [] (by kernel_rfl) (by rfl) rfl (fun vs w' hC => ?_) ?_
              · refine askl_do rfl fun K hK => ?_
                go_simp
                exact hK _ _ rfl ⟨rfl, World.grownBy.refl _ none⟩
              -- op 8 (slot 128): buildSlice
              refine LateR.mono (twQ HWL.out HBL.out 41 (.slice A17 n17 c17)) [(7, 127)] (by kernel_rfl) (by rfl) rfl (fun vs w' hC => ?_) ?_
              · rintro _ rfl
                refine askl_do rfl fun K hK => ?_
                have hsz := HSZ.out vs w' hC
                go_simp
                exact hK _ _ rfl ⟨⟨_, rfl, hsz, Bk.new w' _ _⟩, World.grownBy_alloc w' _ none⟩
              -- op 9 (slot 129): call
              refine LateR.turn 1 [(6, 126), (8, 128)] (by kernel_rfl) rfl (fun vs w' hl hC => ?_) ?_
              · rintro _ rfl
                intro x128 h128
                have h128 : BlkQ wj.heap.size 41 (.slice A17 n17 c17) x128 w' := h128
                obtain ⟨b128, e128, hb128, hk128⟩ := h128
                subst e128
                refine askl_do rfl fun K hK => ?_
                obtain ⟨u, rfl⟩ : ∃ u, vs = [u] := List.length_eq_one_iff.1 hl
                have hsz := HSZ.out _ w' hC
                have hS1 : Side (encS (encS encP)) (encS (encS encP)) w4.heap.size 41 41 (fun b => w4.heap.size ≤ b) w' u (.slice Ac1 nc1 cc1) _ _ := hC.2.2.2.2.2.1
                refine pushAt_core (E := encS (encS encP)) (y := z) el_pairs2 hS1.snd (twLt_rep2 hC HBL.out HD4.out.2) (Bk.one hk128) HLX2.out (Nat.le_trans HD4.out.2 hsz) (hS1.new2 (fun b hb => Nat.le_trans HD4.out.2 (Nat.le_trans hsz hb))) (.tmp 126) (.tmp 128) rfl rfl rfl ?_
                intro v3 w3 ha hgr hm
                exact hK _ _ rfl ⟨hgr, twLt_two hC ha hgr hm HBL.out HD4.out.1⟩
              -- op 10 (slot 130): fieldAddr
              refine LateR.mono (Qv.eq (.pointer (some ⟨Bd, 1, none⟩))) [] (by kernel_rfl) (by rfl) rfl (fun vs w' hC => ?_) ?_
              · refine askl_do rfl fun K hK => ?_
                go_simp
                exact hK _ _ rfl ⟨rfl, World.grownBy.refl _ none⟩
              intro vs w5 hvl hC5
              obtain ⟨u, u2, rfl⟩ : ∃ u u2, vs = [u, u2] := by
                match vs, hvl with
                | [u, u2], _ => exact ⟨u, u2, rfl⟩
              intro y0 k0 y1 k1 y2 k2 y3 k3 y4 k4 y5 k5 y6 k6 y7 k7 y8 k8 y9 k9 y10 k10
              show wpList Tryz.prog _ _ _ _ w5
              simp only [Act.put, List.setIfInBounds_toArray, List.set_cons_zero, List.set_cons_succ]
              have e4 : y4 = u := by have : some u = some y4 := k4; injection this with this; exact this.symm
              have e9 : y9 = u2 := by have : some u2 = some y9 := k9; injection this with this; exact this.symm
              have e10 : y10 = .pointer (some ⟨Bd, 1, none⟩) := k10
              subst e4 e9 e10
              have HE5 := Lib.hid (twLt_end hC5 HD4.out.1)
              have hS5 : Side (encS (encS encP)) (encS (encS encP)) w4.heap.size 41 41 (fun b => w4.heap.size ≤ b) w5 y4 y9 _ _ := hC5.2.2.2.2.2
              obtain ⟨Au, nu, cu, rfl⟩ := hS5.fst.sl.shape
              obtain ⟨Av, nv, cv, rfl⟩ := hS5.snd.sl.shape
              have d0 := hC5.2.1.cell 0
              have d1 := hC5.2.1.cell 1
              have d2 := hC5.2.1.cell 2
              have fd := hC5.2.1.free
              simp at d0 d1 d2
              have HFIN : Hid (∃ vr vc, Bk ((w5.setCell ⟨Bd, 1, none⟩ (.slice Au nu cu)).setCell ⟨Bd, 2, none⟩ (.slice Av nv cv)) Bd 33 #[.slice Am nm cm, vr, vc] ∧ Side (encS (encS encP)) (encS (encS encP)) w4.heap.size 41 41 (fun b => w4.heap.size ≤ b) ((w5.setCell ⟨Bd, 1, none⟩ (.slice Au nu cu)).setCell ⟨Bd, 2, none⟩ (.slice Av nv cv)) vr vc ((List.range (j + 1)).map fun k : Nat => rowsP p.Q F R t ((k : Int) + 1)) ((List.range (j + 1)).map fun k : Nat => colsP p.Q F R t ((k : Int) + 1)) ∧ w4.grownBy ((w5.setCell ⟨Bd, 1, none⟩ (.slice Au nu cu)).setCell ⟨Bd, 2, none⟩ (.slice Av nv cv)) (some Bd)) := Lib.hid (by
                rw [HXS.out, HYS.out]
                exact ⟨_, _, HE5.out⟩)
              clear hC5 hS5 HE5 k0 k1 k2 k3 k4 k5 k6 k7 k8 k9 k10 HLD HSZ HC0 HSd
              have hwj : IntKind.u64.wrap ((j : Int) + 1 + 1) = (j : Int) + 1 + 1 := IntWalk.u64_in _ (by omega)
              go_wp2_with fail
              go_roundg m
              case measure => omega
              case rel => exact ⟨j + 1, by omega, by go_num, HFIN⟩
            | succ q =>
              have hiI : (i : Int) < (L : Int) := by omega
              have hi0 : (0 : Int) ≤ (i : Int) := Int.natCast_nonneg i
              have hiF : i < F.length := by rw [HFL.out.1]; omega
              have hiR : i < R.length := by rw [HFL.out.2]; omega
              obtain ⟨gF, oF, cF', uF, eF, q1, q2, hcF, hslF⟩ := (HFX.out _ HGd.out).atS hiF
              clear q1 q2
              injection eF with eF1 eF2 eF3
              clear eF2
              subst eF1 eF3
              obtain ⟨gR, oR, cR', uR, eR, q1, q2, hcR, hslR⟩ := (HRX.out _ HGd.out).atS hiR
              clear q1 q2
              injection eR with eR1 eR2 eR3
              clear eR2
              subst eR1 eR3
              obtain ⟨Af, cf, ef, q1, q2⟩ := hslF.form
              clear q1 q2
              obtain ⟨Ab, cb, eb, q1, q2⟩ := hslR.form
              clear q1 q2
              have HS1 : Hid (SqL t F[i]) := Lib.hid (HSQ.out.1 _ (List.getElem_mem hiF))
              have HS2 : Hid (SqL t R[i]) := Lib.hid (HSQ.out.2 _ (List.getElem_mem hiR))
              rw [HS1.out.1] at ef
              rw [HS2.out.1] at eb
              subst ef eb
              have HN16 : Hid ((List.range (i + 1)).map (rowP p.Q F R t ((j : Int) + 1)) = (List.range i).map (rowP p.Q F R t ((j : Int) + 1)) ++ [zipP (rowI p.Q F[i] ((j : Int) + 1)) (rowI p.Q R[i] ((j : Int) + 1)) t]) := Lib.hid (by
                rw [hsnoc]
                unfold rowP
                rw [List.getElem?_eq_getElem hiF, List.getElem?_eq_getElem hiR]
                rfl)
              have HN17 : Hid ((List.range (i + 1)).map (colP p.Q F R t ((j : Int) + 1)) = (List.range i).map (colP p.Q F R t ((j : Int) + 1)) ++ [zipP (colV p.Q F[i] ((j : Int) + 1)) (colV p.Q R[i] ((j : Int) + 1)) t]) := Lib.hid (by
                rw [hsnoc]
                unfold colP
                rw [List.getElem?_eq_getElem hiF, List.getElem?_eq_getElem hiR]
                rfl)
              have HUX : Hid (U64 ((j : Int) + 1)) := Lib.hid ⟨by omega, by omega⟩
              have HT100 : Hid (t ≤ 3) := Lib.hid (by have := HT23.out; omega)
              have HRo1 : Hid (∀ W, wj.grownBy W none → Calls Tryz.prog 30 #[.slice Af t cf, .int .u64 ((j : Int) + 1), .int .u64 p.Q] W (Gives encU (fun b => W.heap.size ≤ b) W (rowI p.Q F[i] ((j : Int) + 1)))) := Lib.hid (fun W hW => callsIn_wide.1 (row_in 6 (Nat.le_refl _) _ _ _ _ _ W (hslF.kept hW) HUX.out (by rw [HS1.out.1]; have := HT100.out; omega) (fun c hc => by rw [HS1.out.2 c hc]; have := HT100.out; omega)))
              have HRo2 : Hid (∀ W, wj.grownBy W none → Calls Tryz.prog 30 #[.slice Ab t cb, .int .u64 ((j : Int) + 1), .int .u64 p.Q] W (Gives encU (fun b => W.heap.size ≤ b) W (rowI p.Q R[i] ((j : Int) + 1)))) := Lib.hid (fun W hW => callsIn_wide.1 (row_in 6 (Nat.le_refl _) _ _ _ _ _ W (hslR.kept hW) HUX.out (by rw [HS2.out.1]; have := HT100.out; omega) (fun c hc => by rw [HS2.out.2 c hc]; have := HT100.out; omega)))
              have HCo1 : Hid (∀ W, wj.grownBy W none → Calls Tryz.prog 31 #[.slice Af t cf, .int .u64 ((j : Int) + 1), .int .u64 p.Q] W (Gives encU (fun b => W.heap.size ≤ b) W (colV p.Q F[i] ((j : Int) + 1)))) := Lib.hid (fun W hW => col_any _ _ _ _ _ W (hslF.kept hW) HUX.out (by rw [HS1.out.1]; have := HT100.out; omega))
              have HCo2 : Hid (∀ W, wj.grownBy W none → Calls Tryz.prog 31 #[.slice Ab t cb, .int .u64 ((j : Int) + 1), .int .u64 p.Q] W (Gives encU (fun b => W.heap.size ≤ b) W (colV p.Q R[i] ((j : Int) + 1)))) := Lib.hid (fun W hW => col_any _ _ _ _ _ W (hslR.kept hW) HUX.out (by rw [HS2.out.1]; have := HT100.out; omega))
              obtain ⟨a1, ha1⟩ : ∃ y, y = rowI p.Q F[i] ((j : Int) + 1) := ⟨_, rfl⟩
              obtain ⟨a2, ha2⟩ : ∃ y, y = rowI p.Q R[i] ((j : Int) + 1) := ⟨_, rfl⟩
              obtain ⟨b1, hb1⟩ : ∃ y, y = colV p.Q F[i] ((j : Int) + 1) := ⟨_, rfl⟩
              obtain ⟨b2, hb2⟩ : ∃ y, y = colV p.Q R[i] ((j : Int) + 1) := ⟨_, rfl⟩
              have HL1 : Hid (a1.length = t ∧ a2.length = t ∧ b1.length = t ∧ b2.length = t) := Lib.hid ⟨by rw [ha1]; exact rowI_sqL HS1.out _ _, by rw [ha2]; exact rowI_sqL HS2.out _ _, by rw [hb1]; exact colV_sqL HS1.out _ _, by rw [hb2]; exact colV_sqL HS2.out _ _⟩
              rw [← ha1] at HRo1 HN16
              rw [← ha2] at HRo2 HN16
              rw [← hb1] at HCo1 HN17
              rw [← hb2] at HCo2 HN17
              obtain ⟨yr, hyr⟩ : ∃ y, y = zipP a1 a2 t := ⟨_, rfl⟩
              obtain ⟨yc, hyc⟩ : ∃ y, y = zipP b1 b2 t := ⟨_, rfl⟩
              have HPr : Hid (∀ v1 v2 W, Sl encU TT W v1 a1 → Sl encU TT W v2 a2 → Calls Tryz.prog 29 #[v1, v2] W (Gives encP (fun b => W.heap.size ≤ b) W yr)) := Lib.hid (fun v1 v2 W h1 h2 => by rw [hyr]; exact dpairs2_any v1 v2 a1 a2 t TT TT W h1 h2 HL1.out.1 HL1.out.2.1 (by have := HT100.out; omega))
              have HPc : Hid (∀ v1 v2 W, Sl encU TT W v1 b1 → Sl encU TT W v2 b2 → Calls Tryz.prog 29 #[v1, v2] W (Gives encP (fun b => W.heap.size ≤ b) W yc)) := Lib.hid (fun v1 v2 W h1 h2 => by rw [hyc]; exact dpairs2_any v1 v2 b1 b2 t TT TT W h1 h2 HL1.out.2.2.1 HL1.out.2.2.2 (by have := HT100.out; omega))
              rw [← hyr] at HN16
              rw [← hyc] at HN17
              have hbp := HPD.out _ HGd.out
              have HLD : Hid (∀ W, wj.grownBy W none → W.cell? ⟨w.heap.size, 1, none⟩ = some (.int .u64 p.Q) ∧ W.cell? ⟨gF, oF + i, none⟩ = some (.slice Af t cf) ∧ W.cell? ⟨gR, oR + i, none⟩ = some (.slice Ab t cb)) := Lib.hid (fun W hW => ⟨(hbp.grown hW (by simp)).cell 1, cellK hcF hW (by simp), cellK hcR hW (by simp)⟩)
              have HLN16 : Hid ((((List.range i).map (rowP p.Q F R t ((j : Int) + 1))).length + 1) * 24 ≤ 140737488355328) := Lib.hid (by simp; omega)
              have HLN17 : Hid ((((List.range i).map (colP p.Q F R t ((j : Int) + 1))).length + 1) * 24 ≤ 140737488355328) := Lib.hid (by simp; omega)
              have HGw : Hid (wj.grownBy wi.drew none) := Lib.hid (HGi.out.trans (grown_drewN' wi 1))
              have HSw := Lib.hid (HSi.out.kept (grown_drewN' wi 1))
              obtain ⟨N1, hN1⟩ : ∃ y, y = wi.drew.heap.size := ⟨_, rfl⟩
              have HN1 : Hid (N1 = wi.drew.heap.size) := Lib.hid hN1
              clear ha1 ha2 hb1 hb2 hyr hyc hbp hcF hcR hslF hslR hN1 HSi HGi HS1 HS2
              clear hiF hiR
              go_upto_region 18 with (fail)
              refine wp_region_mono 19 (by kernel_rfl) (by kernel_rfl) ?_
              -- op 0 (slot 79): move
              refine MonoR.step (Pv.eq (.slice A16 n16 c16)) [] (by kernel_rfl) (fun w' hw' => ?_) ?_
              · refine ask_do rfl fun K hK => ?_
                go_simp
                exact hK _ _ rfl rfl (World.grownBy.refl _ none)
              -- op 1 (slot 80): move
              refine MonoR.step (Pv.eq (.slice (some ⟨gF, oF, none⟩) L cF)) [] (by kernel_rfl) (fun w' hw' => ?_) ?_
              · refine ask_do rfl fun K hK => ?_
                go_simp
                exact hK _ _ rfl rfl (World.grownBy.refl _ none)
              -- op 2 (slot 81): move
              refine MonoR.step (Pv.eq (.int .i64 (i : Int))) [] (by kernel_rfl) (fun w' hw' => ?_) ?_
              · refine ask_do rfl fun K hK => ?_
                go_simp
                exact hK _ _ rfl rfl (World.grownBy.refl _ none)
              -- op 3 (slot 82): indexAddr
              refine MonoR.step (Pv.eq (.pointer (some ⟨gF, oF + i, none⟩))) [(1, 80), (2, 81)] (by kernel_rfl) (fun w' hw' => ?_) ?_
              · rintro _ rfl
                rintro _ rfl
                refine ask_do rfl fun K hK => ?_
                go_simp
                exact hK _ _ rfl rfl (World.grownBy.refl _ none)
              -- op 4 (slot 83): load
              refine MonoR.step (Pv.eq (.slice Af t cf)) [(3, 82)] (by kernel_rfl) (fun w' hw' => ?_) ?_
              · rintro _ rfl
                refine ask_do rfl fun K hK => ?_
                obtain ⟨q0, q1, q2⟩ := HLD.out w' (HGw.out.trans hw')
                go_simp
                exact hK _ _ rfl rfl (World.grownBy.refl _ none)
              -- op 5 (slot 84): move
              refine MonoR.step (Pv.eq (.int .u64 ((j : Int) + 1))) [] (by kernel_rfl) (fun w' hw' => ?_) ?_
              · refine ask_do rfl fun K hK => ?_
                go_simp
                exact hK _ _ rfl rfl (World.grownBy.refl _ none)
              -- op 6 (slot 85): fieldAddr
              refine MonoR.step (Pv.eq (.pointer (some ⟨w.heap.size, 1, none⟩))) [] (by kernel_rfl) (fun w' hw' => ?_) ?_
              · refine ask_do rfl fun K hK => ?_
                go_simp
                exact hK _ _ rfl rfl (World.grownBy.refl _ none)
              -- op 7 (slot 86): load
              refine MonoR.step (Pv.eq (.int .u64 p.Q)) [(6, 85)] (by kernel_rfl) (fun w' hw' => ?_) ?_
              · rintro _ rfl
                refine ask_do rfl fun K hK => ?_
                obtain ⟨q0, q1, q2⟩ := HLD.out w' (HGw.out.trans hw')
                go_simp
                exact hK _ _ rfl rfl (World.grownBy.refl _ none)
              -- op 8 (slot 87): call
              refine MonoR.step (slU a1) [(4, 83), (5, 84), (7, 86)] (by kernel_rfl) (fun w' hw' => ?_) ?_
              · rintro _ rfl
                rintro _ rfl
                rintro _ rfl
                refine ask_do rfl fun K hK => ?_
                go_simp
                refine (HRo1.out w' (HGw.out.trans hw')).mono ?_
                rintro e w3 ⟨v3, rfl, hs3, hg3⟩
                exact hK _ _ rfl (hs3.more fun _ _ _ => trivial) hg3
              -- op 9 (slot 88): move
              refine MonoR.step (Pv.eq (.slice (some ⟨gR, oR, none⟩) L cR)) [] (by kernel_rfl) (fun w' hw' => ?_) ?_
              · refine ask_do rfl fun K hK => ?_
                go_simp
                exact hK _ _ rfl rfl (World.grownBy.refl _ none)
              -- op 10 (slot 89): move
              refine MonoR.step (Pv.eq (.int .i64 (i : Int))) [] (by kernel_rfl) (fun w' hw' => ?_) ?_
              · refine ask_do rfl fun K hK => ?_
                go_simp
                exact hK _ _ rfl rfl (World.grownBy.refl _ none)
              -- op 11 (slot 90): indexAddr
              refine MonoR.step (Pv.eq (.pointer (some ⟨gR, oR + i, none⟩))) [(9, 88), (10, 89)] (by kernel_rfl) (fun w' hw' => ?_) ?_
              · rintro _ rfl
                rintro _ rfl
                refine ask_do rfl fun K hK => ?_
                go_simp
                exact hK _ _ rfl rfl (World.grownBy.refl _ none)
              -- op 12 (slot 91): load
              refine MonoR.step (Pv.eq (.slice Ab t cb)) [(11, 90)] (by kernel_rfl) (fun w' hw' => ?_) ?_
              · rintro _ rfl
                refine ask_do rfl fun K hK => ?_
                obtain ⟨q0, q1, q2⟩ := HLD.out w' (HGw.out.trans hw')
                go_simp
                exact hK _ _ rfl rfl (World.grownBy.refl _ none)
              -- op 13 (slot 92): move
              refine MonoR.step (Pv.eq (.int .u64 ((j : Int) + 1))) [] (by kernel_rfl) (fun w' hw' => ?_) ?_
              · refine ask_do rfl fun K hK => ?_
                go_simp
                exact hK _ _ rfl rfl (World.grownBy.refl _ none)
              -- op 14 (slot 93): fieldAddr
              refine MonoR.step (Pv.eq (.pointer (some ⟨w.heap.size, 1, none⟩))) [] (by kernel_rfl) (fun w' hw' => ?_) ?_
              · refine ask_do rfl fun K hK => ?_
                go_simp
                exact hK _ _ rfl rfl (World.grownBy.refl _ none)
              -- op 15 (slot 94): load
              refine MonoR.step (Pv.eq (.int .u64 p.Q)) [(14, 93)] (by kernel_rfl) (fun w' hw' => ?_) ?_
              · rintro _ rfl
                refine ask_do rfl fun K hK => ?_
                obtain ⟨q0, q1, q2⟩ := HLD.out w' (HGw.out.trans hw')
                go_simp
                exact hK _ _ rfl rfl (World.grownBy.refl _ none)
              -- op 16 (slot 95): call
              refine MonoR.step (slU a2) [(12, 91), (13, 92), (15, 94)] (by kernel_rfl) (fun w' hw' => ?_) ?_
              · rintro _ rfl
                rintro _ rfl
                rintro _ rfl
                refine ask_do rfl fun K hK => ?_
                go_simp
                refine (HRo2.out w' (HGw.out.trans hw')).mono ?_
                rintro e w3 ⟨v3, rfl, hs3, hg3⟩
                exact hK _ _ rfl (hs3.more fun _ _ _ => trivial) hg3
              -- op 17 (slot 96): call
              refine MonoR.step (slP N1 yr) [(8, 87), (16, 95)] (by kernel_rfl) (fun w' hw' => ?_) ?_
              · intro x87 h87
                have h87 : Sl encU TT w' x87 a1 := h87
                obtain ⟨A87, c87, e87, k87, l87⟩ := h87.form
                subst e87
                intro x95 h95
                have h95 : Sl encU TT w' x95 a2 := h95
                obtain ⟨A95, c95, e95, k95, l95⟩ := h95.form
                subst e95
                refine ask_do rfl fun K hK => ?_
                go_simp
                refine (HPr.out _ _ w' h87 h95).mono ?_
                rintro e w3 ⟨v3, rfl, hs3, hg3⟩
                exact hK _ _ rfl (hs3.more fun b _ hb => Nat.le_trans (by rw [HN1.out]; exact hw'.size) hb) hg3
              -- op 18 (slot 97): buildSlice
              refine MonoR.step (blkP N1 yr) [(17, 96)] (by kernel_rfl) (fun w' hw' => ?_) ?_
              · intro x96 h96
                have h96 : Sl encP (fun b => N1 ≤ b) w' x96 yr := h96
                obtain ⟨A96, c96, e96, k96, l96⟩ := h96.form
                subst e96
                refine ask_do rfl fun K hK => ?_
                go_simp
                exact hK _ _ rfl ⟨_, _, _, _, rfl, Bk.new w' _ _, h96.kept (World.grownBy_alloc w' _ none)⟩ (World.grownBy_alloc w' _ none)
              
              intro w5 hw5
              intro y0 k0 y1 k1 y2 k2 y3 k3 y4 k4 y5 k5 y6 k6 y7 k7 y8 k8 y9 k9 y10 k10 y11 k11 y12 k12 y13 k13 y14 k14 y15 k15 y16 k16 y17 k17 y18 k18
              show wpList Tryz.prog _ _ _ _ w5
              simp only [Act.put, List.setIfInBounds_toArray, List.set_cons_zero, List.set_cons_succ]
              have e0 : y0 = .slice A16 n16 c16 := k0
              subst e0
              have k18' : ∃ A n c b, y18 = .slice (some ⟨b, 0, none⟩) 1 1 ∧ Bk w5 b 39 #[.slice A n c] ∧ Sl encP (fun b => N1 ≤ b) w5 (.slice A n c) yr := k18
              obtain ⟨Ay, ny, cy, by', ey, hky, hsy⟩ := k18'
              subst ey
              have HS5 := Lib.hid (HSw.out.kept hw5)
              have HG5 : Hid (wj.grownBy w5 none) := Lib.hid (HGw.out.trans hw5)
              have HZ5 : Hid (wj.heap.size ≤ w5.heap.size) := Lib.hid HG5.out.size
              have HKY := Lib.hid hky
              have HREP : Hid ((encS encP).rep (fun b => (wj.heap.size ≤ b ∧ some b ≠ (Value.slice A17 n17 c17).ownBlock) ∧ some b ≠ (Value.slice A16 n16 c16).ownBlock) w5 [.slice Ay ny cy] yr) := Lib.hid ⟨_, rfl, hsy.more fun b _ hb => by
                rw [HN1.out] at hb
                exact ⟨⟨Nat.le_trans HGw.out.size hb, fun e => absurd hb (Nat.not_le_of_lt (HSw.out.snd.lt b e.symm).2)⟩, fun e => absurd hb (Nat.not_le_of_lt (HSw.out.fst.lt b e.symm).2)⟩⟩
              clear hky hsy k0 k1 k2 k3 k4 k5 k6 k7 k8 k9 k10 k11 k12 k13 k14 k15 k16 k17 k18 hw5 HSw HGw HN1
              refine wpList_plain rfl fun K hK => ?_
              refine pushAt_core (E := encS encP) (y := yr) el_pairs HS5.out.fst HREP.out (Bk.one HKY.out) HLN16.out HZ5.out (HS5.out.new1 (fun _ h => Nat.le_trans HZ5.out h)) (.tmp 79) (.tmp 97) rfl rfl rfl ?_
              intro v6 w6 ha hgr hm
              refine hK _ _ ?_
              clear hK
              have HS6 := Lib.hid ((HS5.out.one ha hgr hm).kept (grown_drewN' w6 1))
              have HG6 : Hid (wj.grownBy w6.drew none) := Lib.hid ((grown_up HG5.out hgr (fun b e => (HS5.out.fst.lt b e).1)).trans (grown_drewN' w6 1))
              rw [← HN16.out] at HS6
              obtain ⟨A18, n18, c18, rfl⟩ := HS6.out.fst.sl.shape
              clear ha hgr hm HS5 HG5 HREP HKY HZ5 HN16
              obtain ⟨N2, hN2⟩ : ∃ y, y = w6.drew.heap.size := ⟨_, rfl⟩
              have HN2 : Hid (N2 = w6.drew.heap.size) := Lib.hid hN2
              clear hN2
              go_upto_region 19 with (fail)
              refine wp_region_mono 19 (by kernel_rfl) (by kernel_rfl) ?_
              -- op 0 (slot 99): move
              refine MonoR.step (Pv.eq (.slice A17 n17 c17)) [] (by kernel_rfl) (fun w' hw' => ?_) ?_
              · refine ask_do rfl fun K hK => ?_
                go_simp
                exact hK _ _ rfl rfl (World.grownBy.refl _ none)
              -- op 1 (slot 100): move
              refine MonoR.step (Pv.eq (.slice (some ⟨gF, oF, none⟩) L cF)) [] (by kernel_rfl) (fun w' hw' => ?_) ?_
              · refine ask_do rfl fun K hK => ?_
                go_simp
                exact hK _ _ rfl rfl (World.grownBy.refl _ none)
              -- op 2 (slot 101): move
              refine MonoR.step (Pv.eq (.int .i64 (i : Int))) [] (by kernel_rfl) (fun w' hw' => ?_) ?_
              · refine ask_do rfl fun K hK => ?_
                go_simp
                exact hK _ _ rfl rfl (World.grownBy.refl _ none)
              -- op 3 (slot 102): indexAddr
              refine MonoR.step (Pv.eq (.pointer (some ⟨gF, oF + i, none⟩))) [(1, 100), (2, 101)] (by kernel_rfl) (fun w' hw' => ?_) ?_
              · rintro _ rfl
                rintro _ rfl
                refine ask_do rfl fun K hK => ?_
                go_simp
                exact hK _ _ rfl rfl (World.grownBy.refl _ none)
              -- op 4 (slot 103): load
              refine MonoR.step (Pv.eq (.slice Af t cf)) [(3, 102)] (by kernel_rfl) (fun w' hw' => ?_) ?_
              · rintro _ rfl
                refine ask_do rfl fun K hK => ?_
                obtain ⟨q0, q1, q2⟩ := HLD.out w' (HG6.out.trans hw')
                go_simp
                exact hK _ _ rfl rfl (World.grownBy.refl _ none)
              -- op 5 (slot 104): move
              refine MonoR.step (Pv.eq (.int .u64 ((j : Int) + 1))) [] (by kernel_rfl) (fun w' hw' => ?_) ?_
              · refine ask_do rfl fun K hK => ?_
                go_simp
                exact hK _ _ rfl rfl (World.grownBy.refl _ none)
              -- op 6 (slot 105): fieldAddr
              refine MonoR.step (Pv.eq (.pointer (some ⟨w.heap.size, 1, none⟩))) [] (by kernel_rfl) (fun w' hw' => ?_) ?_
              · refine ask_do rfl fun K hK => ?_
                go_simp
                exact hK _ _ rfl rfl (World.grownBy.refl _ none)
              -- op 7 (slot 106): load
              refine MonoR.step (Pv.eq (.int .u64 p.Q)) [(6, 105)] (by kernel_rfl) (fun w' hw' => ?_) ?_
              · rintro _ rfl
                refine ask_do rfl fun K hK => ?_
                obtain ⟨q0, q1, q2⟩ := HLD.out w' (HG6.out.trans hw')
                go_simp
                exact hK _ _ rfl rfl (World.grownBy.refl _ none)
              -- op 8 (slot 107): call
              refine MonoR.step (slU b1) [(4, 103), (5, 104), (7, 106)] (by kernel_rfl) (fun w' hw' => ?_) ?_
              · rintro _ rfl
                rintro _ rfl
                rintro _ rfl
                refine ask_do rfl fun K hK => ?_
                go_simp
                refine (HCo1.out w' (HG6.out.trans hw')).mono ?_
                rintro e w3 ⟨v3, rfl, hs3, hg3⟩
                exact hK _ _ rfl (hs3.more fun _ _ _ => trivial) hg3
              -- op 9 (slot 108): move
              refine MonoR.step (Pv.eq (.slice (some ⟨gR, oR, none⟩) L cR)) [] (by kernel_rfl) (fun w' hw' => ?_) ?_
              · refine ask_do rfl fun K hK => ?_
                go_simp
                exact hK _ _ rfl rfl (World.grownBy.refl _ none)
              -- op 10 (slot 109): move
              refine MonoR.step (Pv.eq (.int .i64 (i : Int))) [] (by kernel_rfl) (fun w' hw' => ?_) ?_
              · refine ask_do rfl fun K hK => ?_
                go_simp
                exact hK _ _ rfl rfl (World.grownBy.refl _ none)
              -- op 11 (slot 110): indexAddr
              refine MonoR.step (Pv.eq (.pointer (some ⟨gR, oR + i, none⟩))) [(9, 108), (10, 109)] (by kernel_rfl) (fun w' hw' => ?_) ?_
              · rintro _ rfl
                rintro _ rfl
                refine ask_do rfl fun K hK => ?_
                go_simp
                exact hK _ _ rfl rfl (World.grownBy.refl _ none)
              -- op 12 (slot 111): load
              refine MonoR.step (Pv.eq (.slice Ab t cb)) [(11, 110)] (by kernel_rfl) (fun w' hw' => ?_) ?_
              · rintro _ rfl
                refine ask_do rfl fun K hK => ?_
                obtain ⟨q0, q1, q2⟩ := HLD.out w' (HG6.out.trans hw')
                go_simp
                exact hK _ _ rfl rfl (World.grownBy.refl _ none)
              -- op 13 (slot 112): move
              refine MonoR.step (Pv.eq (.int .u64 ((j : Int) + 1))) [] (by kernel_rfl) (fun w' hw' => ?_) ?_
              · refine ask_do rfl fun K hK => ?_
                go_simp
                exact hK _ _ rfl rfl (World.grownBy.refl _ none)
              -- op 14 (slot 113): fieldAddr
              refine MonoR.step (Pv.eq (.pointer (some ⟨w.heap.size, 1, none⟩))) [] (by kernel_rfl) (fun w' hw' => ?_) ?_
              · refine ask_do rfl fun K hK => ?_
                go_simp
                exact hK _ _ rfl rfl (World.grownBy.refl _ none)
              -- op 15 (slot 114): load
              refine MonoR.step (Pv.eq (.int .u64 p.Q)) [(14, 113)] (by kernel_rfl) (fun w' hw' => ?_) ?_
              · rintro _ rfl
                refine ask_do rfl fun K hK => ?_
                obtain ⟨q0, q1, q2⟩ := HLD.out w' (HG6.out.trans hw')
                go_simp
                exact hK _ _ rfl rfl (World.grownBy.refl _ none)
              -- op 16 (slot 115): call
              refine MonoR.step (slU b2) [(12, 111), (13, 112), (15, 114)] (by kernel_rfl) (fun w' hw' => ?_) ?_
              · rintro _ rfl
                rintro _ rfl
                rintro _ rfl
                refine ask_do rfl fun K hK => ?_
                go_simp
                refine (HCo2.out w' (HG6.out.trans hw')).mono ?_
                rintro e w3 ⟨v3, rfl, hs3, hg3⟩
                exact hK _ _ rfl (hs3.more fun _ _ _ => trivial) hg3
              -- op 17 (slot 116): call
              refine MonoR.step (slP N2 yc) [(8, 107), (16, 115)] (by kernel_rfl) (fun w' hw' => ?_) ?_
              · intro x107 h107
                have h107 : Sl encU TT w' x107 b1 := h107
                obtain ⟨A107, c107, e107, k107, l107⟩ := h107.form
                subst e107
                intro x115 h115
                have h115 : Sl encU TT w' x115 b2 := h115
                obtain ⟨A115, c115, e115, k115, l115⟩ := h115.form
                subst e115
                refine ask_do rfl fun K hK => ?_
                go_simp
                refine (HPc.out _ _ w' h107 h115).mono ?_
                rintro e w3 ⟨v3, rfl, hs3, hg3⟩
                exact hK _ _ rfl (hs3.more fun b _ hb => Nat.le_trans (by rw [HN2.out]; exact hw'.size) hb) hg3
              -- op 18 (slot 117): buildSlice
              refine MonoR.step (blkP N2 yc) [(17, 116)] (by kernel_rfl) (fun w' hw' => ?_) ?_
              · intro x116 h116
                have h116 : Sl encP (fun b => N2 ≤ b) w' x116 yc := h116
                obtain ⟨A116, c116, e116, k116, l116⟩ := h116.form
                subst e116
                refine ask_do rfl fun K hK => ?_
                go_simp
                exact hK _ _ rfl ⟨_, _, _, _, rfl, Bk.new w' _ _, h116.kept (World.grownBy_alloc w' _ none)⟩ (World.grownBy_alloc w' _ none)
              
              intro w7 hw7
              intro y0 k0 y1 k1 y2 k2 y3 k3 y4 k4 y5 k5 y6 k6 y7 k7 y8 k8 y9 k9 y10 k10 y11 k11 y12 k12 y13 k13 y14 k14 y15 k15 y16 k16 y17 k17 y18 k18
              show wpList Tryz.prog _ _ _ _ w7
              simp only [Act.put, List.setIfInBounds_toArray, List.set_cons_zero, List.set_cons_succ]
              have e0 : y0 = .slice A17 n17 c17 := k0
              subst e0
              have k18' : ∃ A n c b, y18 = .slice (some ⟨b, 0, none⟩) 1 1 ∧ Bk w7 b 39 #[.slice A n c] ∧ Sl encP (fun b => N2 ≤ b) w7 (.slice A n c) yc := k18
              obtain ⟨Ay, ny, cy, by', ey, hky, hsy⟩ := k18'
              subst ey
              have HS7 := Lib.hid (HS6.out.kept hw7)
              have HG7 : Hid (wj.grownBy w7 none) := Lib.hid (HG6.out.trans hw7)
              have HZ7 : Hid (wj.heap.size ≤ w7.heap.size) := Lib.hid HG7.out.size
              have HKY := Lib.hid hky
              have HREP : Hid ((encS encP).rep (fun b => (wj.heap.size ≤ b ∧ some b ≠ (Value.slice A18 n18 c18).ownBlock) ∧ some b ≠ (Value.slice A17 n17 c17).ownBlock) w7 [.slice Ay ny cy] yc) := Lib.hid ⟨_, rfl, hsy.more fun b _ hb => by
                rw [HN2.out] at hb
                exact ⟨⟨Nat.le_trans HG6.out.size hb, fun e => absurd hb (Nat.not_le_of_lt (HS6.out.fst.lt b e.symm).2)⟩, fun e => absurd hb (Nat.not_le_of_lt (HS6.out.snd.lt b e.symm).2)⟩⟩
              clear hky hsy k0 k1 k2 k3 k4 k5 k6 k7 k8 k9 k10 k11 k12 k13 k14 k15 k16 k17 k18 hw7 HS6 HG6 HN2
              refine wpList_plain rfl fun K hK => ?_
              refine pushAt_core (E := encS encP) (y := yc) el_pairs HS7.out.snd HREP.out (Bk.one HKY.out) HLN17.out HZ7.out (HS7.out.new2 (fun _ h => Nat.le_trans HZ7.out h)) (.tmp 99) (.tmp 117) rfl rfl rfl ?_
              intro v8 w8 ha hgr hm
              refine hK _ _ ?_
              clear hK
              have HFIN : Hid (Side (encS encP) (encS encP) wj.heap.size 39 39 (fun b => wj.heap.size ≤ b) w8 (.slice A18 n18 c18) v8 ((List.range (i + 1)).map (rowP p.Q F R t ((j : Int) + 1))) ((List.range (i + 1)).map (colP p.Q F R t ((j : Int) + 1))) ∧ wj.grownBy w8 none) := Lib.hid ⟨by
                rw [HN17.out]
                exact HS7.out.two ha hgr hm, grown_up HG7.out hgr (fun b e => (HS7.out.snd.lt b e).1)⟩
              clear ha hgr hm HS7 HG7 HREP HKY HZ7 HN17 HRo1 HRo2 HCo1 HCo2 HPr HPc HLD
              go_wp2_with fail
              go_roundg q
              case measure => omega
              case rel => exact ⟨i + 1, by omega, by go_num, HFIN⟩
    | succ m =>
      have hin : (s : Int) < (L : Int) := by omega
      have hsl : s < l.length := by have := HLN.out; omega
      obtain ⟨gl, ol, cl, el, _, _, hcl0, hcl1, hul1, hul2⟩ := (HLX.out _ HG3.out).atP hsl
      injection el with el1 el2 el3
      subst el1 el3
      obtain ⟨kb, hkb⟩ : ∃ y, y = k0 + s * (2 * dd) := ⟨_, rfl⟩
      have hkm : kb + 2 * dd ≤ most := by
        have h1 : (s + 1) * (2 * dd) ≤ L * (2 * dd) := Nat.mul_le_mul_right _ (by omega)
        have h2 := HMO.out
        rw [Nat.add_mul, Nat.one_mul] at h1
        omega
      have HKN : Hid (k0 + (s + 1) * (2 * dd) = kb + dd + dd) := Lib.hid (by rw [hkb, Nat.add_mul, Nat.one_mul]; omega)
      have HFN : Hid (makeFs l p.Q dr t k0 (s + 1) = makeFs l p.Q dr t k0 s ++ [twoL l[s].1 p.Q dr t kb]) := Lib.hid (by
        rw [hkb, HDD.out]
        refine (hsnoc _ _).trans ?_
        show _ ++ [twoL (l[s]?.getD (0, 0)).1 p.Q dr t (k0 + s * (2 * (t * t - 1)))] = _
        rw [List.getElem?_eq_getElem hsl]
        rfl)
      have HRN : Hid (makeBs l p.Q dr t k0 (s + 1) = makeBs l p.Q dr t k0 s ++ [twoL l[s].2 p.Q dr t (kb + dd)]) := Lib.hid (by
        rw [hkb, HDD.out]
        refine (hsnoc _ _).trans ?_
        show _ ++ [twoL (l[s]?.getD (0, 0)).2 p.Q dr t (k0 + s * (2 * (t * t - 1)) + (t * t - 1))] = _
        rw [List.getElem?_eq_getElem hsl]
        rfl)
      rw [← hkb] at HI3
      obtain ⟨x, hx⟩ : ∃ y, y = l[s] := ⟨_, rfl⟩
      rw [← hx] at HFN HRN hcl0 hcl1 hul1 hul2
      obtain ⟨x1, x2⟩ := x
      simp only at HFN HRN hcl0 hcl1 hul1 hul2
      obtain ⟨wa, hwa⟩ : ∃ y, y = wr.alloc (Obj.cells #[.int .u64 x1, .int .u64 x2] 38) := ⟨_, rfl⟩
      obtain ⟨Bb, hBb⟩ : ∃ y, y = wr.heap.size := ⟨_, rfl⟩
      have HGA : Hid (wr.grownBy wa none) := Lib.hid (by rw [hwa]; exact World.grownBy_alloc _ _ none)
      have HBA : Hid (Bk wa Bb 38 #[.int .u64 x1, .int .u64 x2]) := Lib.hid (by rw [hwa, hBb]; exact Bk.new _ _ _)
      have HIA : Hid (TI kb wa) := Lib.hid (HT.out.keep HI3.out HGA.out (by simp))
      have HSA := Lib.hid (HS0.out.kept HGA.out)
      have HGa : Hid (w2.grownBy wa (some g)) := Lib.hid (HG3.out.trans (HGA.out.but _))
      have HB1 := Lib.hid (HTW.out x1 kb wa hul1 (by omega) HIA.out)
      have HU2 := Lib.hid hul2
      obtain ⟨y, hy⟩ : ∃ y, y = twoL x1 p.Q dr t kb := ⟨_, rfl⟩
      rw [← hy] at HFN HB1
      obtain ⟨z, hz⟩ : ∃ y, y = twoL x2 p.Q dr t (kb + dd) := ⟨_, rfl⟩
      rw [← hz] at HRN
      have HZ := Lib.hid hz
      have HLF : Hid (((makeFs l p.Q dr t k0 s).length + 1) * 24 ≤ 140737488355328) := Lib.hid (by simp [makeFs]; omega)
      have HLR : Hid (((makeBs l p.Q dr t k0 s).length + 1) * 24 ≤ 140737488355328) := Lib.hid (by simp [makeBs]; omega)
      have HBb : Hid (w2.heap.size ≤ Bb ∧ (∀ r, u10.ownBlock = some r → r < Bb) ∧ (∀ r, u11.ownBlock = some r → r < Bb)) := Lib.hid (by rw [hBb]; exact ⟨HG3.out.size, fun r e => (HS0.out.fst.lt r e).2, fun r e => (HS0.out.snd.lt r e).2⟩)
      have HBs : Hid (Bb < wa.heap.size) := Lib.hid HBA.out.lt
      have hpa : ∀ o, (wr.alloc (Obj.cells #[.int .u64 x1, .int .u64 x2] 38)).cell? ⟨w.heap.size, o, none⟩ = (#[.int .u64 p.P, .int .u64 p.Q, .int .u64 p.G, .int .u64 p.H, .int .i64 p.Nodes, .int .i64 p.N, .int .i64 p.T, .int .i64 p.K, .int .i64 p.D, .int .i64 p.R, .int .i64 p.M, .int .i64 p.X] : Array Value)[o]? := by rw [← hwa]; exact (HPX.out _ HGa.out).prule
      have d0 : (wr.alloc (Obj.cells #[.int .u64 x1, .int .u64 x2] 38)).cell? ⟨wr.heap.size, 0, none⟩ = some (.int .u64 x1) := by rw [← hwa, ← hBb]; simpa using HBA.out.cell 0
      clear hkb hy hz el2 hx hul1 hul2 hsl
      go_wp2_with fail
      rw [← hwa, ← hBb]
      clear hwa hBb hp3 hcl0 hcl1
      refine HB1.out.mono ?_
      rintro e w3 ⟨v50, rfl, hs3, hi3, hg3⟩
      obtain ⟨A50, n50, c50, rfl⟩ := hs3.shape
      have HG4 : Hid (w2.grownBy w3 (some g)) := Lib.hid (HGa.out.trans hg3)
      have HI4 := Lib.hid hi3
      have HS4 := Lib.hid (HSA.out.keep hg3 (fun b hb e => by injection e with e; have := HW2.out; omega))
      have HBA4 := Lib.hid (HBA.out.grown hg3 (fun e => by injection e with e; have := HW2.out; have := HBb.out.1; omega))
      have HREP : Hid ((encS (encS encU)).rep (fun b => (w2.heap.size ≤ b ∧ some b ≠ u11.ownBlock) ∧ some b ≠ u10.ownBlock) w3 [.slice A50 n50 c50] y) := Lib.hid ⟨_, rfl, hs3.more fun b _ hb => ⟨⟨by have := HBb.out.1; have := HBs.out; omega, fun e => by have := HBb.out.2.2 b e.symm; have := HBs.out; omega⟩, fun e => by have := HBb.out.2.1 b e.symm; have := HBs.out; omega⟩⟩
      have HZ4 : Hid (w2.heap.size ≤ w3.heap.size) := Lib.hid HG4.out.size
      clear hs3 hi3 hg3 hpa d0
      go_wp2_with (at_builtin; refine wpList_push rfl (.tmp 44) (.tmp 51) rfl (E := encS (encS encU)) (y := y) el_rows HS4.out.fst rfl rfl HREP.out HLF.out HZ4.out (HS4.out.new1 (fun _ h => Nat.le_trans HZ4.out h)) ?_)
      intro v10 w4 ha hg hm
      have HS5 := Lib.hid (HS4.out.one ha hg hm)
      have HG5 : Hid (w2.grownBy w4 (some g)) := Lib.hid (HG4.out.andThen hg (fun j e => .inl (HS4.out.fst.lt j e).1))
      have HI5 : Hid (TI (kb + dd) w4) := Lib.hid (HT.out.keep HI4.out hg (fun b e hb => by have := (HS4.out.fst.lt b e).1; have := HOB.out b hb; have := HW2.out; omega))
      have HBA5 := Lib.hid (HBA4.out.grown hg (fun e => by have := HBb.out.2.1 _ e.symm; omega))
      clear ha hg hm
      have hp5 := (HPX.out _ HG5.out).prule
      have d1 := HBA5.out.cell 1
      simp at d1
      have HB7 := Lib.hid (HTW.out x2 (kb + dd) w4 HU2.out (by omega) HI5.out)
      rw [← HZ.out] at HB7
      go_wp2_with fail
      refine HB7.out.mono ?_
      rintro e w6 ⟨v59, rfl, hs6, hi6, hg6⟩
      obtain ⟨A59, n59, c59, rfl⟩ := hs6.shape
      have HG8 : Hid (w2.grownBy w6 (some g)) := Lib.hid (HG5.out.trans hg6)
      have HI8 := Lib.hid hi6
      have HS8 := Lib.hid (HS5.out.keep hg6 (fun b hb e => by injection e with e; have := HW2.out; omega))
      have HZ8 : Hid (w2.heap.size ≤ w6.heap.size) := Lib.hid HG8.out.size
      have HREP2 : Hid ((encS (encS encU)).rep (fun b => (w2.heap.size ≤ b ∧ some b ≠ v10.ownBlock) ∧ some b ≠ u11.ownBlock) w6 [.slice A59 n59 c59] z) := Lib.hid ⟨_, rfl, hs6.more fun b _ hb => ⟨⟨Nat.le_trans HG5.out.size hb, fun e => by have := (HS5.out.fst.lt b e.symm).2; omega⟩, fun e => by have := (HS5.out.snd.lt b e.symm).2; omega⟩⟩
      clear hs6 hi6 hg6 hp5 d1
      go_wp2_with (at_builtin; refine wpList_push rfl (.tmp 53) (.tmp 60) rfl (E := encS (encS encU)) (y := z) el_rows HS8.out.snd rfl rfl HREP2.out HLR.out HZ8.out (HS8.out.new2 (fun _ h => Nat.le_trans HZ8.out h)) ?_)
      intro v11 w7 ha hg hm
      have HFIN : Hid (Side (encS (encS encU)) (encS (encS encU)) w2.heap.size 47 47 (fun b => w2.heap.size ≤ b) w7 v10 v11 (makeFs l p.Q dr t k0 (s + 1)) (makeBs l p.Q dr t k0 (s + 1)) ∧ TI (k0 + (s + 1) * (2 * dd)) w7 ∧ w2.grownBy w7 (some g)) := Lib.hid ⟨by rw [HFN.out, HRN.out]; exact HS8.out.two ha hg hm, by
        rw [HKN.out]
        exact HT.out.keep HI8.out hg (fun b e hb => by have := (HS8.out.snd.lt b e).1; have := HOB.out b hb; have := HW2.out; omega), HG8.out.andThen hg (fun j e => .inl (HS8.out.snd.lt j e).1)⟩
      clear ha hg hm
      go_wp2_with fail
      go_roundg m
      case measure => omega
      case rel => exact ⟨s + 1, by omega, by go_num, HFIN⟩
end Go.Proofs.YthicondcjeipfaaGreatDoor

namespace Go.Proofs.YthicondcjeipfaaGreatDoor
open Go Go.RowKit Go.Shelf

theorem dmodel_no (p : Par) (vl : Value) (l : List Int) (X : Nat → Prop) (vt : Value) (w : World) (hp : p.ok) (hTab : TabsAt w) (h : Sl encU X w vl l) (hno : ¬ (mayP p = true ∧ (l.length : Int) = secretsI p)) :
    Calls Tryz.prog 15 #[p.v, vl, vt] w fun e w' => e = .returned (.tuple #[.slice none 0 0, .slice none 0 0, .int .i64 1]) ∧ w.grownBy w' none := by
  have HG0 : Hid (w.grownBy (w.alloc (Obj.cells p.cells 24)) none) := Lib.hid (World.grownBy_alloc w _ none)
  have HB0 : Hid (Bk (w.alloc (Obj.cells p.cells 24)) w.heap.size 24 p.cells) := Lib.hid (Bk.new w _ _)
  have HMY := Lib.hid (fun (W : World) (hW : w.grownBy W none) => may_any p W hp (hTab.kept hW))
  have HSEC := Lib.hid (dsecrets_any p)
  obtain ⟨A, c, rfl, _, _⟩ := h.form
  clear h hp hTab
  cases hm : mayP p with
  | false =>
    rw [hm] at HMY
    generalize l.length = n at *
    clear hno hm
    go_enter Tryz.func15, Tryz.ntmps15
    have hp0 := HB0.out.prule
    go_wp2_with fail
    refine (HMY.out _ HG0.out).mono ?_
    rintro e w1 ⟨rfl, hg⟩
    have HG1 : Hid (w.grownBy w1 none) := Lib.hid (HG0.out.trans hg)
    clear hg hp0
    go_wp2_with fail
    go_ret3
    exact ⟨rfl, HG1.out⟩
  | true =>
    rw [hm] at HMY
    have hne : ((l.length : Int) != secretsI p) = true := by
      have : ¬ (l.length : Int) = secretsI p := fun e => hno ⟨hm, e⟩
      simpa using this
    obtain ⟨sI, hs⟩ : ∃ y, y = secretsI p := ⟨_, rfl⟩
    rw [← hs] at hne HSEC
    generalize l.length = n at *
    clear hno hm hs
    go_enter Tryz.func15, Tryz.ntmps15
    have hp0 := HB0.out.prule
    go_wp2_with fail
    refine (HMY.out _ HG0.out).mono ?_
    rintro e w1 ⟨rfl, hg⟩
    have HG1 : Hid (w.grownBy w1 none) := Lib.hid (HG0.out.trans hg)
    have hp1 := (HB0.out.grown hg (by simp)).prule
    clear hg hp0
    go_wp2_with fail
    refine (HSEC.out _).mono ?_
    rintro e w2 ⟨rfl, hg⟩
    have HG2 : Hid (w.grownBy w2 none) := Lib.hid (HG1.out.trans hg)
    clear hg hp1
    go_wp2_with fail
    go_ret3
    exact ⟨rfl, HG2.out⟩
theorem results_ddeal {fn : Func} {W : World} {B8 : Nat} {a b c : Value} {n : Int} (h : fn.results = #[.cell 8 33, .tmp 9]) (tmps : Array Value) (h8 : tmps.getD 8 undef = .pointer (some ⟨B8, 0, none⟩)) (h9 : tmps.getD 9 undef = .int .i64 n) (hb : Bk W B8 33 #[a, b, c]) : (results fn tmps).run Tryz.prog W = .ok (.tuple #[.agg #[a, b, c], .int .i64 n]) W := by
  have r1 := run_loadVar_row (P := Tryz.prog) W B8 33 33 #[a, b, c] (0, 0) _ hb Tryz.underlying33 rfl (by kernel_rfl)
  have h8' : tmps[8]?.getD undef = .pointer (some ⟨B8, 0, none⟩) := by simpa using h8
  have h9' : tmps[9]?.getD undef = .int .i64 n := by simpa using h9
  simp [results, h, h8', h9', asAddr, r1]
set_option maxHeartbeats 4000000 in
theorem dmake_no (p : Par) (vl : Value) (l : List (Int × Int)) (n : Int) (X : Nat → Prop) (vt : Value) (w : World) (hp : p.ok) (hTab : TabsAt w) (h : Sl encP X w vl l) (hno : ¬ (mayP p = true ∧ (l.length : Int) = secretsI p ∧ 1 ≤ n ∧ n ≤ 7)) :
    Calls Tryz.prog 7 #[p.v, vl, .int .i64 n, vt] w fun e w' => e = .returned (.tuple #[.agg #[.slice none 0 0, .slice none 0 0, .slice none 0 0], .int .i64 1]) ∧ w.grownBy w' none := by
  obtain ⟨w0, hw0⟩ : ∃ y, y = (w.alloc (Obj.cells p.cells 24)).alloc (Obj.cells #[.slice none 0 0, .slice none 0 0, .slice none 0 0] 33) := ⟨_, rfl⟩
  have HG0 : Hid (w.grownBy w0 none) := Lib.hid (by rw [hw0]; exact grown_two)
  have HB0 : Hid (Bk w0 w.heap.size 24 p.cells) := Lib.hid (by rw [hw0]; exact (Bk.new w _ _).alloc _)
  have HR0 : Hid (Bk w0 (w.heap.size + 1) 33 #[.slice none 0 0, .slice none 0 0, .slice none 0 0]) := Lib.hid (by
    rw [hw0]
    have h := Bk.new (w.alloc (Obj.cells p.cells 24)) 33 #[.slice none 0 0, .slice none 0 0, .slice none 0 0]
    rw [World.size_alloc] at h
    exact h)
  have HMY := Lib.hid (fun (W : World) (hW : w.grownBy W none) => may_any p W hp (hTab.kept hW))
  have HSEC := Lib.hid (dsecrets_any p)
  obtain ⟨A, c, rfl, _, _⟩ := h.form
  obtain ⟨sI, hs⟩ : ∃ y, y = secretsI p := ⟨_, rfl⟩
  rw [← hs] at hno HSEC
  obtain ⟨m, hm⟩ : ∃ m, m = l.length := ⟨_, rfl⟩
  rw [← hm] at hno ⊢
  clear h hp hs hm hTab
  cases hm : mayP p with
  | false =>
    rw [hm] at HMY
    clear hno hm
    go_enter Tryz.func7, Tryz.ntmps7
    go_wp2_with fail
    rw [← hw0]
    have hp0 := HB0.out.prule
    clear hw0
    go_wp2_with fail
    refine (HMY.out _ HG0.out).mono ?_
    rintro e w1 ⟨rfl, hg⟩
    have HG1 : Hid (w0.grownBy w1 none) := Lib.hid hg
    clear hg hp0
    have HR1 : Hid (Bk w1 (w.heap.size + 1) 33 #[.slice none 0 0, .slice none 0 0, .slice none 0 0]) := Lib.hid (HR0.out.grown HG1.out (by simp))
    have r0 := HR1.out.cell 0
    have r1 := HR1.out.cell 1
    have r2 := HR1.out.cell 2
    have f8 := HR1.out.free
    simp at r0 r1 r2
    obtain ⟨wF, hwF⟩ : ∃ x, x = ((w1.setCell ⟨w.heap.size + 1, 0, none⟩ (.slice none 0 0)).setCell ⟨w.heap.size + 1, 1, none⟩ (.slice none 0 0)).setCell ⟨w.heap.size + 1, 2, none⟩ (.slice none 0 0) := ⟨_, rfl⟩
    have HF8 : Hid (Bk wF (w.heap.size + 1) 33 #[.slice none 0 0, .slice none 0 0, .slice none 0 0]) := Lib.hid (by rw [hwF]; exact ((HR1.out.set 0 _).set 1 _).set 2 _)
    have HGF : Hid (w.grownBy wF none) := Lib.hid (by rw [hwF]; exact grown_up (HG0.out.trans HG1.out) (((grownSet w1 (w.heap.size + 1) 0 _).trans (grownSet _ (w.heap.size + 1) 1 _)).trans (grownSet _ (w.heap.size + 1) 2 _)) (fun b e => by injection e with e; omega))
    go_wp2_with fail
    rw [← hwF]
    exact ⟨rfl, _, results_ddeal rfl _ rfl rfl HF8.out, rfl, HGF.out⟩
  | true =>
    rw [hm] at HMY
    by_cases hl : (m : Int) = sI
    · have hne : ((m : Int) != sI) = false := by simpa using hl
      by_cases h1 : n < 1
      · have hd1 : decide (n < 1) = true := by simpa using h1
        clear hno hm hl h1
        go_enter Tryz.func7, Tryz.ntmps7
        go_wp2_with fail
        rw [← hw0]
        have hp0 := HB0.out.prule
        clear hw0
        go_wp2_with fail
        refine (HMY.out _ HG0.out).mono ?_
        rintro e w1 ⟨rfl, hg⟩
        have HG1 : Hid (w0.grownBy w1 none) := Lib.hid hg
        have hp1 := (HB0.out.grown hg (by simp)).prule
        clear hg hp0
        go_wp2_with fail
        refine (HSEC.out _).mono ?_
        rintro e w2 ⟨rfl, hg⟩
        have HG2 : Hid (w0.grownBy w2 none) := Lib.hid (HG1.out.trans hg)
        clear hg hp1
        have HR1 : Hid (Bk w2 (w.heap.size + 1) 33 #[.slice none 0 0, .slice none 0 0, .slice none 0 0]) := Lib.hid (HR0.out.grown HG2.out (by simp))
        have r0 := HR1.out.cell 0
        have r1 := HR1.out.cell 1
        have r2 := HR1.out.cell 2
        have f8 := HR1.out.free
        simp at r0 r1 r2
        obtain ⟨wF, hwF⟩ : ∃ x, x = ((w2.setCell ⟨w.heap.size + 1, 0, none⟩ (.slice none 0 0)).setCell ⟨w.heap.size + 1, 1, none⟩ (.slice none 0 0)).setCell ⟨w.heap.size + 1, 2, none⟩ (.slice none 0 0) := ⟨_, rfl⟩
        have HF8 : Hid (Bk wF (w.heap.size + 1) 33 #[.slice none 0 0, .slice none 0 0, .slice none 0 0]) := Lib.hid (by rw [hwF]; exact ((HR1.out.set 0 _).set 1 _).set 2 _)
        have HGF : Hid (w.grownBy wF none) := Lib.hid (by rw [hwF]; exact grown_up (HG0.out.trans HG2.out) (((grownSet w2 (w.heap.size + 1) 0 _).trans (grownSet _ (w.heap.size + 1) 1 _)).trans (grownSet _ (w.heap.size + 1) 2 _)) (fun b e => by injection e with e; omega))
        go_wp2_with fail
        rw [← hwF]
        exact ⟨rfl, _, results_ddeal rfl _ rfl rfl HF8.out, rfl, HGF.out⟩
      · have h7 : n > 7 := by
          have h : ¬ (1 ≤ n ∧ n ≤ 7) := fun h => hno ⟨hm, hl, h⟩
          omega
        have hd1 : decide (n < 1) = false := by simpa using h1
        have hd7 : decide (n > 7) = true := by simpa using h7
        clear hno hm hl h1 h7
        go_enter Tryz.func7, Tryz.ntmps7
        go_wp2_with fail
        rw [← hw0]
        have hp0 := HB0.out.prule
        clear hw0
        go_wp2_with fail
        refine (HMY.out _ HG0.out).mono ?_
        rintro e w1 ⟨rfl, hg⟩
        have HG1 : Hid (w0.grownBy w1 none) := Lib.hid hg
        have hp1 := (HB0.out.grown hg (by simp)).prule
        clear hg hp0
        go_wp2_with fail
        refine (HSEC.out _).mono ?_
        rintro e w2 ⟨rfl, hg⟩
        have HG2 : Hid (w0.grownBy w2 none) := Lib.hid (HG1.out.trans hg)
        clear hg hp1
        have HR1 : Hid (Bk w2 (w.heap.size + 1) 33 #[.slice none 0 0, .slice none 0 0, .slice none 0 0]) := Lib.hid (HR0.out.grown HG2.out (by simp))
        have r0 := HR1.out.cell 0
        have r1 := HR1.out.cell 1
        have r2 := HR1.out.cell 2
        have f8 := HR1.out.free
        simp at r0 r1 r2
        obtain ⟨wF, hwF⟩ : ∃ x, x = ((w2.setCell ⟨w.heap.size + 1, 0, none⟩ (.slice none 0 0)).setCell ⟨w.heap.size + 1, 1, none⟩ (.slice none 0 0)).setCell ⟨w.heap.size + 1, 2, none⟩ (.slice none 0 0) := ⟨_, rfl⟩
        have HF8 : Hid (Bk wF (w.heap.size + 1) 33 #[.slice none 0 0, .slice none 0 0, .slice none 0 0]) := Lib.hid (by rw [hwF]; exact ((HR1.out.set 0 _).set 1 _).set 2 _)
        have HGF : Hid (w.grownBy wF none) := Lib.hid (by rw [hwF]; exact grown_up (HG0.out.trans HG2.out) (((grownSet w2 (w.heap.size + 1) 0 _).trans (grownSet _ (w.heap.size + 1) 1 _)).trans (grownSet _ (w.heap.size + 1) 2 _)) (fun b e => by injection e with e; omega))
        go_wp2_with fail
        rw [← hwF]
        exact ⟨rfl, _, results_ddeal rfl _ rfl rfl HF8.out, rfl, HGF.out⟩
    · have hne : ((m : Int) != sI) = true := by simpa using hl
      clear hno hm hl
      go_enter Tryz.func7, Tryz.ntmps7
      go_wp2_with fail
      rw [← hw0]
      have hp0 := HB0.out.prule
      clear hw0
      go_wp2_with fail
      refine (HMY.out _ HG0.out).mono ?_
      rintro e w1 ⟨rfl, hg⟩
      have HG1 : Hid (w0.grownBy w1 none) := Lib.hid hg
      have hp1 := (HB0.out.grown hg (by simp)).prule
      clear hg hp0
      go_wp2_with fail
      refine (HSEC.out _).mono ?_
      rintro e w2 ⟨rfl, hg⟩
      have HG2 : Hid (w0.grownBy w2 none) := Lib.hid (HG1.out.trans hg)
      clear hg hp1
      have HR1 : Hid (Bk w2 (w.heap.size + 1) 33 #[.slice none 0 0, .slice none 0 0, .slice none 0 0]) := Lib.hid (HR0.out.grown HG2.out (by simp))
      have r0 := HR1.out.cell 0
      have r1 := HR1.out.cell 1
      have r2 := HR1.out.cell 2
      have f8 := HR1.out.free
      simp at r0 r1 r2
      obtain ⟨wF, hwF⟩ : ∃ x, x = ((w2.setCell ⟨w.heap.size + 1, 0, none⟩ (.slice none 0 0)).setCell ⟨w.heap.size + 1, 1, none⟩ (.slice none 0 0)).setCell ⟨w.heap.size + 1, 2, none⟩ (.slice none 0 0) := ⟨_, rfl⟩
      have HF8 : Hid (Bk wF (w.heap.size + 1) 33 #[.slice none 0 0, .slice none 0 0, .slice none 0 0]) := Lib.hid (by rw [hwF]; exact ((HR1.out.set 0 _).set 1 _).set 2 _)
      have HGF : Hid (w.grownBy wF none) := Lib.hid (by rw [hwF]; exact grown_up (HG0.out.trans HG2.out) (((grownSet w2 (w.heap.size + 1) 0 _).trans (grownSet _ (w.heap.size + 1) 1 _)).trans (grownSet _ (w.heap.size + 1) 2 _)) (fun b e => by injection e with e; omega))
      go_wp2_with fail
      rw [← hwF]
      exact ⟨rfl, _, results_ddeal rfl _ rfl rfl HF8.out, rfl, HGF.out⟩
end Go.Proofs.YthicondcjeipfaaGreatDoor

namespace Go.Proofs.YthicondcjeipfaaGreatDoor
open Go Go.RowKit Go.Shelf

abbrev T12 : TS := ⟨[2, 3, 4, 6, 7, 8, 0, 0, 9, 0, 0, 10], 0, 0⟩
abbrev dr12 : Nat → Int := fun k => (tsk 11 T12 k).val 11
abbrev FN := makeFs [(1, 5), (0, 0)] 11 dr12 2 0 2
abbrev BN := makeBs [(1, 5), (0, 0)] 11 dr12 2 0 2
def MN : List (List (List Int)) := matI ps FN BN
def RWN : List (List (List (Int × Int))) := (List.range 2).map fun j : Nat => rowsP 11 FN BN 2 ((j : Int) + 1)
def CLN : List (List (List (Int × Int))) := (List.range 2).map fun j : Nat => colsP 11 FN BN 2 ((j : Int) + 1)
def rowL : List (List (Int × Int)) := [[(7, 8), (10, 0)], [(0, 0), (7, 9)]]
def colL : List (List (Int × Int)) := [[(3, 0), (7, 4)], [(0, 0), (9, 10)]]
def ptL : List (Int × Int) := [(6, 8), (7, 9)]
def pbad : Par := { ps with N := 3 }
def podd18 : Par := { ps with K := 3 }
theorem pbad_ok : pbad.ok := by constructor <;> exact ⟨by decide, by decide⟩
theorem rwn_len : RWN.length = 2 := by decide +kernel
theorem cln_len : CLN.length = 2 := by decide +kernel
theorem rwn_1 : RWN[1]? = some rowL := by decide +kernel
theorem cln_0 : CLN[0]? = some colL := by decide +kernel
theorem mn_b1 : MN.length ≤ 100000 := by decide +kernel
theorem mn_b2 : ∀ l ∈ MN, l.length ≤ 100000 ∧ ∀ c ∈ l, c.length ≤ 100000 := by decide +kernel
theorem fit_1 : dfitsB ps rowL (rowComsI ps MN 2) = true := by decide +kernel
theorem fit_2 : dfitsB ps rowL (rowComsI ps MN 1) = false := by decide +kernel
theorem fit_3 : dfitsB ps colL (colComsI ps MN 1) = true := by decide +kernel
theorem fit_4 : dfitsB ps (colL.take 1) (colComsI ps MN 1) = false := by decide +kernel
theorem at_1 : rowL.map (atP 11 1) = ptL := by decide +kernel
theorem at_2 : colL.map (atP 11 2) = ptL := by decide +kernel
theorem meet_1 : fitsI ps (rowComsI ps MN 2) 1 ptL = true := by decide +kernel
theorem meet_2 : fitsI ps (rowComsI ps MN 1) 2 ptL = false := by decide +kernel
theorem may_bad : ¬ mayP pbad = true := by decide +kernel
theorem sec_s : secretsI ps = 2 := by decide +kernel
theorem oe_1 : opE ps 3 = 4 := by decide +kernel
theorem oe_2 : opE podd18 0 = 1 := by decide +kernel
theorem oc_1 : ocE ps 5 = 4 := by decide +kernel
theorem oc_2 : ocE podd18 0 = 1 := by decide +kernel
theorem oc_3 : ocE ps 4 = 0 := by decide +kernel
theorem oc_4 : ocL ps [1, 2, 3, 4] = [[1, 2], [3, 4]] := by decide +kernel
theorem on_1 : opnE podd18 0 1 = 1 := by decide +kernel
theorem on_2 : opnE ps 0 4 = 1 := by decide +kernel
theorem on_3 : opnE ps 0 (-1) = 1 := by decide +kernel
end Go.Proofs.YthicondcjeipfaaGreatDoor

namespace Go.Proofs.YthicondcjeipfaaGreatDoor.FR
open Go

/-- Where the worlds stand when some late operations are over, these having told values; and what the k-th of them does to what lay there. -/
structure Lt where
  C : List (Nat × Value) → World → Prop
  R : Nat → Value → World → World → Prop
  G : World → World → Prop
  g : ∀ {vs w w'}, C vs w → G w w' → C vs w'
/-- What is known of a value, and stands: as long as nothing is written, and through the late operations from the fr-th on. -/
structure Qv (L : Lt) where
  p : List (Nat × Value) → Value → World → Prop
  st : ∀ {vs v w w'}, p vs v w → L.G w w' → p vs v w'
  sr : ∀ {vs q u v w w'}, L.C vs w → L.R q u w w' → p vs v w → p (vs ++ [(q, u)]) v w'
def Qv.any {L : Lt} : Qv L := ⟨fun _ _ _ => True, fun _ _ => trivial, fun _ _ _ => trivial⟩
def Qv.eq {L : Lt} (u : Value) : Qv L := ⟨fun _ v _ => v = u, fun h _ => h, fun _ _ h => h⟩
/-- What the q-th late operation has told. -/
def Qv.slot {L : Lt} (q : Nat) : Qv L := ⟨fun vs v _ => (q, v) ∈ vs, fun h _ => h, fun _ _ h => List.mem_append_left _ h⟩
section
variable {L : Lt} {late : List Nat} {P : Program} {ops : Array Oper} {Q : Exit → Act → World → Prop} {n : Nat} {a0 : Act} {w0 : World}

def ToldL (T : Value → World → Prop) (dst : Option Tmp) (ds : List Deferred) : Exit → Act → World → Prop := fun e a' w' => e = .normal ∧ a'.defers = ds ∧ T (match dst with | some d => a'.eval (.tmp d) | none => undef) w'
def Ask' (P : Program) (ops : Array Oper) (vs : List (Nat × Value)) (Vs : List (Qv L)) (Qt : Exit → Act → World → Prop) (o : Oper) (w : World) : List (Nat × Tmp) → Act → Prop
  | [], a => wpList P ops Qt [o] a w
  | (j, d) :: js, a => ∀ x, (Vs.getD j Qv.any).p vs x w → Ask' P ops vs Vs Qt o w js (a.put (some d) x)
/-- What is asked of one operation. -/
def AskL (L : Lt) (late : List Nat) (P : Program) (ops : Array Oper) (Vs : List (Qv L)) (ds : List Deferred) (i : Nat) (V : Qv L) (o : Oper) (js : List (Nat × Tmp)) (a0 : Act) : Prop :=
  (late.contains i = false ∧ ∀ vs w, L.C vs w → Ask' P ops vs Vs (ToldL (fun v w' => V.p vs v w' ∧ L.G w w') o.dst ds) o w js a0) ∨
  (∃ (q : Nat) (rq : List Nat), late[q]? = some i ∧ (rq.all fun x => match late[x]? with | some k => Region.waitsFor .any ops i k | none => false) = true ∧ V = Qv.slot q ∧ ∀ vs w, q ∉ vs.map (·.1) → (∀ x ∈ rq, x ∈ vs.map (·.1)) → L.C vs w → Ask' P ops vs Vs (ToldL (fun v w' => L.R q v w w' ∧ L.C (vs ++ [(q, v)]) w') o.dst ds) o w js a0)
def LateR (L : Lt) (late : List Nat) (P : Program) (ops : Array Oper) (n : Nat) (a0 : Act) (F : List (Qv L) → Prop) : Nat → List (Qv L) → List Oper → Prop
  | 0, Rs, _ => F Rs.reverse
  | _ + 1, _, [] => False
  | k + 1, Rs, o :: os => ∃ (V : Qv L) (js : List (Nat × Tmp)), (pairB ops Rs.length js && lookB ops n Rs.length js) = true ∧ AskL L late P ops Rs.reverse a0.defers Rs.length V o js a0 ∧ LateR L late P ops n a0 F k (V :: Rs) os
theorem LateR.mono {F : List (Qv L) → Prop} {k : Nat} {Rs : List (Qv L)} {o : Oper} {os : List Oper} (V : Qv L) (js : List (Nat × Tmp)) (hc : (pairB ops Rs.length js && lookB ops n Rs.length js) = true) (hl : late.contains Rs.length = false) (hA : ∀ vs w, L.C vs w → Ask' P ops vs Rs.reverse (ToldL (fun v w' => V.p vs v w' ∧ L.G w w') o.dst a0.defers) o w js a0) (h : LateR L late P ops n a0 F k (V :: Rs) os) : LateR L late P ops n a0 F (k + 1) Rs (o :: os) := ⟨V, js, hc, .inl ⟨hl, hA⟩, h⟩
theorem LateR.turn {F : List (Qv L) → Prop} {k : Nat} {Rs : List (Qv L)} {o : Oper} {os : List Oper} (q : Nat) (js : List (Nat × Tmp)) (hc : (pairB ops Rs.length js && lookB ops n Rs.length js) = true) (rq : List Nat) (hl : late[q]? = some Rs.length) (hr : (rq.all fun x => match late[x]? with | some k => Region.waitsFor .any ops Rs.length k | none => false) = true) (hA : ∀ vs w, q ∉ vs.map (·.1) → (∀ x ∈ rq, x ∈ vs.map (·.1)) → L.C vs w → Ask' P ops vs Rs.reverse (ToldL (fun v w' => L.R q v w w' ∧ L.C (vs ++ [(q, v)]) w') o.dst a0.defers) o w js a0) (h : LateR L late P ops n a0 F k (Qv.slot q :: Rs) os) : LateR L late P ops n a0 F (k + 1) Rs (o :: os) := ⟨Qv.slot q, js, hc, .inr ⟨q, rq, hl, hr, rfl, hA⟩, h⟩
theorem LateR.out {F : List (Qv L) → Prop} : ∀ {k : Nat} {Rs : List (Qv L)} {os : List Oper}, LateR L late P ops n a0 F k Rs os → k ≤ os.length ∧ ∃ Ws : List (Qv L), Ws.length = k ∧ F (Rs.reverse ++ Ws) ∧ ∀ m o, m < k → os[m]? = some o → ∃ V js, Ws[m]? = some V ∧ (pairB ops (Rs.length + m) js && lookB ops n (Rs.length + m) js) = true ∧ AskL L late P ops ((Rs.reverse ++ Ws).take (Rs.length + m)) a0.defers (Rs.length + m) V o js a0
  | 0, Rs, os, h => ⟨Nat.zero_le _, [], rfl, by rw [List.append_nil]; exact h, fun m o hm => by omega⟩
  | _ + 1, _, [], h => h.elim
  | k + 1, Rs, o :: os, ⟨V, js, hb, hA, hM⟩ => by
    obtain ⟨hkl, Ws, hl, hF, hk⟩ := LateR.out hM
    refine ⟨by simpa using hkl, V :: Ws, by simp [hl], by simpa using hF, fun m o' hm ho => ?_⟩
    cases m with
    | zero =>
      obtain rfl : o = o' := by simpa using ho
      refine ⟨V, js, rfl, hb, ?_⟩
      have : (Rs.reverse ++ V :: Ws).take (Rs.length + 0) = Rs.reverse := by
        rw [Nat.add_zero, ← List.length_reverse]
        exact List.take_left
      rw [this]
      exact hA
    | succ m =>
      obtain ⟨V', js', h1, h2, h3⟩ := hk m o' (by omega) (by simpa using ho)
      refine ⟨V', js', by simpa using h1, ?_, ?_⟩
      · simpa [Nat.add_assoc, Nat.add_comm 1 m] using h2
      · simpa [Nat.add_assoc, Nat.add_comm 1 m] using h3
def FinL' (G : Act → World → Prop) (vs : List (Nat × Value)) (w : World) : List (Qv L) → List Oper → Act → Prop
  | V :: Vs, o :: os, a => ∀ x, V.p vs x w → FinL' G vs w Vs os (a.put o.dst x)
  | _, _, a => G a w
theorem FinL'.all {G : Act → World → Prop} {vs : List (Nat × Value)} {w : World} {b : Act} : ∀ {Vs : List (Qv L)} {os : List Oper} {a : Act}, Vs.length = os.length → (∀ (k : Nat) (V : Qv L) (o : Oper), Vs[k]? = some V → os[k]? = some o → V.p vs (match o.dst with | some d => b.eval (.tmp d) | none => undef) w) → FinL' G vs w Vs os a → G (onto b (os.map (·.dst)) a) w
  | [], [], _, _, _, h => h
  | V :: Vs, o :: os, a, hl, hx, h => FinL'.all (Vs := Vs) (os := os) (by simpa using hl) (fun k V o hv ho => hx (k + 1) V o (by simpa using hv) (by simpa using ho)) (h _ (hx 0 V o rfl rfl))
  | [], _ :: _, _, hl, _, _ => by simp at hl
  | _ :: _, [], _, hl, _, _ => by simp at hl
theorem Ask'.all {vs : List (Nat × Value)} {Vs : List (Qv L)} {Qt : Exit → Act → World → Prop} {o : Oper} {w : World} {b : Act} : ∀ {js : List (Nat × Tmp)} {a : Act}, (∀ x : Nat × Tmp, x ∈ js → (Vs.getD x.1 Qv.any).p vs (b.eval (.tmp x.2)) w) → Ask' P ops vs Vs Qt o w js a → wpList P ops Qt [o] (onto b (js.map fun x => some x.2) a) w
  | [], _, _, h => h
  | (j, d) :: js, a, hx, h => Ask'.all (js := js) (fun x hm => hx x (List.mem_cons_of_mem _ hm)) (h _ (hx (j, d) (by simp)))
/-- Which late operations are over. -/
def Cls (L : Lt) (late : List Nat) (vs : List (Nat × Value)) (D : Array Bool) (w : World) : Prop := ((vs.map (·.1)).Nodup ∧ ∀ q ∈ vs.map (·.1), q < late.length) ∧ L.C vs w ∧ ∀ q i, late[q]? = some i → (D.getD i false = true ↔ q ∈ vs.map (·.1))
structure LInv (L : Lt) (late : List Nat) (ops : Array Oper) (n : Nat) (a0 : Act) (Vs : List (Qv L)) (vs : List (Nat × Value)) (D : Array Bool) (a : Act) (w : World) : Prop where
  head : HeadInv .any ops n D
  cls : Cls L late vs D w
  tsize : a.tmps.size = a0.tmps.size
  defers : a.defers = a0.defers
  rest : ∀ t, (∀ j, j < n → D.getD j false = true → dstAt ops j ≠ some t) → a.tmps[t]? = a0.tmps[t]?
  known : ∀ j V, D.getD j false = true → Vs[j]? = some V → V.p vs (valOf (dstAt ops j) a) w
theorem toldL_letsOut {T : Value → World → Prop} {dst : Option Tmp} {ds : List Deferred} : ¬ LetsOut (ToldL T dst ds) := by
  rintro ⟨a, w', e, _⟩
  cases e
def lateB (n : Nat) (late : List Nat) : Bool := late.all (fun i => decide (i < n)) && decide late.Nodup
theorem toldL_op {T : Value → World → Prop} {o : Oper} {a b : Act} {w : World} (hs : ∀ cs b, o.op ≠ .select cs b) (hd : ∀ d, o.dst = some d → d < a.tmps.size) (hsz : b.tmps.size = a.tmps.size) (hlook : ∀ t ∈ o.looksAt ops, b.tmps[t]? = a.tmps[t]?) {i : Nat} (hi : ops[i]? = some o)
    (hdf : b.defers = a0.defers) (h : wpList P ops (ToldL T o.dst a0.defers) [o] b w) : wpOp P ops Q i (fun a' w' => ∃ v, a' = a.put o.dst v ∧ T (match o.dst with | some _ => v | none => undef) w') a w := by
  have hex : execOp b.eval o = execOp a.eval o := execOp_congr o hs fun x hx => by
    cases x with
    | tmp t => exact eval_of _ _ _ (hlook t (List.mem_append_left _ (List.mem_filterMap.2 ⟨.tmp t, by simpa using hx, rfl⟩)))
    | _ => rfl
  have hwn : Region.wanted o (yielded ops b.tmps) = Region.wanted o (yielded ops a.tmps) := by
    unfold Region.wanted
    cases hg : o.guard with
    | none => rfl
    | some gw =>
      obtain ⟨g, want⟩ := gw
      have hy : yielded ops b.tmps g = yielded ops a.tmps g := by
        unfold yielded
        cases ht : (ops[g]?).bind (·.dst) with
        | none => rfl
        | some t => simp only [Option.bind_some, hlook t (by simp [Oper.looksAt, hg, ht])]
      simp only [hy]
  have fin : ∀ v w', ToldL T o.dst a0.defers .normal (b.put o.dst v) w' → ∃ v', a.put o.dst v = a.put o.dst v' ∧ T (match o.dst with | some _ => v' | none => undef) w' := by
    rintro v w' ⟨_, _, h1⟩
    refine ⟨v, rfl, ?_⟩
    cases hdd : o.dst with
    | none => rw [hdd] at h1; exact h1
    | some d =>
      rw [hdd] at h1
      have hlt := hd d hdd
      have : (b.put (some d) v).eval (.tmp d) = v := by simp [Act.put, Act.eval, Array.getD_eq_getD_getElem?, hsz, hlt]
      simp only [this] at h1
      exact h1
  unfold wpOp
  simp only [hi]
  simp only [wpList, hwn] at h
  split
  · rename_i hw
    rw [if_pos hw] at h
    rcases h with h | h
    · left
      unfold Oper.wp at h ⊢
      rw [hex] at h
      generalize (execOp a.eval o).run P w = r at *
      cases r with
      | ok x w' =>
        cases x with
        | value v => exact fin v w' h
        | skip => exact fin undef w' h
        | enter f args =>
          refine Calls.mono h fun e w'' he => ?_
          cases e with
          | returned u => exact fin u w'' he
          | panicked c => exact absurd he.1 (by simp)
          | outgrown => exact absurd he toldL_letsOut
        | row row args => exact Rows.mono h fun u w'' he => fin u w'' he
        | defer d =>
          obtain ⟨_, h1, _⟩ := h
          have h1 : (Act.put { b with defers := d :: b.defers } o.dst undef).defers = a0.defers := h1
          rw [put_defers, ← hdf] at h1
          exact absurd (congrArg List.length h1) (by simp)
        | _ => exact h.elim
      | halt x w' =>
        cases x with
        | panic v => exact absurd h.1 (by simp)
        | _ => exact h.elim
    · exact absurd h.2 toldL_letsOut
  · rename_i hw
    rw [if_neg hw] at h
    exact fin undef w h
theorem linv_step {L : Lt} {late : List Nat} {vs vs2 : List (Nat × Value)} {Vs : List (Qv L)} {D : Array Bool} {a a' : Act} {w w' : World} {i : Nat} {o : Oper} {V : Qv L} {v : Value} (inv : LInv L late ops n a0 Vs vs D a w) (hd : distB ops n a0.tmps.size = true) (hi : i ∈ Region.ready .any ops D) (hin : i < n) (ho : ops[i]? = some o) (hV : Vs[i]? = some V) (hnl : Vs.length ≤ n)
    (ha : a' = a.put o.dst v) (hv : V.p vs2 (match o.dst with | some _ => v | none => undef) w') (hg : ∀ (W : Qv L) (j : Nat), D.getD j false = true → Vs[j]? = some W → ∀ {u : Value}, W.p vs u w → W.p vs2 u w') (hcl : Cls L late vs2 (D.setIfInBounds i true) w') : LInv L late ops n a0 Vs vs2 (D.setIfInBounds i true) a' w' := by
  subst ha
  have hdi : dstAt ops i = o.dst := by simp [dstAt, ho]
  have hun : D.getD i true = false := (mem_ready.1 hi).1
  have hlt : i < D.size := by
    rcases Nat.lt_or_ge i D.size with h' | h'
    · exact h'
    · simp [Array.getElem?_eq_none h'] at hun
  refine ⟨inv.head.set hi hin, hcl, (put_size _ _ _).trans inv.tsize, (put_defers _ _ _).trans inv.defers, fun t ht => ?_, fun j W hj hW => ?_⟩
  · have h1 : o.dst ≠ some t := fun e => ht i hin (by simp [hlt]) (hdi.trans e)
    refine Eq.trans ?_ (inv.rest t fun j hj hD => ht j hj (getD_set_true hD))
    cases hdd : o.dst with
    | none => rfl
    | some d => exact put_at _ _ _ _ (fun e => h1 (by rw [hdd, e]))
  · by_cases e : i = j
    · subst e
      obtain rfl : V = W := Option.some.inj (hV.symm.trans hW)
      rw [hdi]
      cases hdd : o.dst with
      | none => rw [hdd] at hv; exact hv
      | some d =>
        rw [hdd] at hv
        have hds := list_all_range hd hin
        rw [hdi, hdd] at hds
        simp only [Bool.and_eq_true, decide_eq_true_eq] at hds
        have : (a.put (some d) v).eval (.tmp d) = v := by simp [Act.put, Act.eval, Array.getD_eq_getD_getElem?, inv.tsize, hds.1]
        show V.p vs2 ((a.put (some d) v).eval (.tmp d)) w'
        rw [this]
        exact hv
    · have hjn : j < n := by have := (List.getElem?_eq_some_iff.1 hW).1; omega
      rw [getD_set_ne false e] at hj
      have h1 := hg W j hj hW (inv.known j W hj hW)
      cases hdj : dstAt ops j with
      | none => rw [hdj] at h1; exact h1
      | some dj =>
        rw [hdj] at h1
        have h1 : W.p vs2 (a.eval (.tmp dj)) w' := h1
        show W.p vs2 ((a.put o.dst v).eval (.tmp dj)) w'
        cases hdd : o.dst with
        | none => exact h1
        | some d =>
          have hds := list_all_range hd hin
          rw [hdi, hdd] at hds
          simp only [Bool.and_eq_true, decide_eq_true_eq] at hds
          have h2 := list_all_range hds.2 hjn
          simp only [Bool.or_eq_true, beq_iff_eq, bne_iff_ne, ne_eq] at h2
          have h3 : d ≠ dj := fun e' => (h2.resolve_left (fun e2 => e e2.symm)) (by rw [hdj, e'])
          rw [eval_of _ a dj (put_at a d dj v h3)]
          exact h1
/-- The law. -/
theorem wpAny_late {l : List Oper} (n : Nat) (hB : monoB l.toArray n a0.tmps.size = true) (hBl : lateB n late = true) (hC0 : L.C [] w0)
    (h : LateR L late P l.toArray n a0 (fun Vs => ∀ vs w, (vs.map (·.1)).Nodup ∧ (∀ q, q < late.length ↔ q ∈ vs.map (·.1)) → L.C vs w → FinL' (fun a w => wpList P l.toArray Q (l.drop n) a w) vs w Vs (l.take n) a0) n [] l) : wpAny P .any l.toArray Q l.toArray.size (Array.replicate l.toArray.size false) a0 w0 := by
  simp only [monoB, Bool.and_eq_true, decide_eq_true_eq] at hB
  obtain ⟨⟨⟨⟨hsel, hn⟩, htail⟩, htopo⟩, hdist⟩ := hB
  simp only [tailB, Bool.and_eq_true] at htail
  obtain ⟨hblk, hseq⟩ := htail
  simp only [lateB, Bool.and_eq_true, decide_eq_true_eq] at hBl
  obtain ⟨hlt0, hnd⟩ := hBl
  have hlate : ∀ i ∈ late, i < n := fun i hi => by simpa using List.all_eq_true.1 hlt0 i hi
  obtain ⟨_, Vs, hVl, hF, hO⟩ := LateR.out h
  rw [List.reverse_nil, List.nil_append] at hF
  simp only [List.reverse_nil, List.nil_append, List.length_nil, Nat.zero_add] at hO
  have hnl : n ≤ l.length := by simpa using hn
  have htl : (l.take n).length = n := by simp; omega
  have hVn : Vs.length = n := hVl
  have hdl : (l.drop n).length = l.toArray.size - n := by simp
  have hnext : ∀ i o, i < n → l.toArray[i]? = some o → (l.take n)[i]? = some o := fun i o hi ho => by
    rw [List.getElem?_take, if_pos hi]
    simpa using ho
  have key : ∀ m vs D a w, LInv L late l.toArray n a0 Vs vs D a w → cnt D n = m → wpAny P .any l.toArray Q (m + (l.toArray.size - n)) D a w := by
    intro m
    induction m with
    | zero =>
      intro vs D a w inv hc
      have hall := cnt_zero hc
      have hD : D = Array.replicate n true ++ Array.replicate (l.toArray.size - n) false := by
        have hsz := inv.head.size
        refine Array.ext (by simp [hsz]; omega) fun i h1 h2 => ?_
        rw [Array.getElem_append]
        by_cases hi : i < n
        · have := hall i hi
          simp [h1] at this
          simp [hi, this]
        · have := inv.head.tail i (by omega) (by omega)
          simp [h1] at this
          simp [hi, this]
      have hk : ∀ (k : Nat) (V : Qv L) (o : Oper), Vs[k]? = some V → (l.take n)[k]? = some o → V.p vs (match o.dst with | some d => a.eval (.tmp d) | none => undef) w := by
        intro k V o hv ho
        have hkn : k < n := by have := (List.getElem?_eq_some_iff.1 hv).1; omega
        have h1 := inv.known k V (hall k hkn) hv
        have h2 : dstAt l.toArray k = o.dst := by
          have : l[k]? = some o := by rw [List.getElem?_take, if_pos hkn] at ho; exact ho
          simp [dstAt, this]
        rw [h2] at h1
        have h3 : (match o.dst with | some d => a.eval (.tmp d) | none => undef) = valOf o.dst a := by cases o.dst <;> rfl
        rw [h3]
        exact h1
      have hcl : ((vs.map (·.1)).Nodup ∧ (∀ q, q < late.length ↔ q ∈ vs.map (·.1))) ∧ L.C vs w := by
        obtain ⟨hk0, hk1, hk2⟩ := inv.cls
        exact ⟨⟨hk0.1, fun q => ⟨fun h => (hk2 q late[q] (List.getElem?_eq_getElem h)).1 (hall _ (hlate _ (List.getElem_mem h))), hk0.2 q⟩⟩, hk1⟩
      have hfin := FinL'.all (hVl.trans htl.symm) hk (hF vs w hcl.1 hcl.2)
      have hon : onto a ((l.take n).map (·.dst)) a0 = a := by
        refine act_ext (fun t => onto_at a t _ _ inv.tsize.symm ?_) ((onto_defers _ _ _).trans inv.defers.symm)
        by_cases ht : some t ∈ (l.take n).map (·.dst)
        · exact .inl ht
        · refine .inr (inv.rest t fun j hj _ e => ht ?_).symm
          have hjl : j < l.length := by omega
          have : l[j].dst = some t := by simpa [dstAt, hjl] using e
          exact List.mem_map.2 ⟨l[j], List.mem_iff_getElem?.2 ⟨j, by rw [List.getElem?_take, if_pos hj, List.getElem?_eq_getElem hjl]⟩, this⟩
      rw [hon] at hfin
      have := wpAny_of_seq (md := .any) (Q' := Q) (l.drop n) n D a w (fun j => by simp [List.getElem?_drop]) (by rw [hdl, hD]; exact hseq) hfin
      rw [hdl] at this
      rwa [Nat.zero_add]
    | succ m ih =>
      intro vs D a w inv hc
      have hready : ∀ i ∈ Region.ready .any l.toArray D, i < n := by
        intro i hi
        rcases Nat.lt_or_ge i n with h' | h'
        · exact h'
        · obtain ⟨hu, oi, hoi, hall⟩ := mem_ready.1 hi
          have hlt : i < l.toArray.size := (Array.getElem?_eq_some_iff.1 hoi).1
          exfalso
          obtain ⟨k, hk, hkd⟩ : ∃ k, k < n ∧ D.getD k false = false := by
            refine Classical.byContradiction fun hno => ?_
            have : ∀ k, k ≤ n → cnt D k = 0 := by
              intro k
              induction k with
              | zero => intro _; rfl
              | succ k ihk =>
                intro hk
                have h1 : D.getD k false = true := by
                  refine Classical.byContradiction fun hx => hno ⟨k, by omega, by simpa using hx⟩
                simp only [cnt, h1, ihk (by omega)]
                rfl
            rw [this n (Nat.le_refl _)] at hc
            omega
          have hb := list_all_range hblk hlt
          simp only [Bool.or_eq_true, decide_eq_true_eq] at hb
          have hb := list_all_range (hb.resolve_left (by omega)) hk
          simp only [Bool.not_eq_true'] at hb
          have hik : i ≠ k := by omega
          have : av l.toArray k n i = true := by
            have hav := fun f j hj => av_of (ops := l.toArray) inv.head.closed inv.head.size hkd f j hj
            cases hn0 : n with
            | zero => simp [av, hik]
            | succ f =>
              simp only [av, hoi, Option.map_some, Option.getD_some, Bool.and_eq_true, bne_iff_ne]
              refine ⟨hik, ?_⟩
              rw [Array.all_eq_true_iff_forall_mem]
              intro e he
              by_cases hbd : Region.binds .any e = true
              · simp [hbd, hav f e.on (hall e he hbd)]
              · simp [hbd]
          rw [hb] at this
          cases this
      have hne : Region.ready .any l.toArray D ≠ [] := by
        have hex : ∃ k, k < n ∧ D.getD k false = false ∧ ∀ j, j < k → D.getD j false = true := by
          have : ∀ k, k ≤ n → (∃ q, q < k ∧ D.getD q false = false ∧ ∀ j, j < q → D.getD j false = true) ∨ (cnt D k = 0) := by
            intro k
            induction k with
            | zero => intro _; exact .inr rfl
            | succ k ihk =>
              intro hk
              rcases ihk (by omega) with ⟨q, h1, h2⟩ | h0
              · exact .inl ⟨q, by omega, h2⟩
              · cases hq : D.getD k false with
                | true => right; simp only [cnt, hq, h0]; rfl
                | false => exact .inl ⟨k, by omega, hq, cnt_zero h0⟩
          rcases this n (Nat.le_refl _) with ⟨q, h1, h2⟩ | h0
          · exact ⟨q, h1, h2⟩
          · omega
        obtain ⟨k, hk, hkd, hbel⟩ := hex
        have hkl : k < l.toArray.size := by omega
        have ho : l.toArray[k]? = some l.toArray[k] := Array.getElem?_eq_getElem hkl
        have : k ∈ Region.ready .any l.toArray D := by
          refine mem_ready.2 ⟨getD_in (by rw [inv.head.size]; exact hkl) hkd, _, ho, fun e he hb => hbel _ ?_⟩
          have ht := list_all_range htopo hk
          simp only [ho, Option.map_some, Option.getD_some] at ht
          have := Array.all_eq_true_iff_forall_mem.1 ht e he
          simpa [hb] using this
        intro e
        rw [e] at this
        cases this
      rw [show m + 1 + (l.toArray.size - n) = (m + (l.toArray.size - n)) + 1 by omega]
      refine ⟨fun e => absurd e hne, fun i hi => ?_⟩
      have hin := hready i hi
      obtain ⟨hu, o, ho, hall⟩ := mem_ready.1 hi
      obtain ⟨V, js, hV, hchk, hask⟩ := hO i o hin (by simpa using ho)
      simp only [Bool.and_eq_true] at hchk
      obtain ⟨hpair, hlook⟩ := hchk
      have hdst : ∀ d, o.dst = some d → d < a.tmps.size := by
        intro d hd
        have := list_all_range hdist hin
        have h2 : dstAt l.toArray i = some d := by simp only [dstAt, ho]; exact hd
        rw [h2] at this
        simp only [Bool.and_eq_true, decide_eq_true_eq] at this
        rw [inv.tsize]
        exact this.1
      have hjs : ∀ x : Nat × Tmp, x ∈ js → dstAt l.toArray x.1 = some x.2 ∧ D.getD x.1 false = true ∧ x.1 < i := by
        intro x hx
        have := List.all_eq_true.1 hpair x hx
        simp only [Bool.and_eq_true, beq_iff_eq] at this
        obtain ⟨oj, hoj, e, he, hb, hon⟩ := Region.waitsFor_spec this.2
        obtain rfl : o = oj := Option.some.inj (ho.symm.trans hoj)
        have ht := list_all_range htopo hin
        simp only [ho, Option.map_some, Option.getD_some] at ht
        have ht := Array.all_eq_true_iff_forall_mem.1 ht e he
        simp only [hb, Bool.not_true, Bool.false_or, decide_eq_true_eq] at ht
        exact ⟨this.1, by rw [← hon]; exact hall e he hb, by rw [← hon]; exact ht⟩
      have hget : ∀ x : Nat × Tmp, x ∈ js → ((Vs.take i).getD x.1 Qv.any).p vs (a.eval (.tmp x.2)) w := fun x hx => by
        obtain ⟨h1, h2, h3⟩ := hjs x hx
        have hxl : x.1 < Vs.length := by omega
        have h4 : Vs[x.1]? = some Vs[x.1] := List.getElem?_eq_getElem hxl
        have h5 := inv.known x.1 _ h2 h4
        rw [h1] at h5
        have : (Vs.take i).getD x.1 Qv.any = Vs[x.1] := by
          rw [List.getD_eq_getElem?_getD, List.getElem?_take, if_pos h3, h4]
          rfl
        rw [this]
        exact h5
      obtain ⟨hk0, hk1, hk2⟩ := inv.cls
      have hlk : ∀ t ∈ o.looksAt l.toArray, (onto a (js.map fun x => some x.2) a0).tmps[t]? = a.tmps[t]? := fun t ht => by
        refine onto_at a t _ _ inv.tsize.symm ?_
        have h1 : (o.looksAt l.toArray).all (fun t => js.any (·.2 == t) || keptB l.toArray n i t) = true := by
          simpa only [lookB, ho, Option.map_some, Option.getD_some] using hlook
        have h2 := List.all_eq_true.1 h1 t ht
        simp only [Bool.or_eq_true] at h2
        rcases h2 with h2 | h2
        · left
          obtain ⟨x, hx, hxt⟩ := List.any_eq_true.1 h2
          exact List.mem_map.2 ⟨x, hx, by rw [beq_iff_eq.1 hxt]⟩
        · right
          refine (inv.rest t fun j hj hD e => ?_).symm
          have h3 := list_all_range h2 hj
          simp only [Bool.or_eq_true, bne_iff_ne, ne_eq, beq_iff_eq] at h3
          rcases h3 with (h3 | h3) | h3
          · exact h3 e
          · obtain ⟨oj, hoj, e', he', hb', hon⟩ := Region.waitsFor_spec h3
            have := inv.head.closed j oj hoj hD e' he' hb'
            rw [hon, getD_both hu] at this
            cases this
          · subst h3
            rw [getD_both hu] at hD
            cases hD
      obtain ⟨T, hA, hS⟩ : ∃ T : Value → World → Prop, Ask' P l.toArray vs (Vs.take i) (ToldL T o.dst a0.defers) o w js a0 ∧ (∀ v w', T v w' → ∃ vs2, V.p vs2 v w' ∧ (∀ (W : Qv L) (j : Nat), D.getD j false = true → Vs[j]? = some W → ∀ {u : Value}, W.p vs u w → W.p vs2 u w') ∧ Cls L late vs2 (D.setIfInBounds i true) w') := by
        rcases hask with ⟨hnl', hA⟩ | ⟨q, rq, hq, hrq, hVq, hA⟩
        · have hne : ∀ q i', late[q]? = some i' → i ≠ i' := fun q i' hq e => by
            subst e
            have := List.contains_iff_mem.2 (List.mem_of_getElem? hq)
            rw [hnl'] at this
            cases this
          exact ⟨_, hA vs w hk1, fun v w' hg => ⟨vs, hg.1, fun W j _ _ _ hp => W.st hp hg.2, hk0, L.g hk1 hg.2, fun q i' hq => by rw [getD_set_ne false (hne q i' hq)]; exact hk2 q i' hq⟩⟩
        · have hDi : D.getD i false = false := getD_both hu
          have h1 : q ∉ vs.map (·.1) := fun h => by have := (hk2 q i hq).2 h; rw [hDi] at this; cases this
          have h2 : ∀ x ∈ rq, x ∈ vs.map (·.1) := fun x hx => by
            have hw := List.all_eq_true.1 hrq x hx
            cases hlx : late[x]? with
            | none => rw [hlx] at hw; cases hw
            | some k =>
              rw [hlx] at hw
              obtain ⟨oj, hoj, e, he, hb, hon⟩ := Region.waitsFor_spec hw
              obtain rfl : o = oj := Option.some.inj (ho.symm.trans hoj)
              have h3 := hall e he hb
              rw [hon] at h3
              exact (hk2 x k hlx).1 h3
          refine ⟨_, hA vs w h1 h2 hk1, fun v w' hg => ⟨vs ++ [(q, v)], (by rw [hVq]; show (q, v) ∈ vs ++ [(q, v)]; simp), fun W j hj hW _ hp => W.sr hk1 hg.1 hp, ⟨?_, fun x hx => ?_⟩, hg.2, fun q' i' hq' => ?_⟩⟩
          · rw [List.map_append, List.nodup_append]
            exact ⟨hk0.1, by simp, fun a ha b hb e => by
              have hb : b = q := by simpa using hb
              exact h1 (by rw [← hb, ← e]; exact ha)⟩
          · rw [List.map_append, List.mem_append] at hx
            rcases hx with hx | hx
            · exact hk0.2 x hx
            · have hx : x = q := by simpa using hx
              rw [hx]
              exact (List.getElem?_eq_some_iff.1 hq).1
          · rw [List.map_append, List.mem_append]
            by_cases e : i = i'
            · subst e
              have hqq : q' = q := (List.getElem?_inj (List.getElem?_eq_some_iff.1 hq').1 hnd).1 (hq'.trans hq.symm)
              have hlt : i < D.size := by
                rw [inv.head.size]
                exact (Array.getElem?_eq_some_iff.1 ho).1
              simp [hlt, hqq]
            · rw [getD_set_ne false e, hk2 q' i' hq']
              have : q' ≠ q := fun e' => e (by rw [e', hq] at hq'; exact Option.some.inj hq')
              simp [this]
      have hW := Ask'.all (b := a) hget hA
      have hop := toldL_op (Q := Q) (ops := l.toArray) (a0 := a0) (a := a) (Region.noSelect_spec hsel i o · · ho) hdst ((onto_size _ _ _).trans inv.tsize.symm) hlk ho (onto_defers _ _ _) hW
      refine wpOp_mono (fun a' w' hk => ?_) hop
      obtain ⟨v, ha, hT⟩ := hk
      obtain ⟨vs2, hv, hs, hcl⟩ := hS _ w' hT
      exact ih vs2 _ a' w' (linv_step inv hdist hi hin ho hV (by omega) ha hv hs hcl) (by have := (cnt_set (D := D) (i := i) n).2 hin hu; omega)
  have h0 := key n [] (Array.replicate l.toArray.size false) a0 w0 ⟨⟨by simp, (fun j oj _ hD => by rw [getD_replicate_false] at hD; cases hD), fun t _ ht => by simp only [List.size_toArray] at ht ⊢; simp [ht]⟩, ⟨⟨by simp, by simp⟩, hC0, fun q i hq => by rw [getD_replicate_false]; simp⟩, rfl, rfl, fun _ _ => rfl, (fun j V hD => by rw [getD_replicate_false] at hD; cases hD)⟩ (cnt_false _ n)
  rwa [show n + (l.toArray.size - n) = l.toArray.size by omega] at h0
/-- One operation that is carried out .. -/
theorem askl_do {T : Value → World → Prop} {ds : List Deferred} {o : Oper} {a : Act} {w : World} (hw : Region.wanted o (yielded ops a.tmps) = true)
    (h : ∀ K' : Act → World → Prop, (∀ a' w', a'.defers = ds → T (match o.dst with | some d => a'.eval (.tmp d) | none => undef) w' → K' a' w') → o.wp P a w K' (ToldL T o.dst ds)) : wpList P ops (ToldL T o.dst ds) [o] a w := by
  unfold wpList
  rw [if_pos hw]
  exact .inl (h _ fun a' w' h1 h2 => ⟨rfl, h1, h2⟩)
/-- What is behind them. -/
def FinL (P : Program) (ops : Array Oper) (Q : Exit → Act → World → Prop) (vs : List (Nat × Value)) (w : World) : List (Qv L) → List Oper → Act → Prop
  | V :: Vs, o :: os, a => ∀ x, V.p vs x w → FinL P ops Q vs w Vs os (a.put o.dst x)
  | _, os, a => wpList P ops Q os a w
theorem FinL.cut {vs : List (Nat × Value)} {w : World} : ∀ {Vs : List (Qv L)} {os : List Oper} {a : Act}, Vs.length ≤ os.length → FinL P ops Q vs w Vs os a → FinL' (fun a w => wpList P ops Q (os.drop Vs.length) a w) vs w Vs (os.take Vs.length) a
  | [], os, a, _, h => by
    have h : wpList P ops Q os a w := by cases os <;> exact h
    exact h
  | V :: Vs, [], a, hl, _ => by simp at hl
  | V :: Vs, o :: os, a, hl, h => fun x hx => FinL.cut (Vs := Vs) (os := os) (by simpa using hl) (h x hx)
theorem LateR.weak {F G : List (Qv L) → Prop} : ∀ {k : Nat} {Rs : List (Qv L)} {os : List Oper}, LateR L late P ops n a0 F k Rs os → (∀ Ws, Ws.length = Rs.length + k → F Ws → G Ws) → LateR L late P ops n a0 G k Rs os
  | 0, Rs, _, h, hg => hg _ (by simp) h
  | _ + 1, _, [], h, _ => h.elim
  | k + 1, Rs, o :: os, ⟨V, js, hb, hA, hM⟩, hg => ⟨V, js, hb, hA, LateR.weak hM fun Ws hW => hg Ws (by simp at hW ⊢; omega)⟩
theorem wpAny_lateR {l : List Oper} (n : Nat) (hB : monoB l.toArray n a0.tmps.size = true) (hBl : lateB n late = true) (hC0 : L.C [] w0)
    (h : LateR L late P l.toArray n a0 (fun Vs => ∀ vs w, (vs.map (·.1)).Nodup ∧ (∀ q, q < late.length ↔ q ∈ vs.map (·.1)) → L.C vs w → FinL P l.toArray Q vs w Vs l a0) n [] l) : wpAny P .any l.toArray Q l.toArray.size (Array.replicate l.toArray.size false) a0 w0 := by
  refine wpAny_late n hB hBl hC0 (LateR.weak h fun Ws hW hF vs w hvl hw => ?_)
  have hn := (LateR.out h).1
  have hl : Ws.length = n := by simpa using hW
  have := FinL.cut (by rw [hl]; exact hn) (hF vs w hvl hw)
  rwa [hl] at this
theorem wp_region_late {l : List Oper} {id : Nat} (L : Lt) (late : List Nat) (n : Nat) (hm : P.follows .mixedOrders = true) (hB : monoB l.toArray n a0.tmps.size = true) (hBl : lateB n late = true) (hC0 : L.C [] w0.drew)
    (h : LateR L late P l.toArray n a0 (fun Vs => ∀ vs w, (vs.map (·.1)).Nodup ∧ (∀ q, q < late.length ↔ q ∈ vs.map (·.1)) → L.C vs w → FinL P l.toArray Q vs w Vs l a0) n [] l) : (Code.region id l.toArray true).wp P Q a0 w0 :=
  wp_region_any hm (wpAny_lateR n hB hBl hC0 h)
end
end Go.Proofs.YthicondcjeipfaaGreatDoor.FR

namespace Go.Proofs.YthicondcjeipfaaGreatDoor
open Go Go.RowKit

theorem fr_one {vs : List (Nat × Value)} (h : (vs.map (·.1)).Nodup) {q : Nat} {x y : Value} : (q, x) ∈ vs → (q, y) ∈ vs → x = y := by
  induction vs with
  | nil => intro hx; cases hx
  | cons a vs ih =>
    rw [List.map_cons, List.nodup_cons] at h
    intro hx hy
    rcases List.mem_cons.1 hx with e1 | h1 <;> rcases List.mem_cons.1 hy with e2 | h2
    · exact (Prod.ext_iff.1 (e1.trans e2.symm)).2
    · exact absurd (List.mem_map.2 ⟨_, h2, by rw [← e1]⟩) h.1
    · exact absurd (List.mem_map.2 ⟨_, h1, by rw [← e2]⟩) h.1
    · exact ih h.2 h1 h2
theorem fr_in {vs : List (Nat × Value)} {q : Nat} {x : Value} (h : (q, x) ∈ vs) : q ∈ vs.map (·.1) := List.mem_map.2 ⟨_, h, rfl⟩
theorem fr_snoc {vs : List (Nat × Value)} {q r : Nat} {u : Value} : r ∈ (vs ++ [(q, u)]).map (·.1) ↔ r ∈ vs.map (·.1) ∨ r = q := by simp
theorem fr_nodup {vs : List (Nat × Value)} {q : Nat} {u : Value} (h : (vs.map (·.1)).Nodup) (hq : q ∉ vs.map (·.1)) : ((vs ++ [(q, u)]).map (·.1)).Nodup := by
  rw [List.map_append, List.nodup_append]
  exact ⟨h, by simp, fun a ha b hb e => by
    have hb : b = q := by simpa using hb
    exact hq (by rw [← hb, ← e]; exact ha)⟩
/-- What is known of the call: ahead of it; behind it, of what it told and the cells to be stored. -/
structure BoxOk (D : World) (row : Option Nat) (ty : TypeId) (zero : Array Value) (Pre : World → Prop) (Told : Value → Array Value → World → Prop) : Prop where
  row : ∀ r, row = some r → r < D.heap.size
  pre : ∀ {W W'}, Pre W → W.grownBy W' none → Pre W'
  told : ∀ {x cs W W'}, Told x cs W → W.grownBy W' none → Told x cs W'
  store : ∀ {x cs W W' g}, Told x cs W → Bk W g ty zero → D.heap.size ≤ g → W.grownBy W' (some g) → Told x cs W'
structure BoxC (D : World) (row : Option Nat) (ty : TypeId) (zero : Array Value) (Pre : World → Prop) (Told : Value → Array Value → World → Prop) (vs : List (Nat × Value)) (W : World) : Prop where
  g : D.grownBy W row
  pre : 0 ∉ vs.map (·.1) → Pre W
  told : ∀ x, (0, x) ∈ vs → ∃ cs, Told x cs W
  box : ∀ x, (1, x) ∈ vs → ∃ g, x = .pointer (some ⟨g, 0, none⟩) ∧ D.heap.size ≤ g ∧ (2 ∉ vs.map (·.1) → Bk W g ty zero) ∧ (2 ∈ vs.map (·.1) → ∃ y cs, (0, y) ∈ vs ∧ Told y cs W ∧ Bk W g ty cs)
  two : 2 ∈ vs.map (·.1) → 1 ∈ vs.map (·.1)
  nd : (vs.map (·.1)).Nodup
section
variable {D : World} {row : Option Nat} {ty : TypeId} {zero : Array Value} {Pre : World → Prop} {Told : Value → Array Value → World → Prop} {vs : List (Nat × Value)} {W W' : World}
theorem BoxC.start (h : Pre D) : BoxC D row ty zero Pre Told [] D := ⟨World.grownBy.refl _ _, fun _ => h, by simp, by simp, by simp, by simp⟩
theorem BoxC.keep (ok : BoxOk D row ty zero Pre Told) (h : BoxC D row ty zero Pre Told vs W) (hg : W.grownBy W' none) : BoxC D row ty zero Pre Told vs W' where
  g := h.g.trans (hg.but _)
  pre := fun hn => ok.pre (h.pre hn) hg
  told := fun x hx => by
    obtain ⟨cs, hc⟩ := h.told x hx
    exact ⟨cs, ok.told hc hg⟩
  box := fun x hx => by
    obtain ⟨g, e, hl, h1, h2⟩ := h.box x hx
    refine ⟨g, e, hl, fun hn => (h1 hn).grown hg (by simp), fun hy => ?_⟩
    obtain ⟨y, cs, a, b, c⟩ := h2 hy
    exact ⟨y, cs, a, ok.told b hg, c.grown hg (by simp)⟩
  two := h.two
  nd := h.nd
theorem BoxC.call (ok : BoxOk D row ty zero Pre Told) (h : BoxC D row ty zero Pre Told vs W) (hn : 0 ∉ vs.map (·.1)) {x : Value} {cs : Array Value} (ht : Told x cs W') (hg : W.grownBy W' row) : BoxC D row ty zero Pre Told (vs ++ [(0, x)]) W' where
  g := h.g.trans hg
  pre := fun hm => absurd (fr_snoc.2 (.inr rfl)) hm
  told := fun y hy => by
    rcases List.mem_append.1 hy with hy | hy
    · exact absurd (fr_in hy) hn
    · simp only [List.mem_singleton, Prod.mk.injEq, true_and] at hy
      subst hy
      exact ⟨cs, ht⟩
  box := fun y hy => by
    rcases List.mem_append.1 hy with hy | hy
    · obtain ⟨g, e, hl, h1, h2⟩ := h.box y hy
      refine ⟨g, e, hl, fun hm => (h1 fun hk => hm (fr_snoc.2 (.inl hk))).grown hg (fun e => by have := ok.row g e.symm; omega), fun hm => ?_⟩
      rcases fr_snoc.1 hm with hm | hm
      · obtain ⟨z, _, hz, _⟩ := h2 hm
        exact absurd (fr_in hz) hn
      · cases hm
    · simp at hy
  two := fun hm => by
    rcases fr_snoc.1 hm with hm | hm
    · exact fr_snoc.2 (.inl (h.two hm))
    · cases hm
  nd := fr_nodup h.nd hn
theorem BoxC.alloc (ok : BoxOk D row ty zero Pre Told) (h : BoxC D row ty zero Pre Told vs W) (hn : 1 ∉ vs.map (·.1)) : BoxC D row ty zero Pre Told (vs ++ [(1, .pointer (some ⟨W.heap.size, 0, none⟩))]) (W.alloc (.cells zero ty)) where
  g := h.g.trans ((World.grownBy_alloc _ _ none).but _)
  pre := fun hm => ok.pre (h.pre fun hk => hm (fr_snoc.2 (.inl hk))) (World.grownBy_alloc _ _ none)
  told := fun y hy => by
    rcases List.mem_append.1 hy with hy | hy
    · obtain ⟨cs, hc⟩ := h.told y hy
      exact ⟨cs, ok.told hc (World.grownBy_alloc _ _ none)⟩
    · simp at hy
  box := fun y hy => by
    have h2 : 2 ∉ (vs ++ [(1, Value.pointer (some ⟨W.heap.size, 0, none⟩))] : List (Nat × Value)).map (·.1) := fun hm => by
      rcases fr_snoc.1 hm with hm | hm
      · exact hn (h.two hm)
      · cases hm
    rcases List.mem_append.1 hy with hy | hy
    · exact absurd (fr_in hy) hn
    · simp only [List.mem_singleton, Prod.mk.injEq, true_and] at hy
      exact ⟨_, hy, h.g.size, fun _ => Bk.new _ _ _, fun hm => absurd hm h2⟩
  two := fun hm => by
    rcases fr_snoc.1 hm with hm | hm
    · exact fr_snoc.2 (.inl (h.two hm))
    · cases hm
  nd := fr_nodup h.nd hn
theorem BoxC.stored (ok : BoxOk D row ty zero Pre Told) (h : BoxC D row ty zero Pre Told vs W) (hn : 2 ∉ vs.map (·.1)) {x u : Value} {cs : Array Value} {g : Nat} (hx : (0, x) ∈ vs) (ht : Told x cs W) (hp : (1, .pointer (some ⟨g, 0, none⟩)) ∈ vs) (hb : Bk W' g ty cs) (hg : W.grownBy W' (some g)) : BoxC D row ty zero Pre Told (vs ++ [(2, u)]) W' := by
  obtain ⟨g', e, hl, h1, _⟩ := h.box _ hp
  injection e with e
  injection e with e
  injection e with e _ _
  subst e
  have hz := h1 hn
  refine ⟨h.g.andThen hg (fun j e => .inl (by injection e with e; omega)), fun hm => absurd (fr_snoc.2 (.inl (fr_in hx))) hm, fun y hy => ?_, fun y hy => ?_, fun hm => fr_snoc.2 (.inl (fr_in hp)), fr_nodup h.nd hn⟩
  · rcases List.mem_append.1 hy with hy | hy
    · obtain ⟨cs', hc⟩ := h.told y hy
      exact ⟨cs', ok.store hc hz hl hg⟩
    · simp at hy
  · rcases List.mem_append.1 hy with hy | hy
    · have := fr_one h.nd hy hp
      exact ⟨g, this, hl, fun hm => absurd (fr_snoc.2 (.inr rfl)) hm, fun _ => ⟨x, cs, List.mem_append_left _ hx, ok.store ht hz hl hg, hb⟩⟩
    · simp at hy
theorem BoxC.fin (h : BoxC D row ty zero Pre Told vs W) (hv : ∀ q, q < 3 ↔ q ∈ vs.map (·.1)) {y : Value} (hy : (1, y) ∈ vs) : ∃ g x cs, y = .pointer (some ⟨g, 0, none⟩) ∧ D.heap.size ≤ g ∧ (0, x) ∈ vs ∧ Told x cs W ∧ Bk W g ty cs ∧ D.grownBy W row := by
  obtain ⟨g, e, hl, _, h2⟩ := h.box y hy
  obtain ⟨x, cs, a, b, c⟩ := h2 ((hv 2).1 (by omega))
  exact ⟨g, x, cs, e, hl, a, b, c, h.g⟩
/-- The worlds of such a region. -/
def boxLt (ok : BoxOk D row ty zero Pre Told) : FR.Lt where
  C := BoxC D row ty zero Pre Told
  R _ _ _ _ := True
  G W W' := W.grownBy W' none
  g := fun h hg => h.keep ok hg
/-- What the call told; a part of it. -/
def boxX {ok : BoxOk D row ty zero Pre Told} : FR.Qv (boxLt ok) := FR.Qv.slot 0
def boxE {ok : BoxOk D row ty zero Pre Told} (f : Value → Value → Prop) : FR.Qv (boxLt ok) where
  p vs v _ := ∃ x, (0, x) ∈ vs ∧ f v x
  st := fun h _ => h
  sr := fun _ _ ⟨x, h, hf⟩ => ⟨x, List.mem_append_left _ h, hf⟩
end
structure CallC (D : World) (row : Option Nat) (Pre : World → Prop) (Told : Value → World → Prop) (vs : List (Nat × Value)) (W : World) : Prop where
  g : D.grownBy W row
  pre : 0 ∉ vs.map (·.1) → Pre W
  told : ∀ x, (0, x) ∈ vs → Told x W
section
variable {D : World} {row : Option Nat} {Pre : World → Prop} {Told : Value → World → Prop} {vs : List (Nat × Value)} {W W' : World}
theorem CallC.start (h : Pre D) : CallC D row Pre Told [] D := ⟨World.grownBy.refl _ _, fun _ => h, by simp⟩
theorem CallC.call (h : CallC D row Pre Told vs W) (hn : 0 ∉ vs.map (·.1)) {x : Value} (ht : Told x W') (hg : W.grownBy W' row) : CallC D row Pre Told (vs ++ [(0, x)]) W' := ⟨h.g.trans hg, fun hm => absurd (fr_snoc.2 (.inr rfl)) hm, fun y hy => by
  rcases List.mem_append.1 hy with hy | hy
  · exact absurd (fr_in hy) hn
  · simp only [List.mem_singleton, Prod.mk.injEq, true_and] at hy
    exact hy ▸ ht⟩
end
end Go.Proofs.YthicondcjeipfaaGreatDoor

namespace Go.Proofs.YthicondcjeipfaaGreatDoor
open Go.RowKit
def tabL : List Int := [0, 1, 56, 2, 57, 49, 28, 3, 61, 58, 42, 50, 38, 29, 17, 4, 62, 47, 59, 36, 45, 43, 51, 22, 53, 39, 33, 30, 24, 18, 12, 5, 63, 55, 48, 27, 60, 41, 37, 16, 46, 35, 44, 21, 52, 32, 23, 11, 54, 26, 40, 15, 34, 20, 31, 10, 25, 14, 19, 9, 13, 8, 7, 6]
theorem tabZ' : ∀ j, j < 64 → tabL.getD j 0 = ((Lib.deBruijn64tab.getD j 0 : Nat) : Int) := by decide
theorem tabZ (j : Nat) (hj : j < Lib.deBruijn64tab.length) : tabL.getD j 0 = ((Lib.deBruijn64tab.getD j 0 : Nat) : Int) := tabZ' j hj
/-- What an initialiser lays into a variable's block. -/
def layCells (cs : Array Value) : Obj → Obj
  | .cells _ t f => .cells cs t f
  | o => o
end Go.Proofs.YthicondcjeipfaaGreatDoor
