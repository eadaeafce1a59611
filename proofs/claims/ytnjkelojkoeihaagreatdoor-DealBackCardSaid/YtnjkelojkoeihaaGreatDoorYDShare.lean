/- consistorylaw18.DealShares, walked (printed by mk_dshare.py). -/
import Derived.Test.YtnjkelojkoeihaaGreatDoorZ7
namespace Go.Proofs.YtnjkelojkoeihaaGreatDoor
open Go Go.RowKit Go.Shelf

set_option maxRecDepth 100000 in
set_option maxHeartbeats 8000000 in
theorem dshares18_any (p : Par) (v : Value) (l : List Int) (seed ia nb : Int) (w : World) (hp : p.ok) (h : Sl encU (fun _ => True) w v l) (hsd : U64 seed) (hia : I64 ia) (hnb : I64 nb) (hT : TabsAt w) :
    Calls Tryz.prog 4 #[p.v, v, .int .u64 seed, .int .i64 ia, .int .i64 nb] w fun e w' => e = .returned (.bool true) ∧ w.grownBy w' none := by
  have HP := Lib.hid hp
  have HL := Lib.hid h
  obtain ⟨A, c, rfl, hl1, hl2⟩ := h.form
  have HM := Lib.hid (fun (w' : World) (hg : w.grownBy w' none) => may_any p w' hp (hT.kept hg))
  have HTB := Lib.hid hT
  have HWK := Lib.hid (fun (w' : World) (hg : w.grownBy w' none) => works18_any w' (hT.kept hg))
  have HSD := Lib.hid hsd
  have HQ : Hid (U64 p.Q) := Lib.hid hp.Q
  clear h hp hT hsd
  obtain ⟨n0, hnl⟩ : ∃ n, n = l.length := ⟨_, rfl⟩
  rw [← hnl] at hl1 HL ⊢
  obtain ⟨w0, hw0⟩ : ∃ y, y = w.alloc (Obj.cells p.cells 24) := ⟨_, rfl⟩
  have HB0 : Hid (Bk w0 w.heap.size 24 p.cells) := Lib.hid (by rw [hw0]; exact Bk.new w _ _)
  have HG0 : Hid (w.grownBy w0 none) := Lib.hid (by rw [hw0]; exact World.grownBy_alloc w _ none)
  cases hm : mayP p with
  | false =>
    rw [hm] at HM
    clear hm hnl
    go_enter Tryz.func4, Tryz.ntmps4
    go_wp2_with fail
    rw [← hw0]
    clear hw0
    refine (HWK.out _ HG0.out).mono ?_
    rintro e w1 ⟨rfl, hg⟩
    have HG1 := hidTrans hg HG0
    have hp1 := (bkGrown hg HB0).out.prule
    clear hg
    go_wp2_with fail
    refine (HM.out _ HG1.out).mono ?_
    rintro e w2 ⟨rfl, hg⟩
    have HG2 := hidTrans hg HG1
    clear hg
    go_wp2_with fail
    refine (HWK.out _ HG2.out).mono ?_
    rintro e w3 ⟨rfl, hg⟩
    have HG3 := hidTrans hg HG2
    clear hg hp1
    go_wp2
    go_ret
    exact ⟨rfl, HG3.out⟩
  | true =>
    rw [hm] at HM
    by_cases hbig : n0 > 100
    · have hbI : (n0 : Int) > 100 := by omega
      clear hm hbig hnl
      go_enter Tryz.func4, Tryz.ntmps4
      go_wp2_with fail
      rw [← hw0]
      clear hw0
      refine (HWK.out _ HG0.out).mono ?_
      rintro e w1 ⟨rfl, hg⟩
      have HG1 := hidTrans hg HG0
      have hp1 := (bkGrown hg HB0).out.prule
      clear hg
      go_wp2_with fail
      refine (HM.out _ HG1.out).mono ?_
      rintro e w2 ⟨rfl, hg⟩
      have HG2 := hidTrans hg HG1
      clear hg
      go_wp2_with fail
      refine (HWK.out _ HG2.out).mono ?_
      rintro e w3 ⟨rfl, hg⟩
      have HG3 := hidTrans hg HG2
      clear hg hp1
      go_wp2
      go_ret
      exact ⟨rfl, HG3.out⟩
    · have hbI : (n0 : Int) ≤ 100 := by omega
      have HMAY := Lib.hid hm
      have HSZ := Lib.hid (dlt_sizes hm)
      obtain ⟨N, hNN⟩ : ∃ k : Nat, (k : Int) = p.N := ⟨p.N.toNat, by have := HSZ.out; omega⟩
      have HN : Hid ((N : Int) = p.N ∧ 4 ≤ N ∧ N ≤ 7) := Lib.hid (by have := HSZ.out; omega)
      obtain ⟨r, hr⟩ : ∃ r, r = (ia % 18446744073709551616) % p.N := ⟨_, rfl⟩
      have hr1 : 0 ≤ r := by rw [hr]; exact Int.emod_nonneg _ (by have := HN.out; omega)
      have hr2 : r < p.N := by rw [hr]; exact Int.emod_lt_of_pos _ (by have := HN.out; omega)
      have HR : Hid (0 ≤ r ∧ r < p.N ∧ r < 7) := Lib.hid (by have := HN.out; omega)
      obtain ⟨ia1, ia2⟩ := hia
      have e1 : IntKind.u64.wrap ia = ia % 18446744073709551616 := rfl
      have e2 : IntKind.u64.wrap p.N = p.N := IntWalk.u64_in _ (by have := HN.out; omega)
      have e3 : Int.tmod (ia % 18446744073709551616) p.N = r := by rw [hr]; exact Int.tmod_eq_emod_of_nonneg (by omega)
      have e4 : IntKind.i64.wrap r = r := IntWalk.i64_in _ (by have := HN.out; omega)
      have e5 : IntKind.i64.wrap (1 + r) = 1 + r := IntWalk.i64_in _ (by have := HN.out; omega)
      have hall0 : (p.N == 0) = false := by have := HN.out; simp; omega
      have HAR : Hid (ia % 18446744073709551616 % p.N = r) := Lib.hid hr.symm

      obtain ⟨hb1, hb2⟩ := hnb
      have HNB : Hid (I64 nb) := Lib.hid ⟨hb1, hb2⟩
      obtain ⟨t, ht⟩ : ∃ y, y = dltT p + 1 := ⟨_, rfl⟩
      have HT : Hid (t = dltT p + 1 ∧ (t : Int) = p.T + 1 ∧ 2 ≤ t ∧ t ≤ 3 ∧ ((t = 2 ∧ 4 ≤ p.N ∧ p.N ≤ 7) ∨ (t = 3 ∧ p.N = 7))) := Lib.hid (by have := HSZ.out; omega)
      have ht3 : t ≤ 3 := HT.out.2.2.2.1
      obtain ⟨M, hM⟩ : ∃ y, y = dltM p l seed (1 + r) := ⟨_, rfl⟩
      obtain ⟨Rs, hRs⟩ : ∃ y, y = (List.range N).map fun j : Nat => dltRow p l seed (1 + r) ((j : Int) + 1) := ⟨_, rfl⟩
      obtain ⟨Cs, hCs⟩ : ∃ y, y = (List.range N).map fun j : Nat => dltCol p l seed (1 + r) ((j : Int) + 1) := ⟨_, rfl⟩
      obtain ⟨SX, hSX⟩ : ∃ y, y = dltX p l seed (1 + r) := ⟨_, rfl⟩
      obtain ⟨CM, hCM⟩ : ∃ y, y = dltC p l seed := ⟨_, rfl⟩
      obtain ⟨AT, hAT⟩ : ∃ y, y = some18I p.N nb t := ⟨_, rfl⟩
      have HAE := Lib.hid hAT
      have HPL : Hid (Places p.N AT ∧ AT.length = t) := Lib.hid ⟨by rw [hAT]; exact some18_places HT.out.2.2.2.2, by rw [hAT]; simp [some18I]⟩
      have hRl : Rs.length = N := by rw [hRs]; simp
      have hCl : Cs.length = N := by rw [hCs]; simp
      have HME : Hid (Rs.length = N ∧ Cs.length = N ∧ ∀ j (h : j < Rs.length), Rs[j] = dltRow p l seed (1 + r) ((j : Int) + 1)) := Lib.hid ⟨hRl, hCl, fun j h => by simp [hRs]⟩
      obtain ⟨G, hG⟩ : ∃ y : Int → List (Int × Int), y = fun x => (dltRow p l seed (1 + r) x).map (atP p.Q 0) := ⟨_, rfl⟩
      have HGE := Lib.hid hG
      have HBK : Hid (((List.range (dltN p)).map fun s => aS p.Q (AT.map G) (wList p.Q AT 0) s t) = SX) := Lib.hid (by
        rw [hG, hSX, HT.out.1]
        exact dlt_back HMAY.out HQ.out l seed (1 + r) HPL.out.1 (by rw [HPL.out.2, HT.out.1]))
      have HGL : Hid (∀ x, (G x).length = dltN p) := Lib.hid (fun x => by rw [hG, List.length_map, dltRow_len HMAY.out HQ.out])
      have HBO : Hid (∀ k : Int, bondedB p M CM k = decide (shareI p CM k = shareI p CM (1 + r))) := Lib.hid (fun k => by
        rw [hM, hCM]
        exact dlt_bond HMAY.out HQ.out l seed (1 + r) (by have := HR.out; omega) k)
      have HCL : Hid (CM.length ≤ 100000) := Lib.hid (by rw [hCM, dltC_len]; have := HSZ.out; omega)
      have HDL : Hid (∀ W, w.grownBy W none → Calls Tryz.prog 8 #[p.v, .slice A n0 c, .int .u64 seed, .int .i64 (1 + r), .int .i64 p.N] W fun e w' => ∃ vm vr vc vs vk, e = .returned (.tuple #[.agg #[vm, vr, vc], vs, vk, .bool true]) ∧ DL w' vm vr vc M Rs Cs ∧ Sl encP TT w' vs SX ∧ Sl (encS encU) TT w' vk CM ∧ W.grownBy w' none) := Lib.hid (fun W hg => by
        have h := dealt_any p (.slice A n0 c) l seed (1 + r) N W HP.out HMAY.out (HTB.out.kept hg) (HL.out.kept hg) HSD.out (by have := HR.out; omega) (by have := HN.out; omega)
        rw [← hM, ← hRs, ← hCs, ← hSX, ← hCM, HN.out.1] at h
        exact h)
      have HRW : Hid (∀ j : Int, (dltRow p l seed (1 + r) j).length ≤ 1000 ∧ ∀ c ∈ dltRow p l seed (1 + r) j, c.length ≤ 1000) := Lib.hid (fun j => by
        have hs := HSZ.out
        exact ⟨by rw [dltRow_len HMAY.out HQ.out]; omega, fun c hc => by rw [dltRow_in _ _ _ _ _ c hc]; omega⟩)
      have hri : IntKind.u64.wrap (1 + r) = 1 + r := IntWalk.u64_in _ (by have := HR.out; omega)
      have HSZN : Hid (dltN p ≤ 10) := Lib.hid HSZ.out.2.2.2.1
      clear hM hRs hCs hSX hCM hAT hRl hCl hG ht
      clear hm hbig hr hnl hNN
      go_enter Tryz.func4, Tryz.ntmps4
      go_wp2_with fail
      rw [← hw0]
      clear hw0
      refine (HWK.out _ HG0.out).mono ?_
      rintro e w1 ⟨rfl, hg⟩
      have HG1 := hidTrans hg HG0
      have hp1 := (bkGrown hg HB0).out.prule
      have HB1 := bkGrown hg HB0
      clear hg
      go_wp2_with fail
      refine (HM.out _ HG1.out).mono ?_
      rintro e w2 ⟨rfl, hg⟩
      have HG2 := hidTrans hg HG1
      have HB2 := bkGrown hg HB1
      have hp2 := HB2.out.prule
      clear hg hp1 HM HB0 HB1
      go_wp2_with fail
      refine (HDL.out _ HG2.out).mono ?_
      rintro e w3 ⟨vm, vr, vc, vs, vk, rfl, hd, hx, hk, hg⟩
      obtain ⟨Am, nm, cm, rfl⟩ := hd.1.shape
      obtain ⟨Ar, cr, er, _, _⟩ := hd.2.1.form
      obtain ⟨Ac, cc, ec, _, _⟩ := hd.2.2.form
      obtain ⟨Ax, nx, cx, rfl⟩ := hx.shape
      obtain ⟨Ak, nk, ck, rfl⟩ := hk.shape
      rw [HME.out.1] at er
      rw [HME.out.2.1] at ec
      subst er ec
      have HG3 := hidTrans hg HG2
      have HB3 := bkGrown hg HB2
      obtain ⟨w4, hw4⟩ : ∃ y, y = w3.alloc (Obj.cells #[.slice Am nm cm, .slice Ar N cr, .slice Ac N cc] 32) := ⟨_, rfl⟩
      obtain ⟨g11, hg11⟩ : ∃ y, y = w3.heap.size := ⟨_, rfl⟩
      have HGA : Hid (w3.grownBy w4 none) := Lib.hid (by rw [hw4]; exact World.grownBy_alloc _ _ none)
      have HB4 : Hid (Bk w4 g11 32 #[.slice Am nm cm, .slice Ar N cr, .slice Ac N cc]) := Lib.hid (by rw [hw4, hg11]; exact Bk.new _ _ _)
      have HD4 := Lib.hid (hd.kept HGA.out)
      have HX4 := Lib.hid (hx.kept HGA.out)
      have HK4 := Lib.hid (hk.kept HGA.out)
      have HG4 := Lib.hid (HG3.out.trans HGA.out)
      have HP4 := Lib.hid (HB3.out.grown HGA.out (by simp))
      have hpa : ∀ o, (w3.alloc (Obj.cells #[.slice Am nm cm, .slice Ar N cr, .slice Ac N cc] 32)).cell? ⟨w.heap.size, o, none⟩ = (#[.int .u64 p.P, .int .u64 p.Q, .int .u64 p.G, .int .u64 p.H, .int .i64 p.Nodes, .int .i64 p.N, .int .i64 p.T, .int .i64 p.K, .int .i64 p.D, .int .i64 p.R, .int .i64 p.M, .int .i64 p.X] : Array Value)[o]? := by rw [← hw4]; exact HP4.out.prule
      have HSO := Lib.hid (fun W => some18_any p p.N nb t W HT.out.2.1 HT.out.2.2.2.2 HNB.out)
      rw [← HAE.out] at HSO
      clear hg hd hx hk hp2 HDL HB3 HGA hall0 e1 e2 e3 e4 e5
      go_wp2_with fail
      rw [← hw4, ← hg11]
      clear hw4 hpa hg11
      refine (HSO.out _).mono ?_
      rintro e w5 ⟨va, rfl, hat, hg⟩
      have HG5 := hidTrans hg HG4
      have HD5 := Lib.hid (HD4.out.kept hg)
      have HX5 := Lib.hid (HX4.out.kept hg)
      have HK5 := Lib.hid (HK4.out.kept hg)
      have HB5 := bkGrown hg HB4
      have HP5 := bkGrown hg HP4
      obtain ⟨Aa, ca, ea, _, _⟩ := hat.form
      rw [HPL.out.2] at ea
      subst ea
      have HA5 : Hid (Sl encI TT w5 (.slice Aa t ca) AT) := Lib.hid (hat.more fun _ _ _ => trivial)
      clear hg hat HD4 HX4 HK4 HB4 HP4 HG4 HSO
      go_wp2_with fail
      go_loopg [16, 17] t (fun gk s16 s17 wx => ∃ k : Nat, k + gk = t ∧ s17 = .int .i64 (k : Int) ∧ Hid (Acc (encS encP) w5.heap.size 33 (fun b => w5.heap.size ≤ b) wx s16 ((AT.take k).map G) ∧ w5.grownBy wx none))
      case atStart => exact ⟨0, by omega, rfl, Lib.hid ⟨Acc.nil _ _ _ _ _, World.grownBy.refl _ none⟩⟩
      case round =>
        obtain ⟨k, hk, rfl, HX⟩ := hrel
        have HAC := Lib.hid HX.out.1
        have HGX := Lib.hid HX.out.2
        clear HX
        obtain ⟨A16, n16, c16, rfl⟩ := HAC.out.sl.shape
        cases gk with
        | zero =>
          have hkt : k = t := by omega
          have HPKS : Hid (Sl (encS encP) TT wr (.slice A16 n16 c16) (AT.map G)) := Lib.hid (by
            have := HAC.out.sl
            rw [hkt, show AT.take t = AT from List.take_of_length_le (by rw [HPL.out.2]; exact Nat.le_refl _)] at this
            exact this.more fun _ _ _ => trivial)
          have hno : ¬ ((k : Int) < (t : Int)) := by omega
          have HPr := Lib.hid (HP5.out.grown HGX.out (by simp))
          have hpr := HPr.out.prule
          have HSM := Lib.hid (sum18_any p (.slice Aa t ca) (.slice A16 n16 c16) AT (AT.map G) TT TT wr t (dltN p) HMAY.out HP.out (HA5.out.kept HGX.out) HPKS.out HPL.out.1 HPL.out.2 (by rw [List.length_map, HPL.out.2]) (by have := HT.out; omega) (fun x hx => by
            obtain ⟨y, _, rfl⟩ := List.mem_map.1 hx
            exact HGL.out y) HSZN.out)
          rw [HBK.out] at HSM
          have HX6 := Lib.hid (HX5.out.kept HGX.out)
          have HK6 := Lib.hid (HK5.out.kept HGX.out)
          have HD6 := Lib.hid (HD5.out.kept HGX.out)
          have HB6 := Lib.hid (HB5.out.grown HGX.out (by simp))
          have HG6 := Lib.hid (HG5.out.trans HGX.out)
          clear HAC HGX HPKS hkt
          go_wp2_with fail
          refine HSM.out.mono ?_
          rintro e w7 ⟨v18, rfl, h18, hg⟩
          have HG7 := hidTrans hg HG6
          have HX7 := Lib.hid (HX6.out.kept hg)
          have HK7 := Lib.hid (HK6.out.kept hg)
          have HD7 := Lib.hid (HD6.out.kept hg)
          have HB7 := bkGrown hg HB6
          have HP7 := bkGrown hg HPr
          have HS7 := Lib.hid h18
          obtain ⟨As, ns, cs, rfl⟩ := h18.shape
          clear hg h18 hpr HSM HX6 HK6 HD6 HB6 HPr HG6
          go_wp2_with fail
          refine (same_eq _ _ SX TT TT w7 HS7.out HX7.out).mono ?_
          rintro e w8 ⟨rfl, m8, hw8⟩
          have hg : w7.grownBy w8 none := by rw [hw8]; exact grown_drewN' w7 m8
          have HG8 := hidTrans hg HG7
          have HK8 := Lib.hid (HK7.out.kept hg)
          have HD8 := Lib.hid (HD7.out.kept hg)
          have HB8 := bkGrown hg HB7
          have HP8 := bkGrown hg HP7
          have hp8 := HP8.out.prule
          clear hg hw8 HX7 HK7 HD7 HB7 HP7 HS7 HG7
          go_wp2_with fail
          refine (share_any p (.slice Ak nk ck) CM (1 + r) TT w8 HK8.out ⟨by have := HR.out; omega, by have := HR.out; omega⟩ HCL.out).mono ?_
          rintro e w9 ⟨v19, rfl, h19, hg⟩
          have HG9 := hidTrans hg HG8
          have HK9 := Lib.hid (HK8.out.kept hg)
          have HD9 := Lib.hid (HD8.out.kept hg)
          have HB9 := bkGrown hg HB8
          have HP9 := bkGrown hg HP8
          have HW9 : Hid (Sl encU TT w9 v19 (shareI p CM (1 + r))) := Lib.hid (h19.more fun _ _ _ => trivial)
          obtain ⟨Aw, nw, cw, rfl⟩ := h19.shape
          clear hg h19 hp8 HK8 HD8 HB8 HP8 HG8
          go_wp2_with fail
          go_loopg [20, 21] N (fun gk s20 s21 wx => ∃ k : Nat, k + gk = N ∧ s20 = .int .i64 ((k : Int) + 1) ∧ Hid (w9.grownBy wx none))
          case atStart => exact ⟨0, by omega, rfl, Lib.hid (World.grownBy.refl _ none)⟩
          case round =>
            rename World => wb
            obtain ⟨b, hb, rfl, HZ⟩ := hrel
            have HPb := Lib.hid (HP9.out.grown HZ.out (by simp))
            have hpb := HPb.out.prule
            cases gk with
            | zero =>
              have hno2 : ¬ ((b : Int) + 1 ≤ p.N) := by have := HN.out; omega
              have HGF := Lib.hid (HG9.out.trans HZ.out)
              clear HZ HPb
              go_wp2
              go_ret
              exact ⟨rfl, HGF.out⟩
            | succ q =>
              have hbI : (b : Int) + 1 ≤ p.N := by have := HN.out; omega
              have hb9 : b ≤ 6 := by have := HN.out; omega
              have hbw : IntKind.u64.wrap ((b : Int) + 1) = (b : Int) + 1 := IntWalk.u64_in _ (by omega)
              have hbi : IntKind.i64.wrap ((b : Int) + 1 + 1) = (b : Int) + 1 + 1 := IntWalk.i64_in _ (by omega)
              have HKb := Lib.hid (HK9.out.kept HZ.out)
              have HDb := Lib.hid (HD9.out.kept HZ.out)
              have HBb := Lib.hid (HB9.out.grown HZ.out (by simp))
              have HWb := Lib.hid (HW9.out.kept HZ.out)
              go_wp2_with fail
              refine (share_any p (.slice Ak nk ck) CM ((b : Int) + 1) TT wb HKb.out ⟨by omega, by omega⟩ HCL.out).mono ?_
              rintro e w10 ⟨v113, rfl, h113, hg⟩
              have HZ10 := hidTrans hg HZ
              have HK10 := Lib.hid (HKb.out.kept hg)
              have HD10 := Lib.hid (HDb.out.kept hg)
              have HB10 := bkGrown hg HBb
              have HP10 := bkGrown hg HPb
              have HW10 := Lib.hid (HWb.out.kept hg)
              have HV10 := Lib.hid h113
              obtain ⟨Av, nv, cv, rfl⟩ := h113.shape
              clear hg h113 hpb HKb HDb HBb HPb HWb HZ
              go_wp2_with fail
              refine (nums_any _ _ (shareI p CM ((b : Int) + 1)) (shareI p CM (1 + r)) _ TT w10 HV10.out HW10.out).mono ?_
              rintro e w11 ⟨rfl, hg⟩
              have HZ11 := hidTrans hg HZ10
              have HK11 := Lib.hid (HK10.out.kept hg)
              have HD11 := Lib.hid (HD10.out.kept hg)
              have HB11 := bkGrown hg HB10
              have HP11 := bkGrown hg HP10
              have hp11 := HP11.out.prule
              have d0 : w11.cell? ⟨g11, 0, none⟩ = some (.slice Am nm cm) := by simpa using HB11.out.cell 0
              have HBD := Lib.hid (bonded_any p (.slice Am nm cm) (.slice Ak nk ck) M CM ((b : Int) + 1) TT TT w11 HP.out HD11.out.1 HK11.out ⟨by omega, by omega⟩ HCL.out)
              rw [HBO.out] at HBD
              obtain ⟨bb, hbb⟩ : ∃ y, y = decide (shareI p CM ((b : Int) + 1) = shareI p CM (1 + r)) := ⟨_, rfl⟩
              rw [← hbb] at HBD ⊢
              have hbn : (bb != bb) = false := by simp
              clear hg hbb HK10 HD10 HB10 HP10 HW10 HV10 HZ10
              go_wp2_with fail
              refine HBD.out.mono ?_
              rintro e w12 ⟨rfl, hg⟩
              have HFIN := hidTrans hg HZ11
              clear hg hp11 d0 HBD HK11 HD11 HB11 HP11 HZ11
              go_wp2_with fail
              go_roundg q
              case measure => omega
              case rel => exact ⟨b + 1, by omega, by go_num, HFIN⟩
        | succ m =>
          have hkI : (k : Int) < (t : Int) := by omega
          have hk0 : (0 : Int) ≤ (k : Int) := Int.natCast_nonneg k
          have hkA : k < AT.length := by rw [HPL.out.2]; omega
          obtain ⟨ga, oa, ca', eA, _, _, hca, hia⟩ := (HA5.out.kept HGX.out).atI hkA
          injection eA with eA1 eA2 eA3
          subst eA1 eA3
          have hin := HPL.out.1.1 _ (List.getElem_mem hkA)
          obtain ⟨a, ha⟩ : ∃ a : Nat, AT[k] = (a : Int) + 1 := ⟨(AT[k] - 1).toNat, by omega⟩
          have haN : a < N := by have := HN.out; omega
          have haI : (a : Int) < (N : Int) := by omega
          have ha0 : (0 : Int) ≤ (a : Int) := Int.natCast_nonneg a
          have haw : IntKind.i64.wrap (a : Int) = (a : Int) := IntWalk.i64_in _ (by have := HN.out; omega)
          have haR : a < Rs.length := by rw [HME.out.1]; exact haN
          have HDr := Lib.hid (HD5.out.kept HGX.out)
          obtain ⟨gR, oR, cr', uj, eR, _, _, hcR, hsR⟩ := HDr.out.2.1.atS haR
          injection eR with eR1 eR2 eR3
          subst eR1 eR3
          rw [HME.out.2.2 a haR] at hsR
          obtain ⟨Aj, nj, cj, rfl⟩ := hsR.shape
          have HSR := Lib.hid hsR
          obtain ⟨PT, hPT⟩ : ∃ y, y = G AT[k] := ⟨_, rfl⟩
          have HPT : Hid (PT = (dltRow p l seed (1 + r) ((a : Int) + 1)).map (atP p.Q 0)) := Lib.hid (by rw [hPT, HGE.out, ha])
          have HSN : Hid ((AT.take (k + 1)).map G = (AT.take k).map G ++ [PT]) := Lib.hid (by rw [List.take_succ_eq_append_getElem hkA, List.map_append, hPT]; rfl)
          have HLB : Hid ((((AT.take k).map G).length + 1) * 24 ≤ 140737488355328) := Lib.hid (by simp; omega)
          rw [ha] at hca
          have HCA := Lib.hid hca
          have HCR := Lib.hid hcR
          have HBr := Lib.hid (HB5.out.grown HGX.out (by simp))
          have HPr := Lib.hid (HP5.out.grown HGX.out (by simp))
          have HD1 : Hid (wr.grownBy wr.drew none) := Lib.hid (grown_drewN' _ 1)
          have HACd := Lib.hid (HAC.out.kept HD1.out)
          have HGd : Hid (w5.grownBy wr.drew none) := Lib.hid (HGX.out.trans HD1.out)
          have HLI : Hid (∀ W, wr.drew.grownBy W none → W.cell? ⟨g11, 1, none⟩ = some (.slice (some ⟨gR, oR, none⟩) N cr) ∧ W.cell? ⟨ga, oa + k, none⟩ = some (.int .i64 ((a : Int) + 1)) ∧ W.cell? ⟨gR, oR + a, none⟩ = some (.slice Aj nj cj) ∧ W.cell? ⟨w.heap.size, 1, none⟩ = some (.int .u64 p.Q)) := Lib.hid (fun W hg => by
            have h := HD1.out.trans hg
            exact ⟨by simpa using (HBr.out.grown h (by simp)).cell 1, cellK HCA.out h (by simp), cellK HCR.out h (by simp), by simpa using (HPr.out.grown h (by simp)).prule 1⟩)
          have HAT2 : Hid (∀ W, wr.drew.grownBy W none → Calls Tryz.prog 12 #[.slice Aj nj cj, .int .u64 0, .int .u64 p.Q] W (Gives encP (fun g => W.heap.size ≤ g) W PT)) := Lib.hid (fun W hg => by
            rw [HPT.out]
            exact dat_any _ _ _ _ TT W (HSR.out.kept (HD1.out.trans hg)) ⟨by omega, by omega⟩ (HRW.out _).1 (HRW.out _).2)
          obtain ⟨N1, hN1⟩ : ∃ y, y = wr.drew.heap.size := ⟨_, rfl⟩
          have HN1 := Lib.hid hN1
          clear hca hia hin ha haN haR hcR hsR hPT eA2 eR2 hkA HAC HGX hN1
          go_upto_region 12 with (fail)
          refine wp_region_mono 14 (by kernel_rfl) (by kernel_rfl) ?_
          -- op 0 (slot 68): move
          refine MonoR.step (Pv.eq (.slice A16 n16 c16)) [] (by kernel_rfl) (fun w' hw' => ?_) ?_
          · refine ask_do rfl fun K hK => ?_
            go_simp
            exact hK _ _ rfl rfl (World.grownBy.refl _ none)
          -- op 1 (slot 69): fieldAddr
          refine MonoR.step (Pv.eq (.pointer (some ⟨g11, 1, none⟩))) [] (by kernel_rfl) (fun w' hw' => ?_) ?_
          · refine ask_do rfl fun K hK => ?_
            go_simp
            exact hK _ _ rfl rfl (World.grownBy.refl _ none)
          -- op 2 (slot 70): load
          refine MonoR.step (Pv.eq (.slice (some ⟨gR, oR, none⟩) N cr)) [(1, 69)] (by kernel_rfl) (fun w' hw' => ?_) ?_
          · intro x69 h69
            have e69 : x69 = .pointer (some ⟨g11, 1, none⟩) := h69
            clear h69
            subst e69
            refine ask_do rfl fun K hK => ?_
            have qq := HLI.out w' hw'
            have q0 := qq.1
            have q1 := qq.2.1
            have q2 := qq.2.2.1
            have q3 := qq.2.2.2
            clear qq
            go_simp
            exact hK _ _ rfl rfl (World.grownBy.refl _ none)
          -- op 3 (slot 71): move
          refine MonoR.step (Pv.eq (.slice (some ⟨ga, oa, none⟩) t ca)) [] (by kernel_rfl) (fun w' hw' => ?_) ?_
          · refine ask_do rfl fun K hK => ?_
            go_simp
            exact hK _ _ rfl rfl (World.grownBy.refl _ none)
          -- op 4 (slot 72): move
          refine MonoR.step (Pv.eq (.int .i64 (k : Int))) [] (by kernel_rfl) (fun w' hw' => ?_) ?_
          · refine ask_do rfl fun K hK => ?_
            go_simp
            exact hK _ _ rfl rfl (World.grownBy.refl _ none)
          -- op 5 (slot 73): indexAddr
          refine MonoR.step (Pv.eq (.pointer (some ⟨ga, oa + k, none⟩))) [(3, 71), (4, 72)] (by kernel_rfl) (fun w' hw' => ?_) ?_
          · intro x71 h71
            intro x72 h72
            have e71 : x71 = .slice (some ⟨ga, oa, none⟩) t ca := h71
            clear h71
            subst e71
            have e72 : x72 = .int .i64 (k : Int) := h72
            clear h72
            subst e72
            refine ask_do rfl fun K hK => ?_
            go_simp
            exact hK _ _ rfl rfl (World.grownBy.refl _ none)
          -- op 6 (slot 74): load
          refine MonoR.step (Pv.eq (.int .i64 ((a : Int) + 1))) [(5, 73)] (by kernel_rfl) (fun w' hw' => ?_) ?_
          · intro x73 h73
            have e73 : x73 = .pointer (some ⟨ga, oa + k, none⟩) := h73
            clear h73
            subst e73
            refine ask_do rfl fun K hK => ?_
            have qq := HLI.out w' hw'
            have q0 := qq.1
            have q1 := qq.2.1
            have q2 := qq.2.2.1
            have q3 := qq.2.2.2
            clear qq
            go_simp
            exact hK _ _ rfl rfl (World.grownBy.refl _ none)
          -- op 7 (slot 75): binOp
          refine MonoR.step (Pv.eq (.int .i64 (a : Int))) [(6, 74)] (by kernel_rfl) (fun w' hw' => ?_) ?_
          · intro x74 h74
            have e74 : x74 = .int .i64 ((a : Int) + 1) := h74
            clear h74
            subst e74
            refine ask_do rfl fun K hK => ?_
            go_simp
            exact hK _ _ rfl rfl (World.grownBy.refl _ none)
          -- op 8 (slot 76): indexAddr
          refine MonoR.step (Pv.eq (.pointer (some ⟨gR, oR + a, none⟩))) [(2, 70), (7, 75)] (by kernel_rfl) (fun w' hw' => ?_) ?_
          · intro x70 h70
            intro x75 h75
            have e70 : x70 = .slice (some ⟨gR, oR, none⟩) N cr := h70
            clear h70
            subst e70
            have e75 : x75 = .int .i64 (a : Int) := h75
            clear h75
            subst e75
            refine ask_do rfl fun K hK => ?_
            go_simp
            exact hK _ _ rfl rfl (World.grownBy.refl _ none)
          -- op 9 (slot 77): load
          refine MonoR.step (Pv.eq (.slice Aj nj cj)) [(8, 76)] (by kernel_rfl) (fun w' hw' => ?_) ?_
          · intro x76 h76
            have e76 : x76 = .pointer (some ⟨gR, oR + a, none⟩) := h76
            clear h76
            subst e76
            refine ask_do rfl fun K hK => ?_
            have qq := HLI.out w' hw'
            have q0 := qq.1
            have q1 := qq.2.1
            have q2 := qq.2.2.1
            have q3 := qq.2.2.2
            clear qq
            go_simp
            exact hK _ _ rfl rfl (World.grownBy.refl _ none)
          -- op 10 (slot 78): fieldAddr
          refine MonoR.step (Pv.eq (.pointer (some ⟨w.heap.size, 1, none⟩))) [] (by kernel_rfl) (fun w' hw' => ?_) ?_
          · refine ask_do rfl fun K hK => ?_
            go_simp
            exact hK _ _ rfl rfl (World.grownBy.refl _ none)
          -- op 11 (slot 79): load
          refine MonoR.step (Pv.eq (.int .u64 p.Q)) [(10, 78)] (by kernel_rfl) (fun w' hw' => ?_) ?_
          · intro x78 h78
            have e78 : x78 = .pointer (some ⟨w.heap.size, 1, none⟩) := h78
            clear h78
            subst e78
            refine ask_do rfl fun K hK => ?_
            have qq := HLI.out w' hw'
            have q0 := qq.1
            have q1 := qq.2.1
            have q2 := qq.2.2.1
            have q3 := qq.2.2.2
            clear qq
            go_simp
            exact hK _ _ rfl rfl (World.grownBy.refl _ none)
          -- op 12 (slot 80): call
          refine MonoR.step (slP N1 PT) [(9, 77), (11, 79)] (by kernel_rfl) (fun w' hw' => ?_) ?_
          · intro x77 h77
            intro x79 h79
            have e77 : x77 = .slice Aj nj cj := h77
            clear h77
            subst e77
            have e79 : x79 = .int .u64 p.Q := h79
            clear h79
            subst e79
            refine ask_do rfl fun K hK => ?_
            go_simp
            refine (HAT2.out w' hw').mono ?_
            rintro e w3 ⟨v3, rfl, hs3, hg3⟩
            exact hK _ _ rfl (hs3.more fun b _ hb => Nat.le_trans (by rw [HN1.out]; exact hw'.size) hb) hg3
          -- op 13 (slot 81): buildSlice
          refine MonoR.step (blkP N1 PT) [(12, 80)] (by kernel_rfl) (fun w' hw' => ?_) ?_
          · intro x80 h80
            have h80 : Sl encP (fun b => N1 ≤ b) w' x80 PT := h80
            obtain ⟨A80, c80, e80, k80, l80⟩ := h80.form
            subst e80
            refine ask_do rfl fun K hK => ?_
            go_simp
            exact hK _ _ rfl ⟨_, _, _, _, rfl, Bk.new w' _ _, h80.kept (World.grownBy_alloc w' _ none)⟩ (World.grownBy_alloc w' _ none)
          
          intro w6 hw6
          intro y0 k0 y1 k1 y2 k2 y3 k3 y4 k4 y5 k5 y6 k6 y7 k7 y8 k8 y9 k9 y10 k10 y11 k11 y12 k12 y13 k13
          show wpList Tryz.prog _ _ _ _ w6
          simp only [Act.put, List.setIfInBounds_toArray, List.set_cons_zero, List.set_cons_succ]
          have e0 : y0 = .slice A16 n16 c16 := k0
          subst e0
          have k13' : ∃ A n c b, y13 = .slice (some ⟨b, 0, none⟩) 1 1 ∧ Bk w6 b 33 #[.slice A n c] ∧ Sl encP (fun b => N1 ≤ b) w6 (.slice A n c) PT := k13
          obtain ⟨Ay, ny, cy, by', ey, hky, hsy⟩ := k13'
          subst ey
          have HA6 := Lib.hid (HACd.out.kept hw6)
          have HG6 : Hid (w5.grownBy w6 none) := Lib.hid (HGd.out.trans hw6)
          have HKY := Lib.hid hky
          have HZ6 : Hid (w5.heap.size ≤ w6.heap.size) := Lib.hid HG6.out.size
          have HREP : Hid ((encS encP).rep (fun b => w5.heap.size ≤ b ∧ some b ≠ (Value.slice A16 n16 c16).ownBlock) w6 [.slice Ay ny cy] PT) := Lib.hid ⟨_, rfl, hsy.more fun b _ hb => by
            rw [HN1.out] at hb
            exact ⟨Nat.le_trans HGd.out.size hb, fun e => absurd hb (Nat.not_le_of_lt (HACd.out.lt b e.symm).2)⟩⟩
          clear hky hsy k0 k1 k2 k3 k4 k5 k6 k7 k8 k9 k10 k11 k12 k13 hw6 HACd HGd HN1 HLI HAT2
          refine wpList_plain rfl fun K hK => ?_
          refine pushAt_core (E := encS encP) (y := PT) el_pairs HA6.out HREP.out (Bk.one HKY.out) HLB.out HZ6.out (fun g h => Nat.le_trans HZ6.out h) (.tmp 68) (.tmp 81) rfl rfl rfl ?_
          intro v6 w7 ha hgr hm
          refine hK _ _ ?_
          clear hK
          have HFIN : Hid (Acc (encS encP) w5.heap.size 33 (fun b => w5.heap.size ≤ b) w7 v6 ((AT.take (k + 1)).map G) ∧ w5.grownBy w7 none) := Lib.hid ⟨by rw [HSN.out]; exact ha, grown_up HG6.out hgr (fun b e => (HA6.out.lt b e).1)⟩
          clear ha hgr hm HA6 HG6 HREP HKY HZ6
          go_wp2_with fail
          go_roundg m
          case measure => omega
          case rel => exact ⟨k + 1, by omega, by go_num, HFIN⟩
end Go.Proofs.YtnjkelojkoeihaaGreatDoor
