/- consistorylaw18.DealMeets, walked (printed by mk_dmeet.py). -/
import Derived.Test.YtnjkelojkoeihaaGreatDoorZ7
namespace Go.Proofs.YtnjkelojkoeihaaGreatDoor
open Go Go.RowKit Go.Shelf

set_option maxRecDepth 100000 in
set_option maxHeartbeats 8000000 in
theorem dmeets18_any (p : Par) (v : Value) (l : List Int) (seed ia nb : Int) (w : World) (hp : p.ok) (h : Sl encU (fun _ => True) w v l) (hsd : U64 seed) (hia : I64 ia) (hnb : I64 nb) (hT : TabsAt w) :
    Calls Tryz.prog 3 #[p.v, v, .int .u64 seed, .int .i64 ia, .int .i64 nb] w fun e w' => e = .returned (.bool true) ∧ w.grownBy w' none := by
  have HP := Lib.hid hp
  have HL := Lib.hid h
  obtain ⟨A, c, rfl, hl1, hl2⟩ := h.form
  have HM := Lib.hid (fun (w' : World) (hg : w.grownBy w' none) => may_any p w' hp (hT.kept hg))
  have HTB := Lib.hid hT
  have HWK := Lib.hid (fun (w' : World) (hg : w.grownBy w' none) => works18_any w' (hT.kept hg))
  have HSD := Lib.hid hsd
  have HQ : Hid (U64 p.Q) := Lib.hid hp.Q
  clear h hp hT hsd
  obtain ⟨n0, hnl⟩ : ∃ n, n = l.length := ⟨_, rfl⟩
  rw [← hnl] at hl1 HL ⊢
  obtain ⟨w0, hw0⟩ : ∃ y, y = w.alloc (Obj.cells p.cells 24) := ⟨_, rfl⟩
  have HB0 : Hid (Bk w0 w.heap.size 24 p.cells) := Lib.hid (by rw [hw0]; exact Bk.new w _ _)
  have HG0 : Hid (w.grownBy w0 none) := Lib.hid (by rw [hw0]; exact World.grownBy_alloc w _ none)
  cases hm : mayP p with
  | false =>
    rw [hm] at HM
    clear hm hnl
    go_enter Tryz.func3, Tryz.ntmps3
    go_wp2_with fail
    rw [← hw0]
    clear hw0
    refine (HWK.out _ HG0.out).mono ?_
    rintro e w1 ⟨rfl, hg⟩
    have HG1 := hidTrans hg HG0
    have hp1 := (bkGrown hg HB0).out.prule
    clear hg
    go_wp2_with fail
    refine (HM.out _ HG1.out).mono ?_
    rintro e w2 ⟨rfl, hg⟩
    have HG2 := hidTrans hg HG1
    clear hg
    go_wp2_with fail
    refine (HWK.out _ HG2.out).mono ?_
    rintro e w3 ⟨rfl, hg⟩
    have HG3 := hidTrans hg HG2
    clear hg hp1
    go_wp2
    go_ret
    exact ⟨rfl, HG3.out⟩
  | true =>
    rw [hm] at HM
    by_cases hbig : n0 > 100
    · have hbI : (n0 : Int) > 100 := by omega
      clear hm hbig hnl
      go_enter Tryz.func3, Tryz.ntmps3
      go_wp2_with fail
      rw [← hw0]
      clear hw0
      refine (HWK.out _ HG0.out).mono ?_
      rintro e w1 ⟨rfl, hg⟩
      have HG1 := hidTrans hg HG0
      have hp1 := (bkGrown hg HB0).out.prule
      clear hg
      go_wp2_with fail
      refine (HM.out _ HG1.out).mono ?_
      rintro e w2 ⟨rfl, hg⟩
      have HG2 := hidTrans hg HG1
      clear hg
      go_wp2_with fail
      refine (HWK.out _ HG2.out).mono ?_
      rintro e w3 ⟨rfl, hg⟩
      have HG3 := hidTrans hg HG2
      clear hg hp1
      go_wp2
      go_ret
      exact ⟨rfl, HG3.out⟩
    · have hbI : (n0 : Int) ≤ 100 := by omega
      have HMAY := Lib.hid hm
      have HSZ := Lib.hid (dlt_sizes hm)
      obtain ⟨N, hNN⟩ : ∃ k : Nat, (k : Int) = p.N := ⟨p.N.toNat, by have := HSZ.out; omega⟩
      have HN : Hid ((N : Int) = p.N ∧ 4 ≤ N ∧ N ≤ 7) := Lib.hid (by have := HSZ.out; omega)
      obtain ⟨r, hr⟩ : ∃ r, r = (ia % 18446744073709551616) % p.N := ⟨_, rfl⟩
      have hr1 : 0 ≤ r := by rw [hr]; exact Int.emod_nonneg _ (by have := HN.out; omega)
      have hr2 : r < p.N := by rw [hr]; exact Int.emod_lt_of_pos _ (by have := HN.out; omega)
      have HR : Hid (0 ≤ r ∧ r < p.N ∧ r < 7) := Lib.hid (by have := HN.out; omega)
      obtain ⟨ia1, ia2⟩ := hia
      have e1 : IntKind.u64.wrap ia = ia % 18446744073709551616 := rfl
      have e2 : IntKind.u64.wrap p.N = p.N := IntWalk.u64_in _ (by have := HN.out; omega)
      have e3 : Int.tmod (ia % 18446744073709551616) p.N = r := by rw [hr]; exact Int.tmod_eq_emod_of_nonneg (by omega)
      have e4 : IntKind.i64.wrap r = r := IntWalk.i64_in _ (by have := HN.out; omega)
      have e5 : IntKind.i64.wrap (1 + r) = 1 + r := IntWalk.i64_in _ (by have := HN.out; omega)
      have hall0 : (p.N == 0) = false := by have := HN.out; simp; omega
      have HAR : Hid (ia % 18446744073709551616 % p.N = r) := Lib.hid hr.symm

      obtain ⟨m, hmm⟩ : ∃ k : Nat, (k : Int) = nb % 18446744073709551616 % 7 := ⟨(nb % 18446744073709551616 % 7).toNat, by omega⟩
      have HMB : Hid (m ≤ 6) := Lib.hid (by omega)
      obtain ⟨nb1, nb2⟩ := hnb
      have f1 : IntKind.u64.wrap nb = nb % 18446744073709551616 := rfl
      have f3 : Int.tmod (nb % 18446744073709551616) 7 = (m : Int) := by rw [hmm]; exact Int.tmod_eq_emod_of_nonneg (by omega)
      have f4 : IntKind.i64.wrap (m : Int) = (m : Int) := IntWalk.i64_in _ (by have := HMB.out; omega)
      have f5 : IntKind.i64.wrap (1 + (m : Int)) = 1 + (m : Int) := IntWalk.i64_in _ (by have := HMB.out; omega)
      have HMR : Hid (nb % 18446744073709551616 % 7 = (m : Int)) := Lib.hid hmm.symm
      obtain ⟨n, hn⟩ : ∃ k, k = m + 1 := ⟨_, rfl⟩
      have HNM : Hid (n = m + 1 ∧ n ≤ 7) := Lib.hid (by omega)
      obtain ⟨M, hM⟩ : ∃ y, y = dltM p l seed (1 + r) := ⟨_, rfl⟩
      obtain ⟨Rs, hRs⟩ : ∃ y, y = (List.range n).map fun j : Nat => dltRow p l seed (1 + r) ((j : Int) + 1) := ⟨_, rfl⟩
      obtain ⟨Cs, hCs⟩ : ∃ y, y = (List.range n).map fun j : Nat => dltCol p l seed (1 + r) ((j : Int) + 1) := ⟨_, rfl⟩
      have hRl : Rs.length = n := by rw [hRs]; simp
      have hCl : Cs.length = n := by rw [hCs]; simp
      have HME : Hid (M = dltM p l seed (1 + r) ∧ Rs.length = n ∧ Cs.length = n ∧ (∀ j (h : j < Rs.length), Rs[j] = dltRow p l seed (1 + r) ((j : Int) + 1)) ∧ ∀ j (h : j < Cs.length), Cs[j] = dltCol p l seed (1 + r) ((j : Int) + 1)) := Lib.hid ⟨hM, hRl, hCl, fun j h => by simp [hRs], fun j h => by simp [hCs]⟩
      have HDL : Hid (∀ W, w.grownBy W none → Calls Tryz.prog 8 #[p.v, .slice A n0 c, .int .u64 seed, .int .i64 (1 + r), .int .i64 (1 + (m : Int))] W fun e w' => ∃ vm vr vc vs vk, e = .returned (.tuple #[.agg #[vm, vr, vc], vs, vk, .bool true]) ∧ DL w' vm vr vc M Rs Cs ∧ W.grownBy w' none) := Lib.hid (fun W hg => by
        have h := dealt_any p (.slice A n0 c) l seed (1 + r) n W HP.out HMAY.out (HTB.out.kept hg) (HL.out.kept hg) HSD.out (by have := HR.out; omega) (by have := HNM.out; omega)
        have e : (n : Int) = 1 + (m : Int) := by have := HNM.out; omega
        rw [← hM, ← hRs, ← hCs, e] at h
        refine h.mono ?_
        rintro e w' ⟨vm, vr, vc, vs, vk, rfl, hd, _, _, hg2⟩
        exact ⟨vm, vr, vc, vs, vk, rfl, hd, hg2⟩)
      have HSQ : Hid (∀ v W, Sl (encS (encS encU)) TT W v M → Calls Tryz.prog 9 #[p.v, v] W fun e w' => e = .returned (.bool true) ∧ W.grownBy w' none) := Lib.hid (fun v W hs => by
        have h := square_any p v M TT W HP.out hs
        rw [hM, dltM_square HMAY.out HQ.out] at h
        exact h)
      have HMB2 : Hid (M.length ≤ 100000 ∧ ∀ l ∈ M, l.length ≤ 100000 ∧ ∀ c ∈ l, c.length ≤ 100000) := Lib.hid (by
        have hs := HSZ.out
        rw [hM, dltM_len HMAY.out HQ.out]
        refine ⟨by omega, fun x hx => ?_⟩
        obtain ⟨a, b⟩ := dltM_rect HMAY.out HQ.out l seed (1 + r) x hx
        exact ⟨by omega, fun c hc => by have := b c hc; omega⟩)
      have HRW : Hid (∀ j : Int, (dltRow p l seed (1 + r) j).length ≤ 1000 ∧ ∀ c ∈ dltRow p l seed (1 + r) j, c.length ≤ 1000) := Lib.hid (fun j => by
        have hs := HSZ.out
        exact ⟨by rw [dltRow_len HMAY.out HQ.out]; omega, fun c hc => by rw [dltRow_in _ _ _ _ _ c hc]; omega⟩)
      have HCW : Hid (∀ j : Int, (dltCol p l seed (1 + r) j).length ≤ 1000 ∧ ∀ c ∈ dltCol p l seed (1 + r) j, c.length ≤ 1000) := Lib.hid (fun j => by
        have hs := HSZ.out
        exact ⟨by rw [dltCol_len HMAY.out HQ.out]; omega, fun c hc => by rw [dltCol_in _ _ _ _ _ c hc]; omega⟩)
      clear hM hRs hCs hRl hCl hmm hn
      clear hm hbig hr hnl hNN
      go_enter Tryz.func3, Tryz.ntmps3
      go_wp2_with fail
      rw [← hw0]
      clear hw0
      refine (HWK.out _ HG0.out).mono ?_
      rintro e w1 ⟨rfl, hg⟩
      have HG1 := hidTrans hg HG0
      have hp1 := (bkGrown hg HB0).out.prule
      have HB1 := bkGrown hg HB0
      clear hg
      go_wp2_with fail
      refine (HM.out _ HG1.out).mono ?_
      rintro e w2 ⟨rfl, hg⟩
      have HG2 := hidTrans hg HG1
      have HB2 := bkGrown hg HB1
      have hp2 := HB2.out.prule
      clear hg hp1 HM HB0 HB1
      go_wp2_with fail
      refine (HDL.out _ HG2.out).mono ?_
      rintro e w3 ⟨vm, vr, vc, vs, vk, rfl, hd, hg⟩
      obtain ⟨Am, nm, cm, rfl⟩ := hd.1.shape
      obtain ⟨Ar, cr, er, _, _⟩ := hd.2.1.form
      obtain ⟨Ac, cc, ec, _, _⟩ := hd.2.2.form
      rw [HME.out.2.1] at er
      rw [HME.out.2.2.1] at ec
      subst er ec
      have HG3 := hidTrans hg HG2
      have HB3 := bkGrown hg HB2
      have HD3 := Lib.hid hd
      obtain ⟨w4, hw4⟩ : ∃ y, y = w3.alloc (Obj.cells #[.slice Am nm cm, .slice Ar n cr, .slice Ac n cc] 32) := ⟨_, rfl⟩
      obtain ⟨g11, hg11⟩ : ∃ y, y = w3.heap.size := ⟨_, rfl⟩
      have HGA : Hid (w3.grownBy w4 none) := Lib.hid (by rw [hw4]; exact World.grownBy_alloc _ _ none)
      have HB4 : Hid (Bk w4 g11 32 #[.slice Am nm cm, .slice Ar n cr, .slice Ac n cc]) := Lib.hid (by rw [hw4, hg11]; exact Bk.new _ _ _)
      have HD4 := Lib.hid (HD3.out.kept HGA.out)
      have HG4 := Lib.hid (HG3.out.trans HGA.out)
      have HP4 := Lib.hid (HB3.out.grown HGA.out (by simp))
      have hpa : ∀ o, (w3.alloc (Obj.cells #[.slice Am nm cm, .slice Ar n cr, .slice Ac n cc] 32)).cell? ⟨w.heap.size, o, none⟩ = (#[.int .u64 p.P, .int .u64 p.Q, .int .u64 p.G, .int .u64 p.H, .int .i64 p.Nodes, .int .i64 p.N, .int .i64 p.T, .int .i64 p.K, .int .i64 p.D, .int .i64 p.R, .int .i64 p.M, .int .i64 p.X] : Array Value)[o]? := by rw [← hw4]; exact HP4.out.prule
      clear hg hd hp2 HDL HB3 HD3 HGA hall0 e1 e2 e3 e4 e5 f1 f3 f4 f5
      go_wp2_with fail
      rw [← hw4, ← hg11]
      clear hw4 hpa hg11
      refine (HSQ.out _ _ HD4.out.1).mono ?_
      rintro e w5 ⟨rfl, hg⟩
      have HG5 := hidTrans hg HG4
      have HD5 := Lib.hid (HD4.out.kept hg)
      have HB5 := bkGrown hg HB4
      have HP5 := bkGrown hg HP4
      clear hg HD4 HB4 HP4 HG4 HSQ
      go_wp2_with fail
      go_loopg [15, 16, 17] n (fun gk s15 s16 s17 wx => ∃ j : Nat, j + gk = n ∧ s15 = .int .i64 ((j : Int) + 1) ∧ Hid (w5.grownBy wx none))
      case atStart => exact ⟨0, by omega, rfl, Lib.hid (World.grownBy.refl _ _)⟩
      case round =>
        obtain ⟨j, hjn, rfl, HX⟩ := hrel
        cases gk with
        | zero =>
          have hno : ¬ ((j : Int) + 1 ≤ 1 + (m : Int)) := by have := HNM.out; omega
          have HGF := Lib.hid (HG5.out.trans HX.out)
          clear HX
          go_wp2
          go_ret
          exact ⟨rfl, HGF.out⟩
        | succ q =>
          have hjI : (j : Int) + 1 ≤ 1 + (m : Int) := by have := HNM.out; omega
          have hjN : (j : Int) < (n : Int) := by omega
          have hj0 : (0 : Int) ≤ (j : Int) := Int.natCast_nonneg j
          have hj9 : j ≤ 6 := by have := HNM.out; omega
          have hcw : IntKind.u64.wrap ((j : Int) + 1) = (j : Int) + 1 := IntWalk.u64_in _ (by omega)
          have hcj : IntKind.i64.wrap (j : Int) = (j : Int) := IntWalk.i64_in _ (by omega)
          have hci : IntKind.i64.wrap ((j : Int) + 1 + 1) = (j : Int) + 1 + 1 := IntWalk.i64_in _ (by omega)
          have hjR : j < Rs.length := by rw [HME.out.2.1]; omega
          have hjC : j < Cs.length := by rw [HME.out.2.2.1]; omega
          have HDr := Lib.hid (HD5.out.kept HX.out)
          obtain ⟨gR, oR, cr', uj, eR, _, _, hcR, hsR⟩ := HDr.out.2.1.atS hjR
          injection eR with eR1 eR2 eR3
          subst eR1 eR3
          rw [HME.out.2.2.2.1 j hjR] at hsR
          obtain ⟨Aj, nj, cj, rfl⟩ := hsR.shape
          obtain ⟨gC, oC, cc', vj, eC, _, _, hcC, hsC⟩ := HDr.out.2.2.atS hjC
          injection eC with eC1 eC2 eC3
          subst eC1 eC3
          rw [HME.out.2.2.2.2 j hjC] at hsC
          obtain ⟨Bj, mj, dj, rfl⟩ := hsC.shape
          have HSR := Lib.hid hsR
          have HSC := Lib.hid hsC
          have HBr := Lib.hid (HB5.out.grown HX.out (by simp))
          have HPr := Lib.hid (HP5.out.grown HX.out (by simp))
          have HGr := Lib.hid (HG5.out.trans HX.out)
          have HD1 : Hid (wr.grownBy wr.drew none) := Lib.hid (grown_drewN' _ 1)
          have HCR := Lib.hid hcR
          have HCC := Lib.hid hcC
          have HLI : Hid (∀ W, wr.drew.grownBy W none → (∀ o, W.cell? ⟨w.heap.size, o, none⟩ = (#[.int .u64 p.P, .int .u64 p.Q, .int .u64 p.G, .int .u64 p.H, .int .i64 p.Nodes, .int .i64 p.N, .int .i64 p.T, .int .i64 p.K, .int .i64 p.D, .int .i64 p.R, .int .i64 p.M, .int .i64 p.X] : Array Value)[o]?) ∧ W.cell? ⟨g11, 0, none⟩ = some (.slice Am nm cm) ∧ W.cell? ⟨g11, 1, none⟩ = some (.slice (some ⟨gR, oR, none⟩) n cr) ∧ W.cell? ⟨g11, 2, none⟩ = some (.slice (some ⟨gC, oC, none⟩) n cc) ∧ W.cell? ⟨gR, oR + j, none⟩ = some (.slice Aj nj cj) ∧ W.cell? ⟨gC, oC + j, none⟩ = some (.slice Bj mj dj)) := Lib.hid (fun W hg => by
            have h := HD1.out.trans hg
            have hb := HBr.out.grown h (by simp)
            exact ⟨(HPr.out.grown h (by simp)).prule, by simpa using hb.cell 0, by simpa using hb.cell 1, by simpa using hb.cell 2, cellK HCR.out h (by simp), cellK HCC.out h (by simp)⟩)
          have HRF : Hid (∀ W, wr.drew.grownBy W none → Calls Tryz.prog 10 #[p.v, .slice Am nm cm, .int .u64 ((j : Int) + 1), .slice Aj nj cj] W fun e w' => e = .returned (.bool true) ∧ W.grownBy w' none) := Lib.hid (fun W hg => by
            have h := HD1.out.trans hg
            exact drow_yes p _ _ M ((j : Int) + 1) (dltRow p l seed (1 + r) ((j : Int) + 1)) TT TT W HP.out (HDr.out.1.kept h) ⟨by omega, by omega⟩ (HSR.out.kept h) (by rw [HME.out.1]; exact dlt_rows HMAY.out HQ.out l seed (1 + r) (by omega)) HMB2.out.1 HMB2.out.2 (HRW.out _).1 (HRW.out _).2)
          have HCF : Hid (∀ W, wr.drew.grownBy W none → Calls Tryz.prog 11 #[p.v, .slice Am nm cm, .int .u64 ((j : Int) + 1), .slice Bj mj dj] W fun e w' => e = .returned (.bool true) ∧ W.grownBy w' none) := Lib.hid (fun W hg => by
            have h := HD1.out.trans hg
            exact dcol_yes p _ _ M ((j : Int) + 1) (dltCol p l seed (1 + r) ((j : Int) + 1)) TT TT W HP.out (HDr.out.1.kept h) ⟨by omega, by omega⟩ (HSC.out.kept h) (by rw [HME.out.1]; exact dlt_cols HMAY.out HQ.out l seed (1 + r) (by omega)) HMB2.out.1 HMB2.out.2 (HCW.out _).1 (HCW.out _).2)
          have HXG := HX
          clear hcR hcC hsR hsC hjR hjC eR2 eC2 HX
          go_upto_region 11 with (fail)
          refine wp_region_mono 28 (by kernel_rfl) (by kernel_rfl) ?_
          -- op 0 (slot 69): load
          refine MonoR.step (Pv.eq (p.v)) [] (by kernel_rfl) (fun w' hw' => ?_) ?_
          · refine ask_do rfl fun K hK => ?_
            have qq := HLI.out w' hw'
            have q0 := qq.1
            have q1 := qq.2.1
            have q2 := qq.2.2.1
            have q3 := qq.2.2.2.1
            have q4 := qq.2.2.2.2.1
            have q5 := qq.2.2.2.2.2
            clear qq
            go_simp
            exact hK _ _ rfl rfl (World.grownBy.refl _ none)
          -- op 1 (slot 70): fieldAddr
          refine MonoR.step (Pv.eq (.pointer (some ⟨g11, 0, none⟩))) [] (by kernel_rfl) (fun w' hw' => ?_) ?_
          · refine ask_do rfl fun K hK => ?_
            go_simp
            exact hK _ _ rfl rfl (World.grownBy.refl _ none)
          -- op 2 (slot 71): load
          refine MonoR.step (Pv.eq (.slice Am nm cm)) [(1, 70)] (by kernel_rfl) (fun w' hw' => ?_) ?_
          · intro x70 h70
            have e70 : x70 = .pointer (some ⟨g11, 0, none⟩) := h70
            clear h70
            subst e70
            refine ask_do rfl fun K hK => ?_
            have qq := HLI.out w' hw'
            have q0 := qq.1
            have q1 := qq.2.1
            have q2 := qq.2.2.1
            have q3 := qq.2.2.2.1
            have q4 := qq.2.2.2.2.1
            have q5 := qq.2.2.2.2.2
            clear qq
            go_simp
            exact hK _ _ rfl rfl (World.grownBy.refl _ none)
          -- op 3 (slot 72): move
          refine MonoR.step (Pv.eq (.int .i64 ((j : Int) + 1))) [] (by kernel_rfl) (fun w' hw' => ?_) ?_
          · refine ask_do rfl fun K hK => ?_
            go_simp
            exact hK _ _ rfl rfl (World.grownBy.refl _ none)
          -- op 4 (slot 73): convert
          refine MonoR.step (Pv.eq (.int .u64 ((j : Int) + 1))) [(3, 72)] (by kernel_rfl) (fun w' hw' => ?_) ?_
          · intro x72 h72
            have e72 : x72 = .int .i64 ((j : Int) + 1) := h72
            clear h72
            subst e72
            refine ask_do rfl fun K hK => ?_
            go_simp
            exact hK _ _ rfl rfl (World.grownBy.refl _ none)
          -- op 5 (slot 74): fieldAddr
          refine MonoR.step (Pv.eq (.pointer (some ⟨g11, 1, none⟩))) [] (by kernel_rfl) (fun w' hw' => ?_) ?_
          · refine ask_do rfl fun K hK => ?_
            go_simp
            exact hK _ _ rfl rfl (World.grownBy.refl _ none)
          -- op 6 (slot 75): load
          refine MonoR.step (Pv.eq (.slice (some ⟨gR, oR, none⟩) n cr)) [(5, 74)] (by kernel_rfl) (fun w' hw' => ?_) ?_
          · intro x74 h74
            have e74 : x74 = .pointer (some ⟨g11, 1, none⟩) := h74
            clear h74
            subst e74
            refine ask_do rfl fun K hK => ?_
            have qq := HLI.out w' hw'
            have q0 := qq.1
            have q1 := qq.2.1
            have q2 := qq.2.2.1
            have q3 := qq.2.2.2.1
            have q4 := qq.2.2.2.2.1
            have q5 := qq.2.2.2.2.2
            clear qq
            go_simp
            exact hK _ _ rfl rfl (World.grownBy.refl _ none)
          -- op 7 (slot 76): move
          refine MonoR.step (Pv.eq (.int .i64 ((j : Int) + 1))) [] (by kernel_rfl) (fun w' hw' => ?_) ?_
          · refine ask_do rfl fun K hK => ?_
            go_simp
            exact hK _ _ rfl rfl (World.grownBy.refl _ none)
          -- op 8 (slot 77): binOp
          refine MonoR.step (Pv.eq (.int .i64 (j : Int))) [(7, 76)] (by kernel_rfl) (fun w' hw' => ?_) ?_
          · intro x76 h76
            have e76 : x76 = .int .i64 ((j : Int) + 1) := h76
            clear h76
            subst e76
            refine ask_do rfl fun K hK => ?_
            go_simp
            exact hK _ _ rfl rfl (World.grownBy.refl _ none)
          -- op 9 (slot 78): indexAddr
          refine MonoR.step (Pv.eq (.pointer (some ⟨gR, oR + j, none⟩))) [(6, 75), (8, 77)] (by kernel_rfl) (fun w' hw' => ?_) ?_
          · intro x75 h75
            intro x77 h77
            have e75 : x75 = .slice (some ⟨gR, oR, none⟩) n cr := h75
            clear h75
            subst e75
            have e77 : x77 = .int .i64 (j : Int) := h77
            clear h77
            subst e77
            refine ask_do rfl fun K hK => ?_
            go_simp
            exact hK _ _ rfl rfl (World.grownBy.refl _ none)
          -- op 10 (slot 79): load
          refine MonoR.step (Pv.eq (.slice Aj nj cj)) [(9, 78)] (by kernel_rfl) (fun w' hw' => ?_) ?_
          · intro x78 h78
            have e78 : x78 = .pointer (some ⟨gR, oR + j, none⟩) := h78
            clear h78
            subst e78
            refine ask_do rfl fun K hK => ?_
            have qq := HLI.out w' hw'
            have q0 := qq.1
            have q1 := qq.2.1
            have q2 := qq.2.2.1
            have q3 := qq.2.2.2.1
            have q4 := qq.2.2.2.2.1
            have q5 := qq.2.2.2.2.2
            clear qq
            go_simp
            exact hK _ _ rfl rfl (World.grownBy.refl _ none)
          -- op 11 (slot 80): call
          refine MonoR.step (Pv.eq (.bool true)) [(0, 69), (2, 71), (4, 73), (10, 79)] (by kernel_rfl) (fun w' hw' => ?_) ?_
          · intro x69 h69
            intro x71 h71
            intro x73 h73
            intro x79 h79
            have e69 : x69 = p.v := h69
            clear h69
            subst e69
            have e71 : x71 = .slice Am nm cm := h71
            clear h71
            subst e71
            have e73 : x73 = .int .u64 ((j : Int) + 1) := h73
            clear h73
            subst e73
            have e79 : x79 = .slice Aj nj cj := h79
            clear h79
            subst e79
            refine ask_do rfl fun K hK => ?_
            go_simp
            refine (HRF.out w' hw').mono ?_
            rintro e w3 ⟨rfl, hg⟩
            exact hK _ _ rfl rfl hg
          -- op 12 (slot 81): unOp
          refine MonoR.step (Pv.eq (.bool false)) [(11, 80)] (by kernel_rfl) (fun w' hw' => ?_) ?_
          · intro x80 h80
            have e80 : x80 = .bool true := h80
            clear h80
            subst e80
            refine ask_do rfl fun K hK => ?_
            go_simp
            exact hK _ _ rfl rfl (World.grownBy.refl _ none)
          -- op 13 (slot 82): move
          refine MonoR.step (Pv.eq (.bool false)) [(12, 81)] (by kernel_rfl) (fun w' hw' => ?_) ?_
          · intro x81 h81
            have e81 : x81 = .bool false := h81
            clear h81
            subst e81
            refine ask_do rfl fun K hK => ?_
            go_simp
            exact hK _ _ rfl rfl (World.grownBy.refl _ none)
          -- op 14 (slot 83): load [(13, 'false')]
          refine MonoR.step (Pv.eq (p.v)) [(13, 82)] (by kernel_rfl) (fun w' hw' => ?_) ?_
          · intro x82 h82
            have e82 : x82 = .bool false := h82
            clear h82
            subst e82
            refine ask_do (by kernel_rfl) fun K hK => ?_
            have qq := HLI.out w' hw'
            have q0 := qq.1
            have q1 := qq.2.1
            have q2 := qq.2.2.1
            have q3 := qq.2.2.2.1
            have q4 := qq.2.2.2.2.1
            have q5 := qq.2.2.2.2.2
            clear qq
            go_simp
            exact hK _ _ rfl rfl (World.grownBy.refl _ none)
          -- op 15 (slot 84): fieldAddr [(13, 'false')]
          refine MonoR.step (Pv.eq (.pointer (some ⟨g11, 0, none⟩))) [(13, 82)] (by kernel_rfl) (fun w' hw' => ?_) ?_
          · intro x82 h82
            have e82 : x82 = .bool false := h82
            clear h82
            subst e82
            refine ask_do (by kernel_rfl) fun K hK => ?_
            go_simp
            exact hK _ _ rfl rfl (World.grownBy.refl _ none)
          -- op 16 (slot 85): load [(13, 'false')]
          refine MonoR.step (Pv.eq (.slice Am nm cm)) [(13, 82), (15, 84)] (by kernel_rfl) (fun w' hw' => ?_) ?_
          · intro x82 h82
            intro x84 h84
            have e82 : x82 = .bool false := h82
            clear h82
            subst e82
            have e84 : x84 = .pointer (some ⟨g11, 0, none⟩) := h84
            clear h84
            subst e84
            refine ask_do (by kernel_rfl) fun K hK => ?_
            have qq := HLI.out w' hw'
            have q0 := qq.1
            have q1 := qq.2.1
            have q2 := qq.2.2.1
            have q3 := qq.2.2.2.1
            have q4 := qq.2.2.2.2.1
            have q5 := qq.2.2.2.2.2
            clear qq
            go_simp
            exact hK _ _ rfl rfl (World.grownBy.refl _ none)
          -- op 17 (slot 86): move [(13, 'false')]
          refine MonoR.step (Pv.eq (.int .i64 ((j : Int) + 1))) [(13, 82)] (by kernel_rfl) (fun w' hw' => ?_) ?_
          · intro x82 h82
            have e82 : x82 = .bool false := h82
            clear h82
            subst e82
            refine ask_do (by kernel_rfl) fun K hK => ?_
            go_simp
            exact hK _ _ rfl rfl (World.grownBy.refl _ none)
          -- op 18 (slot 87): convert [(13, 'false')]
          refine MonoR.step (Pv.eq (.int .u64 ((j : Int) + 1))) [(13, 82), (17, 86)] (by kernel_rfl) (fun w' hw' => ?_) ?_
          · intro x82 h82
            intro x86 h86
            have e82 : x82 = .bool false := h82
            clear h82
            subst e82
            have e86 : x86 = .int .i64 ((j : Int) + 1) := h86
            clear h86
            subst e86
            refine ask_do (by kernel_rfl) fun K hK => ?_
            go_simp
            exact hK _ _ rfl rfl (World.grownBy.refl _ none)
          -- op 19 (slot 88): fieldAddr [(13, 'false')]
          refine MonoR.step (Pv.eq (.pointer (some ⟨g11, 2, none⟩))) [(13, 82)] (by kernel_rfl) (fun w' hw' => ?_) ?_
          · intro x82 h82
            have e82 : x82 = .bool false := h82
            clear h82
            subst e82
            refine ask_do (by kernel_rfl) fun K hK => ?_
            go_simp
            exact hK _ _ rfl rfl (World.grownBy.refl _ none)
          -- op 20 (slot 89): load [(13, 'false')]
          refine MonoR.step (Pv.eq (.slice (some ⟨gC, oC, none⟩) n cc)) [(13, 82), (19, 88)] (by kernel_rfl) (fun w' hw' => ?_) ?_
          · intro x82 h82
            intro x88 h88
            have e82 : x82 = .bool false := h82
            clear h82
            subst e82
            have e88 : x88 = .pointer (some ⟨g11, 2, none⟩) := h88
            clear h88
            subst e88
            refine ask_do (by kernel_rfl) fun K hK => ?_
            have qq := HLI.out w' hw'
            have q0 := qq.1
            have q1 := qq.2.1
            have q2 := qq.2.2.1
            have q3 := qq.2.2.2.1
            have q4 := qq.2.2.2.2.1
            have q5 := qq.2.2.2.2.2
            clear qq
            go_simp
            exact hK _ _ rfl rfl (World.grownBy.refl _ none)
          -- op 21 (slot 90): move [(13, 'false')]
          refine MonoR.step (Pv.eq (.int .i64 ((j : Int) + 1))) [(13, 82)] (by kernel_rfl) (fun w' hw' => ?_) ?_
          · intro x82 h82
            have e82 : x82 = .bool false := h82
            clear h82
            subst e82
            refine ask_do (by kernel_rfl) fun K hK => ?_
            go_simp
            exact hK _ _ rfl rfl (World.grownBy.refl _ none)
          -- op 22 (slot 91): binOp [(13, 'false')]
          refine MonoR.step (Pv.eq (.int .i64 (j : Int))) [(13, 82), (21, 90)] (by kernel_rfl) (fun w' hw' => ?_) ?_
          · intro x82 h82
            intro x90 h90
            have e82 : x82 = .bool false := h82
            clear h82
            subst e82
            have e90 : x90 = .int .i64 ((j : Int) + 1) := h90
            clear h90
            subst e90
            refine ask_do (by kernel_rfl) fun K hK => ?_
            go_simp
            exact hK _ _ rfl rfl (World.grownBy.refl _ none)
          -- op 23 (slot 92): indexAddr [(13, 'false')]
          refine MonoR.step (Pv.eq (.pointer (some ⟨gC, oC + j, none⟩))) [(13, 82), (20, 89), (22, 91)] (by kernel_rfl) (fun w' hw' => ?_) ?_
          · intro x82 h82
            intro x89 h89
            intro x91 h91
            have e82 : x82 = .bool false := h82
            clear h82
            subst e82
            have e89 : x89 = .slice (some ⟨gC, oC, none⟩) n cc := h89
            clear h89
            subst e89
            have e91 : x91 = .int .i64 (j : Int) := h91
            clear h91
            subst e91
            refine ask_do (by kernel_rfl) fun K hK => ?_
            go_simp
            exact hK _ _ rfl rfl (World.grownBy.refl _ none)
          -- op 24 (slot 93): load [(13, 'false')]
          refine MonoR.step (Pv.eq (.slice Bj mj dj)) [(13, 82), (23, 92)] (by kernel_rfl) (fun w' hw' => ?_) ?_
          · intro x82 h82
            intro x92 h92
            have e82 : x82 = .bool false := h82
            clear h82
            subst e82
            have e92 : x92 = .pointer (some ⟨gC, oC + j, none⟩) := h92
            clear h92
            subst e92
            refine ask_do (by kernel_rfl) fun K hK => ?_
            have qq := HLI.out w' hw'
            have q0 := qq.1
            have q1 := qq.2.1
            have q2 := qq.2.2.1
            have q3 := qq.2.2.2.1
            have q4 := qq.2.2.2.2.1
            have q5 := qq.2.2.2.2.2
            clear qq
            go_simp
            exact hK _ _ rfl rfl (World.grownBy.refl _ none)
          -- op 25 (slot 94): call [(13, 'false')]
          refine MonoR.step (Pv.eq (.bool true)) [(13, 82), (14, 83), (16, 85), (18, 87), (24, 93)] (by kernel_rfl) (fun w' hw' => ?_) ?_
          · intro x82 h82
            intro x83 h83
            intro x85 h85
            intro x87 h87
            intro x93 h93
            have e82 : x82 = .bool false := h82
            clear h82
            subst e82
            have e83 : x83 = p.v := h83
            clear h83
            subst e83
            have e85 : x85 = .slice Am nm cm := h85
            clear h85
            subst e85
            have e87 : x87 = .int .u64 ((j : Int) + 1) := h87
            clear h87
            subst e87
            have e93 : x93 = .slice Bj mj dj := h93
            clear h93
            subst e93
            refine ask_do (by kernel_rfl) fun K hK => ?_
            go_simp
            refine (HCF.out w' hw').mono ?_
            rintro e w3 ⟨rfl, hg⟩
            exact hK _ _ rfl rfl hg
          -- op 26 (slot 95): unOp [(13, 'false')]
          refine MonoR.step (Pv.eq (.bool false)) [(13, 82), (25, 94)] (by kernel_rfl) (fun w' hw' => ?_) ?_
          · intro x82 h82
            intro x94 h94
            have e82 : x82 = .bool false := h82
            clear h82
            subst e82
            have e94 : x94 = .bool true := h94
            clear h94
            subst e94
            refine ask_do (by kernel_rfl) fun K hK => ?_
            go_simp
            exact hK _ _ rfl rfl (World.grownBy.refl _ none)
          -- op 27 (slot 96): pick
          refine MonoR.step (Pv.eq (.bool false)) [(13, 82), (26, 95)] (by kernel_rfl) (fun w' hw' => ?_) ?_
          · intro x82 h82
            intro x95 h95
            have e82 : x82 = .bool false := h82
            clear h82
            subst e82
            have e95 : x95 = .bool false := h95
            clear h95
            subst e95
            refine ask_do rfl fun K hK => ?_
            go_simp
            exact hK _ _ rfl rfl (World.grownBy.refl _ none)
          
          intro w6 hw6
          intro y0 k0 y1 k1 y2 k2 y3 k3 y4 k4 y5 k5 y6 k6 y7 k7 y8 k8 y9 k9 y10 k10 y11 k11 y12 k12 y13 k13 y14 k14 y15 k15 y16 k16 y17 k17 y18 k18 y19 k19 y20 k20 y21 k21 y22 k22 y23 k23 y24 k24 y25 k25 y26 k26 y27 k27
          refine wpList_nil ?_
          simp only [Act.put, List.setIfInBounds_toArray, List.set_cons_zero, List.set_cons_succ]
          have e27 : y27 = .bool false := k27
          subst e27
          have HG6 : Hid (w5.grownBy w6 none) := Lib.hid (by
            have := HGr.out
            exact HXG.out.trans (HD1.out.trans hw6))
          have HGw := Lib.hid (HD1.out.trans hw6)
          clear k0 k1 k2 k3 k4 k5 k6 k7 k8 k9 k10 k11 k12 k13 k14 k15 k16 k17 k18 k19 k20 k21 k22 k23 k24 k25 k26 hw6 HLI HRF HCF
          go_wp2_with fail
          go_loopg [16, 17] n (fun gk s16 s17 wx => ∃ k : Nat, k + gk = n ∧ s16 = .int .i64 ((k : Int) + 1) ∧ Hid (w6.grownBy wx none))
          case atStart => exact ⟨0, by omega, rfl, Lib.hid (World.grownBy.refl _ _)⟩
          case round =>
            rename World => wk
            obtain ⟨k, hkn, rfl, HY⟩ := hrel
            cases gk with
            | zero =>
              have hno : ¬ ((k : Int) + 1 ≤ 1 + (m : Int)) := by have := HNM.out; omega
              have HFIN : Hid (w5.grownBy wk none) := Lib.hid (HG6.out.trans HY.out)
              clear HY
              go_wp2_with fail
              go_roundg q
              case measure => omega
              case rel => exact ⟨j + 1, by omega, by go_num, HFIN⟩
            | succ q2 =>
              have hkI : (k : Int) + 1 ≤ 1 + (m : Int) := by have := HNM.out; omega
              have hkN : (k : Int) < (n : Int) := by omega
              have hk0 : (0 : Int) ≤ (k : Int) := Int.natCast_nonneg k
              have hk9 : k ≤ 6 := by have := HNM.out; omega
              have hkw : IntKind.u64.wrap ((k : Int) + 1) = (k : Int) + 1 := IntWalk.u64_in _ (by omega)
              have hkj : IntKind.i64.wrap (k : Int) = (k : Int) := IntWalk.i64_in _ (by omega)
              have hki : IntKind.i64.wrap ((k : Int) + 1 + 1) = (k : Int) + 1 + 1 := IntWalk.i64_in _ (by omega)
              have hkC : k < Cs.length := by rw [HME.out.2.2.1]; omega
              have HRK := Lib.hid (HGw.out.trans HY.out)
              have HD2 : Hid (wr.grownBy wk.drew none) := Lib.hid (HRK.out.trans (grown_drewN' _ 1))
              obtain ⟨gC2, oC2, cc2, vk2, eC, _, _, hcK, hsK⟩ := (HDr.out.kept HD2.out).2.2.atS hkC
              injection eC with eC1 eC2 eC3
              injection eC1 with eC1
              injection eC1 with ea eb ec
              clear eC2 eC3 ec
              subst ea eb
              rw [HME.out.2.2.2.2 k hkC] at hsK
              obtain ⟨Bk, mk, dk, rfl⟩ := hsK.shape
              have HSK := Lib.hid hsK
              have HCK := Lib.hid hcK
              obtain ⟨PT, hPT⟩ : ∃ y, y = (dltRow p l seed (1 + r) ((j : Int) + 1)).map (atP p.Q ((k : Int) + 1)) := ⟨_, rfl⟩
              have HPE := Lib.hid hPT
              have HLI : Hid (∀ W, wk.drew.grownBy W none → (∀ o, W.cell? ⟨w.heap.size, o, none⟩ = (#[.int .u64 p.P, .int .u64 p.Q, .int .u64 p.G, .int .u64 p.H, .int .i64 p.Nodes, .int .i64 p.N, .int .i64 p.T, .int .i64 p.K, .int .i64 p.D, .int .i64 p.R, .int .i64 p.M, .int .i64 p.X] : Array Value)[o]?) ∧ W.cell? ⟨g11, 0, none⟩ = some (.slice Am nm cm) ∧ W.cell? ⟨g11, 1, none⟩ = some (.slice (some ⟨gR, oR, none⟩) n cr) ∧ W.cell? ⟨g11, 2, none⟩ = some (.slice (some ⟨gC, oC, none⟩) n cc) ∧ W.cell? ⟨gR, oR + j, none⟩ = some (.slice Aj nj cj) ∧ W.cell? ⟨gC, oC + k, none⟩ = some (.slice Bk mk dk)) := Lib.hid (fun W hg => by
                have h := HD2.out.trans hg
                have hb := HBr.out.grown h (by simp)
                exact ⟨(HPr.out.grown h (by simp)).prule, by simpa using hb.cell 0, by simpa using hb.cell 1, by simpa using hb.cell 2, cellK HCR.out h (by simp), cellK HCK.out hg (by simp)⟩)
              have HAT : Hid (∀ W, wk.drew.grownBy W none → Calls Tryz.prog 12 #[.slice Aj nj cj, .int .u64 ((k : Int) + 1), .int .u64 p.Q] W (Gives encP (fun g => W.heap.size ≤ g) W PT)) := Lib.hid (fun W hg => by
                rw [HPE.out]
                exact dat_any _ _ _ _ TT W (HSR.out.kept (HD2.out.trans hg)) ⟨by omega, by omega⟩ (HRW.out _).1 (HRW.out _).2)
              have HWK6 : Hid (w6.grownBy wk.drew none) := Lib.hid (HY.out.trans (grown_drewN' _ 1))
              clear hcK hsK hkC hPT HY
              go_upto_region 16 with (fail)
              refine wp_region_mono 12 (by kernel_rfl) (by kernel_rfl) ?_
              -- op 0 (slot 102): fieldAddr
              refine MonoR.step (Pv.eq (.pointer (some ⟨g11, 1, none⟩))) [] (by kernel_rfl) (fun w' hw' => ?_) ?_
              · refine ask_do rfl fun K hK => ?_
                go_simp
                exact hK _ _ rfl rfl (World.grownBy.refl _ none)
              -- op 1 (slot 103): load
              refine MonoR.step (Pv.eq (.slice (some ⟨gR, oR, none⟩) n cr)) [(0, 102)] (by kernel_rfl) (fun w' hw' => ?_) ?_
              · intro x102 h102
                have e102 : x102 = .pointer (some ⟨g11, 1, none⟩) := h102
                clear h102
                subst e102
                refine ask_do rfl fun K hK => ?_
                have qq := HLI.out w' hw'
                have q0 := qq.1
                have q1 := qq.2.1
                have q2 := qq.2.2.1
                have q3 := qq.2.2.2.1
                have q4 := qq.2.2.2.2.1
                have q5 := qq.2.2.2.2.2
                clear qq
                go_simp
                exact hK _ _ rfl rfl (World.grownBy.refl _ none)
              -- op 2 (slot 104): move
              refine MonoR.step (Pv.eq (.int .i64 ((j : Int) + 1))) [] (by kernel_rfl) (fun w' hw' => ?_) ?_
              · refine ask_do rfl fun K hK => ?_
                go_simp
                exact hK _ _ rfl rfl (World.grownBy.refl _ none)
              -- op 3 (slot 105): binOp
              refine MonoR.step (Pv.eq (.int .i64 (j : Int))) [(2, 104)] (by kernel_rfl) (fun w' hw' => ?_) ?_
              · intro x104 h104
                have e104 : x104 = .int .i64 ((j : Int) + 1) := h104
                clear h104
                subst e104
                refine ask_do rfl fun K hK => ?_
                go_simp
                exact hK _ _ rfl rfl (World.grownBy.refl _ none)
              -- op 4 (slot 106): indexAddr
              refine MonoR.step (Pv.eq (.pointer (some ⟨gR, oR + j, none⟩))) [(1, 103), (3, 105)] (by kernel_rfl) (fun w' hw' => ?_) ?_
              · intro x103 h103
                intro x105 h105
                have e103 : x103 = .slice (some ⟨gR, oR, none⟩) n cr := h103
                clear h103
                subst e103
                have e105 : x105 = .int .i64 (j : Int) := h105
                clear h105
                subst e105
                refine ask_do rfl fun K hK => ?_
                go_simp
                exact hK _ _ rfl rfl (World.grownBy.refl _ none)
              -- op 5 (slot 107): load
              refine MonoR.step (Pv.eq (.slice Aj nj cj)) [(4, 106)] (by kernel_rfl) (fun w' hw' => ?_) ?_
              · intro x106 h106
                have e106 : x106 = .pointer (some ⟨gR, oR + j, none⟩) := h106
                clear h106
                subst e106
                refine ask_do rfl fun K hK => ?_
                have qq := HLI.out w' hw'
                have q0 := qq.1
                have q1 := qq.2.1
                have q2 := qq.2.2.1
                have q3 := qq.2.2.2.1
                have q4 := qq.2.2.2.2.1
                have q5 := qq.2.2.2.2.2
                clear qq
                go_simp
                exact hK _ _ rfl rfl (World.grownBy.refl _ none)
              -- op 6 (slot 108): move
              refine MonoR.step (Pv.eq (.int .i64 ((k : Int) + 1))) [] (by kernel_rfl) (fun w' hw' => ?_) ?_
              · refine ask_do rfl fun K hK => ?_
                go_simp
                exact hK _ _ rfl rfl (World.grownBy.refl _ none)
              -- op 7 (slot 109): convert
              refine MonoR.step (Pv.eq (.int .u64 ((k : Int) + 1))) [(6, 108)] (by kernel_rfl) (fun w' hw' => ?_) ?_
              · intro x108 h108
                have e108 : x108 = .int .i64 ((k : Int) + 1) := h108
                clear h108
                subst e108
                refine ask_do rfl fun K hK => ?_
                go_simp
                exact hK _ _ rfl rfl (World.grownBy.refl _ none)
              -- op 8 (slot 110): fieldAddr
              refine MonoR.step (Pv.eq (.pointer (some ⟨w.heap.size, 1, none⟩))) [] (by kernel_rfl) (fun w' hw' => ?_) ?_
              · refine ask_do rfl fun K hK => ?_
                go_simp
                exact hK _ _ rfl rfl (World.grownBy.refl _ none)
              -- op 9 (slot 111): load
              refine MonoR.step (Pv.eq (.int .u64 p.Q)) [(8, 110)] (by kernel_rfl) (fun w' hw' => ?_) ?_
              · intro x110 h110
                have e110 : x110 = .pointer (some ⟨w.heap.size, 1, none⟩) := h110
                clear h110
                subst e110
                refine ask_do rfl fun K hK => ?_
                have qq := HLI.out w' hw'
                have q0 := qq.1
                have q1 := qq.2.1
                have q2 := qq.2.2.1
                have q3 := qq.2.2.2.1
                have q4 := qq.2.2.2.2.1
                have q5 := qq.2.2.2.2.2
                clear qq
                go_simp
                exact hK _ _ rfl rfl (World.grownBy.refl _ none)
              -- op 10 (slot 112): call
              refine MonoR.step (Pv.sl (encP) TT PT) [(5, 107), (7, 109), (9, 111)] (by kernel_rfl) (fun w' hw' => ?_) ?_
              · intro x107 h107
                intro x109 h109
                intro x111 h111
                have e107 : x107 = .slice Aj nj cj := h107
                clear h107
                subst e107
                have e109 : x109 = .int .u64 ((k : Int) + 1) := h109
                clear h109
                subst e109
                have e111 : x111 = .int .u64 p.Q := h111
                clear h111
                subst e111
                refine ask_do rfl fun K hK => ?_
                go_simp
                refine (HAT.out w' hw').mono ?_
                rintro e w3 ⟨v3, rfl, hs3, hg⟩
                exact hK _ _ rfl (hs3.more fun _ _ _ => trivial) hg
              -- op 11 (slot 17): assign
              refine MonoR.step (Pv.sl (encP) TT PT) [(10, 112)] (by kernel_rfl) (fun w' hw' => ?_) ?_
              · intro x112 h112
                have h112 : Sl (encP) TT w' x112 PT := h112
                obtain ⟨A112, c112, e112, k112, l112⟩ := h112.form
                have e112 : x112 = .slice A112 PT.length c112 := e112
                subst e112
                refine ask_do rfl fun K hK => ?_
                go_simp
                exact hK _ _ rfl h112 (World.grownBy.refl _ none)
              
              intro w7 hw7
              intro y0 k0 y1 k1 y2 k2 y3 k3 y4 k4 y5 k5 y6 k6 y7 k7 y8 k8 y9 k9 y10 k10 y11 k11
              refine wpList_nil ?_
              simp only [Act.put, List.setIfInBounds_toArray, List.set_cons_zero, List.set_cons_succ]
              have k11 : Sl encP TT w7 y11 PT := k11
              obtain ⟨Ap, np, cp, rfl⟩ := k11.shape
              have HPT7 := Lib.hid k11
              have HK7 : Hid (wk.drew.grownBy w7 none) := Lib.hid hw7
              clear k0 k1 k2 k3 k4 k5 k6 k7 k8 k9 k10 k11 hw7 HAT
              go_upto_region 17 with (fail)
              have HK8 : Hid (wk.drew.grownBy w7.drew none) := Lib.hid (HK7.out.trans (grown_drewN' _ 1))
              have HD3 : Hid (wr.grownBy w7.drew none) := Lib.hid (HD2.out.trans HK8.out)
              have HPT : Hid (Sl encP TT w7.drew (.slice Ap np cp) PT) := Lib.hid (HPT7.out.kept (grown_drewN' _ 1))
              have HLK : Hid (∀ W, w7.drew.grownBy W none → (∀ o, W.cell? ⟨w.heap.size, o, none⟩ = (#[.int .u64 p.P, .int .u64 p.Q, .int .u64 p.G, .int .u64 p.H, .int .i64 p.Nodes, .int .i64 p.N, .int .i64 p.T, .int .i64 p.K, .int .i64 p.D, .int .i64 p.R, .int .i64 p.M, .int .i64 p.X] : Array Value)[o]?) ∧ W.cell? ⟨g11, 0, none⟩ = some (.slice Am nm cm) ∧ W.cell? ⟨g11, 1, none⟩ = some (.slice (some ⟨gR, oR, none⟩) n cr) ∧ W.cell? ⟨g11, 2, none⟩ = some (.slice (some ⟨gC, oC, none⟩) n cc) ∧ W.cell? ⟨gR, oR + j, none⟩ = some (.slice Aj nj cj) ∧ W.cell? ⟨gC, oC + k, none⟩ = some (.slice Bk mk dk) ∧ True) := Lib.hid (fun W hg => by
                obtain ⟨a, b, c, d, e, f⟩ := HLI.out W (HK8.out.trans hg)
                exact ⟨a, b, c, d, e, f, trivial⟩)
              have HAC : Hid (∀ W, w7.drew.grownBy W none → Calls Tryz.prog 12 #[.slice Bk mk dk, .int .u64 ((j : Int) + 1), .int .u64 p.Q] W (Gives encP (fun g => W.heap.size ≤ g) W PT)) := Lib.hid (fun W hg => by
                rw [HPE.out, dlt_meet HMAY.out HQ.out]
                exact dat_any _ _ _ _ TT W (HSK.out.kept (HK8.out.trans hg)) ⟨by omega, by omega⟩ (HCW.out _).1 (HCW.out _).2)
              have HME2 : Hid (∀ W, w7.drew.grownBy W none → Calls Tryz.prog 14 #[p.v, .slice Am nm cm, .int .u64 ((j : Int) + 1), .int .u64 ((k : Int) + 1), .slice Ap np cp] W fun e w' => e = .returned (.bool true) ∧ W.grownBy w' none) := Lib.hid (fun W hg => by
                have h := dmeets_any p (.slice Am nm cm) (.slice Ap np cp) M ((j : Int) + 1) ((k : Int) + 1) PT TT TT W HP.out (HDr.out.1.kept (HD3.out.trans hg)) ⟨by omega, by omega⟩ ⟨by omega, by omega⟩ (HPT.out.kept hg) HMB2.out.1 HMB2.out.2 (by rw [HPE.out, List.length_map]; exact Nat.le_trans (HRW.out _).1 (by omega))
                rw [HPE.out, HME.out.1, dlt_point HMAY.out HQ.out l seed (1 + r) (by omega) (by omega)] at h
                exact h)
              clear HPT7 HLI
              refine wp_region_mono 26 (by kernel_rfl) (by kernel_rfl) ?_
              -- op 0 (slot 113): move
              refine MonoR.step (Pv.eq (.slice Ap np cp)) [] (by kernel_rfl) (fun w' hw' => ?_) ?_
              · refine ask_do rfl fun K hK => ?_
                go_simp
                exact hK _ _ rfl rfl (World.grownBy.refl _ none)
              -- op 1 (slot 114): fieldAddr
              refine MonoR.step (Pv.eq (.pointer (some ⟨g11, 2, none⟩))) [] (by kernel_rfl) (fun w' hw' => ?_) ?_
              · refine ask_do rfl fun K hK => ?_
                go_simp
                exact hK _ _ rfl rfl (World.grownBy.refl _ none)
              -- op 2 (slot 115): load
              refine MonoR.step (Pv.eq (.slice (some ⟨gC, oC, none⟩) n cc)) [(1, 114)] (by kernel_rfl) (fun w' hw' => ?_) ?_
              · intro x114 h114
                have e114 : x114 = .pointer (some ⟨g11, 2, none⟩) := h114
                clear h114
                subst e114
                refine ask_do rfl fun K hK => ?_
                have qq := HLK.out w' hw'
                have q0 := qq.1
                have q1 := qq.2.1
                have q2 := qq.2.2.1
                have q3 := qq.2.2.2.1
                have q4 := qq.2.2.2.2.1
                have q5 := qq.2.2.2.2.2.1
                have q6 := qq.2.2.2.2.2.2
                clear qq
                go_simp
                exact hK _ _ rfl rfl (World.grownBy.refl _ none)
              -- op 3 (slot 116): move
              refine MonoR.step (Pv.eq (.int .i64 ((k : Int) + 1))) [] (by kernel_rfl) (fun w' hw' => ?_) ?_
              · refine ask_do rfl fun K hK => ?_
                go_simp
                exact hK _ _ rfl rfl (World.grownBy.refl _ none)
              -- op 4 (slot 117): binOp
              refine MonoR.step (Pv.eq (.int .i64 (k : Int))) [(3, 116)] (by kernel_rfl) (fun w' hw' => ?_) ?_
              · intro x116 h116
                have e116 : x116 = .int .i64 ((k : Int) + 1) := h116
                clear h116
                subst e116
                refine ask_do rfl fun K hK => ?_
                go_simp
                exact hK _ _ rfl rfl (World.grownBy.refl _ none)
              -- op 5 (slot 118): indexAddr
              refine MonoR.step (Pv.eq (.pointer (some ⟨gC, oC + k, none⟩))) [(2, 115), (4, 117)] (by kernel_rfl) (fun w' hw' => ?_) ?_
              · intro x115 h115
                intro x117 h117
                have e115 : x115 = .slice (some ⟨gC, oC, none⟩) n cc := h115
                clear h115
                subst e115
                have e117 : x117 = .int .i64 (k : Int) := h117
                clear h117
                subst e117
                refine ask_do rfl fun K hK => ?_
                go_simp
                exact hK _ _ rfl rfl (World.grownBy.refl _ none)
              -- op 6 (slot 119): load
              refine MonoR.step (Pv.eq (.slice Bk mk dk)) [(5, 118)] (by kernel_rfl) (fun w' hw' => ?_) ?_
              · intro x118 h118
                have e118 : x118 = .pointer (some ⟨gC, oC + k, none⟩) := h118
                clear h118
                subst e118
                refine ask_do rfl fun K hK => ?_
                have qq := HLK.out w' hw'
                have q0 := qq.1
                have q1 := qq.2.1
                have q2 := qq.2.2.1
                have q3 := qq.2.2.2.1
                have q4 := qq.2.2.2.2.1
                have q5 := qq.2.2.2.2.2.1
                have q6 := qq.2.2.2.2.2.2
                clear qq
                go_simp
                exact hK _ _ rfl rfl (World.grownBy.refl _ none)
              -- op 7 (slot 120): move
              refine MonoR.step (Pv.eq (.int .i64 ((j : Int) + 1))) [] (by kernel_rfl) (fun w' hw' => ?_) ?_
              · refine ask_do rfl fun K hK => ?_
                go_simp
                exact hK _ _ rfl rfl (World.grownBy.refl _ none)
              -- op 8 (slot 121): convert
              refine MonoR.step (Pv.eq (.int .u64 ((j : Int) + 1))) [(7, 120)] (by kernel_rfl) (fun w' hw' => ?_) ?_
              · intro x120 h120
                have e120 : x120 = .int .i64 ((j : Int) + 1) := h120
                clear h120
                subst e120
                refine ask_do rfl fun K hK => ?_
                go_simp
                exact hK _ _ rfl rfl (World.grownBy.refl _ none)
              -- op 9 (slot 122): fieldAddr
              refine MonoR.step (Pv.eq (.pointer (some ⟨w.heap.size, 1, none⟩))) [] (by kernel_rfl) (fun w' hw' => ?_) ?_
              · refine ask_do rfl fun K hK => ?_
                go_simp
                exact hK _ _ rfl rfl (World.grownBy.refl _ none)
              -- op 10 (slot 123): load
              refine MonoR.step (Pv.eq (.int .u64 p.Q)) [(9, 122)] (by kernel_rfl) (fun w' hw' => ?_) ?_
              · intro x122 h122
                have e122 : x122 = .pointer (some ⟨w.heap.size, 1, none⟩) := h122
                clear h122
                subst e122
                refine ask_do rfl fun K hK => ?_
                have qq := HLK.out w' hw'
                have q0 := qq.1
                have q1 := qq.2.1
                have q2 := qq.2.2.1
                have q3 := qq.2.2.2.1
                have q4 := qq.2.2.2.2.1
                have q5 := qq.2.2.2.2.2.1
                have q6 := qq.2.2.2.2.2.2
                clear qq
                go_simp
                exact hK _ _ rfl rfl (World.grownBy.refl _ none)
              -- op 11 (slot 124): call
              refine MonoR.step (Pv.sl (encP) TT PT) [(6, 119), (8, 121), (10, 123)] (by kernel_rfl) (fun w' hw' => ?_) ?_
              · intro x119 h119
                intro x121 h121
                intro x123 h123
                have e119 : x119 = .slice Bk mk dk := h119
                clear h119
                subst e119
                have e121 : x121 = .int .u64 ((j : Int) + 1) := h121
                clear h121
                subst e121
                have e123 : x123 = .int .u64 p.Q := h123
                clear h123
                subst e123
                refine ask_do rfl fun K hK => ?_
                go_simp
                refine (HAC.out w' hw').mono ?_
                rintro e w3 ⟨v3, rfl, hs3, hg⟩
                exact hK _ _ rfl (hs3.more fun _ _ _ => trivial) hg
              -- op 12 (slot 125): call
              refine MonoR.step (Pv.eq (.bool true)) [(0, 113), (11, 124)] (by kernel_rfl) (fun w' hw' => ?_) ?_
              · intro x113 h113
                intro x124 h124
                have h124 : Sl (encP) TT w' x124 PT := h124
                obtain ⟨A124, c124, e124, k124, l124⟩ := h124.form
                have e124 : x124 = .slice A124 PT.length c124 := e124
                subst e124
                have e113 : x113 = .slice Ap np cp := h113
                clear h113
                subst e113
                refine ask_do rfl fun K hK => ?_
                go_simp
                refine (same_eq _ _ PT TT TT w' (HPT.out.kept hw') h124).mono ?_
                rintro e w3 ⟨rfl, m3, rfl⟩
                exact hK _ _ rfl rfl (grown_drewN' w' m3)
              -- op 13 (slot 126): unOp
              refine MonoR.step (Pv.eq (.bool false)) [(12, 125)] (by kernel_rfl) (fun w' hw' => ?_) ?_
              · intro x125 h125
                have e125 : x125 = .bool true := h125
                clear h125
                subst e125
                refine ask_do rfl fun K hK => ?_
                go_simp
                exact hK _ _ rfl rfl (World.grownBy.refl _ none)
              -- op 14 (slot 127): move
              refine MonoR.step (Pv.eq (.bool false)) [(13, 126)] (by kernel_rfl) (fun w' hw' => ?_) ?_
              · intro x126 h126
                have e126 : x126 = .bool false := h126
                clear h126
                subst e126
                refine ask_do rfl fun K hK => ?_
                go_simp
                exact hK _ _ rfl rfl (World.grownBy.refl _ none)
              -- op 15 (slot 128): load [(14, 'false')]
              refine MonoR.step (Pv.eq (p.v)) [(14, 127)] (by kernel_rfl) (fun w' hw' => ?_) ?_
              · intro x127 h127
                have e127 : x127 = .bool false := h127
                clear h127
                subst e127
                refine ask_do (by kernel_rfl) fun K hK => ?_
                have qq := HLK.out w' hw'
                have q0 := qq.1
                have q1 := qq.2.1
                have q2 := qq.2.2.1
                have q3 := qq.2.2.2.1
                have q4 := qq.2.2.2.2.1
                have q5 := qq.2.2.2.2.2.1
                have q6 := qq.2.2.2.2.2.2
                clear qq
                go_simp
                exact hK _ _ rfl rfl (World.grownBy.refl _ none)
              -- op 16 (slot 129): fieldAddr [(14, 'false')]
              refine MonoR.step (Pv.eq (.pointer (some ⟨g11, 0, none⟩))) [(14, 127)] (by kernel_rfl) (fun w' hw' => ?_) ?_
              · intro x127 h127
                have e127 : x127 = .bool false := h127
                clear h127
                subst e127
                refine ask_do (by kernel_rfl) fun K hK => ?_
                go_simp
                exact hK _ _ rfl rfl (World.grownBy.refl _ none)
              -- op 17 (slot 130): load [(14, 'false')]
              refine MonoR.step (Pv.eq (.slice Am nm cm)) [(14, 127), (16, 129)] (by kernel_rfl) (fun w' hw' => ?_) ?_
              · intro x127 h127
                intro x129 h129
                have e127 : x127 = .bool false := h127
                clear h127
                subst e127
                have e129 : x129 = .pointer (some ⟨g11, 0, none⟩) := h129
                clear h129
                subst e129
                refine ask_do (by kernel_rfl) fun K hK => ?_
                have qq := HLK.out w' hw'
                have q0 := qq.1
                have q1 := qq.2.1
                have q2 := qq.2.2.1
                have q3 := qq.2.2.2.1
                have q4 := qq.2.2.2.2.1
                have q5 := qq.2.2.2.2.2.1
                have q6 := qq.2.2.2.2.2.2
                clear qq
                go_simp
                exact hK _ _ rfl rfl (World.grownBy.refl _ none)
              -- op 18 (slot 131): move [(14, 'false')]
              refine MonoR.step (Pv.eq (.int .i64 ((j : Int) + 1))) [(14, 127)] (by kernel_rfl) (fun w' hw' => ?_) ?_
              · intro x127 h127
                have e127 : x127 = .bool false := h127
                clear h127
                subst e127
                refine ask_do (by kernel_rfl) fun K hK => ?_
                go_simp
                exact hK _ _ rfl rfl (World.grownBy.refl _ none)
              -- op 19 (slot 132): convert [(14, 'false')]
              refine MonoR.step (Pv.eq (.int .u64 ((j : Int) + 1))) [(14, 127), (18, 131)] (by kernel_rfl) (fun w' hw' => ?_) ?_
              · intro x127 h127
                intro x131 h131
                have e127 : x127 = .bool false := h127
                clear h127
                subst e127
                have e131 : x131 = .int .i64 ((j : Int) + 1) := h131
                clear h131
                subst e131
                refine ask_do (by kernel_rfl) fun K hK => ?_
                go_simp
                exact hK _ _ rfl rfl (World.grownBy.refl _ none)
              -- op 20 (slot 133): move [(14, 'false')]
              refine MonoR.step (Pv.eq (.int .i64 ((k : Int) + 1))) [(14, 127)] (by kernel_rfl) (fun w' hw' => ?_) ?_
              · intro x127 h127
                have e127 : x127 = .bool false := h127
                clear h127
                subst e127
                refine ask_do (by kernel_rfl) fun K hK => ?_
                go_simp
                exact hK _ _ rfl rfl (World.grownBy.refl _ none)
              -- op 21 (slot 134): convert [(14, 'false')]
              refine MonoR.step (Pv.eq (.int .u64 ((k : Int) + 1))) [(14, 127), (20, 133)] (by kernel_rfl) (fun w' hw' => ?_) ?_
              · intro x127 h127
                intro x133 h133
                have e127 : x127 = .bool false := h127
                clear h127
                subst e127
                have e133 : x133 = .int .i64 ((k : Int) + 1) := h133
                clear h133
                subst e133
                refine ask_do (by kernel_rfl) fun K hK => ?_
                go_simp
                exact hK _ _ rfl rfl (World.grownBy.refl _ none)
              -- op 22 (slot 135): move [(14, 'false')]
              refine MonoR.step (Pv.eq (.slice Ap np cp)) [(14, 127)] (by kernel_rfl) (fun w' hw' => ?_) ?_
              · intro x127 h127
                have e127 : x127 = .bool false := h127
                clear h127
                subst e127
                refine ask_do (by kernel_rfl) fun K hK => ?_
                go_simp
                exact hK _ _ rfl rfl (World.grownBy.refl _ none)
              -- op 23 (slot 136): call [(14, 'false')]
              refine MonoR.step (Pv.eq (.bool true)) [(14, 127), (15, 128), (17, 130), (19, 132), (21, 134), (22, 135)] (by kernel_rfl) (fun w' hw' => ?_) ?_
              · intro x127 h127
                intro x128 h128
                intro x130 h130
                intro x132 h132
                intro x134 h134
                intro x135 h135
                have e127 : x127 = .bool false := h127
                clear h127
                subst e127
                have e128 : x128 = p.v := h128
                clear h128
                subst e128
                have e130 : x130 = .slice Am nm cm := h130
                clear h130
                subst e130
                have e132 : x132 = .int .u64 ((j : Int) + 1) := h132
                clear h132
                subst e132
                have e134 : x134 = .int .u64 ((k : Int) + 1) := h134
                clear h134
                subst e134
                have e135 : x135 = .slice Ap np cp := h135
                clear h135
                subst e135
                refine ask_do (by kernel_rfl) fun K hK => ?_
                go_simp
                refine (HME2.out w' hw').mono ?_
                rintro e w3 ⟨rfl, hg⟩
                exact hK _ _ rfl rfl hg
              -- op 24 (slot 137): unOp [(14, 'false')]
              refine MonoR.step (Pv.eq (.bool false)) [(14, 127), (23, 136)] (by kernel_rfl) (fun w' hw' => ?_) ?_
              · intro x127 h127
                intro x136 h136
                have e127 : x127 = .bool false := h127
                clear h127
                subst e127
                have e136 : x136 = .bool true := h136
                clear h136
                subst e136
                refine ask_do (by kernel_rfl) fun K hK => ?_
                go_simp
                exact hK _ _ rfl rfl (World.grownBy.refl _ none)
              -- op 25 (slot 138): pick
              refine MonoR.step (Pv.eq (.bool false)) [(14, 127), (24, 137)] (by kernel_rfl) (fun w' hw' => ?_) ?_
              · intro x127 h127
                intro x137 h137
                have e127 : x127 = .bool false := h127
                clear h127
                subst e127
                have e137 : x137 = .bool false := h137
                clear h137
                subst e137
                refine ask_do rfl fun K hK => ?_
                go_simp
                exact hK _ _ rfl rfl (World.grownBy.refl _ none)
              
              intro w8 hw8
              intro y0 k0 y1 k1 y2 k2 y3 k3 y4 k4 y5 k5 y6 k6 y7 k7 y8 k8 y9 k9 y10 k10 y11 k11 y12 k12 y13 k13 y14 k14 y15 k15 y16 k16 y17 k17 y18 k18 y19 k19 y20 k20 y21 k21 y22 k22 y23 k23 y24 k24 y25 k25
              refine wpList_nil ?_
              simp only [Act.put, List.setIfInBounds_toArray, List.set_cons_zero, List.set_cons_succ]
              have e25 : y25 = .bool false := k25
              subst e25
              have HFIN : Hid (w6.grownBy w8 none) := Lib.hid (HWK6.out.trans (HK8.out.trans hw8))
              clear k0 k1 k2 k3 k4 k5 k6 k7 k8 k9 k10 k11 k12 k13 k14 k15 k16 k17 k18 k19 k20 k21 k22 k23 k24 hw8 HLK HAC HME2 HPT
              go_wp2_with fail
              go_roundg q2
              case measure => omega
              case rel => exact ⟨k + 1, by omega, by go_num, HFIN⟩
end Go.Proofs.YtnjkelojkoeihaaGreatDoor
